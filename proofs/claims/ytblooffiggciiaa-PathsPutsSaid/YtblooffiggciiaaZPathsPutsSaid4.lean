/- PathsPutsSaid: part 4 of its proof: printed functions and their contracts, plain laws. -/
import Derived.Test.YtblooffiggciiaaZPathsPutsSaid3
/- PPsx53 -/
namespace Go.Proofs.Ytblooffiggciiaa.PPs
open Go.RowKit Go.Proofs.YtblooffiggciiaaW.PrintWords Go.Proofs.YtblooffiggciiaaW.PrintLast Go.Proofs.YtblooffiggciiaaW.PrintMore
attribute [local go_sem] max2_int min2_int max_two min_two max_three min_three max_four min_four   -- for this text's walks alone
attribute [local go_sem] Go.Proofs.Ytblooffiggciiaa.Aid.isSome_setCell
set_option linter.unusedVariables false
set_option linter.unusedSimpArgs false
def weftlinelaw14_Document.l0 : Nat → List (S34) → Int → Int → List (S29) → Int → Option ((List (S29)) × Int)
  | 0, _, _, _, _, _ => none
  | k + 1, x10, x11, x12, x314000, x314001 => if x12 < x11 then (if 0 ≤ x12 then (if x12 < (x10.length : Int) then ((weftlinelaw13_Document.f ((rd_T34 x10 x12).f0.f0) ((rd_T34 x10 x12).f0.f1) ((rd_T34 x10 x12).f0.f2) ((rd_T34 x10 x12).f0.f3) ((rd_T34 x10 x12).f1.f0) ((rd_T34 x10 x12).f1.f1) ((rd_T34 x10 x12).f1.f2) ((rd_T34 x10 x12).f2) ((rd_T34 x10 x12).f3) ((rd_T34 x10 x12).f4) ((rd_T34 x10 x12).f5)).bind fun bt316 => (if x314000.length < 1599289640401 then (weftlinelaw14_Document.l0 k x10 x11 (wrap64 (x12 + 1)) (x314000 ++ [(⟨(⟨bt316.1, bt316.2.1, bt316.2.2.1, bt316.2.2.2.1⟩ : S23), (⟨bt316.2.2.2.2.1, bt316.2.2.2.2.2.1, bt316.2.2.2.2.2.2.1⟩ : S25), bt316.2.2.2.2.2.2.2.1, bt316.2.2.2.2.2.2.2.2.1, bt316.2.2.2.2.2.2.2.2.2.1, bt316.2.2.2.2.2.2.2.2.2.2⟩ : S29)]) x314001) else (none))) else (none)) else (none)) else (some (x314000, x314001))
def weftlinelaw14_Document.f (k : Nat) (l0_0 : List (S34)) (a0_1 : Int) : Option ((List (S29)) × Int) := weftlinelaw14_Document.l0 k l0_0 (l0_0.length : Int) 0 ([] : List (S29)) a0_1
def weftlinelaw14_Document.T5 : Bool × List (List Nat × List Nat) := (true, [([], []), ([0], [0]), ([], []), ([2], [2]), ([3], [3]), ([1, 4, 3], [1, 4]), ([0, 1, 2, 3, 4, 5], []), ([6, 5, 5, 0, 1, 2, 3, 4, 5], [5, 6])])
def weftlinelaw14_Document.B5 : List Nat := [0, 1, 0, 4, 12, 31, 63, 127]
theorem weftlinelaw14_Document.tab5 : rtab .any (opsOf Try.f43 5) = weftlinelaw14_Document.T5 := by kernel_rfl
theorem weftlinelaw14_Document.bits5 : waitsOk weftlinelaw14_Document.T5.2 weftlinelaw14_Document.B5 = true := by kernel_rfl
set_option maxHeartbeats 8000000 in
set_option maxRecDepth 100000 in
theorem weftlinelaw14_Document.calls (k : Nat) (A0_0 : Option Addr) (c0_0 : Nat) (l0_0 : List (S34)) (a0_1 : Int) (r1 : List (S29)) (r2 : Int) (w : World) (hr0_0 : Kd.C k34 w A0_0 l0_0.length l0_0) (hc0_0 : l0_0.length ≤ c0_0) (h : weftlinelaw14_Document.f k l0_0 a0_1 = some (r1, r2)) :
    Calls Try.prog 43 #[.agg #[.slice A0_0 l0_0.length c0_0, .int .i64 a0_1]] w fun e w' => ∃ v0_ : Value, e = .returned (.agg #[v0_, .int .i64 r2]) ∧ Kd.R k29 29 w' w.heap.size (fun _ => True) v0_ r1 ∧ Below w.heap.size w w' := by
  have hu70 := Try.underlying70
  have hu66 := Try.underlying66
  have hu34 := Try.underlying34
  have HR0_0 := Aside0.mk hr0_0
  have HC0_0 := Aside0.mk hc0_0
  clear hr0_0 hc0_0
  have HB := Aside0.mk (Below.refl w.heap.size w)
  have H : (weftlinelaw14_Document.l0 k l0_0 (l0_0.length : Int) 0 ([] : List (S29)) a0_1) = some (r1, r2) := h
  clear h
  have H' := Aside0.mk H
  clear H
  go_enter Try.func43, Try.ntmps43
  go_wp2_with (first | ((with_reducible refine gate_dst (N := 1) rfl ?_); refine box_event ?hg (N := 1) ?hd (cs := #[.slice A0_0 l0_0.length c0_0, .int .i64 a0_1]) (t := 70) ?hr ?_; (case hd => rfl); (case hg => rfl); (case hr => first | (go_simp; done) | (go_simp; rfl)); intro gb311 hg w2 hbox hb; have n0_ := Aside0.mk (below_step (by repeat (first | (with_reducible first | exact HB.out | apply below_alloc | apply pw_below_drewN | apply below_drew1) | exact HB.out)) hb); have n1_ := Aside0.mk (hbox); have n2_ := Aside0.mk ((by rw [hg]; exact (below_size (by repeat (first | (with_reducible first | exact HB.out | apply below_alloc | apply pw_below_drewN | apply below_drew1) | exact HB.out))) : w.heap.size ≤ gb311)); have n3_ := Aside0.mk ((by rw [hg]; exact (below_size (by repeat (first | (with_reducible first | exact HB.out | apply below_alloc | apply pw_below_drewN | apply below_drew1) | exact HB.out))) : w.heap.size ≤ gb311)); clear HB; have HB := n0_; have BK311 := n1_; have GW311 := n2_; have GE311 := n3_; clear n0_ n1_ n2_ n3_; clear hb hbox hg) | ((with_reducible refine gate_dst (N := 2) rfl ?_); refine box_event ?hg (N := 2) ?hd (cs := #[.slice none 0 0, .int .i64 0]) (t := 66) ?hr ?_; (case hd => rfl); (case hg => rfl); (case hr => first | (go_simp; done) | (go_simp; rfl)); intro gb312 hg w3 hbox hb; have n0_ := Aside0.mk (blk_below (g := gb311) (o := .cells #[.slice A0_0 l0_0.length c0_0, .int .i64 a0_1] 70 (0, 0)) (by (with_reducible repeat (first | refine blk_drewN ?_ _ | refine blk_drew ?_ | refine blk_alloc ?_ _)); exact BK311.out) hb); have n1_ := Aside0.mk (below_step (by repeat (first | (with_reducible first | exact HB.out | apply below_alloc | apply pw_below_drewN | apply below_drew1 | refine below_set ?_ GE311.out) | exact HB.out)) hb); have n2_ := Aside0.mk (hbox); have n3_ := Aside0.mk ((by rw [hg]; exact (below_size (by repeat (first | (with_reducible first | exact HB.out | apply below_alloc | apply pw_below_drewN | apply below_drew1 | refine below_set ?_ GE311.out) | exact HB.out))) : w.heap.size ≤ gb312)); have n4_ := Aside0.mk ((by rw [hg]; exact (below_size (by repeat (first | (with_reducible first | exact HB.out | apply below_alloc | apply pw_below_drewN | apply below_drew1 | refine below_set ?_ GE311.out) | exact HB.out))) : w.heap.size ≤ gb312)); have n5_ := Aside0.mk ((by rw [hg]; exact Nat.ne_of_lt (blk_lt (g := gb311) (o := .cells #[.slice A0_0 l0_0.length c0_0, .int .i64 a0_1] 70 (0, 0)) (by (with_reducible repeat (first | refine blk_drewN ?_ _ | refine blk_drew ?_ | refine blk_alloc ?_ _)); exact BK311.out)) : gb311 ≠ gb312)); have n6_ := Aside0.mk ((by rw [hg]; exact Nat.ne_of_gt (blk_lt (g := gb311) (o := .cells #[.slice A0_0 l0_0.length c0_0, .int .i64 a0_1] 70 (0, 0)) (by (with_reducible repeat (first | refine blk_drewN ?_ _ | refine blk_drew ?_ | refine blk_alloc ?_ _)); exact BK311.out)) : gb312 ≠ gb311)); clear BK311; clear HB; have BK311 := n0_; have HB := n1_; have BK312 := n2_; have GW312 := n3_; have GE312 := n4_; have NB311_312 := n5_; have NB312_311 := n6_; clear n0_ n1_ n2_ n3_ n4_ n5_ n6_; clear hb hbox hg; have hnb4 := NB311_312.out; have hnc4 := NB312_311.out; have hcz5_0 : w3.cell? ⟨gb311, 0, none⟩ = some (.slice A0_0 l0_0.length c0_0) := (blk_cell BK311.out 0).trans rfl; have hcz5_1 : w3.cell? ⟨gb311, 1, none⟩ = some (.int .i64 a0_1) := (blk_cell BK311.out 1).trans rfl; have hfz5_0 := blk_frozen BK311.out 0; have hfz5_1 := blk_frozen BK311.out 1) | ((with_reducible refine gate_dst (N := 3) rfl ?_); refine box_event ?hg (N := 3) ?hd (cs := #[.slice none 0 0, .int .i64 0]) (t := 66) ?hr ?_; (case hd => rfl); (case hg => rfl); (case hr => first | (go_simp; done) | (go_simp; rfl)); intro gb313 hg w6 hbox hb; have n0_ := Aside0.mk (blk_below (g := gb311) (o := .cells #[.slice A0_0 l0_0.length c0_0, .int .i64 a0_1] 70 (0, 0)) (by (with_reducible repeat (first | refine blk_drewN ?_ _ | refine blk_drew ?_ | refine blk_alloc ?_ _)); exact BK311.out) hb); have n1_ := Aside0.mk (blk_below (g := gb312) (o := .cells #[.slice none 0 0, .int .i64 0] 66 (0, 0)) (by (with_reducible repeat (first | refine blk_drewN ?_ _ | refine blk_drew ?_ | refine blk_alloc ?_ _)); exact BK312.out) hb); have n2_ := Aside0.mk (below_step (by repeat (first | (with_reducible first | exact HB.out | apply below_alloc | apply pw_below_drewN | apply below_drew1 | refine below_set ?_ GE311.out | refine below_set ?_ GE312.out) | exact HB.out)) hb); have n3_ := Aside0.mk (hbox); have n4_ := Aside0.mk ((by rw [hg]; exact (below_size (by repeat (first | (with_reducible first | exact HB.out | apply below_alloc | apply pw_below_drewN | apply below_drew1 | refine below_set ?_ GE311.out | refine below_set ?_ GE312.out) | exact HB.out))) : w.heap.size ≤ gb313)); have n5_ := Aside0.mk ((by rw [hg]; exact (below_size (by repeat (first | (with_reducible first | exact HB.out | apply below_alloc | apply pw_below_drewN | apply below_drew1 | refine below_set ?_ GE311.out | refine below_set ?_ GE312.out) | exact HB.out))) : w.heap.size ≤ gb313)); have n6_ := Aside0.mk ((by rw [hg]; exact Nat.ne_of_lt (blk_lt (g := gb311) (o := .cells #[.slice A0_0 l0_0.length c0_0, .int .i64 a0_1] 70 (0, 0)) (by (with_reducible repeat (first | refine blk_drewN ?_ _ | refine blk_drew ?_ | refine blk_alloc ?_ _)); exact BK311.out)) : gb311 ≠ gb313)); have n7_ := Aside0.mk ((by rw [hg]; exact Nat.ne_of_gt (blk_lt (g := gb311) (o := .cells #[.slice A0_0 l0_0.length c0_0, .int .i64 a0_1] 70 (0, 0)) (by (with_reducible repeat (first | refine blk_drewN ?_ _ | refine blk_drew ?_ | refine blk_alloc ?_ _)); exact BK311.out)) : gb313 ≠ gb311)); have n8_ := Aside0.mk ((by rw [hg]; exact Nat.ne_of_lt (blk_lt (g := gb312) (o := .cells #[.slice none 0 0, .int .i64 0] 66 (0, 0)) (by (with_reducible repeat (first | refine blk_drewN ?_ _ | refine blk_drew ?_ | refine blk_alloc ?_ _)); exact BK312.out)) : gb312 ≠ gb313)); have n9_ := Aside0.mk ((by rw [hg]; exact Nat.ne_of_gt (blk_lt (g := gb312) (o := .cells #[.slice none 0 0, .int .i64 0] 66 (0, 0)) (by (with_reducible repeat (first | refine blk_drewN ?_ _ | refine blk_drew ?_ | refine blk_alloc ?_ _)); exact BK312.out)) : gb313 ≠ gb312)); clear BK311; clear BK312; clear HB; have BK311 := n0_; have BK312 := n1_; have HB := n2_; have BK313 := n3_; have GW313 := n4_; have GE313 := n5_; have NB311_313 := n6_; have NB313_311 := n7_; have NB312_313 := n8_; have NB313_312 := n9_; clear n0_ n1_ n2_ n3_ n4_ n5_ n6_ n7_ n8_ n9_; clear hb hbox hg; have hnb7 := NB313_311.out; have hnc7 := NB311_313.out; have hnb8 := NB313_312.out; have hnc8 := NB312_313.out; have hcz9_0 : w6.cell? ⟨gb313, 0, none⟩ = some (.slice none 0 0) := (blk_cell BK313.out 0).trans rfl; have hcz9_1 : w6.cell? ⟨gb313, 1, none⟩ = some (.int .i64 0) := (blk_cell BK313.out 1).trans rfl; have hfz9_0 := blk_frozen BK313.out 0; have hfz9_1 := blk_frozen BK313.out 1; have hcz10_0 : w6.cell? ⟨gb311, 0, none⟩ = some (.slice A0_0 l0_0.length c0_0) := (blk_cell BK311.out 0).trans rfl; have hcz10_1 : w6.cell? ⟨gb311, 1, none⟩ = some (.int .i64 a0_1) := (blk_cell BK311.out 1).trans rfl; have hfz10_0 := blk_frozen BK311.out 0; have hfz10_1 := blk_frozen BK311.out 1))
  go_loopg [12] k (fun kq v12 w' => ∃ (x12_1 : Int) (x314000_1 : List (S29)) (u314000 : Value), v12 = .int .i64 x12_1 ∧ Aside0 (weftlinelaw14_Document.l0 kq l0_0 (l0_0.length : Int) x12_1 x314000_1 a0_1 = some (r1, r2)) ∧ Aside0 (kq ≤ k) ∧ Aside0 (Kd.R k29 29 w' w.heap.size (fun _ => True) u314000 x314000_1) ∧ Aside0 (w'.heap[gb311]? = some (.cells #[(.slice A0_0 l0_0.length c0_0), .int .i64 a0_1] 70 (0, 0))) ∧ Aside0 (w'.heap[gb312]? = some (.cells #[(.slice none 0 0), .int .i64 0] 66 (0, 0))) ∧ Aside0 (w'.heap[gb313]? = some (.cells #[u314000, .int .i64 a0_1] 66 (0, 0))) ∧ Aside0 (Below w.heap.size w w'))
  case atStart => exact ⟨(0), (([] : List (S29))), (.slice none 0 0), (by first | rfl | (simp; done) | (simp [*]; done)), H', ⟨Nat.le_refl _⟩, ⟨by first | exact Kd.R_nil _ _ _ _ _ | exact Kd.N_nil _ _ _ _ _ | exact Kd.V_nil _ _ _ _ _ | exact Kd.Q_nil _ _ _ _ _ | exact Kd.S_nil _ _ _ _ _⟩, ⟨by (with_reducible repeat (first | refine blk_drewN ?_ _ | refine blk_drew ?_ | refine blk_alloc ?_ _)); refine blk_far ?_ NB311_313.out _; (with_reducible repeat (first | refine blk_drewN ?_ _ | refine blk_drew ?_ | refine blk_alloc ?_ _)); refine blk_far ?_ NB311_313.out _; (with_reducible repeat (first | refine blk_drewN ?_ _ | refine blk_drew ?_ | refine blk_alloc ?_ _)); exact BK311.out⟩, ⟨by (with_reducible repeat (first | refine blk_drewN ?_ _ | refine blk_drew ?_ | refine blk_alloc ?_ _)); refine blk_far ?_ NB312_313.out _; (with_reducible repeat (first | refine blk_drewN ?_ _ | refine blk_drew ?_ | refine blk_alloc ?_ _)); refine blk_far ?_ NB312_313.out _; (with_reducible repeat (first | refine blk_drewN ?_ _ | refine blk_drew ?_ | refine blk_alloc ?_ _)); exact BK312.out⟩, ⟨by (with_reducible repeat (first | refine blk_drewN ?_ _ | refine blk_drew ?_ | refine blk_alloc ?_ _)); refine blk_put (cs := #[.slice none 0 0, .int .i64 0]) ?_ 1 _ rfl; (with_reducible repeat (first | refine blk_drewN ?_ _ | refine blk_drew ?_ | refine blk_alloc ?_ _)); refine blk_put (cs := #[.slice none 0 0, .int .i64 0]) ?_ 0 _ rfl; (with_reducible repeat (first | refine blk_drewN ?_ _ | refine blk_drew ?_ | refine blk_alloc ?_ _)); exact BK313.out⟩, ⟨by repeat (first | (with_reducible first | exact HB.out | apply below_alloc | apply pw_below_drewN | apply below_drew1 | refine below_set ?_ GE311.out | refine below_set ?_ GE312.out | refine below_set ?_ GE313.out) | exact HB.out)⟩⟩
  case round =>
    clear H'
    try clear p2
    try clear c4
    try clear c7
    try clear c8
    try clear hcz10_0
    try clear hcz10_1
    try clear hcz5_0
    try clear hcz5_1
    try clear hcz9_0
    try clear hcz9_1
    try clear hfz10_0
    try clear hfz10_1
    try clear hfz5_0
    try clear hfz5_1
    try clear hfz9_0
    try clear hfz9_1
    obtain ⟨x12_1, x314000_1, u314000, rfl, HA, HK1, HO_314000, BK311, BK312, BK313, HB⟩ := hrel
    cases gk with
    | zero => exact absurd HA.out (by simp [weftlinelaw14_Document.l0])
    | succ k1 =>
      have H := HA.out
      clear HA
      simp only [weftlinelaw14_Document.l0] at H
      by_cases c11 : x12_1 < (l0_0.length : Int)
      · rw [if_pos c11] at H
        have c11b0 : decide (x12_1 < (l0_0.length : Int)) = true := decide_eq_true c11
        clear c11
        by_cases c12 : 0 ≤ x12_1
        · rw [if_pos c12] at H
          have c12b0 : decide (0 ≤ x12_1) = true := decide_eq_true c12
          clear c12
          by_cases c13 : x12_1 < (l0_0.length : Int)
          · rw [if_pos c13] at H
            have c13b0 : decide (x12_1 < (l0_0.length : Int)) = true := decide_eq_true c13
            clear c13
            replace H := Option.bind_eq_some_iff.mp H
            obtain ⟨⟨t316, t317, t318, t319, t320, t321, t322, t323, t324, t325, t326⟩, A140, H⟩ := H
            replace H : (if x314000_1.length < 1599289640401 then (weftlinelaw14_Document.l0 k1 l0_0 (l0_0.length : Int) (wrap64 (x12_1 + 1)) (x314000_1 ++ [(⟨(⟨t316, t317, t318, t319⟩ : S23), (⟨t320, t321, t322⟩ : S25), t323, t324, t325, t326⟩ : S29)]) a0_1) else (none)) = some (r1, r2) := H
            have A14 := Aside0.mk A140
            clear A140
            by_cases c15 : x314000_1.length < 1599289640401
            · rw [if_pos c15] at H
              have LMc15 := Aside0.mk c15
              clear c15
              obtain ⟨y327, hy327⟩ : ∃ y_ : List (S29), y_ = (x314000_1 ++ [(⟨(⟨t316, t317, t318, t319⟩ : S23), (⟨t320, t321, t322⟩ : S25), t323, t324, t325, t326⟩ : S29)]) := ⟨_, rfl⟩
              replace H : (weftlinelaw14_Document.l0 k1 l0_0 (l0_0.length : Int) (wrap64 (x12_1 + 1)) y327 a0_1) = some (r1, r2) := by first | (rw [hy327]; with_reducible exact H) | (have H2_ := (Option.bind_some _ _).symm.trans H; rw [hy327]; with_reducible exact H2_) | (have H2_ := (Option.bind_some _ _).symm.trans H; with_reducible exact H2_) | with_reducible exact H | (rw [hy327]; exact H) | exact H
              have Ny327 := Aside0.mk hy327
              clear hy327
              have H' := Aside0.mk H
              clear H
              have p314 : 0 ≤ (x12_1 : Int) := of_decide_eq_true (by first | (with_reducible assumption) | assumption)
              have q314 : x12_1 < (l0_0.length : Int) := of_decide_eq_true (by first | (with_reducible assumption) | assumption)
              obtain ⟨ad314, e314, hx314_0, hx314_1, hx314_2, hx314_3, hx314_4, hx314_5, hx314_6, hx314_7, hx314_8, hx314_9, hx314_10⟩ := at_T34 HR0_0.out x12_1 p314 q314
              cases e314
              replace hx314_0 := (HB.out.cell (World.block_lt_of_cell? w _ hx314_0)).trans hx314_0
              replace hx314_1 := (HB.out.cell (World.block_lt_of_cell? w _ hx314_1)).trans hx314_1
              replace hx314_2 := (HB.out.cell (World.block_lt_of_cell? w _ hx314_2)).trans hx314_2
              replace hx314_3 := (HB.out.cell (World.block_lt_of_cell? w _ hx314_3)).trans hx314_3
              replace hx314_4 := (HB.out.cell (World.block_lt_of_cell? w _ hx314_4)).trans hx314_4
              replace hx314_5 := (HB.out.cell (World.block_lt_of_cell? w _ hx314_5)).trans hx314_5
              replace hx314_6 := (HB.out.cell (World.block_lt_of_cell? w _ hx314_6)).trans hx314_6
              replace hx314_7 := (HB.out.cell (World.block_lt_of_cell? w _ hx314_7)).trans hx314_7
              replace hx314_8 := (HB.out.cell (World.block_lt_of_cell? w _ hx314_8)).trans hx314_8
              replace hx314_9 := (HB.out.cell (World.block_lt_of_cell? w _ hx314_9)).trans hx314_9
              replace hx314_10 := (HB.out.cell (World.block_lt_of_cell? w _ hx314_10)).trans hx314_10
              replace p314 := eq_true p314
              replace q314 := eq_true q314
              try go_wp2_with (first | ((with_reducible refine gate_dst (N := 5) rfl ?_); refine box_event ?hg (N := 5) ?hd (cs := #[.int .i64 0, .int .i64 0, .int .i64 0, .bool false, .int .i64 0, .int .i64 0, .int .i64 0, .int .i64 0, .int .i64 0, .int .u32 0, .int .i64 0]) (t := 34) ?hr ?_; (case hd => rfl); (case hg => rfl); (case hr => first | (go_simp; done) | (go_simp; rfl)); intro gb315 hg w16 hbox hb; have n0_ := Aside0.mk (Kd.R_below (by (with_reducible repeat (first | apply Kd.R_alloc | apply Kd.R_drewN | apply Kd.R_drew)); exact HO_314000.out) hb); have n1_ := Aside0.mk (blk_below (g := gb311) (o := .cells #[.slice (some ad314) l0_0.length c0_0, .int .i64 a0_1] 70 (0, 0)) (by (with_reducible repeat (first | refine blk_drewN ?_ _ | refine blk_drew ?_ | refine blk_alloc ?_ _)); exact BK311.out) hb); have n2_ := Aside0.mk (blk_below (g := gb312) (o := .cells #[.slice none 0 0, .int .i64 0] 66 (0, 0)) (by (with_reducible repeat (first | refine blk_drewN ?_ _ | refine blk_drew ?_ | refine blk_alloc ?_ _)); exact BK312.out) hb); have n3_ := Aside0.mk (blk_below (g := gb313) (o := .cells #[u314000, .int .i64 a0_1] 66 (0, 0)) (by (with_reducible repeat (first | refine blk_drewN ?_ _ | refine blk_drew ?_ | refine blk_alloc ?_ _)); exact BK313.out) hb); have n4_ := Aside0.mk (below_step (by repeat (first | (with_reducible first | exact HB.out | apply below_alloc | apply pw_below_drewN | apply below_drew1 | refine below_set ?_ GE311.out | refine below_set ?_ GE312.out | refine below_set ?_ GE313.out) | exact HB.out)) hb); have n5_ := Aside0.mk (hbox); have n6_ := Aside0.mk ((by rw [hg]; exact (below_size (by repeat (first | (with_reducible first | exact HB.out | apply below_alloc | apply pw_below_drewN | apply below_drew1 | refine below_set ?_ GE311.out | refine below_set ?_ GE312.out | refine below_set ?_ GE313.out) | exact HB.out))) : w.heap.size ≤ gb315)); have n7_ := Aside0.mk ((by rw [hg]; exact (below_size (by repeat (first | (with_reducible first | exact HB.out | apply below_alloc | apply pw_below_drewN | apply below_drew1 | refine below_set ?_ GE311.out | refine below_set ?_ GE312.out | refine below_set ?_ GE313.out) | exact HB.out))) : w.heap.size ≤ gb315)); have n8_ := Aside0.mk ((by rw [hg]; exact Nat.ne_of_lt (blk_lt (g := gb311) (o := .cells #[.slice (some ad314) l0_0.length c0_0, .int .i64 a0_1] 70 (0, 0)) (by (with_reducible repeat (first | refine blk_drewN ?_ _ | refine blk_drew ?_ | refine blk_alloc ?_ _)); exact BK311.out)) : gb311 ≠ gb315)); have n9_ := Aside0.mk ((by rw [hg]; exact Nat.ne_of_gt (blk_lt (g := gb311) (o := .cells #[.slice (some ad314) l0_0.length c0_0, .int .i64 a0_1] 70 (0, 0)) (by (with_reducible repeat (first | refine blk_drewN ?_ _ | refine blk_drew ?_ | refine blk_alloc ?_ _)); exact BK311.out)) : gb315 ≠ gb311)); have n10_ := Aside0.mk ((by rw [hg]; exact Nat.ne_of_lt (blk_lt (g := gb312) (o := .cells #[.slice none 0 0, .int .i64 0] 66 (0, 0)) (by (with_reducible repeat (first | refine blk_drewN ?_ _ | refine blk_drew ?_ | refine blk_alloc ?_ _)); exact BK312.out)) : gb312 ≠ gb315)); have n11_ := Aside0.mk ((by rw [hg]; exact Nat.ne_of_gt (blk_lt (g := gb312) (o := .cells #[.slice none 0 0, .int .i64 0] 66 (0, 0)) (by (with_reducible repeat (first | refine blk_drewN ?_ _ | refine blk_drew ?_ | refine blk_alloc ?_ _)); exact BK312.out)) : gb315 ≠ gb312)); have n12_ := Aside0.mk ((by rw [hg]; exact Nat.ne_of_lt (blk_lt (g := gb313) (o := .cells #[u314000, .int .i64 a0_1] 66 (0, 0)) (by (with_reducible repeat (first | refine blk_drewN ?_ _ | refine blk_drew ?_ | refine blk_alloc ?_ _)); exact BK313.out)) : gb313 ≠ gb315)); have n13_ := Aside0.mk ((by rw [hg]; exact Nat.ne_of_gt (blk_lt (g := gb313) (o := .cells #[u314000, .int .i64 a0_1] 66 (0, 0)) (by (with_reducible repeat (first | refine blk_drewN ?_ _ | refine blk_drew ?_ | refine blk_alloc ?_ _)); exact BK313.out)) : gb315 ≠ gb313)); clear HO_314000; clear BK311; clear BK312; clear BK313; clear HB; have HO_314000 := n0_; have BK311 := n1_; have BK312 := n2_; have BK313 := n3_; have HB := n4_; have BK315 := n5_; have GW315 := n6_; have GE315 := n7_; have NB311_315 := n8_; have NB315_311 := n9_; have NB312_315 := n10_; have NB315_312 := n11_; have NB313_315 := n12_; have NB315_313 := n13_; clear n0_ n1_ n2_ n3_ n4_ n5_ n6_ n7_ n8_ n9_ n10_ n11_ n12_ n13_; clear hb hbox hg; have hnb17 := NB315_311.out; have hnc17 := NB311_315.out; have hnb18 := NB315_312.out; have hnc18 := NB312_315.out; have hnb19 := NB315_313.out; have hnc19 := NB313_315.out; have hcz20_0 : w16.cell? ⟨gb315, 0, none⟩ = some (.int .i64 0) := (blk_cell BK315.out 0).trans rfl; have hcz20_1 : w16.cell? ⟨gb315, 1, none⟩ = some (.int .i64 0) := (blk_cell BK315.out 1).trans rfl; have hcz20_2 : w16.cell? ⟨gb315, 2, none⟩ = some (.int .i64 0) := (blk_cell BK315.out 2).trans rfl; have hcz20_3 : w16.cell? ⟨gb315, 3, none⟩ = some (.bool false) := (blk_cell BK315.out 3).trans rfl; have hcz20_4 : w16.cell? ⟨gb315, 4, none⟩ = some (.int .i64 0) := (blk_cell BK315.out 4).trans rfl; have hcz20_5 : w16.cell? ⟨gb315, 5, none⟩ = some (.int .i64 0) := (blk_cell BK315.out 5).trans rfl; have hcz20_6 : w16.cell? ⟨gb315, 6, none⟩ = some (.int .i64 0) := (blk_cell BK315.out 6).trans rfl; have hcz20_7 : w16.cell? ⟨gb315, 7, none⟩ = some (.int .i64 0) := (blk_cell BK315.out 7).trans rfl; have hcz20_8 : w16.cell? ⟨gb315, 8, none⟩ = some (.int .i64 0) := (blk_cell BK315.out 8).trans rfl; have hcz20_9 : w16.cell? ⟨gb315, 9, none⟩ = some (.int .u32 0) := (blk_cell BK315.out 9).trans rfl; have hcz20_10 : w16.cell? ⟨gb315, 10, none⟩ = some (.int .i64 0) := (blk_cell BK315.out 10).trans rfl; have hfz20_0 := blk_frozen BK315.out 0; have hfz20_1 := blk_frozen BK315.out 1; have hfz20_2 := blk_frozen BK315.out 2; have hfz20_3 := blk_frozen BK315.out 3; have hfz20_4 := blk_frozen BK315.out 4; have hfz20_5 := blk_frozen BK315.out 5; have hfz20_6 := blk_frozen BK315.out 6; have hfz20_7 := blk_frozen BK315.out 7; have hfz20_8 := blk_frozen BK315.out 8; have hfz20_9 := blk_frozen BK315.out 9; have hfz20_10 := blk_frozen BK315.out 10))
              have n0_ : Aside0 (Kd.R k29 29 (((((((((((w16.setCell ⟨gb315, 0, none⟩ (.int .i64 ((rd_T34 l0_0 x12_1).f0.f0))).setCell ⟨gb315, 1, none⟩ (.int .i64 ((rd_T34 l0_0 x12_1).f0.f1))).setCell ⟨gb315, 2, none⟩ (.int .i64 ((rd_T34 l0_0 x12_1).f0.f2))).setCell ⟨gb315, 3, none⟩ (.bool ((rd_T34 l0_0 x12_1).f0.f3))).setCell ⟨gb315, 4, none⟩ (.int .i64 ((rd_T34 l0_0 x12_1).f1.f0))).setCell ⟨gb315, 5, none⟩ (.int .i64 ((rd_T34 l0_0 x12_1).f1.f1))).setCell ⟨gb315, 6, none⟩ (.int .i64 ((rd_T34 l0_0 x12_1).f1.f2))).setCell ⟨gb315, 7, none⟩ (.int .i64 ((rd_T34 l0_0 x12_1).f2))).setCell ⟨gb315, 8, none⟩ (.int .i64 ((rd_T34 l0_0 x12_1).f3))).setCell ⟨gb315, 9, none⟩ (.int .u32 ((rd_T34 l0_0 x12_1).f4))).setCell ⟨gb315, 10, none⟩ (.int .i64 ((rd_T34 l0_0 x12_1).f5))) w.heap.size (fun _ => True) u314000 x314000_1) := ⟨by (with_reducible repeat (first | apply Kd.R_alloc | apply Kd.R_drewN | apply Kd.R_drew)); exact Kd.R_mono (Kd.R_far (p := ⟨gb315, 10, none⟩) (Kd.R_far (p := ⟨gb315, 9, none⟩) (Kd.R_far (p := ⟨gb315, 8, none⟩) (Kd.R_far (p := ⟨gb315, 7, none⟩) (Kd.R_far (p := ⟨gb315, 6, none⟩) (Kd.R_far (p := ⟨gb315, 5, none⟩) (Kd.R_far (p := ⟨gb315, 4, none⟩) (Kd.R_far (p := ⟨gb315, 3, none⟩) (Kd.R_far (p := ⟨gb315, 2, none⟩) (Kd.R_far (p := ⟨gb315, 1, none⟩) (Kd.R_far (p := ⟨gb315, 0, none⟩) (Kd.R_types HO_314000.out BK315.out (by decide)) (fun _ hk => hk.2) (.int .i64 ((rd_T34 l0_0 x12_1).f0.f0))) (fun _ hk => hk.2) (.int .i64 ((rd_T34 l0_0 x12_1).f0.f1))) (fun _ hk => hk.2) (.int .i64 ((rd_T34 l0_0 x12_1).f0.f2))) (fun _ hk => hk.2) (.bool ((rd_T34 l0_0 x12_1).f0.f3))) (fun _ hk => hk.2) (.int .i64 ((rd_T34 l0_0 x12_1).f1.f0))) (fun _ hk => hk.2) (.int .i64 ((rd_T34 l0_0 x12_1).f1.f1))) (fun _ hk => hk.2) (.int .i64 ((rd_T34 l0_0 x12_1).f1.f2))) (fun _ hk => hk.2) (.int .i64 ((rd_T34 l0_0 x12_1).f2))) (fun _ hk => hk.2) (.int .i64 ((rd_T34 l0_0 x12_1).f3))) (fun _ hk => hk.2) (.int .u32 ((rd_T34 l0_0 x12_1).f4))) (fun _ hk => hk.2) (.int .i64 ((rd_T34 l0_0 x12_1).f5))) (fun _ hk => trivial)⟩
              have n1_ : Aside0 ((((((((((((w16.setCell ⟨gb315, 0, none⟩ (.int .i64 ((rd_T34 l0_0 x12_1).f0.f0))).setCell ⟨gb315, 1, none⟩ (.int .i64 ((rd_T34 l0_0 x12_1).f0.f1))).setCell ⟨gb315, 2, none⟩ (.int .i64 ((rd_T34 l0_0 x12_1).f0.f2))).setCell ⟨gb315, 3, none⟩ (.bool ((rd_T34 l0_0 x12_1).f0.f3))).setCell ⟨gb315, 4, none⟩ (.int .i64 ((rd_T34 l0_0 x12_1).f1.f0))).setCell ⟨gb315, 5, none⟩ (.int .i64 ((rd_T34 l0_0 x12_1).f1.f1))).setCell ⟨gb315, 6, none⟩ (.int .i64 ((rd_T34 l0_0 x12_1).f1.f2))).setCell ⟨gb315, 7, none⟩ (.int .i64 ((rd_T34 l0_0 x12_1).f2))).setCell ⟨gb315, 8, none⟩ (.int .i64 ((rd_T34 l0_0 x12_1).f3))).setCell ⟨gb315, 9, none⟩ (.int .u32 ((rd_T34 l0_0 x12_1).f4))).setCell ⟨gb315, 10, none⟩ (.int .i64 ((rd_T34 l0_0 x12_1).f5))).heap[gb311]? = some (.cells #[.slice (some ad314) l0_0.length c0_0, .int .i64 a0_1] 70 (0, 0))) := ⟨by (with_reducible repeat (first | refine blk_drewN ?_ _ | refine blk_drew ?_ | refine blk_alloc ?_ _)); refine blk_far ?_ NB311_315.out _; (with_reducible repeat (first | refine blk_drewN ?_ _ | refine blk_drew ?_ | refine blk_alloc ?_ _)); refine blk_far ?_ NB311_315.out _; (with_reducible repeat (first | refine blk_drewN ?_ _ | refine blk_drew ?_ | refine blk_alloc ?_ _)); refine blk_far ?_ NB311_315.out _; (with_reducible repeat (first | refine blk_drewN ?_ _ | refine blk_drew ?_ | refine blk_alloc ?_ _)); refine blk_far ?_ NB311_315.out _; (with_reducible repeat (first | refine blk_drewN ?_ _ | refine blk_drew ?_ | refine blk_alloc ?_ _)); refine blk_far ?_ NB311_315.out _; (with_reducible repeat (first | refine blk_drewN ?_ _ | refine blk_drew ?_ | refine blk_alloc ?_ _)); refine blk_far ?_ NB311_315.out _; (with_reducible repeat (first | refine blk_drewN ?_ _ | refine blk_drew ?_ | refine blk_alloc ?_ _)); refine blk_far ?_ NB311_315.out _; (with_reducible repeat (first | refine blk_drewN ?_ _ | refine blk_drew ?_ | refine blk_alloc ?_ _)); refine blk_far ?_ NB311_315.out _; (with_reducible repeat (first | refine blk_drewN ?_ _ | refine blk_drew ?_ | refine blk_alloc ?_ _)); refine blk_far ?_ NB311_315.out _; (with_reducible repeat (first | refine blk_drewN ?_ _ | refine blk_drew ?_ | refine blk_alloc ?_ _)); refine blk_far ?_ NB311_315.out _; (with_reducible repeat (first | refine blk_drewN ?_ _ | refine blk_drew ?_ | refine blk_alloc ?_ _)); refine blk_far ?_ NB311_315.out _; (with_reducible repeat (first | refine blk_drewN ?_ _ | refine blk_drew ?_ | refine blk_alloc ?_ _)); exact BK311.out⟩
              have n2_ : Aside0 ((((((((((((w16.setCell ⟨gb315, 0, none⟩ (.int .i64 ((rd_T34 l0_0 x12_1).f0.f0))).setCell ⟨gb315, 1, none⟩ (.int .i64 ((rd_T34 l0_0 x12_1).f0.f1))).setCell ⟨gb315, 2, none⟩ (.int .i64 ((rd_T34 l0_0 x12_1).f0.f2))).setCell ⟨gb315, 3, none⟩ (.bool ((rd_T34 l0_0 x12_1).f0.f3))).setCell ⟨gb315, 4, none⟩ (.int .i64 ((rd_T34 l0_0 x12_1).f1.f0))).setCell ⟨gb315, 5, none⟩ (.int .i64 ((rd_T34 l0_0 x12_1).f1.f1))).setCell ⟨gb315, 6, none⟩ (.int .i64 ((rd_T34 l0_0 x12_1).f1.f2))).setCell ⟨gb315, 7, none⟩ (.int .i64 ((rd_T34 l0_0 x12_1).f2))).setCell ⟨gb315, 8, none⟩ (.int .i64 ((rd_T34 l0_0 x12_1).f3))).setCell ⟨gb315, 9, none⟩ (.int .u32 ((rd_T34 l0_0 x12_1).f4))).setCell ⟨gb315, 10, none⟩ (.int .i64 ((rd_T34 l0_0 x12_1).f5))).heap[gb312]? = some (.cells #[.slice none 0 0, .int .i64 0] 66 (0, 0))) := ⟨by (with_reducible repeat (first | refine blk_drewN ?_ _ | refine blk_drew ?_ | refine blk_alloc ?_ _)); refine blk_far ?_ NB312_315.out _; (with_reducible repeat (first | refine blk_drewN ?_ _ | refine blk_drew ?_ | refine blk_alloc ?_ _)); refine blk_far ?_ NB312_315.out _; (with_reducible repeat (first | refine blk_drewN ?_ _ | refine blk_drew ?_ | refine blk_alloc ?_ _)); refine blk_far ?_ NB312_315.out _; (with_reducible repeat (first | refine blk_drewN ?_ _ | refine blk_drew ?_ | refine blk_alloc ?_ _)); refine blk_far ?_ NB312_315.out _; (with_reducible repeat (first | refine blk_drewN ?_ _ | refine blk_drew ?_ | refine blk_alloc ?_ _)); refine blk_far ?_ NB312_315.out _; (with_reducible repeat (first | refine blk_drewN ?_ _ | refine blk_drew ?_ | refine blk_alloc ?_ _)); refine blk_far ?_ NB312_315.out _; (with_reducible repeat (first | refine blk_drewN ?_ _ | refine blk_drew ?_ | refine blk_alloc ?_ _)); refine blk_far ?_ NB312_315.out _; (with_reducible repeat (first | refine blk_drewN ?_ _ | refine blk_drew ?_ | refine blk_alloc ?_ _)); refine blk_far ?_ NB312_315.out _; (with_reducible repeat (first | refine blk_drewN ?_ _ | refine blk_drew ?_ | refine blk_alloc ?_ _)); refine blk_far ?_ NB312_315.out _; (with_reducible repeat (first | refine blk_drewN ?_ _ | refine blk_drew ?_ | refine blk_alloc ?_ _)); refine blk_far ?_ NB312_315.out _; (with_reducible repeat (first | refine blk_drewN ?_ _ | refine blk_drew ?_ | refine blk_alloc ?_ _)); refine blk_far ?_ NB312_315.out _; (with_reducible repeat (first | refine blk_drewN ?_ _ | refine blk_drew ?_ | refine blk_alloc ?_ _)); exact BK312.out⟩
              have n3_ : Aside0 ((((((((((((w16.setCell ⟨gb315, 0, none⟩ (.int .i64 ((rd_T34 l0_0 x12_1).f0.f0))).setCell ⟨gb315, 1, none⟩ (.int .i64 ((rd_T34 l0_0 x12_1).f0.f1))).setCell ⟨gb315, 2, none⟩ (.int .i64 ((rd_T34 l0_0 x12_1).f0.f2))).setCell ⟨gb315, 3, none⟩ (.bool ((rd_T34 l0_0 x12_1).f0.f3))).setCell ⟨gb315, 4, none⟩ (.int .i64 ((rd_T34 l0_0 x12_1).f1.f0))).setCell ⟨gb315, 5, none⟩ (.int .i64 ((rd_T34 l0_0 x12_1).f1.f1))).setCell ⟨gb315, 6, none⟩ (.int .i64 ((rd_T34 l0_0 x12_1).f1.f2))).setCell ⟨gb315, 7, none⟩ (.int .i64 ((rd_T34 l0_0 x12_1).f2))).setCell ⟨gb315, 8, none⟩ (.int .i64 ((rd_T34 l0_0 x12_1).f3))).setCell ⟨gb315, 9, none⟩ (.int .u32 ((rd_T34 l0_0 x12_1).f4))).setCell ⟨gb315, 10, none⟩ (.int .i64 ((rd_T34 l0_0 x12_1).f5))).heap[gb313]? = some (.cells #[u314000, .int .i64 a0_1] 66 (0, 0))) := ⟨by (with_reducible repeat (first | refine blk_drewN ?_ _ | refine blk_drew ?_ | refine blk_alloc ?_ _)); refine blk_far ?_ NB313_315.out _; (with_reducible repeat (first | refine blk_drewN ?_ _ | refine blk_drew ?_ | refine blk_alloc ?_ _)); refine blk_far ?_ NB313_315.out _; (with_reducible repeat (first | refine blk_drewN ?_ _ | refine blk_drew ?_ | refine blk_alloc ?_ _)); refine blk_far ?_ NB313_315.out _; (with_reducible repeat (first | refine blk_drewN ?_ _ | refine blk_drew ?_ | refine blk_alloc ?_ _)); refine blk_far ?_ NB313_315.out _; (with_reducible repeat (first | refine blk_drewN ?_ _ | refine blk_drew ?_ | refine blk_alloc ?_ _)); refine blk_far ?_ NB313_315.out _; (with_reducible repeat (first | refine blk_drewN ?_ _ | refine blk_drew ?_ | refine blk_alloc ?_ _)); refine blk_far ?_ NB313_315.out _; (with_reducible repeat (first | refine blk_drewN ?_ _ | refine blk_drew ?_ | refine blk_alloc ?_ _)); refine blk_far ?_ NB313_315.out _; (with_reducible repeat (first | refine blk_drewN ?_ _ | refine blk_drew ?_ | refine blk_alloc ?_ _)); refine blk_far ?_ NB313_315.out _; (with_reducible repeat (first | refine blk_drewN ?_ _ | refine blk_drew ?_ | refine blk_alloc ?_ _)); refine blk_far ?_ NB313_315.out _; (with_reducible repeat (first | refine blk_drewN ?_ _ | refine blk_drew ?_ | refine blk_alloc ?_ _)); refine blk_far ?_ NB313_315.out _; (with_reducible repeat (first | refine blk_drewN ?_ _ | refine blk_drew ?_ | refine blk_alloc ?_ _)); refine blk_far ?_ NB313_315.out _; (with_reducible repeat (first | refine blk_drewN ?_ _ | refine blk_drew ?_ | refine blk_alloc ?_ _)); exact BK313.out⟩
              have n4_ : Aside0 ((((((((((((w16.setCell ⟨gb315, 0, none⟩ (.int .i64 ((rd_T34 l0_0 x12_1).f0.f0))).setCell ⟨gb315, 1, none⟩ (.int .i64 ((rd_T34 l0_0 x12_1).f0.f1))).setCell ⟨gb315, 2, none⟩ (.int .i64 ((rd_T34 l0_0 x12_1).f0.f2))).setCell ⟨gb315, 3, none⟩ (.bool ((rd_T34 l0_0 x12_1).f0.f3))).setCell ⟨gb315, 4, none⟩ (.int .i64 ((rd_T34 l0_0 x12_1).f1.f0))).setCell ⟨gb315, 5, none⟩ (.int .i64 ((rd_T34 l0_0 x12_1).f1.f1))).setCell ⟨gb315, 6, none⟩ (.int .i64 ((rd_T34 l0_0 x12_1).f1.f2))).setCell ⟨gb315, 7, none⟩ (.int .i64 ((rd_T34 l0_0 x12_1).f2))).setCell ⟨gb315, 8, none⟩ (.int .i64 ((rd_T34 l0_0 x12_1).f3))).setCell ⟨gb315, 9, none⟩ (.int .u32 ((rd_T34 l0_0 x12_1).f4))).setCell ⟨gb315, 10, none⟩ (.int .i64 ((rd_T34 l0_0 x12_1).f5))).heap[gb315]? = some (.cells #[.int .i64 ((rd_T34 l0_0 x12_1).f0.f0), .int .i64 ((rd_T34 l0_0 x12_1).f0.f1), .int .i64 ((rd_T34 l0_0 x12_1).f0.f2), .bool ((rd_T34 l0_0 x12_1).f0.f3), .int .i64 ((rd_T34 l0_0 x12_1).f1.f0), .int .i64 ((rd_T34 l0_0 x12_1).f1.f1), .int .i64 ((rd_T34 l0_0 x12_1).f1.f2), .int .i64 ((rd_T34 l0_0 x12_1).f2), .int .i64 ((rd_T34 l0_0 x12_1).f3), .int .u32 ((rd_T34 l0_0 x12_1).f4), .int .i64 ((rd_T34 l0_0 x12_1).f5)] 34 (0, 0))) := ⟨by (with_reducible repeat (first | refine blk_drewN ?_ _ | refine blk_drew ?_ | refine blk_alloc ?_ _)); refine blk_put (cs := #[.int .i64 ((rd_T34 l0_0 x12_1).f0.f0), .int .i64 ((rd_T34 l0_0 x12_1).f0.f1), .int .i64 ((rd_T34 l0_0 x12_1).f0.f2), .bool ((rd_T34 l0_0 x12_1).f0.f3), .int .i64 ((rd_T34 l0_0 x12_1).f1.f0), .int .i64 ((rd_T34 l0_0 x12_1).f1.f1), .int .i64 ((rd_T34 l0_0 x12_1).f1.f2), .int .i64 ((rd_T34 l0_0 x12_1).f2), .int .i64 ((rd_T34 l0_0 x12_1).f3), .int .u32 ((rd_T34 l0_0 x12_1).f4), .int .i64 0]) ?_ 10 _ rfl; (with_reducible repeat (first | refine blk_drewN ?_ _ | refine blk_drew ?_ | refine blk_alloc ?_ _)); refine blk_put (cs := #[.int .i64 ((rd_T34 l0_0 x12_1).f0.f0), .int .i64 ((rd_T34 l0_0 x12_1).f0.f1), .int .i64 ((rd_T34 l0_0 x12_1).f0.f2), .bool ((rd_T34 l0_0 x12_1).f0.f3), .int .i64 ((rd_T34 l0_0 x12_1).f1.f0), .int .i64 ((rd_T34 l0_0 x12_1).f1.f1), .int .i64 ((rd_T34 l0_0 x12_1).f1.f2), .int .i64 ((rd_T34 l0_0 x12_1).f2), .int .i64 ((rd_T34 l0_0 x12_1).f3), .int .u32 0, .int .i64 0]) ?_ 9 _ rfl; (with_reducible repeat (first | refine blk_drewN ?_ _ | refine blk_drew ?_ | refine blk_alloc ?_ _)); refine blk_put (cs := #[.int .i64 ((rd_T34 l0_0 x12_1).f0.f0), .int .i64 ((rd_T34 l0_0 x12_1).f0.f1), .int .i64 ((rd_T34 l0_0 x12_1).f0.f2), .bool ((rd_T34 l0_0 x12_1).f0.f3), .int .i64 ((rd_T34 l0_0 x12_1).f1.f0), .int .i64 ((rd_T34 l0_0 x12_1).f1.f1), .int .i64 ((rd_T34 l0_0 x12_1).f1.f2), .int .i64 ((rd_T34 l0_0 x12_1).f2), .int .i64 0, .int .u32 0, .int .i64 0]) ?_ 8 _ rfl; (with_reducible repeat (first | refine blk_drewN ?_ _ | refine blk_drew ?_ | refine blk_alloc ?_ _)); refine blk_put (cs := #[.int .i64 ((rd_T34 l0_0 x12_1).f0.f0), .int .i64 ((rd_T34 l0_0 x12_1).f0.f1), .int .i64 ((rd_T34 l0_0 x12_1).f0.f2), .bool ((rd_T34 l0_0 x12_1).f0.f3), .int .i64 ((rd_T34 l0_0 x12_1).f1.f0), .int .i64 ((rd_T34 l0_0 x12_1).f1.f1), .int .i64 ((rd_T34 l0_0 x12_1).f1.f2), .int .i64 0, .int .i64 0, .int .u32 0, .int .i64 0]) ?_ 7 _ rfl; (with_reducible repeat (first | refine blk_drewN ?_ _ | refine blk_drew ?_ | refine blk_alloc ?_ _)); refine blk_put (cs := #[.int .i64 ((rd_T34 l0_0 x12_1).f0.f0), .int .i64 ((rd_T34 l0_0 x12_1).f0.f1), .int .i64 ((rd_T34 l0_0 x12_1).f0.f2), .bool ((rd_T34 l0_0 x12_1).f0.f3), .int .i64 ((rd_T34 l0_0 x12_1).f1.f0), .int .i64 ((rd_T34 l0_0 x12_1).f1.f1), .int .i64 0, .int .i64 0, .int .i64 0, .int .u32 0, .int .i64 0]) ?_ 6 _ rfl; (with_reducible repeat (first | refine blk_drewN ?_ _ | refine blk_drew ?_ | refine blk_alloc ?_ _)); refine blk_put (cs := #[.int .i64 ((rd_T34 l0_0 x12_1).f0.f0), .int .i64 ((rd_T34 l0_0 x12_1).f0.f1), .int .i64 ((rd_T34 l0_0 x12_1).f0.f2), .bool ((rd_T34 l0_0 x12_1).f0.f3), .int .i64 ((rd_T34 l0_0 x12_1).f1.f0), .int .i64 0, .int .i64 0, .int .i64 0, .int .i64 0, .int .u32 0, .int .i64 0]) ?_ 5 _ rfl; (with_reducible repeat (first | refine blk_drewN ?_ _ | refine blk_drew ?_ | refine blk_alloc ?_ _)); refine blk_put (cs := #[.int .i64 ((rd_T34 l0_0 x12_1).f0.f0), .int .i64 ((rd_T34 l0_0 x12_1).f0.f1), .int .i64 ((rd_T34 l0_0 x12_1).f0.f2), .bool ((rd_T34 l0_0 x12_1).f0.f3), .int .i64 0, .int .i64 0, .int .i64 0, .int .i64 0, .int .i64 0, .int .u32 0, .int .i64 0]) ?_ 4 _ rfl; (with_reducible repeat (first | refine blk_drewN ?_ _ | refine blk_drew ?_ | refine blk_alloc ?_ _)); refine blk_put (cs := #[.int .i64 ((rd_T34 l0_0 x12_1).f0.f0), .int .i64 ((rd_T34 l0_0 x12_1).f0.f1), .int .i64 ((rd_T34 l0_0 x12_1).f0.f2), .bool false, .int .i64 0, .int .i64 0, .int .i64 0, .int .i64 0, .int .i64 0, .int .u32 0, .int .i64 0]) ?_ 3 _ rfl; (with_reducible repeat (first | refine blk_drewN ?_ _ | refine blk_drew ?_ | refine blk_alloc ?_ _)); refine blk_put (cs := #[.int .i64 ((rd_T34 l0_0 x12_1).f0.f0), .int .i64 ((rd_T34 l0_0 x12_1).f0.f1), .int .i64 0, .bool false, .int .i64 0, .int .i64 0, .int .i64 0, .int .i64 0, .int .i64 0, .int .u32 0, .int .i64 0]) ?_ 2 _ rfl; (with_reducible repeat (first | refine blk_drewN ?_ _ | refine blk_drew ?_ | refine blk_alloc ?_ _)); refine blk_put (cs := #[.int .i64 ((rd_T34 l0_0 x12_1).f0.f0), .int .i64 0, .int .i64 0, .bool false, .int .i64 0, .int .i64 0, .int .i64 0, .int .i64 0, .int .i64 0, .int .u32 0, .int .i64 0]) ?_ 1 _ rfl; (with_reducible repeat (first | refine blk_drewN ?_ _ | refine blk_drew ?_ | refine blk_alloc ?_ _)); refine blk_put (cs := #[.int .i64 0, .int .i64 0, .int .i64 0, .bool false, .int .i64 0, .int .i64 0, .int .i64 0, .int .i64 0, .int .i64 0, .int .u32 0, .int .i64 0]) ?_ 0 _ rfl; (with_reducible repeat (first | refine blk_drewN ?_ _ | refine blk_drew ?_ | refine blk_alloc ?_ _)); exact BK315.out⟩
              have n5_ : Aside0 (Below w.heap.size w (((((((((((w16.setCell ⟨gb315, 0, none⟩ (.int .i64 ((rd_T34 l0_0 x12_1).f0.f0))).setCell ⟨gb315, 1, none⟩ (.int .i64 ((rd_T34 l0_0 x12_1).f0.f1))).setCell ⟨gb315, 2, none⟩ (.int .i64 ((rd_T34 l0_0 x12_1).f0.f2))).setCell ⟨gb315, 3, none⟩ (.bool ((rd_T34 l0_0 x12_1).f0.f3))).setCell ⟨gb315, 4, none⟩ (.int .i64 ((rd_T34 l0_0 x12_1).f1.f0))).setCell ⟨gb315, 5, none⟩ (.int .i64 ((rd_T34 l0_0 x12_1).f1.f1))).setCell ⟨gb315, 6, none⟩ (.int .i64 ((rd_T34 l0_0 x12_1).f1.f2))).setCell ⟨gb315, 7, none⟩ (.int .i64 ((rd_T34 l0_0 x12_1).f2))).setCell ⟨gb315, 8, none⟩ (.int .i64 ((rd_T34 l0_0 x12_1).f3))).setCell ⟨gb315, 9, none⟩ (.int .u32 ((rd_T34 l0_0 x12_1).f4))).setCell ⟨gb315, 10, none⟩ (.int .i64 ((rd_T34 l0_0 x12_1).f5)))) := ⟨by repeat (first | (with_reducible first | exact HB.out | apply below_alloc | apply pw_below_drewN | apply below_drew1 | refine below_set ?_ GE311.out | refine below_set ?_ GE312.out | refine below_set ?_ GE313.out | refine below_set ?_ GE315.out) | exact HB.out)⟩
              (try clear HO_314000)
              (try clear BK311)
              (try clear BK312)
              (try clear BK313)
              (try clear BK315)
              (try clear HB)
              generalize (((((((((((w16.setCell ⟨gb315, 0, none⟩ (.int .i64 ((rd_T34 l0_0 x12_1).f0.f0))).setCell ⟨gb315, 1, none⟩ (.int .i64 ((rd_T34 l0_0 x12_1).f0.f1))).setCell ⟨gb315, 2, none⟩ (.int .i64 ((rd_T34 l0_0 x12_1).f0.f2))).setCell ⟨gb315, 3, none⟩ (.bool ((rd_T34 l0_0 x12_1).f0.f3))).setCell ⟨gb315, 4, none⟩ (.int .i64 ((rd_T34 l0_0 x12_1).f1.f0))).setCell ⟨gb315, 5, none⟩ (.int .i64 ((rd_T34 l0_0 x12_1).f1.f1))).setCell ⟨gb315, 6, none⟩ (.int .i64 ((rd_T34 l0_0 x12_1).f1.f2))).setCell ⟨gb315, 7, none⟩ (.int .i64 ((rd_T34 l0_0 x12_1).f2))).setCell ⟨gb315, 8, none⟩ (.int .i64 ((rd_T34 l0_0 x12_1).f3))).setCell ⟨gb315, 9, none⟩ (.int .u32 ((rd_T34 l0_0 x12_1).f4))).setCell ⟨gb315, 10, none⟩ (.int .i64 ((rd_T34 l0_0 x12_1).f5))) = w21 at n0_ n1_ n2_ n3_ n4_ n5_ ⊢
              have HO_314000 := n0_
              have BK311 := n1_
              have BK312 := n2_
              have BK313 := n3_
              have BK315 := n4_
              have HB := n5_
              clear n0_ n1_ n2_ n3_ n4_ n5_
              have n0_ := Aside0.mk (Kd.R_drew HO_314000.out)
              have n1_ := Aside0.mk (blk_drew BK311.out)
              have n2_ := Aside0.mk (blk_drew BK312.out)
              have n3_ := Aside0.mk (blk_drew BK313.out)
              have n4_ := Aside0.mk (blk_drew BK315.out)
              have n5_ := Aside0.mk (below_drew1 HB.out)
              clear HO_314000
              clear BK311
              clear BK312
              clear BK313
              clear BK315
              clear HB
              have HO_314000 := n0_
              have BK311 := n1_
              have BK312 := n2_
              have BK313 := n3_
              have BK315 := n4_
              have HB := n5_
              clear n0_ n1_ n2_ n3_ n4_ n5_
              refine start_ (n := 8) (S := fun w' => w'.cell? ⟨gb313, 0, none⟩ = some (u314000) ∧ w'.cell? ⟨gb313, 1, none⟩ = some (.int .i64 a0_1) ∧ w'.cell? ⟨gb315, 0, none⟩ = some (.int .i64 ((rd_T34 l0_0 x12_1).f0.f0)) ∧ w'.cell? ⟨gb315, 1, none⟩ = some (.int .i64 ((rd_T34 l0_0 x12_1).f0.f1)) ∧ w'.cell? ⟨gb315, 2, none⟩ = some (.int .i64 ((rd_T34 l0_0 x12_1).f0.f2)) ∧ w'.cell? ⟨gb315, 3, none⟩ = some (.bool ((rd_T34 l0_0 x12_1).f0.f3)) ∧ w'.cell? ⟨gb315, 4, none⟩ = some (.int .i64 ((rd_T34 l0_0 x12_1).f1.f0)) ∧ w'.cell? ⟨gb315, 5, none⟩ = some (.int .i64 ((rd_T34 l0_0 x12_1).f1.f1)) ∧ w'.cell? ⟨gb315, 6, none⟩ = some (.int .i64 ((rd_T34 l0_0 x12_1).f1.f2)) ∧ w'.cell? ⟨gb315, 7, none⟩ = some (.int .i64 ((rd_T34 l0_0 x12_1).f2)) ∧ w'.cell? ⟨gb315, 8, none⟩ = some (.int .i64 ((rd_T34 l0_0 x12_1).f3)) ∧ w'.cell? ⟨gb315, 9, none⟩ = some (.int .u32 ((rd_T34 l0_0 x12_1).f4)) ∧ w'.cell? ⟨gb315, 10, none⟩ = some (.int .i64 ((rd_T34 l0_0 x12_1).f5))) (ds := [7]) #[false, false, false, false, false, false, false, false] (by kernel_rfl) rfl rfl ⟨(blk_cell BK313.out 0).trans rfl, (blk_cell BK313.out 1).trans rfl, (blk_cell BK315.out 0).trans rfl, (blk_cell BK315.out 1).trans rfl, (blk_cell BK315.out 2).trans rfl, (blk_cell BK315.out 3).trans rfl, (blk_cell BK315.out 4).trans rfl, (blk_cell BK315.out 5).trans rfl, (blk_cell BK315.out 6).trans rfl, (blk_cell BK315.out 7).trans rfl, (blk_cell BK315.out 8).trans rfl, (blk_cell BK315.out 9).trans rfl, (blk_cell BK315.out 10).trans rfl⟩ (fun hHeld => ?_); refine with_tabW weftlinelaw14_Document.tab5 weftlinelaw14_Document.bits5 (fun HT_ HW_ => ?_)
              generalize w21.drew = w22 at HO_314000 BK311 BK312 BK313 BK315 HB hHeld ⊢
              refine pure_ (i := 0) (N := some 16) (v := ?_) (a' := ?_) #[true, false, false, false, false, false, false, false] rfl rfl (any_of HT_.out (by kernel_rfl)) (fun _ _ _ h => h) (Or.inl ⟨by rfl, ?_⟩) ?_ ?_
              rotate_left
              · intro w'
                go_simp
                with_reducible rfl
              rotate_left
              · simp only [Act.put, List.setIfInBounds_toArray, List.set_cons_zero, List.set_cons_succ, i64_w, i32_w]
                rfl
              refine take_ (i := 1) (N := some 17) (v := ?_) (a' := ?_) #[true, true, false, false, false, false, false, false] rfl rfl (take_ofW HT_.out HW_.out (by kernel_rfl)) (fun _ _ _ h => h) (Or.inl ⟨by rfl, ?_⟩) hHeld ?_ ?_
              rotate_left
              · rintro w' ⟨s0, s1, s2, s3, s4, s5, s6, s7, s8, s9, s10, s11, s12⟩
                go_simp
                with_reducible rfl
              rotate_left
              · simp only [Act.put, List.setIfInBounds_toArray, List.set_cons_zero, List.set_cons_succ, i64_w, i32_w]
                rfl
              refine take_ (i := 2) (N := some 18) (v := ?_) (a' := ?_) #[true, true, true, false, false, false, false, false] rfl rfl (take_ofW HT_.out HW_.out (by kernel_rfl)) (fun _ _ _ h => h) (Or.inl ⟨by rfl, ?_⟩) hHeld ?_ ?_
              rotate_left
              · rintro w' ⟨s0, s1, s2, s3, s4, s5, s6, s7, s8, s9, s10, s11, s12⟩
                go_simp
                with_reducible rfl
              rotate_left
              · simp only [Act.put, List.setIfInBounds_toArray, List.set_cons_zero, List.set_cons_succ, i64_w, i32_w]
                rfl
              refine one_ (i := 3) (N := some 19) #[true, true, true, true, false, false, false, false] rfl rfl (one_of HT_.out (by kernel_rfl)) (by decide) (fun K hK => ?_)
              refine goes_ Try.func16 (by kernel_rfl) rfl #[.agg #[.int .i64 ((rd_T34 l0_0 x12_1).f0.f0), .int .i64 ((rd_T34 l0_0 x12_1).f0.f1), .int .i64 ((rd_T34 l0_0 x12_1).f0.f2), .bool ((rd_T34 l0_0 x12_1).f0.f3), .int .i64 ((rd_T34 l0_0 x12_1).f1.f0), .int .i64 ((rd_T34 l0_0 x12_1).f1.f1), .int .i64 ((rd_T34 l0_0 x12_1).f1.f2), .int .i64 ((rd_T34 l0_0 x12_1).f2), .int .i64 ((rd_T34 l0_0 x12_1).f3), .int .u32 ((rd_T34 l0_0 x12_1).f4), .int .i64 ((rd_T34 l0_0 x12_1).f5)]] (by rfl) rfl rfl (by (try simp only [List.map_toArray, List.map_cons, List.map_nil]); first | done | rfl | (simp only [List.length_drop, List.length_take]; rfl)) ?_
              with_reducible refine (weftlinelaw13_Document.calls ((rd_T34 l0_0 x12_1).f0.f0) ((rd_T34 l0_0 x12_1).f0.f1) ((rd_T34 l0_0 x12_1).f0.f2) ((rd_T34 l0_0 x12_1).f0.f3) ((rd_T34 l0_0 x12_1).f1.f0) ((rd_T34 l0_0 x12_1).f1.f1) ((rd_T34 l0_0 x12_1).f1.f2) ((rd_T34 l0_0 x12_1).f2) ((rd_T34 l0_0 x12_1).f3) ((rd_T34 l0_0 x12_1).f4) ((rd_T34 l0_0 x12_1).f5) t316 t317 t318 t319 t320 t321 t322 t323 t324 t325 t326 _ A14.out).mono ?_
              rintro e w23 ⟨rfl, hb⟩
              refine ⟨_, rfl, ?_⟩
              have n0_ := Aside0.mk (Kd.R_below (by (with_reducible repeat (first | apply Kd.R_alloc | apply Kd.R_drewN | apply Kd.R_drew)); exact HO_314000.out) hb)
              have n1_ := Aside0.mk (blk_below (g := gb311) (o := .cells #[.slice (some ad314) l0_0.length c0_0, .int .i64 a0_1] 70 (0, 0)) (by (with_reducible repeat (first | refine blk_drewN ?_ _ | refine blk_drew ?_ | refine blk_alloc ?_ _)); exact BK311.out) hb)
              have n2_ := Aside0.mk (blk_below (g := gb312) (o := .cells #[.slice none 0 0, .int .i64 0] 66 (0, 0)) (by (with_reducible repeat (first | refine blk_drewN ?_ _ | refine blk_drew ?_ | refine blk_alloc ?_ _)); exact BK312.out) hb)
              have n3_ := Aside0.mk (blk_below (g := gb313) (o := .cells #[u314000, .int .i64 a0_1] 66 (0, 0)) (by (with_reducible repeat (first | refine blk_drewN ?_ _ | refine blk_drew ?_ | refine blk_alloc ?_ _)); exact BK313.out) hb)
              have n4_ := Aside0.mk (blk_below (g := gb315) (o := .cells #[.int .i64 ((rd_T34 l0_0 x12_1).f0.f0), .int .i64 ((rd_T34 l0_0 x12_1).f0.f1), .int .i64 ((rd_T34 l0_0 x12_1).f0.f2), .bool ((rd_T34 l0_0 x12_1).f0.f3), .int .i64 ((rd_T34 l0_0 x12_1).f1.f0), .int .i64 ((rd_T34 l0_0 x12_1).f1.f1), .int .i64 ((rd_T34 l0_0 x12_1).f1.f2), .int .i64 ((rd_T34 l0_0 x12_1).f2), .int .i64 ((rd_T34 l0_0 x12_1).f3), .int .u32 ((rd_T34 l0_0 x12_1).f4), .int .i64 ((rd_T34 l0_0 x12_1).f5)] 34 (0, 0)) (by (with_reducible repeat (first | refine blk_drewN ?_ _ | refine blk_drew ?_ | refine blk_alloc ?_ _)); exact BK315.out) hb)
              have n5_ := Aside0.mk (below_step (by repeat (first | (with_reducible first | exact HB.out | apply below_alloc | apply pw_below_drewN | apply below_drew1 | refine below_set ?_ GE311.out | refine below_set ?_ GE312.out | refine below_set ?_ GE313.out | refine below_set ?_ GE315.out) | exact HB.out)) hb)
              clear HO_314000
              clear BK311
              clear BK312
              clear BK313
              clear BK315
              clear HB
              have HO_314000 := n0_
              have BK311 := n1_
              have BK312 := n2_
              have BK313 := n3_
              have BK315 := n4_
              have HB := n5_
              clear n0_ n1_ n2_ n3_ n4_ n5_
              (try clear hb)
              (try clear hb2)
              (try clear hk)
              (try clear hi)
              refine hK.out _ _ ⟨(blk_cell BK313.out 0).trans rfl, (blk_cell BK313.out 1).trans rfl, (blk_cell BK315.out 0).trans rfl, (blk_cell BK315.out 1).trans rfl, (blk_cell BK315.out 2).trans rfl, (blk_cell BK315.out 3).trans rfl, (blk_cell BK315.out 4).trans rfl, (blk_cell BK315.out 5).trans rfl, (blk_cell BK315.out 6).trans rfl, (blk_cell BK315.out 7).trans rfl, (blk_cell BK315.out 8).trans rfl, (blk_cell BK315.out 9).trans rfl, (blk_cell BK315.out 10).trans rfl⟩ (fun hHeld => ?_)
              clear hK K
              refine norm_ (a' := ?_) ?_ ?_
              rotate_left
              · show Act.put _ (some 19) _ = _
                simp only [Act.put, List.setIfInBounds_toArray, List.set_cons_zero, List.set_cons_succ, i64_w, i32_w]
                rfl
              refine one_ (i := 4) (N := some 20) #[true, true, true, true, true, false, false, false] rfl rfl (one_of HT_.out (by kernel_rfl)) (by decide) (fun K hK => ?_)
              refine value_ (w1 := ?_) (v := ?_) (by rfl) rfl ?_ ?_
              rotate_left 2
              · go_simp
                constructor
                · rfl
                · rfl
              refine hK.out _ _ ⟨(blk_cell (blk_alloc BK313.out _) 0).trans rfl, (blk_cell (blk_alloc BK313.out _) 1).trans rfl, (blk_cell (blk_alloc BK315.out _) 0).trans rfl, (blk_cell (blk_alloc BK315.out _) 1).trans rfl, (blk_cell (blk_alloc BK315.out _) 2).trans rfl, (blk_cell (blk_alloc BK315.out _) 3).trans rfl, (blk_cell (blk_alloc BK315.out _) 4).trans rfl, (blk_cell (blk_alloc BK315.out _) 5).trans rfl, (blk_cell (blk_alloc BK315.out _) 6).trans rfl, (blk_cell (blk_alloc BK315.out _) 7).trans rfl, (blk_cell (blk_alloc BK315.out _) 8).trans rfl, (blk_cell (blk_alloc BK315.out _) 9).trans rfl, (blk_cell (blk_alloc BK315.out _) 10).trans rfl⟩ (fun hHeld => ?_)
              clear hK K
              refine norm_ (a' := ?_) ?_ ?_
              rotate_left
              · show Act.put _ (some 20) _ = _
                simp only [Act.put, List.setIfInBounds_toArray, List.set_cons_zero, List.set_cons_succ, i64_w, i32_w]
                rfl
              refine one_ (i := 5) (N := some 21) #[true, true, true, true, true, true, false, false] rfl rfl (one_of HT_.out (by kernel_rfl)) (by decide) (fun K hK => ?_)
              refine Kd.R_append_step k29 (w0 := w) w.heap.size (by rfl) (.tmp 17) (.tmp 20) 64 29 (.agg #[(.int .i64 0), (.int .i64 0), (.int .i64 0), (.bool false), (.int .i64 0), (.int .i64 0), (.int .i64 0), (.int .i64 0), (.int .i64 0), (.int .u32 0), (.int .i64 0)]) 88 rfl Try.underlying64 info29 rfl (by decide) (by omega) u314000 x314000_1 (⟨(⟨t316, t317, t318, t319⟩ : S23), (⟨t320, t321, t322⟩ : S25), t323, t324, t325, t326⟩ : S29) [.int .i64 t316, .int .i64 t317, .int .i64 t318, .bool t319, .int .i64 t320, .int .i64 t321, .int .i64 t322, .int .i64 t323, .int .i64 t324, .int .u32 t325, .int .i64 t326] (fun _ => True) (fun _ => False) rfl rfl ?aP (fun _ hk => hk.elim) ?aF ?aO ?aB ?aS ?aL ?_
              (case aP => exact k29_mkM _ _ _ (⟨(⟨t316, t317, t318, t319⟩ : S23), (⟨t320, t321, t322⟩ : S25), t323, t324, t325, t326⟩ : S29))
              (case aB => exact (by repeat (first | (with_reducible first | exact HB.out | apply below_alloc | apply pw_below_drewN | apply below_drew1 | refine below_set ?_ GE311.out | refine below_set ?_ GE312.out | refine below_set ?_ GE313.out | refine below_set ?_ GE315.out) | exact HB.out)))
              (case aF => exact (fun _ _ => trivial))
              (case aO => exact (by (with_reducible repeat (first | apply Kd.R_alloc | apply Kd.R_drewN | apply Kd.R_drew)); exact HO_314000.out))
              (case aS => exact (below_size (by repeat (first | (with_reducible first | exact HB.out | apply below_alloc | apply pw_below_drewN | apply below_drew1 | refine below_set ?_ GE311.out | refine below_set ?_ GE312.out | refine below_set ?_ GE313.out | refine below_set ?_ GE315.out) | exact HB.out))))
              (case aL => have := LMc15.out; omega)
              intro v328 w24 ho hb hg hat
              rw [← Ny327.out] at ho
              have n0_ := Aside0.mk (blk_grown (g := gb311) (o := .cells #[.slice (some ad314) l0_0.length c0_0, .int .i64 a0_1] 70 (0, 0)) (by (with_reducible repeat (first | refine blk_drewN ?_ _ | refine blk_drew ?_ | refine blk_alloc ?_ _)); exact BK311.out) hg (Kd.R_ne HO_314000.out BK311.out (by decide)))
              have n1_ := Aside0.mk (blk_grown (g := gb312) (o := .cells #[.slice none 0 0, .int .i64 0] 66 (0, 0)) (by (with_reducible repeat (first | refine blk_drewN ?_ _ | refine blk_drew ?_ | refine blk_alloc ?_ _)); exact BK312.out) hg (Kd.R_ne HO_314000.out BK312.out (by decide)))
              have n2_ := Aside0.mk (blk_grown (g := gb313) (o := .cells #[u314000, .int .i64 a0_1] 66 (0, 0)) (by (with_reducible repeat (first | refine blk_drewN ?_ _ | refine blk_drew ?_ | refine blk_alloc ?_ _)); exact BK313.out) hg (Kd.R_ne HO_314000.out BK313.out (by decide)))
              have n3_ := Aside0.mk (blk_grown (g := gb315) (o := .cells #[.int .i64 ((rd_T34 l0_0 x12_1).f0.f0), .int .i64 ((rd_T34 l0_0 x12_1).f0.f1), .int .i64 ((rd_T34 l0_0 x12_1).f0.f2), .bool ((rd_T34 l0_0 x12_1).f0.f3), .int .i64 ((rd_T34 l0_0 x12_1).f1.f0), .int .i64 ((rd_T34 l0_0 x12_1).f1.f1), .int .i64 ((rd_T34 l0_0 x12_1).f1.f2), .int .i64 ((rd_T34 l0_0 x12_1).f2), .int .i64 ((rd_T34 l0_0 x12_1).f3), .int .u32 ((rd_T34 l0_0 x12_1).f4), .int .i64 ((rd_T34 l0_0 x12_1).f5)] 34 (0, 0)) (by (with_reducible repeat (first | refine blk_drewN ?_ _ | refine blk_drew ?_ | refine blk_alloc ?_ _)); exact BK315.out) hg (Kd.R_ne HO_314000.out BK315.out (by decide)))
              have n4_ := Aside0.mk (hb)
              have n5_ := Aside0.mk (ho)
              clear BK311
              clear BK312
              clear BK313
              clear BK315
              clear HB
              clear HO_314000
              have BK311 := n0_
              have BK312 := n1_
              have BK313 := n2_
              have BK315 := n3_
              have HB := n4_
              have HO329 := n5_
              clear n0_ n1_ n2_ n3_ n4_ n5_
              clear ho hb hg hat
              obtain ⟨Ao25, co25, eo25⟩ := Kd.R_slice HO329.out
              (first | subst eo25 | (injection eo25 with f1_ f2_ f3_; have f4_ := f1_.symm; have f5_ := f3_.symm; clear f1_ f2_ f3_; subst f4_; subst f5_))
              refine hK.out _ _ ⟨(blk_cell BK313.out 0).trans rfl, (blk_cell BK313.out 1).trans rfl, (blk_cell BK315.out 0).trans rfl, (blk_cell BK315.out 1).trans rfl, (blk_cell BK315.out 2).trans rfl, (blk_cell BK315.out 3).trans rfl, (blk_cell BK315.out 4).trans rfl, (blk_cell BK315.out 5).trans rfl, (blk_cell BK315.out 6).trans rfl, (blk_cell BK315.out 7).trans rfl, (blk_cell BK315.out 8).trans rfl, (blk_cell BK315.out 9).trans rfl, (blk_cell BK315.out 10).trans rfl⟩ (fun hHeld => ?_)
              clear hK K
              refine norm_ (a' := ?_) ?_ ?_
              rotate_left
              · show Act.put _ (some 21) _ = _
                simp only [Act.put, List.setIfInBounds_toArray, List.set_cons_zero, List.set_cons_succ, i64_w, i32_w]
                rfl
              refine pure_ (i := 6) (N := some 22) (v := ?_) (a' := ?_) #[true, true, true, true, true, true, true, false] rfl rfl (any_of HT_.out (by kernel_rfl)) (fun _ _ _ h => h) (Or.inl ⟨by rfl, ?_⟩) ?_ ?_
              rotate_left
              · intro w'
                go_simp
                with_reducible rfl
              rotate_left
              · simp only [Act.put, List.setIfInBounds_toArray, List.set_cons_zero, List.set_cons_succ, i64_w, i32_w]
                rfl
              refine last_ (i := 7) (N := none) #[true, true, true, true, true, true, true, true] rfl rfl (one_of HT_.out (by kernel_rfl)) (by decide) (fun K hK => ?_)
              have hs26 : w24.cell? ⟨gb313, 0, none⟩ = some (u314000) := (blk_cell BK313.out 0).trans rfl
              have hfs26 := blk_frozen BK313.out 0
              have hns26_0 := NB311_313.out
              have hns26_1 := NB312_313.out
              have hns26_3 := NB315_313.out
              have hms26_0 := NB313_311.out
              have hms26_1 := NB313_312.out
              have hms26_3 := NB313_315.out
              refine skip_ (w1 := ?_) (by rfl) rfl ?_ ?_
              rotate_left
              · go_simp
                rfl
              refine hK.out _ _ ?_
              clear hK K
              refine done_ (done_of HT_.out (by kernel_rfl)) ?_
              try go_wp2
              go_roundg k1
              case measure => have := HK1.out; omega
              case rel => exact ⟨(wrap64 (x12_1 + 1)), (y327), (.slice Ao25 y327.length co25), (by first | rfl | (simp; done) | (simp [*]; done)), H', ⟨by have := HK1.out; omega⟩, ⟨by (with_reducible repeat (first | apply Kd.R_alloc | apply Kd.R_drewN | apply Kd.R_drew)); exact Kd.R_mono (Kd.R_far (p := ⟨gb313, 0, none⟩) (Kd.R_types HO329.out BK313.out (by decide)) (fun _ hk => hk.2) (.slice Ao25 y327.length co25)) (fun _ hk => trivial)⟩, ⟨by (with_reducible repeat (first | refine blk_drewN ?_ _ | refine blk_drew ?_ | refine blk_alloc ?_ _)); refine blk_far ?_ NB311_313.out _; (with_reducible repeat (first | refine blk_drewN ?_ _ | refine blk_drew ?_ | refine blk_alloc ?_ _)); exact BK311.out⟩, ⟨by (with_reducible repeat (first | refine blk_drewN ?_ _ | refine blk_drew ?_ | refine blk_alloc ?_ _)); refine blk_far ?_ NB312_313.out _; (with_reducible repeat (first | refine blk_drewN ?_ _ | refine blk_drew ?_ | refine blk_alloc ?_ _)); exact BK312.out⟩, ⟨by (with_reducible repeat (first | refine blk_drewN ?_ _ | refine blk_drew ?_ | refine blk_alloc ?_ _)); refine blk_put (cs := #[u314000, .int .i64 a0_1]) ?_ 0 _ rfl; (with_reducible repeat (first | refine blk_drewN ?_ _ | refine blk_drew ?_ | refine blk_alloc ?_ _)); exact BK313.out⟩, ⟨by repeat (first | (with_reducible first | exact HB.out | apply below_alloc | apply pw_below_drewN | apply below_drew1 | refine below_set ?_ GE311.out | refine below_set ?_ GE312.out | refine below_set ?_ GE313.out | refine below_set ?_ GE315.out) | exact HB.out)⟩⟩
            · rw [if_neg c15] at H
              exact absurd H (by simp)
          · rw [if_neg c13] at H
            exact absurd H (by simp)
        · rw [if_neg c12] at H
          exact absurd H (by simp)
      · rw [if_neg c11] at H
        have c11b0 : decide (x12_1 < (l0_0.length : Int)) = false := decide_eq_false c11
        clear c11
        simp only [Option.some.injEq, Prod.mk.injEq] at H
        obtain ⟨rfl, rfl⟩ := H
        have hnb27 := NB313_311.out
        have hnc27 := NB311_313.out
        have hnb28 := NB313_312.out
        have hnc28 := NB312_313.out
        have hcz29_0 : wr.cell? ⟨gb313, 0, none⟩ = some (u314000) := (blk_cell BK313.out 0).trans rfl
        have hcz29_1 : wr.cell? ⟨gb313, 1, none⟩ = some (.int .i64 a0_1) := (blk_cell BK313.out 1).trans rfl
        have hfz29_0 := blk_frozen BK313.out 0
        have hfz29_1 := blk_frozen BK313.out 1
        obtain ⟨Ao30, co30, eo30⟩ := Kd.R_slice HO_314000.out
        subst eo30
        have hnb31 := NB312_311.out
        have hnc31 := NB311_312.out
        have hcz32_0 : wr.cell? ⟨gb312, 0, none⟩ = some (.slice none 0 0) := (blk_cell BK312.out 0).trans rfl
        have hcz32_1 : wr.cell? ⟨gb312, 1, none⟩ = some (.int .i64 0) := (blk_cell BK312.out 1).trans rfl
        have hfz32_0 := blk_frozen BK312.out 0
        have hfz32_1 := blk_frozen BK312.out 1
        go_wp2
        refine bodyPost_ret (results_cell_row rfl _ _ gb312 66 #[.slice Ao30 x314000_1.length co30, .int .i64 a0_1] (0, 0) _ rfl (by (with_reducible repeat (first | refine blk_drewN ?_ _ | refine blk_drew ?_ | refine blk_alloc ?_ _)); refine blk_put (cs := #[.slice Ao30 x314000_1.length co30, .int .i64 0]) ?_ 1 _ rfl; (with_reducible repeat (first | refine blk_drewN ?_ _ | refine blk_drew ?_ | refine blk_alloc ?_ _)); refine blk_put (cs := #[.slice none 0 0, .int .i64 0]) ?_ 0 _ rfl; (with_reducible repeat (first | refine blk_drewN ?_ _ | refine blk_drew ?_ | refine blk_alloc ?_ _)); exact BK312.out) Try.underlying66 rfl (by kernel_rfl)) rfl ?_
        exact ⟨_, by first | rfl | (simp [errW_none, errW_some] <;> rfl) | (simp [*, errW_none, errW_some] <;> rfl), by (with_reducible repeat (first | apply Kd.R_alloc | apply Kd.R_drewN | apply Kd.R_drew)); exact Kd.R_mono (Kd.R_far (p := ⟨gb312, 1, none⟩) (Kd.R_far (p := ⟨gb312, 0, none⟩) (Kd.R_types HO_314000.out BK312.out (by decide)) (fun _ hk => hk.2) (.slice Ao30 x314000_1.length co30)) (fun _ hk => hk.2) (.int .i64 a0_1)) (fun _ hk => trivial), by repeat (first | (with_reducible first | exact HB.out | apply below_alloc | apply pw_below_drewN | apply below_drew1 | refine below_set ?_ GE311.out | refine below_set ?_ GE312.out | refine below_set ?_ GE313.out) | exact HB.out)⟩

end Go.Proofs.Ytblooffiggciiaa.PPs
/- PPsx54 -/
namespace Go.Proofs.Ytblooffiggciiaa.PPs
open Go.RowKit Go.Proofs.YtblooffiggciiaaW.PrintWords Go.Proofs.YtblooffiggciiaaW.PrintLast Go.Proofs.YtblooffiggciiaaW.PrintMore
attribute [local go_sem] max2_int min2_int max_two min_two max_three min_three max_four min_four   -- for this text's walks alone
attribute [local go_sem] Go.Proofs.Ytblooffiggciiaa.Aid.isSome_setCell
set_option linter.unusedVariables false
set_option linter.unusedSimpArgs false
def weftlinelaw14_told.f (k : Nat) (l0_0 : List (S34)) (a0_1 : Int) (a1 : Option Int) (l2_0 : List (S29)) (a2_1 : Int) (a3 : Int) : Option (Bool) := (weftlinenum_Num.f a1).bind fun t332 => (if t332 = a3 then ((weftlinelaw14_Document.f k l0_0 a0_1).bind fun bt333 => ((weftlineref14_Same.f k bt333.1 bt333.2 l2_0 a2_1).bind fun t337 => (some t337))) else (some false))
def weftlinelaw14_told.T1 : Bool × List (List Nat × List Nat) := (true, [([], []), ([0], [0]), ([], []), ([1, 2], [1, 2]), ([3, 1], [3]), ([4], [4]), ([5, 4, 4], [4, 5]), ([4], [4]), ([6, 7, 6, 4], [4, 6, 7]), ([4, 8], [4, 8]), ([9, 8, 0, 1, 2, 3, 4, 5, 6, 7, 8, 9], [9])])
def weftlinelaw14_told.B1 : List Nat := [0, 1, 0, 7, 15, 31, 63, 31, 255, 511, 1023]
theorem weftlinelaw14_told.tab1 : rtab .any (opsOf Try.f41 1) = weftlinelaw14_told.T1 := by kernel_rfl
theorem weftlinelaw14_told.bits1 : waitsOk weftlinelaw14_told.T1.2 weftlinelaw14_told.B1 = true := by kernel_rfl
set_option maxHeartbeats 8000000 in
set_option maxRecDepth 100000 in
theorem weftlinelaw14_told.calls (k : Nat) (A0_0 : Option Addr) (c0_0 : Nat) (l0_0 : List (S34)) (a0_1 : Int) (a1 : Option Int) (A2_0 : Option Addr) (c2_0 : Nat) (l2_0 : List (S29)) (a2_1 : Int) (a3 : Int) (r : Bool) (w : World) (hr0_0 : Kd.C k34 w A0_0 l0_0.length l0_0) (hc0_0 : l0_0.length ≤ c0_0) (hr2_0 : Kd.C k29 w A2_0 l2_0.length l2_0) (hc2_0 : l2_0.length ≤ c2_0) (h : weftlinelaw14_told.f k l0_0 a0_1 a1 l2_0 a2_1 a3 = some r) :
    Calls Try.prog 41 #[.agg #[.slice A0_0 l0_0.length c0_0, .int .i64 a0_1], errW a1, .agg #[.slice A2_0 l2_0.length c2_0, .int .i64 a2_1], .int .i64 a3] w fun e w' => e = .returned (.bool r) ∧ Below w.heap.size w w' := by
  have hu70 := Try.underlying70
  have hu66 := Try.underlying66
  have HR0_0 := Aside0.mk hr0_0
  have HC0_0 := Aside0.mk hc0_0
  clear hr0_0 hc0_0
  have HR2_0 := Aside0.mk hr2_0
  have HC2_0 := Aside0.mk hc2_0
  clear hr2_0 hc2_0
  have HB := Aside0.mk (Below.refl w.heap.size w)
  have H : ((weftlinenum_Num.f a1).bind fun t332 => (if t332 = a3 then ((weftlinelaw14_Document.f k l0_0 a0_1).bind fun bt333 => ((weftlineref14_Same.f k bt333.1 bt333.2 l2_0 a2_1).bind fun t337 => (some t337))) else (some false))) = some r := h
  clear h
  replace H := Option.bind_eq_some_iff.mp H
  obtain ⟨t332, A50, H⟩ := H
  replace H : (if t332 = a3 then ((weftlinelaw14_Document.f k l0_0 a0_1).bind fun bt333 => ((weftlineref14_Same.f k bt333.1 bt333.2 l2_0 a2_1).bind fun t337 => (some t337))) else (some false)) = some r := H
  have A5 := Aside0.mk A50
  clear A50
  by_cases c6 : t332 = a3
  · rw [if_pos c6] at H
    have c6b0 : (t332 == a3) = true := beq_iff_eq.mpr c6
    have c6b1 : (t332 != a3) = false := bne_eq_false_iff_eq.mpr c6
    clear c6
    replace H := Option.bind_eq_some_iff.mp H
    obtain ⟨⟨t333, t336⟩, A70, H⟩ := H
    replace H : ((weftlineref14_Same.f k t333 t336 l2_0 a2_1).bind fun t337 => (some t337)) = some r := H
    have A7 := Aside0.mk A70
    clear A70
    replace H := Option.bind_eq_some_iff.mp H
    obtain ⟨t337, A80, H⟩ := H
    replace H : (some t337) = some r := H
    have A8 := Aside0.mk A80
    clear A80
    obtain rfl := Option.some.inj H
    go_enter Try.func41, Try.ntmps41
    try go_wp2_with (first | ((with_reducible refine gate_dst (N := 4) rfl ?_); refine box_event ?hg (N := 4) ?hd (cs := #[.slice A0_0 l0_0.length c0_0, .int .i64 a0_1]) (t := 70) ?hr ?_; (case hd => rfl); (case hg => rfl); (case hr => first | (go_simp; done) | (go_simp; rfl)); intro gb330 hg w9 hbox hb; have n0_ := Aside0.mk (below_step (by repeat (first | (with_reducible first | exact HB.out | apply below_alloc | apply pw_below_drewN | apply below_drew1) | exact HB.out)) hb); have n1_ := Aside0.mk (hbox); have n2_ := Aside0.mk ((by rw [hg]; exact (below_size (by repeat (first | (with_reducible first | exact HB.out | apply below_alloc | apply pw_below_drewN | apply below_drew1) | exact HB.out))) : w.heap.size ≤ gb330)); have n3_ := Aside0.mk ((by rw [hg]; exact (below_size (by repeat (first | (with_reducible first | exact HB.out | apply below_alloc | apply pw_below_drewN | apply below_drew1) | exact HB.out))) : w.heap.size ≤ gb330)); clear HB; have HB := n0_; have BK330 := n1_; have GW330 := n2_; have GE330 := n3_; clear n0_ n1_ n2_ n3_; clear hb hbox hg) | ((with_reducible refine gate_dst (N := 6) rfl ?_); refine box_event ?hg (N := 6) ?hd (cs := #[.slice A2_0 l2_0.length c2_0, .int .i64 a2_1]) (t := 66) ?hr ?_; (case hd => rfl); (case hg => rfl); (case hr => first | (go_simp; done) | (go_simp; rfl)); intro gb331 hg w10 hbox hb; have n0_ := Aside0.mk (blk_below (g := gb330) (o := .cells #[.slice A0_0 l0_0.length c0_0, .int .i64 a0_1] 70 (0, 0)) (by (with_reducible repeat (first | refine blk_drewN ?_ _ | refine blk_drew ?_ | refine blk_alloc ?_ _)); exact BK330.out) hb); have n1_ := Aside0.mk (below_step (by repeat (first | (with_reducible first | exact HB.out | apply below_alloc | apply pw_below_drewN | apply below_drew1 | refine below_set ?_ GE330.out) | exact HB.out)) hb); have n2_ := Aside0.mk (hbox); have n3_ := Aside0.mk ((by rw [hg]; exact (below_size (by repeat (first | (with_reducible first | exact HB.out | apply below_alloc | apply pw_below_drewN | apply below_drew1 | refine below_set ?_ GE330.out) | exact HB.out))) : w.heap.size ≤ gb331)); have n4_ := Aside0.mk ((by rw [hg]; exact (below_size (by repeat (first | (with_reducible first | exact HB.out | apply below_alloc | apply pw_below_drewN | apply below_drew1 | refine below_set ?_ GE330.out) | exact HB.out))) : w.heap.size ≤ gb331)); have n5_ := Aside0.mk ((by rw [hg]; exact Nat.ne_of_lt (blk_lt (g := gb330) (o := .cells #[.slice A0_0 l0_0.length c0_0, .int .i64 a0_1] 70 (0, 0)) (by (with_reducible repeat (first | refine blk_drewN ?_ _ | refine blk_drew ?_ | refine blk_alloc ?_ _)); exact BK330.out)) : gb330 ≠ gb331)); have n6_ := Aside0.mk ((by rw [hg]; exact Nat.ne_of_gt (blk_lt (g := gb330) (o := .cells #[.slice A0_0 l0_0.length c0_0, .int .i64 a0_1] 70 (0, 0)) (by (with_reducible repeat (first | refine blk_drewN ?_ _ | refine blk_drew ?_ | refine blk_alloc ?_ _)); exact BK330.out)) : gb331 ≠ gb330)); clear BK330; clear HB; have BK330 := n0_; have HB := n1_; have BK331 := n2_; have GW331 := n3_; have GE331 := n4_; have NB330_331 := n5_; have NB331_330 := n6_; clear n0_ n1_ n2_ n3_ n4_ n5_ n6_; clear hb hbox hg))
    have n0_ := Aside0.mk (blk_drew BK330.out)
    have n1_ := Aside0.mk (blk_drew BK331.out)
    have n2_ := Aside0.mk (below_drew1 HB.out)
    clear BK330
    clear BK331
    clear HB
    have BK330 := n0_
    have BK331 := n1_
    have HB := n2_
    clear n0_ n1_ n2_
    have CA5 := fun W => weftlinenum_Num.calls a1 t332 W A5.out
    try simp only [errW_none, errW_some] at CA5
    refine start_ (n := 11) (S := fun w' => w'.cell? ⟨gb330, 0, none⟩ = some (.slice A0_0 l0_0.length c0_0) ∧ w'.cell? ⟨gb330, 1, none⟩ = some (.int .i64 a0_1) ∧ w'.cell? ⟨gb331, 0, none⟩ = some (.slice A2_0 l2_0.length c2_0) ∧ w'.cell? ⟨gb331, 1, none⟩ = some (.int .i64 a2_1)) (ds := []) #[false, false, false, false, false, false, false, false, false, false, false] (by kernel_rfl) rfl rfl ⟨(blk_cell BK330.out 0).trans rfl, (blk_cell BK330.out 1).trans rfl, (blk_cell BK331.out 0).trans rfl, (blk_cell BK331.out 1).trans rfl⟩ (fun hHeld => ?_); refine with_tabW weftlinelaw14_told.tab1 weftlinelaw14_told.bits1 (fun HT_ HW_ => ?_)
    generalize w10.drew = w11 at BK330 BK331 HB hHeld ⊢
    refine pure_ (i := 0) (N := some 9) (v := ?_) (a' := ?_) #[true, false, false, false, false, false, false, false, false, false, false] rfl rfl (any_of HT_.out (by kernel_rfl)) (fun _ _ _ h => h) (Or.inl ⟨by rfl, ?_⟩) ?_ ?_
    rotate_left
    · intro w'
      go_simp
      with_reducible rfl
    rotate_left
    · simp only [Act.put, List.setIfInBounds_toArray, List.set_cons_zero, List.set_cons_succ, i64_w, i32_w]
      rfl
    refine pure_ (i := 2) (N := some 11) (v := ?_) (a' := ?_) #[true, false, true, false, false, false, false, false, false, false, false] rfl rfl (any_of HT_.out (by kernel_rfl)) (fun _ _ _ h => h) (Or.inl ⟨by rfl, ?_⟩) ?_ ?_
    rotate_left
    · intro w'
      go_simp
      with_reducible rfl
    rotate_left
    · simp only [Act.put, List.setIfInBounds_toArray, List.set_cons_zero, List.set_cons_succ, i64_w, i32_w]
      rfl
    refine one_ (i := 1) (N := some 10) #[true, true, true, false, false, false, false, false, false, false, false] rfl rfl (one_of HT_.out (by kernel_rfl)) (by decide) (fun K hK => ?_)
    refine goes_ Try.func33 (by kernel_rfl) rfl #[errW a1] (by rfl) rfl rfl (by (try simp only [List.map_toArray, List.map_cons, List.map_nil]); first | done | rfl | (simp only [List.length_drop, List.length_take]; rfl)) ?_
    with_reducible refine (CA5 _).mono ?_
    rintro e w' ⟨rfl, ⟨nd, rfl⟩⟩
    refine ⟨_, rfl, ?_⟩
    refine hK.out _ _ ⟨(blk_cell BK330.out 0).trans rfl, (blk_cell BK330.out 1).trans rfl, (blk_cell BK331.out 0).trans rfl, (blk_cell BK331.out 1).trans rfl⟩ (fun hHeld => ?_)
    clear hK K
    refine norm_ (a' := ?_) ?_ ?_
    rotate_left
    · show Act.put _ (some 10) _ = _
      simp only [Act.put, List.setIfInBounds_toArray, List.set_cons_zero, List.set_cons_succ, i64_w, i32_w]
      rfl
    refine pure_ (i := 3) (N := some 12) (v := ?_) (a' := ?_) #[true, true, true, true, false, false, false, false, false, false, false] rfl rfl (any_of HT_.out (by kernel_rfl)) (fun _ _ _ h => h) (Or.inl ⟨by rfl, ?_⟩) ?_ ?_
    rotate_left
    · intro w'
      go_simp
      with_reducible rfl
    rotate_left
    · simp only [Act.put, List.setIfInBounds_toArray, List.set_cons_zero, List.set_cons_succ, i64_w, i32_w]
      rfl
    refine pure_ (i := 4) (N := some 13) (v := ?_) (a' := ?_) #[true, true, true, true, true, false, false, false, false, false, false] rfl rfl (any_of HT_.out (by kernel_rfl)) (fun _ _ _ h => h) (Or.inl ⟨by rfl, ?_⟩) ?_ ?_
    rotate_left
    · intro w'
      go_simp
      with_reducible rfl
    rotate_left
    · simp only [Act.put, List.setIfInBounds_toArray, List.set_cons_zero, List.set_cons_succ, i64_w, i32_w]
      rfl
    refine take_ (i := 5) (N := some 14) (v := ?_) (a' := ?_) #[true, true, true, true, true, true, false, false, false, false, false] rfl rfl (take_ofW HT_.out HW_.out (by kernel_rfl)) (fun _ _ _ h => h) (Or.inl ⟨by rfl, ?_⟩) hHeld ?_ ?_
    rotate_left
    · rintro w' ⟨s0, s1, s2, s3⟩
      go_simp
      with_reducible rfl
    rotate_left
    · simp only [Act.put, List.setIfInBounds_toArray, List.set_cons_zero, List.set_cons_succ, i64_w, i32_w]
      rfl
    refine take_ (i := 7) (N := some 16) (v := ?_) (a' := ?_) #[true, true, true, true, true, true, false, true, false, false, false] rfl rfl (take_ofW HT_.out HW_.out (by kernel_rfl)) (fun _ _ _ h => h) (Or.inl ⟨by rfl, ?_⟩) hHeld ?_ ?_
    rotate_left
    · rintro w' ⟨s0, s1, s2, s3⟩
      go_simp
      with_reducible rfl
    rotate_left
    · simp only [Act.put, List.setIfInBounds_toArray, List.set_cons_zero, List.set_cons_succ, i64_w, i32_w]
      rfl
    refine one_ (i := 6) (N := some 15) #[true, true, true, true, true, true, true, true, false, false, false] rfl rfl (one_of HT_.out (by kernel_rfl)) (by decide) (fun K hK => ?_)
    refine goes_ Try.func43 (by kernel_rfl) rfl #[.agg #[.slice A0_0 l0_0.length c0_0, .int .i64 a0_1]] (by rfl) rfl rfl (by (try simp only [List.map_toArray, List.map_cons, List.map_nil]); first | done | rfl | (simp only [List.length_drop, List.length_take]; rfl)) ?_
    with_reducible refine (weftlinelaw14_Document.calls k _ _ l0_0 a0_1 t333 t336 _ ?side1 ?side2 A7.out).mono ?_
    (case side1 => repeat (first | exact (Kd.C_below HR0_0.out (by repeat (first | (with_reducible first | exact HB.out | apply below_alloc | apply pw_below_drewN | apply below_drew1 | refine below_set ?_ GE330.out | refine below_set ?_ GE331.out) | exact HB.out))) | (with_reducible refine Kd.C_alloc ?_ _) | (with_reducible refine Kd.C_drewN ?_ _) | (with_reducible refine Kd.C_drew ?_)))
    (case side2 => exact HC0_0.out)
    rintro e w12 ⟨v334, rfl, ho0, hb⟩
    refine ⟨_, rfl, ?_⟩
    have n0_ := Aside0.mk (Kd.R_lower ho0 (below_size (by repeat (first | (with_reducible first | exact HB.out | apply below_alloc | apply pw_below_drewN | apply below_drew1 | refine below_set ?_ GE330.out | refine below_set ?_ GE331.out) | exact HB.out))))
    have n1_ := Aside0.mk (blk_below (g := gb330) (o := .cells #[.slice A0_0 l0_0.length c0_0, .int .i64 a0_1] 70 (0, 0)) (by (with_reducible repeat (first | refine blk_drewN ?_ _ | refine blk_drew ?_ | refine blk_alloc ?_ _)); exact BK330.out) hb)
    have n2_ := Aside0.mk (blk_below (g := gb331) (o := .cells #[.slice A2_0 l2_0.length c2_0, .int .i64 a2_1] 66 (0, 0)) (by (with_reducible repeat (first | refine blk_drewN ?_ _ | refine blk_drew ?_ | refine blk_alloc ?_ _)); exact BK331.out) hb)
    have n3_ := Aside0.mk (below_step (by repeat (first | (with_reducible first | exact HB.out | apply below_alloc | apply pw_below_drewN | apply below_drew1 | refine below_set ?_ GE330.out | refine below_set ?_ GE331.out) | exact HB.out)) hb)
    clear BK330
    clear BK331
    clear HB
    have HO335 := n0_
    have BK330 := n1_
    have BK331 := n2_
    have HB := n3_
    clear n0_ n1_ n2_ n3_
    (try clear hb)
    (try clear hb2)
    (try clear hk)
    (try clear hi)
    (try clear ho0)
    obtain ⟨Ao13, co13, eo13⟩ := Kd.R_slice HO335.out
    (first | subst eo13 | (injection eo13 with f1_ f2_ f3_; have f4_ := f1_.symm; have f5_ := f3_.symm; clear f1_ f2_ f3_; subst f4_; subst f5_))
    refine hK.out _ _ ⟨(blk_cell BK330.out 0).trans rfl, (blk_cell BK330.out 1).trans rfl, (blk_cell BK331.out 0).trans rfl, (blk_cell BK331.out 1).trans rfl⟩ (fun hHeld => ?_)
    clear hK K
    refine norm_ (a' := ?_) ?_ ?_
    rotate_left
    · show Act.put _ (some 15) _ = _
      simp only [Act.put, List.setIfInBounds_toArray, List.set_cons_zero, List.set_cons_succ, i64_w, i32_w]
      rfl
    refine one_ (i := 8) (N := some 17) #[true, true, true, true, true, true, true, true, true, false, false] rfl rfl (one_of HT_.out (by kernel_rfl)) (by decide) (fun K hK => ?_)
    refine goes_ Try.func42 (by kernel_rfl) rfl #[.agg #[.slice Ao13 t333.length co13, .int .i64 t336], .agg #[.slice A2_0 l2_0.length c2_0, .int .i64 a2_1]] (by rfl) rfl rfl (by (try simp only [List.map_toArray, List.map_cons, List.map_nil]); first | done | rfl | (simp only [List.length_drop, List.length_take]; rfl)) ?_
    with_reducible refine (weftlineref14_Same.calls k _ _ t333 t336 _ _ l2_0 a2_1 t337 _ ?side1 ?side2 ?side3 ?side4 A8.out).mono ?_
    (case side1 => repeat (first | exact (Kd.R_reads' HO335.out).2.2 | (with_reducible refine Kd.C_alloc ?_ _) | (with_reducible refine Kd.C_drewN ?_ _) | (with_reducible refine Kd.C_drew ?_)))
    (case side2 => exact (Kd.R_reads' HO335.out).2.1)
    (case side3 => repeat (first | exact (Kd.C_below HR2_0.out HB.out) | (with_reducible refine Kd.C_alloc ?_ _) | (with_reducible refine Kd.C_drewN ?_ _) | (with_reducible refine Kd.C_drew ?_)))
    (case side4 => exact HC2_0.out)
    rintro e w14 ⟨rfl, hb⟩
    refine ⟨_, rfl, ?_⟩
    have n0_ := Aside0.mk (Kd.R_below (by (with_reducible repeat (first | apply Kd.R_alloc | apply Kd.R_drewN | apply Kd.R_drew)); exact HO335.out) hb)
    have n1_ := Aside0.mk (blk_below (g := gb330) (o := .cells #[.slice A0_0 l0_0.length c0_0, .int .i64 a0_1] 70 (0, 0)) (by (with_reducible repeat (first | refine blk_drewN ?_ _ | refine blk_drew ?_ | refine blk_alloc ?_ _)); exact BK330.out) hb)
    have n2_ := Aside0.mk (blk_below (g := gb331) (o := .cells #[.slice A2_0 l2_0.length c2_0, .int .i64 a2_1] 66 (0, 0)) (by (with_reducible repeat (first | refine blk_drewN ?_ _ | refine blk_drew ?_ | refine blk_alloc ?_ _)); exact BK331.out) hb)
    have n3_ := Aside0.mk (below_step (by repeat (first | (with_reducible first | exact HB.out | apply below_alloc | apply pw_below_drewN | apply below_drew1 | refine below_set ?_ GE330.out | refine below_set ?_ GE331.out) | exact HB.out)) hb)
    clear HO335
    clear BK330
    clear BK331
    clear HB
    have HO335 := n0_
    have BK330 := n1_
    have BK331 := n2_
    have HB := n3_
    clear n0_ n1_ n2_ n3_
    (try clear hb)
    (try clear hb2)
    (try clear hk)
    (try clear hi)
    refine hK.out _ _ ⟨(blk_cell BK330.out 0).trans rfl, (blk_cell BK330.out 1).trans rfl, (blk_cell BK331.out 0).trans rfl, (blk_cell BK331.out 1).trans rfl⟩ (fun hHeld => ?_)
    clear hK K
    refine norm_ (a' := ?_) ?_ ?_
    rotate_left
    · show Act.put _ (some 17) _ = _
      simp only [Act.put, List.setIfInBounds_toArray, List.set_cons_zero, List.set_cons_succ, i64_w, i32_w]
      rfl
    refine pure_ (i := 9) (N := some 18) (v := ?_) (a' := ?_) #[true, true, true, true, true, true, true, true, true, true, false] rfl rfl (any_of HT_.out (by kernel_rfl)) (fun _ _ _ h => h) (Or.inl ⟨by rfl, ?_⟩) ?_ ?_
    rotate_left
    · intro w'
      go_simp
      with_reducible rfl
    rotate_left
    · simp only [Act.put, List.setIfInBounds_toArray, List.set_cons_zero, List.set_cons_succ, i64_w, i32_w]
      rfl
    refine pure_ (i := 10) (N := some 8) (v := ?_) (a' := ?_) #[true, true, true, true, true, true, true, true, true, true, true] rfl rfl (any_of HT_.out (by kernel_rfl)) (fun _ _ _ h => h) (Or.inl ⟨by rfl, ?_⟩) ?_ ?_
    rotate_left
    · intro w'
      go_simp
      with_reducible rfl
    rotate_left
    · simp only [Act.put, List.setIfInBounds_toArray, List.set_cons_zero, List.set_cons_succ, i64_w, i32_w]
      rfl
    refine done_ (done_of HT_.out (by kernel_rfl)) ?_
    try go_wp2
    go_ret
    exact ⟨by first | rfl | (simp [errW_none, errW_some] <;> rfl) | (simp [*, errW_none, errW_some] <;> rfl), by repeat (first | (with_reducible first | exact HB.out | apply below_alloc | apply pw_below_drewN | apply below_drew1 | refine below_set ?_ GE330.out | refine below_set ?_ GE331.out) | exact HB.out)⟩
  · rw [if_neg c6] at H
    have c6b0 : (t332 == a3) = false := beq_eq_false_iff_ne.mpr c6
    have c6b1 : (t332 != a3) = true := bne_iff_ne.mpr c6
    obtain rfl := Option.some.inj H
    go_enter Try.func41, Try.ntmps41
    try go_wp2_with (first | ((with_reducible refine gate_dst (N := 4) rfl ?_); refine box_event ?hg (N := 4) ?hd (cs := #[.slice A0_0 l0_0.length c0_0, .int .i64 a0_1]) (t := 70) ?hr ?_; (case hd => rfl); (case hg => rfl); (case hr => first | (go_simp; done) | (go_simp; rfl)); intro gb330 hg w15 hbox hb; have n0_ := Aside0.mk (below_step (by repeat (first | (with_reducible first | exact HB.out | apply below_alloc | apply pw_below_drewN | apply below_drew1) | exact HB.out)) hb); have n1_ := Aside0.mk (hbox); have n2_ := Aside0.mk ((by rw [hg]; exact (below_size (by repeat (first | (with_reducible first | exact HB.out | apply below_alloc | apply pw_below_drewN | apply below_drew1) | exact HB.out))) : w.heap.size ≤ gb330)); have n3_ := Aside0.mk ((by rw [hg]; exact (below_size (by repeat (first | (with_reducible first | exact HB.out | apply below_alloc | apply pw_below_drewN | apply below_drew1) | exact HB.out))) : w.heap.size ≤ gb330)); clear HB; have HB := n0_; have BK330 := n1_; have GW330 := n2_; have GE330 := n3_; clear n0_ n1_ n2_ n3_; clear hb hbox hg) | ((with_reducible refine gate_dst (N := 6) rfl ?_); refine box_event ?hg (N := 6) ?hd (cs := #[.slice A2_0 l2_0.length c2_0, .int .i64 a2_1]) (t := 66) ?hr ?_; (case hd => rfl); (case hg => rfl); (case hr => first | (go_simp; done) | (go_simp; rfl)); intro gb331 hg w16 hbox hb; have n0_ := Aside0.mk (blk_below (g := gb330) (o := .cells #[.slice A0_0 l0_0.length c0_0, .int .i64 a0_1] 70 (0, 0)) (by (with_reducible repeat (first | refine blk_drewN ?_ _ | refine blk_drew ?_ | refine blk_alloc ?_ _)); exact BK330.out) hb); have n1_ := Aside0.mk (below_step (by repeat (first | (with_reducible first | exact HB.out | apply below_alloc | apply pw_below_drewN | apply below_drew1 | refine below_set ?_ GE330.out) | exact HB.out)) hb); have n2_ := Aside0.mk (hbox); have n3_ := Aside0.mk ((by rw [hg]; exact (below_size (by repeat (first | (with_reducible first | exact HB.out | apply below_alloc | apply pw_below_drewN | apply below_drew1 | refine below_set ?_ GE330.out) | exact HB.out))) : w.heap.size ≤ gb331)); have n4_ := Aside0.mk ((by rw [hg]; exact (below_size (by repeat (first | (with_reducible first | exact HB.out | apply below_alloc | apply pw_below_drewN | apply below_drew1 | refine below_set ?_ GE330.out) | exact HB.out))) : w.heap.size ≤ gb331)); have n5_ := Aside0.mk ((by rw [hg]; exact Nat.ne_of_lt (blk_lt (g := gb330) (o := .cells #[.slice A0_0 l0_0.length c0_0, .int .i64 a0_1] 70 (0, 0)) (by (with_reducible repeat (first | refine blk_drewN ?_ _ | refine blk_drew ?_ | refine blk_alloc ?_ _)); exact BK330.out)) : gb330 ≠ gb331)); have n6_ := Aside0.mk ((by rw [hg]; exact Nat.ne_of_gt (blk_lt (g := gb330) (o := .cells #[.slice A0_0 l0_0.length c0_0, .int .i64 a0_1] 70 (0, 0)) (by (with_reducible repeat (first | refine blk_drewN ?_ _ | refine blk_drew ?_ | refine blk_alloc ?_ _)); exact BK330.out)) : gb331 ≠ gb330)); clear BK330; clear HB; have BK330 := n0_; have HB := n1_; have BK331 := n2_; have GW331 := n3_; have GE331 := n4_; have NB330_331 := n5_; have NB331_330 := n6_; clear n0_ n1_ n2_ n3_ n4_ n5_ n6_; clear hb hbox hg))
    have n0_ := Aside0.mk (blk_drew BK330.out)
    have n1_ := Aside0.mk (blk_drew BK331.out)
    have n2_ := Aside0.mk (below_drew1 HB.out)
    clear BK330
    clear BK331
    clear HB
    have BK330 := n0_
    have BK331 := n1_
    have HB := n2_
    clear n0_ n1_ n2_
    have CA5 := fun W => weftlinenum_Num.calls a1 t332 W A5.out
    try simp only [errW_none, errW_some] at CA5
    refine start_ (n := 11) (S := fun w' => True) (ds := []) #[false, false, false, false, false, false, false, false, false, false, false] (by kernel_rfl) rfl rfl trivial (fun hHeld => ?_); refine with_tabW weftlinelaw14_told.tab1 weftlinelaw14_told.bits1 (fun HT_ HW_ => ?_)
    generalize w16.drew = w17 at BK330 BK331 HB hHeld ⊢
    refine pure_ (i := 0) (N := some 9) (v := ?_) (a' := ?_) #[true, false, false, false, false, false, false, false, false, false, false] rfl rfl (any_of HT_.out (by kernel_rfl)) (fun _ _ _ h => h) (Or.inl ⟨by rfl, ?_⟩) ?_ ?_
    rotate_left
    · intro w'
      go_simp
      with_reducible rfl
    rotate_left
    · simp only [Act.put, List.setIfInBounds_toArray, List.set_cons_zero, List.set_cons_succ, i64_w, i32_w]
      rfl
    refine pure_ (i := 2) (N := some 11) (v := ?_) (a' := ?_) #[true, false, true, false, false, false, false, false, false, false, false] rfl rfl (any_of HT_.out (by kernel_rfl)) (fun _ _ _ h => h) (Or.inl ⟨by rfl, ?_⟩) ?_ ?_
    rotate_left
    · intro w'
      go_simp
      with_reducible rfl
    rotate_left
    · simp only [Act.put, List.setIfInBounds_toArray, List.set_cons_zero, List.set_cons_succ, i64_w, i32_w]
      rfl
    refine one_ (i := 1) (N := some 10) #[true, true, true, false, false, false, false, false, false, false, false] rfl rfl (one_of HT_.out (by kernel_rfl)) (by decide) (fun K hK => ?_)
    refine goes_ Try.func33 (by kernel_rfl) rfl #[errW a1] (by rfl) rfl rfl (by (try simp only [List.map_toArray, List.map_cons, List.map_nil]); first | done | rfl | (simp only [List.length_drop, List.length_take]; rfl)) ?_
    with_reducible refine (CA5 _).mono ?_
    rintro e w' ⟨rfl, ⟨nd, rfl⟩⟩
    refine ⟨_, rfl, ?_⟩
    refine hK.out _ _ trivial (fun hHeld => ?_)
    clear hK K
    refine norm_ (a' := ?_) ?_ ?_
    rotate_left
    · show Act.put _ (some 10) _ = _
      simp only [Act.put, List.setIfInBounds_toArray, List.set_cons_zero, List.set_cons_succ, i64_w, i32_w]
      rfl
    refine pure_ (i := 3) (N := some 12) (v := ?_) (a' := ?_) #[true, true, true, true, false, false, false, false, false, false, false] rfl rfl (any_of HT_.out (by kernel_rfl)) (fun _ _ _ h => h) (Or.inl ⟨by rfl, ?_⟩) ?_ ?_
    rotate_left
    · intro w'
      go_simp
      with_reducible rfl
    rotate_left
    · simp only [Act.put, List.setIfInBounds_toArray, List.set_cons_zero, List.set_cons_succ, i64_w, i32_w]
      rfl
    refine pure_ (i := 4) (N := some 13) (v := ?_) (a' := ?_) #[true, true, true, true, true, false, false, false, false, false, false] rfl rfl (any_of HT_.out (by kernel_rfl)) (fun _ _ _ h => h) (Or.inl ⟨by rfl, ?_⟩) ?_ ?_
    rotate_left
    · intro w'
      go_simp
      with_reducible rfl
    rotate_left
    · simp only [Act.put, List.setIfInBounds_toArray, List.set_cons_zero, List.set_cons_succ, i64_w, i32_w]
      rfl
    refine pure_ (i := 5) (N := some 14) (v := undef) (a' := ?_) #[true, true, true, true, true, true, false, false, false, false, false] rfl rfl (any_of HT_.out (by kernel_rfl)) (fun _ _ _ h => h) (Or.inr ⟨by rfl, rfl⟩) ?_ ?_
    rotate_left
    · simp only [Act.put, List.setIfInBounds_toArray, List.set_cons_zero, List.set_cons_succ, i64_w, i32_w]
      rfl
    refine pure_ (i := 6) (N := some 15) (v := undef) (a' := ?_) #[true, true, true, true, true, true, true, false, false, false, false] rfl rfl (any_of HT_.out (by kernel_rfl)) (fun _ _ _ h => h) (Or.inr ⟨by rfl, rfl⟩) ?_ ?_
    rotate_left
    · simp only [Act.put, List.setIfInBounds_toArray, List.set_cons_zero, List.set_cons_succ, i64_w, i32_w]
      rfl
    refine pure_ (i := 7) (N := some 16) (v := undef) (a' := ?_) #[true, true, true, true, true, true, true, true, false, false, false] rfl rfl (any_of HT_.out (by kernel_rfl)) (fun _ _ _ h => h) (Or.inr ⟨by rfl, rfl⟩) ?_ ?_
    rotate_left
    · simp only [Act.put, List.setIfInBounds_toArray, List.set_cons_zero, List.set_cons_succ, i64_w, i32_w]
      rfl
    refine pure_ (i := 8) (N := some 17) (v := undef) (a' := ?_) #[true, true, true, true, true, true, true, true, true, false, false] rfl rfl (any_of HT_.out (by kernel_rfl)) (fun _ _ _ h => h) (Or.inr ⟨by rfl, rfl⟩) ?_ ?_
    rotate_left
    · simp only [Act.put, List.setIfInBounds_toArray, List.set_cons_zero, List.set_cons_succ, i64_w, i32_w]
      rfl
    refine pure_ (i := 9) (N := some 18) (v := ?_) (a' := ?_) #[true, true, true, true, true, true, true, true, true, true, false] rfl rfl (any_of HT_.out (by kernel_rfl)) (fun _ _ _ h => h) (Or.inl ⟨by rfl, ?_⟩) ?_ ?_
    rotate_left
    · intro w'
      go_simp
      with_reducible rfl
    rotate_left
    · simp only [Act.put, List.setIfInBounds_toArray, List.set_cons_zero, List.set_cons_succ, i64_w, i32_w]
      rfl
    refine pure_ (i := 10) (N := some 8) (v := ?_) (a' := ?_) #[true, true, true, true, true, true, true, true, true, true, true] rfl rfl (any_of HT_.out (by kernel_rfl)) (fun _ _ _ h => h) (Or.inl ⟨by rfl, ?_⟩) ?_ ?_
    rotate_left
    · intro w'
      go_simp
      with_reducible rfl
    rotate_left
    · simp only [Act.put, List.setIfInBounds_toArray, List.set_cons_zero, List.set_cons_succ, i64_w, i32_w]
      rfl
    refine done_ (done_of HT_.out (by kernel_rfl)) ?_
    try go_wp2
    go_ret
    exact ⟨by first | rfl | (simp [errW_none, errW_some] <;> rfl) | (simp [*, errW_none, errW_some] <;> rfl), by repeat (first | (with_reducible first | exact HB.out | apply below_alloc | apply pw_below_drewN | apply below_drew1 | refine below_set ?_ GE330.out | refine below_set ?_ GE331.out) | exact HB.out)⟩

end Go.Proofs.Ytblooffiggciiaa.PPs
/- PsR -/
namespace Go.Proofs.Ytblooffiggciiaa.Ps
open Go.RowKit Go.Proofs.Ytblooffiggciiaa.PPs Go.Proofs.YtblooffiggciiaaW.PrintWords Go.Proofs.YtblooffiggciiaaW.PrintLast Go.Proofs.YtblooffiggciiaaW.PrintMore Go.Proofs.Ytblooffiggciiaa.Sh
set_option linter.unusedVariables false
set_option linter.unusedSimpArgs false
/-- A path of the document's as the program's, and back. -/
def cv (x : S29) : S34 := ⟨⟨x.f0.f0, x.f0.f1, x.f0.f2, x.f0.f3⟩, ⟨x.f1.f0, x.f1.f1, x.f1.f2⟩, x.f2, x.f3, x.f4, x.f5⟩
def vc (x : S34) : S29 := ⟨⟨x.f0.f0, x.f0.f1, x.f0.f2, x.f0.f3⟩, ⟨x.f1.f0, x.f1.f1, x.f1.f2⟩, x.f2, x.f3, x.f4, x.f5⟩
theorem rd29 (l : List S29) (j : Nat) (h : j < l.length) : rd_T29 l (j : Int) = l[j] := by
  unfold rd_T29; rw [Int.toNat_natCast, List.getD_eq_getElem?_getD, List.getElem?_eq_getElem h]; rfl
theorem rd34 (l : List S34) (j : Nat) (h : j < l.length) : rd_T34 l (j : Int) = l[j] := by
  unfold rd_T34; rw [Int.toNat_natCast, List.getD_eq_getElem?_getD, List.getElem?_eq_getElem h]; rfl
theorem next_i (j : Nat) (h : j ≤ 1000) : wrap64 ((j : Int) + 1) = ((j + 1 : Nat) : Int) := by rw [w64 (by omega) (by omega)]; rfl
theorem prog_l (l : List S29) (p : Int) (hl : l.length ≤ 1000) : ∀ (n j k : Nat) (acc : List S34), j + n = l.length → n < k → acc.length = j → weftlinelaw14_Program.l0 k l (l.length : Int) (j : Int) acc p = some (acc ++ (l.drop j).map cv, p)
  | 0, j, k + 1, acc, h, _, _ => by
    have : j = l.length := by omega
    subst this
    simp [weftlinelaw14_Program.l0]
  | n + 1, j, k + 1, acc, h, hk, ha => by
    have hj : j < l.length := by omega
    rw [weftlinelaw14_Program.l0, if_pos (by omega), if_pos (by omega), if_pos (by omega)]
    simp only [weftlinelaw13_Program.f, Option.bind_some]
    rw [if_pos (by omega), next_i j (by omega), prog_l l p hl n (j + 1) k _ (by omega) (by omega) (by simp [ha]), rd29 l j hj]
    conv => rhs; rw [List.drop_eq_getElem_cons hj, List.map_cons]
    rw [List.append_assoc]
    rfl
theorem prog_f {l : List S29} {p : Int} {k : Nat} (hl : l.length ≤ 1000) (hk : l.length < k) : weftlinelaw14_Program.f k l p = some (l.map cv, p) := by
  have := prog_l l p hl l.length 0 k [] (by omega) hk rfl
  unfold weftlinelaw14_Program.f
  simpa using this
theorem doc_l (l : List S34) (p : Int) (hl : l.length ≤ 1000) : ∀ (n j k : Nat) (acc : List S29), j + n = l.length → n < k → acc.length = j → weftlinelaw14_Document.l0 k l (l.length : Int) (j : Int) acc p = some (acc ++ (l.drop j).map vc, p)
  | 0, j, k + 1, acc, h, _, _ => by
    have : j = l.length := by omega
    subst this
    simp [weftlinelaw14_Document.l0]
  | n + 1, j, k + 1, acc, h, hk, ha => by
    have hj : j < l.length := by omega
    rw [weftlinelaw14_Document.l0, if_pos (by omega), if_pos (by omega), if_pos (by omega)]
    simp only [weftlinelaw13_Document.f, Option.bind_some]
    rw [if_pos (by omega), next_i j (by omega), doc_l l p hl n (j + 1) k _ (by omega) (by omega) (by simp [ha]), rd34 l j hj]
    conv => rhs; rw [List.drop_eq_getElem_cons hj, List.map_cons]
    rw [List.append_assoc]
    rfl
theorem doc_f {l : List S34} {p : Int} {k : Nat} (hl : l.length ≤ 1000) (hk : l.length < k) : weftlinelaw14_Document.f k l p = some (l.map vc, p) := by
  have := doc_l l p hl l.length 0 k [] (by omega) hk rfl
  unfold weftlinelaw14_Document.f
  simpa using this
theorem find_l (l : List S29) (p a : Int) (hl : l.length ≤ 1000) : ∀ (n j k : Nat), j + n = l.length → n < k → weftlineref14_find.l0 k a (j : Int) l p = some (ixF (fun x => x.f2 == a) ((l.map cv).drop j) j)
  | 0, j, k + 1, h, _ => by
    have : j = l.length := by omega
    subst this
    rw [weftlineref14_find.l0, if_neg (by omega), List.drop_of_length_le (by simp)]; rfl
  | n + 1, j, k + 1, h, hk => by
    have hj : j < l.length := by omega
    rw [weftlineref14_find.l0, if_pos (by omega), if_pos (by omega), rd29 l j hj, List.drop_eq_getElem_cons (by simpa using hj)]
    have he : (l.map cv)[j]'(by simpa using hj) = cv l[j] := by simp
    rw [he]
    show _ = some (if ((cv l[j]).f2 == a) = true then (j : Int) else ixF (fun x => x.f2 == a) ((l.map cv).drop (j + 1)) ((j : Int) + 1))
    by_cases hc : l[j].f2 = a
    · rw [if_pos hc, if_pos (by simpa [cv] using hc)]
    · rw [if_neg hc, if_neg (by simpa [cv] using hc), next_i j (by omega), find_l l p a hl n (j + 1) k (by omega) (by omega)]
      rfl
theorem find_f {l : List S29} {p a : Int} {k : Nat} (hl : l.length ≤ 1000) (hk : l.length < k) : weftlineref14_find.f k l p a = some (plc (l.map cv) a) := by
  have := find_l l p a hl l.length 0 k (by omega) hk
  unfold weftlineref14_find.f
  simpa [plc] using this
theorem ixF_le (p : S34 → Bool) : ∀ (l : List S34) (k : Int) (j : Nat), j < l.length → p (l.getD j z34) = true → k ≤ ixF p l k ∧ ixF p l k ≤ k + j
  | [], _, _, h, _ => absurd h (by simp)
  | x :: l, k, 0, _, h => by
    show k ≤ (if p x = true then k else ixF p l (k + 1)) ∧ (if p x = true then k else ixF p l (k + 1)) ≤ _
    rw [if_pos (by simpa using h)]; simp
  | x :: l, k, j + 1, h, hp => by
    have ih := ixF_le p l (k + 1) j (by simpa using h) (by simpa using hp)
    show k ≤ (if p x = true then k else ixF p l (k + 1)) ∧ (if p x = true then k else ixF p l (k + 1)) ≤ _
    by_cases hx : p x = true
    · rw [if_pos hx]; simp; omega
    · rw [if_neg hx]; constructor <;> (have := ih.1; have := ih.2; omega)
theorem plc_le {l : List S34} {j : Nat} (h : j < l.length) : 0 ≤ plc l (l.getD j z34).f2 ∧ plc l (l.getD j z34).f2 ≤ j := by
  have := ixF_le (fun x => x.f2 == (l.getD j z34).f2) l 0 j h (by simp)
  unfold plc
  omega
/-- The j-th path is good, and none ahead of it has its address. -/
def okj (l : List S34) (j : Nat) : Bool := decide (G (l.getD j z34)) && (plc l (l.getD j z34).f2 == (j : Int))
theorem cvD (l : List S29) (j : Nat) (h : j < l.length) : (l.map cv).getD j z34 = cv l[j] := by
  rw [List.getD_eq_getElem?_getD, List.getElem?_map, List.getElem?_eq_getElem h]; rfl
theorem good_l (l : List S29) (p : Int) (hl : l.length ≤ 1000) : ∀ (n j k : Nat), j + n = l.length → n + l.length + 1 < k → weftlineref14_Good.l0 k (j : Int) l p = some ((List.range' j n).all (okj (l.map cv)))
  | 0, j, k + 1, h, _ => by
    have : j = l.length := by omega
    subst this
    rw [weftlineref14_Good.l0, if_neg (by omega)]; rfl
  | n + 1, j, k + 1, h, hk => by
    have hj : j < l.length := by omega
    obtain ⟨k2, rfl⟩ : ∃ k2, k = k2 + 1 := ⟨k - 1, by omega⟩
    have hle := plc_le (l := l.map cv) (j := j) (by simpa using hj)
    rw [cvD l j hj] at hle
    rw [weftlineref14_Good.l0, if_pos (by omega), if_pos (by omega), rd29 l j hj, qrefgood, find_f hl (by omega)]
    simp only [Option.bind_some, List.range'_succ, List.all_cons]
    have ho : okj (l.map cv) j = (decide (G (cv l[j])) && (plc (l.map cv) (l[j]).f2 == (j : Int))) := by
      unfold okj; rw [cvD l j hj]; rfl
    rw [ho]
    by_cases hg : G (cv l[j])
    · rw [decide_eq_true hg, decide_eq_true (show goodQ l[j].f0.f0 l[j].f0.f1 l[j].f0.f2 l[j].f0.f3 l[j].f1.f0 l[j].f1.f1 l[j].f1.f2 l[j].f2 l[j].f3 l[j].f4 l[j].f5 from hg), if_pos rfl]
      by_cases hp : plc (l.map cv) (l[j]).f2 < j
      · rw [if_pos hp, beq_eq_false_iff_ne.mpr (by omega)]; rfl
      · rw [if_neg hp, show plc (l.map cv) (l[j]).f2 = (j : Int) from by have := hle.2; simp only [cv] at this; omega, next_i j (by omega), good_l l p hl n (j + 1) (k2 + 1) (by omega) (by omega)]
        simp
    · rw [decide_eq_false hg, decide_eq_false (show ¬ goodQ l[j].f0.f0 l[j].f0.f1 l[j].f0.f2 l[j].f0.f3 l[j].f1.f0 l[j].f1.f1 l[j].f1.f2 l[j].f2 l[j].f3 l[j].f4 l[j].f5 from hg), if_neg (by simp)]; rfl
theorem okj_all (l : List S34) : (List.range' 0 l.length).all (okj l) = (!tw l && !l.any fun x => !decide (G x)) := by
  rw [Bool.eq_iff_iff]
  simp only [List.all_eq_true, Bool.and_eq_true, Bool.not_eq_true', tw, List.any_eq_false, okj, decide_eq_true_eq, beq_iff_eq]
  constructor
  · intro h
    refine ⟨fun i hi => ?_, fun x hx => ?_⟩
    · have := (h i (by simpa using hi)).2
      rw [this]; simp
    · obtain ⟨i, hi, rfl⟩ := List.getElem_of_mem hx
      have := (h i (by simpa using hi)).1
      rw [List.getD_eq_getElem?_getD, List.getElem?_eq_getElem hi] at this
      simpa using this
  · rintro ⟨h1, h2⟩ i hi
    have hi2 : i < l.length := by simpa using hi
    refine ⟨?_, by simpa using h1 i (by simpa using hi)⟩
    have := h2 _ (List.getElem_mem hi2)
    rw [List.getD_eq_getElem?_getD, List.getElem?_eq_getElem hi2]
    simpa using this
theorem good_f {l : List S29} {p : Int} {k : Nat} (hl : l.length ≤ 1000) (hk : 2 * l.length + 3 < k) : weftlineref14_Good.f k l p = some (gdb (l.map cv) p) := by
  obtain ⟨k2, rfl⟩ : ∃ k2, k = k2 + 1 := ⟨k - 1, by omega⟩
  have hT : ∀ b, weftlineref14_Good.j0 (k2 + 1) b l p = some (!b && (!tw (l.map cv) && !(l.map cv).any fun x => !decide (G x))) := fun b => by
    rw [weftlineref14_Good.j0]
    cases b with
    | true => rfl
    | false =>
      have := good_l l p hl l.length 0 k2 (by omega) (by omega)
      rw [if_neg (by simp)]
      have e := okj_all (l.map cv)
      rw [List.length_map] at e
      rw [← e]
      simpa using this
  unfold weftlineref14_Good.f gdb
  simp only [hT, List.length_map]
  by_cases h1 : (l.length : Int) < 1
  · rw [if_pos h1, decide_eq_false (by omega)]; rfl
  · rw [if_neg h1]
    by_cases h2 : (l.length : Int) > 4
    · rw [if_pos h2, decide_eq_false (by omega)]; rfl
    · rw [if_neg h2]
      by_cases h3 : p < 0
      · rw [if_pos h3, decide_eq_false (by omega)]; rfl
      · rw [if_neg h3]
        by_cases h4 : p ≥ (l.length : Int)
        · rw [decide_eq_true h4, decide_eq_false (by omega)]; rfl
        · rw [decide_eq_false h4, decide_eq_true (by omega)]; simp
end Go.Proofs.Ytblooffiggciiaa.Ps
/- PPsx55 -/
namespace Go.Proofs.Ytblooffiggciiaa.PPs
open Go.RowKit Go.Proofs.YtblooffiggciiaaW.PrintWords Go.Proofs.YtblooffiggciiaaW.PrintLast Go.Proofs.YtblooffiggciiaaW.PrintMore
attribute [local go_sem] max2_int min2_int max_two min_two max_three min_three max_four min_four   -- for this text's walks alone
attribute [local go_sem] Go.Proofs.Ytblooffiggciiaa.Aid.isSome_setCell
set_option linter.unusedVariables false
set_option linter.unusedSimpArgs false
attribute [local go_sem high] eqA34 eqA60
def path_Path_86.l0 : Nat → List (S34) → List (S34) → Int → Int → Option (Bool)
  | 0, _, _, _, _ => none
  | k + 1, x0, x1, x12, x13 => if x13 < x12 then (if 0 ≤ x13 then (if x13 < (x0.length : Int) then (if x13 < (x1.length : Int) then (if ((!(((rd_T34 x0 x13).f0.f0) == ((rd_T34 x1 x13).f0.f0)) || (!(((rd_T34 x0 x13).f0.f1) == ((rd_T34 x1 x13).f0.f1)) || (!(((rd_T34 x0 x13).f0.f2) == ((rd_T34 x1 x13).f0.f2)) || (!(((rd_T34 x0 x13).f0.f3) == ((rd_T34 x1 x13).f0.f3)))))) || ((!(((rd_T34 x0 x13).f1.f0) == ((rd_T34 x1 x13).f1.f0)) || (!(((rd_T34 x0 x13).f1.f1) == ((rd_T34 x1 x13).f1.f1)) || (!(((rd_T34 x0 x13).f1.f2) == ((rd_T34 x1 x13).f1.f2))))) || (!(((rd_T34 x0 x13).f2) == ((rd_T34 x1 x13).f2)) || (!(((rd_T34 x0 x13).f3) == ((rd_T34 x1 x13).f3)) || (!(((rd_T34 x0 x13).f4) == ((rd_T34 x1 x13).f4)) || (!(((rd_T34 x0 x13).f5) == ((rd_T34 x1 x13).f5)))))))) = true then (some false) else (path_Path_86.l0 k x0 x1 x12 (wrap64 (x13 + 1)))) else (none)) else (none)) else (none)) else (some true)
def path_Path_86.f (k : Nat) (l0 : List (S34)) (l1 : List (S34)) : Option (Bool) := if (l0.length : Int) = (l1.length : Int) then (path_Path_86.l0 k l0 l1 (l0.length : Int) 0) else (some false)
set_option maxHeartbeats 8000000 in
set_option maxRecDepth 100000 in
theorem path_Path_86.calls (k : Nat) (A0 : Option Addr) (c0 : Nat) (l0 : List (S34)) (A1 : Option Addr) (c1 : Nat) (l1 : List (S34)) (r : Bool) (w : World) (hr0 : Kd.C k34 w A0 l0.length l0) (hc0 : l0.length ≤ c0) (hr1 : Kd.C k34 w A1 l1.length l1) (hc1 : l1.length ≤ c1) (h : path_Path_86.f k l0 l1 = some r) :
    Calls Try.prog 86 #[.slice A0 l0.length c0, .slice A1 l1.length c1] w fun e w' => e = .returned (.bool r) ∧ Drawn0 w w' := by
  have hu34 := Try.underlying34
  have HR0 := Aside0.mk hr0
  have HC0 := Aside0.mk hc0
  clear hr0 hc0
  have HR1 := Aside0.mk hr1
  have HC1 := Aside0.mk hc1
  clear hr1 hc1
  have H : (if (l0.length : Int) = (l1.length : Int) then (path_Path_86.l0 k l0 l1 (l0.length : Int) 0) else (some false)) = some r := h
  clear h
  by_cases c3 : (l0.length : Int) = (l1.length : Int)
  · rw [if_pos c3] at H
    have c3b0 : ((l0.length : Int) == (l1.length : Int)) = true := beq_iff_eq.mpr c3
    have c3b1 : ((l0.length : Int) != (l1.length : Int)) = false := bne_eq_false_iff_eq.mpr c3
    have c3b2 : (l0.length == l1.length) = true := by first | simpa using c3 | (simp at c3 ⊢; omega)
    clear c3
    have H' := Aside0.mk H
    clear H
    go_enter Try.func86, Try.ntmps86
    go_wp2
    repeat (go_quiet (fail); try go_wp2)
    go_loopg [13] k (fun kq v13 w' => ∃ (x13_1 : Int), v13 = .int .i64 x13_1 ∧ Aside0 (path_Path_86.l0 kq l0 l1 (l0.length : Int) x13_1 = some r) ∧ Aside0 (kq ≤ k) ∧ Drawn0 w w')
    case atStart => exact ⟨(0), (by first | rfl | (simp; done) | (simp [*]; done)), H', ⟨Nat.le_refl _⟩, by repeat (first | exact Drawn0.refl _ | apply Drawn0.step)⟩
    case round =>
      clear H'
      try clear c1
      try clear p2
      try clear c3
      try clear c3b0
      try clear c3b1
      try clear c3b2
      obtain ⟨x13_1, rfl, HA, HK1, ⟨m1, rfl⟩⟩ := hrel
      cases gk with
      | zero => exact absurd HA.out (by simp [path_Path_86.l0])
      | succ k1 =>
        have H := HA.out
        clear HA
        simp only [path_Path_86.l0] at H
        by_cases c4 : x13_1 < (l0.length : Int)
        · rw [if_pos c4] at H
          have c4b0 : decide (x13_1 < (l0.length : Int)) = true := decide_eq_true c4
          clear c4
          by_cases c5 : 0 ≤ x13_1
          · rw [if_pos c5] at H
            have c5b0 : decide (0 ≤ x13_1) = true := decide_eq_true c5
            clear c5
            by_cases c6 : x13_1 < (l0.length : Int)
            · rw [if_pos c6] at H
              have c6b0 : decide (x13_1 < (l0.length : Int)) = true := decide_eq_true c6
              clear c6
              by_cases c7 : x13_1 < (l1.length : Int)
              · rw [if_pos c7] at H
                have c7b0 : decide (x13_1 < (l1.length : Int)) = true := decide_eq_true c7
                clear c7
                by_cases c8 : ((!(((rd_T34 l0 x13_1).f0.f0) == ((rd_T34 l1 x13_1).f0.f0)) || (!(((rd_T34 l0 x13_1).f0.f1) == ((rd_T34 l1 x13_1).f0.f1)) || (!(((rd_T34 l0 x13_1).f0.f2) == ((rd_T34 l1 x13_1).f0.f2)) || (!(((rd_T34 l0 x13_1).f0.f3) == ((rd_T34 l1 x13_1).f0.f3)))))) || ((!(((rd_T34 l0 x13_1).f1.f0) == ((rd_T34 l1 x13_1).f1.f0)) || (!(((rd_T34 l0 x13_1).f1.f1) == ((rd_T34 l1 x13_1).f1.f1)) || (!(((rd_T34 l0 x13_1).f1.f2) == ((rd_T34 l1 x13_1).f1.f2))))) || (!(((rd_T34 l0 x13_1).f2) == ((rd_T34 l1 x13_1).f2)) || (!(((rd_T34 l0 x13_1).f3) == ((rd_T34 l1 x13_1).f3)) || (!(((rd_T34 l0 x13_1).f4) == ((rd_T34 l1 x13_1).f4)) || (!(((rd_T34 l0 x13_1).f5) == ((rd_T34 l1 x13_1).f5)))))))) = true
                · rw [if_pos c8] at H
                  have c8b0 : ((!(((rd_T34 l0 x13_1).f0.f0) == ((rd_T34 l1 x13_1).f0.f0)) || (!(((rd_T34 l0 x13_1).f0.f1) == ((rd_T34 l1 x13_1).f0.f1)) || (!(((rd_T34 l0 x13_1).f0.f2) == ((rd_T34 l1 x13_1).f0.f2)) || (!(((rd_T34 l0 x13_1).f0.f3) == ((rd_T34 l1 x13_1).f0.f3)))))) || ((!(((rd_T34 l0 x13_1).f1.f0) == ((rd_T34 l1 x13_1).f1.f0)) || (!(((rd_T34 l0 x13_1).f1.f1) == ((rd_T34 l1 x13_1).f1.f1)) || (!(((rd_T34 l0 x13_1).f1.f2) == ((rd_T34 l1 x13_1).f1.f2))))) || (!(((rd_T34 l0 x13_1).f2) == ((rd_T34 l1 x13_1).f2)) || (!(((rd_T34 l0 x13_1).f3) == ((rd_T34 l1 x13_1).f3)) || (!(((rd_T34 l0 x13_1).f4) == ((rd_T34 l1 x13_1).f4)) || (!(((rd_T34 l0 x13_1).f5) == ((rd_T34 l1 x13_1).f5)))))))) = true := c8
                  clear c8
                  obtain rfl := Option.some.inj H
                  have p338 : 0 ≤ (x13_1 : Int) := of_decide_eq_true (by first | (with_reducible assumption) | assumption)
                  have q338 : x13_1 < (l0.length : Int) := of_decide_eq_true (by first | (with_reducible assumption) | assumption)
                  obtain ⟨ad338, e338, hx338_0, hx338_1, hx338_2, hx338_3, hx338_4, hx338_5, hx338_6, hx338_7, hx338_8, hx338_9, hx338_10⟩ := at_T34 HR0.out x13_1 p338 q338
                  cases e338
                  replace p338 := eq_true p338
                  replace q338 := eq_true q338
                  have p339 : 0 ≤ (x13_1 : Int) := of_decide_eq_true (by first | (with_reducible assumption) | assumption)
                  have q339 : x13_1 < (l1.length : Int) := of_decide_eq_true (by first | (with_reducible assumption) | assumption)
                  obtain ⟨ad339, e339, hx339_0, hx339_1, hx339_2, hx339_3, hx339_4, hx339_5, hx339_6, hx339_7, hx339_8, hx339_9, hx339_10⟩ := at_T34 HR1.out x13_1 p339 q339
                  cases e339
                  replace p339 := eq_true p339
                  replace q339 := eq_true q339
                  go_wp2
                  repeat (go_quiet (fail); try go_wp2)
                  go_ret
                  exact ⟨by first | rfl | (simp; done) | (simp [*]; done), by repeat (first | exact Drawn0.refl _ | apply Drawn0.step)⟩
                · rw [if_neg c8] at H
                  have c8b0 : ((!(((rd_T34 l0 x13_1).f0.f0) == ((rd_T34 l1 x13_1).f0.f0)) || (!(((rd_T34 l0 x13_1).f0.f1) == ((rd_T34 l1 x13_1).f0.f1)) || (!(((rd_T34 l0 x13_1).f0.f2) == ((rd_T34 l1 x13_1).f0.f2)) || (!(((rd_T34 l0 x13_1).f0.f3) == ((rd_T34 l1 x13_1).f0.f3)))))) || ((!(((rd_T34 l0 x13_1).f1.f0) == ((rd_T34 l1 x13_1).f1.f0)) || (!(((rd_T34 l0 x13_1).f1.f1) == ((rd_T34 l1 x13_1).f1.f1)) || (!(((rd_T34 l0 x13_1).f1.f2) == ((rd_T34 l1 x13_1).f1.f2))))) || (!(((rd_T34 l0 x13_1).f2) == ((rd_T34 l1 x13_1).f2)) || (!(((rd_T34 l0 x13_1).f3) == ((rd_T34 l1 x13_1).f3)) || (!(((rd_T34 l0 x13_1).f4) == ((rd_T34 l1 x13_1).f4)) || (!(((rd_T34 l0 x13_1).f5) == ((rd_T34 l1 x13_1).f5)))))))) = false := by simpa using c8
                  clear c8
                  have H' := Aside0.mk H
                  clear H
                  have p338 : 0 ≤ (x13_1 : Int) := of_decide_eq_true (by first | (with_reducible assumption) | assumption)
                  have q338 : x13_1 < (l0.length : Int) := of_decide_eq_true (by first | (with_reducible assumption) | assumption)
                  obtain ⟨ad338, e338, hx338_0, hx338_1, hx338_2, hx338_3, hx338_4, hx338_5, hx338_6, hx338_7, hx338_8, hx338_9, hx338_10⟩ := at_T34 HR0.out x13_1 p338 q338
                  cases e338
                  replace p338 := eq_true p338
                  replace q338 := eq_true q338
                  have p339 : 0 ≤ (x13_1 : Int) := of_decide_eq_true (by first | (with_reducible assumption) | assumption)
                  have q339 : x13_1 < (l1.length : Int) := of_decide_eq_true (by first | (with_reducible assumption) | assumption)
                  obtain ⟨ad339, e339, hx339_0, hx339_1, hx339_2, hx339_3, hx339_4, hx339_5, hx339_6, hx339_7, hx339_8, hx339_9, hx339_10⟩ := at_T34 HR1.out x13_1 p339 q339
                  cases e339
                  replace p339 := eq_true p339
                  replace q339 := eq_true q339
                  go_wp2
                  repeat (go_quiet (fail); try go_wp2)
                  go_roundg k1
                  case measure => have := HK1.out; omega
                  case rel => exact ⟨(wrap64 (x13_1 + 1)), (by first | rfl | (simp; done) | (simp [*]; done)), H', ⟨by have := HK1.out; omega⟩, by repeat (first | exact Drawn0.refl _ | apply Drawn0.step)⟩
              · rw [if_neg c7] at H
                exact absurd H (by simp)
            · rw [if_neg c6] at H
              exact absurd H (by simp)
          · rw [if_neg c5] at H
            exact absurd H (by simp)
        · rw [if_neg c4] at H
          have c4b0 : decide (x13_1 < (l0.length : Int)) = false := decide_eq_false c4
          clear c4
          obtain rfl := Option.some.inj H
          go_wp2
          repeat (go_quiet (fail); try go_wp2)
          go_ret
          exact ⟨by first | rfl | (simp; done) | (simp [*]; done), by repeat (first | exact Drawn0.refl _ | apply Drawn0.step)⟩
  · rw [if_neg c3] at H
    have c3b0 : ((l0.length : Int) == (l1.length : Int)) = false := beq_eq_false_iff_ne.mpr c3
    have c3b1 : ((l0.length : Int) != (l1.length : Int)) = true := bne_iff_ne.mpr c3
    have c3b2 : (l0.length == l1.length) = false := by first | simpa using c3 | (simp at c3 ⊢; omega)
    obtain rfl := Option.some.inj H
    go_enter Try.func86, Try.ntmps86
    go_wp2
    repeat (go_quiet (fail); try go_wp2)
    go_ret
    exact ⟨by first | rfl | (simp; done) | (simp [*]; done), by repeat (first | exact Drawn0.refl _ | apply Drawn0.step)⟩

end Go.Proofs.Ytblooffiggciiaa.PPs
/- PPsx56 -/
namespace Go.Proofs.Ytblooffiggciiaa.PPs
open Go.RowKit Go.Proofs.YtblooffiggciiaaW.PrintWords Go.Proofs.YtblooffiggciiaaW.PrintLast Go.Proofs.YtblooffiggciiaaW.PrintMore
attribute [local go_sem] max2_int min2_int max_two min_two max_three min_three max_four min_four   -- for this text's walks alone
attribute [local go_sem] Go.Proofs.Ytblooffiggciiaa.Aid.isSome_setCell
set_option linter.unusedVariables false
set_option linter.unusedSimpArgs false
def paths_Same.f (k : Nat) (l0_0 : List (S34)) (a0_1 : Int) (l1_0 : List (S34)) (a1_1 : Int) : Option (Bool) := if a0_1 = a1_1 then ((path_Path_86.f k l0_0 l1_0).bind fun t342 => (some t342)) else (some false)
set_option maxHeartbeats 8000000 in
set_option maxRecDepth 100000 in
theorem paths_Same.calls (k : Nat) (A0_0 : Option Addr) (c0_0 : Nat) (l0_0 : List (S34)) (a0_1 : Int) (A1_0 : Option Addr) (c1_0 : Nat) (l1_0 : List (S34)) (a1_1 : Int) (r : Bool) (w : World) (hr0_0 : Kd.C k34 w A0_0 l0_0.length l0_0) (hc0_0 : l0_0.length ≤ c0_0) (hr1_0 : Kd.C k34 w A1_0 l1_0.length l1_0) (hc1_0 : l1_0.length ≤ c1_0) (h : paths_Same.f k l0_0 a0_1 l1_0 a1_1 = some r) :
    Calls Try.prog 44 #[.agg #[.slice A0_0 l0_0.length c0_0, .int .i64 a0_1], .agg #[.slice A1_0 l1_0.length c1_0, .int .i64 a1_1]] w fun e w' => e = .returned (.bool r) ∧ Below w.heap.size w w' := by
  have hu70 := Try.underlying70
  have HR0_0 := Aside0.mk hr0_0
  have HC0_0 := Aside0.mk hc0_0
  clear hr0_0 hc0_0
  have HR1_0 := Aside0.mk hr1_0
  have HC1_0 := Aside0.mk hc1_0
  clear hr1_0 hc1_0
  have HB := Aside0.mk (Below.refl w.heap.size w)
  have H : (if a0_1 = a1_1 then ((path_Path_86.f k l0_0 l1_0).bind fun t342 => (some t342)) else (some false)) = some r := h
  clear h
  by_cases c3 : a0_1 = a1_1
  · rw [if_pos c3] at H
    have c3b0 : (a0_1 == a1_1) = true := beq_iff_eq.mpr c3
    have c3b1 : (a0_1 != a1_1) = false := bne_eq_false_iff_eq.mpr c3
    clear c3
    replace H := Option.bind_eq_some_iff.mp H
    obtain ⟨t342, A40, H⟩ := H
    replace H : (some t342) = some r := H
    have A4 := Aside0.mk A40
    clear A40
    obtain rfl := Option.some.inj H
    go_enter Try.func44, Try.ntmps44
    go_wp2_with (first | ((with_reducible refine gate_dst (N := 2) rfl ?_); refine box_event ?hg (N := 2) ?hd (cs := #[.slice A0_0 l0_0.length c0_0, .int .i64 a0_1]) (t := 70) ?hr ?_; (case hd => rfl); (case hg => rfl); (case hr => first | (go_simp; done) | (go_simp; rfl)); intro gb340 hg w5 hbox hb; have n0_ := Aside0.mk (below_step (by repeat (first | (with_reducible first | exact HB.out | apply below_alloc | apply pw_below_drewN | apply below_drew1) | exact HB.out)) hb); have n1_ := Aside0.mk (hbox); have n2_ := Aside0.mk ((by rw [hg]; exact (below_size (by repeat (first | (with_reducible first | exact HB.out | apply below_alloc | apply pw_below_drewN | apply below_drew1) | exact HB.out))) : w.heap.size ≤ gb340)); have n3_ := Aside0.mk ((by rw [hg]; exact (below_size (by repeat (first | (with_reducible first | exact HB.out | apply below_alloc | apply pw_below_drewN | apply below_drew1) | exact HB.out))) : w.heap.size ≤ gb340)); clear HB; have HB := n0_; have BK340 := n1_; have GW340 := n2_; have GE340 := n3_; clear n0_ n1_ n2_ n3_; clear hb hbox hg) | ((with_reducible refine gate_dst (N := 3) rfl ?_); refine box_event ?hg (N := 3) ?hd (cs := #[.slice A1_0 l1_0.length c1_0, .int .i64 a1_1]) (t := 70) ?hr ?_; (case hd => rfl); (case hg => rfl); (case hr => first | (go_simp; done) | (go_simp; rfl)); intro gb341 hg w6 hbox hb; have n0_ := Aside0.mk (blk_below (g := gb340) (o := .cells #[.slice A0_0 l0_0.length c0_0, .int .i64 a0_1] 70 (0, 0)) (by (with_reducible repeat (first | refine blk_drewN ?_ _ | refine blk_drew ?_ | refine blk_alloc ?_ _)); exact BK340.out) hb); have n1_ := Aside0.mk (below_step (by repeat (first | (with_reducible first | exact HB.out | apply below_alloc | apply pw_below_drewN | apply below_drew1 | refine below_set ?_ GE340.out) | exact HB.out)) hb); have n2_ := Aside0.mk (hbox); have n3_ := Aside0.mk ((by rw [hg]; exact (below_size (by repeat (first | (with_reducible first | exact HB.out | apply below_alloc | apply pw_below_drewN | apply below_drew1 | refine below_set ?_ GE340.out) | exact HB.out))) : w.heap.size ≤ gb341)); have n4_ := Aside0.mk ((by rw [hg]; exact (below_size (by repeat (first | (with_reducible first | exact HB.out | apply below_alloc | apply pw_below_drewN | apply below_drew1 | refine below_set ?_ GE340.out) | exact HB.out))) : w.heap.size ≤ gb341)); have n5_ := Aside0.mk ((by rw [hg]; exact Nat.ne_of_lt (blk_lt (g := gb340) (o := .cells #[.slice A0_0 l0_0.length c0_0, .int .i64 a0_1] 70 (0, 0)) (by (with_reducible repeat (first | refine blk_drewN ?_ _ | refine blk_drew ?_ | refine blk_alloc ?_ _)); exact BK340.out)) : gb340 ≠ gb341)); have n6_ := Aside0.mk ((by rw [hg]; exact Nat.ne_of_gt (blk_lt (g := gb340) (o := .cells #[.slice A0_0 l0_0.length c0_0, .int .i64 a0_1] 70 (0, 0)) (by (with_reducible repeat (first | refine blk_drewN ?_ _ | refine blk_drew ?_ | refine blk_alloc ?_ _)); exact BK340.out)) : gb341 ≠ gb340)); clear BK340; clear HB; have BK340 := n0_; have HB := n1_; have BK341 := n2_; have GW341 := n3_; have GE341 := n4_; have NB340_341 := n5_; have NB341_340 := n6_; clear n0_ n1_ n2_ n3_ n4_ n5_ n6_; clear hb hbox hg; have hnb7 := NB340_341.out; have hnc7 := NB341_340.out; have hcz8_0 : w6.cell? ⟨gb340, 0, none⟩ = some (.slice A0_0 l0_0.length c0_0) := (blk_cell BK340.out 0).trans rfl; have hcz8_1 : w6.cell? ⟨gb340, 1, none⟩ = some (.int .i64 a0_1) := (blk_cell BK340.out 1).trans rfl; have hfz8_0 := blk_frozen BK340.out 0; have hfz8_1 := blk_frozen BK340.out 1; have hcz9_0 : w6.cell? ⟨gb341, 0, none⟩ = some (.slice A1_0 l1_0.length c1_0) := (blk_cell BK341.out 0).trans rfl; have hcz9_1 : w6.cell? ⟨gb341, 1, none⟩ = some (.int .i64 a1_1) := (blk_cell BK341.out 1).trans rfl; have hfz9_0 := blk_frozen BK341.out 0; have hfz9_1 := blk_frozen BK341.out 1) | (go_at_call 86; (with_reducible refine (path_Path_86.calls k _ _ l0_0 _ _ l1_0 t342 _ ?side1 ?side2 ?side3 ?side4 A4.out).mono ?_); (case side1 => repeat (first | exact (Kd.C_below HR0_0.out HB.out) | (with_reducible refine Kd.C_alloc ?_ _) | (with_reducible refine Kd.C_drewN ?_ _) | (with_reducible refine Kd.C_drew ?_))); (case side2 => exact HC0_0.out); (case side3 => repeat (first | exact (Kd.C_below HR1_0.out HB.out) | (with_reducible refine Kd.C_alloc ?_ _) | (with_reducible refine Kd.C_drewN ?_ _) | (with_reducible refine Kd.C_drew ?_))); (case side4 => exact HC1_0.out); rintro e w' ⟨rfl, ⟨nd, rfl⟩⟩))
    go_ret
    exact ⟨by first | rfl | (simp [errW_none, errW_some] <;> rfl) | (simp [*, errW_none, errW_some] <;> rfl), by repeat (first | (with_reducible first | exact HB.out | apply below_alloc | apply pw_below_drewN | apply below_drew1 | refine below_set ?_ GE340.out | refine below_set ?_ GE341.out) | exact HB.out)⟩
  · rw [if_neg c3] at H
    have c3b0 : (a0_1 == a1_1) = false := beq_eq_false_iff_ne.mpr c3
    have c3b1 : (a0_1 != a1_1) = true := bne_iff_ne.mpr c3
    obtain rfl := Option.some.inj H
    go_enter Try.func44, Try.ntmps44
    go_wp2_with (first | ((with_reducible refine gate_dst (N := 2) rfl ?_); refine box_event ?hg (N := 2) ?hd (cs := #[.slice A0_0 l0_0.length c0_0, .int .i64 a0_1]) (t := 70) ?hr ?_; (case hd => rfl); (case hg => rfl); (case hr => first | (go_simp; done) | (go_simp; rfl)); intro gb340 hg w10 hbox hb; have n0_ := Aside0.mk (below_step (by repeat (first | (with_reducible first | exact HB.out | apply below_alloc | apply pw_below_drewN | apply below_drew1) | exact HB.out)) hb); have n1_ := Aside0.mk (hbox); have n2_ := Aside0.mk ((by rw [hg]; exact (below_size (by repeat (first | (with_reducible first | exact HB.out | apply below_alloc | apply pw_below_drewN | apply below_drew1) | exact HB.out))) : w.heap.size ≤ gb340)); have n3_ := Aside0.mk ((by rw [hg]; exact (below_size (by repeat (first | (with_reducible first | exact HB.out | apply below_alloc | apply pw_below_drewN | apply below_drew1) | exact HB.out))) : w.heap.size ≤ gb340)); clear HB; have HB := n0_; have BK340 := n1_; have GW340 := n2_; have GE340 := n3_; clear n0_ n1_ n2_ n3_; clear hb hbox hg) | ((with_reducible refine gate_dst (N := 3) rfl ?_); refine box_event ?hg (N := 3) ?hd (cs := #[.slice A1_0 l1_0.length c1_0, .int .i64 a1_1]) (t := 70) ?hr ?_; (case hd => rfl); (case hg => rfl); (case hr => first | (go_simp; done) | (go_simp; rfl)); intro gb341 hg w11 hbox hb; have n0_ := Aside0.mk (blk_below (g := gb340) (o := .cells #[.slice A0_0 l0_0.length c0_0, .int .i64 a0_1] 70 (0, 0)) (by (with_reducible repeat (first | refine blk_drewN ?_ _ | refine blk_drew ?_ | refine blk_alloc ?_ _)); exact BK340.out) hb); have n1_ := Aside0.mk (below_step (by repeat (first | (with_reducible first | exact HB.out | apply below_alloc | apply pw_below_drewN | apply below_drew1 | refine below_set ?_ GE340.out) | exact HB.out)) hb); have n2_ := Aside0.mk (hbox); have n3_ := Aside0.mk ((by rw [hg]; exact (below_size (by repeat (first | (with_reducible first | exact HB.out | apply below_alloc | apply pw_below_drewN | apply below_drew1 | refine below_set ?_ GE340.out) | exact HB.out))) : w.heap.size ≤ gb341)); have n4_ := Aside0.mk ((by rw [hg]; exact (below_size (by repeat (first | (with_reducible first | exact HB.out | apply below_alloc | apply pw_below_drewN | apply below_drew1 | refine below_set ?_ GE340.out) | exact HB.out))) : w.heap.size ≤ gb341)); have n5_ := Aside0.mk ((by rw [hg]; exact Nat.ne_of_lt (blk_lt (g := gb340) (o := .cells #[.slice A0_0 l0_0.length c0_0, .int .i64 a0_1] 70 (0, 0)) (by (with_reducible repeat (first | refine blk_drewN ?_ _ | refine blk_drew ?_ | refine blk_alloc ?_ _)); exact BK340.out)) : gb340 ≠ gb341)); have n6_ := Aside0.mk ((by rw [hg]; exact Nat.ne_of_gt (blk_lt (g := gb340) (o := .cells #[.slice A0_0 l0_0.length c0_0, .int .i64 a0_1] 70 (0, 0)) (by (with_reducible repeat (first | refine blk_drewN ?_ _ | refine blk_drew ?_ | refine blk_alloc ?_ _)); exact BK340.out)) : gb341 ≠ gb340)); clear BK340; clear HB; have BK340 := n0_; have HB := n1_; have BK341 := n2_; have GW341 := n3_; have GE341 := n4_; have NB340_341 := n5_; have NB341_340 := n6_; clear n0_ n1_ n2_ n3_ n4_ n5_ n6_; clear hb hbox hg; have hnb12 := NB340_341.out; have hnc12 := NB341_340.out; have hcz13_0 : w11.cell? ⟨gb340, 0, none⟩ = some (.slice A0_0 l0_0.length c0_0) := (blk_cell BK340.out 0).trans rfl; have hcz13_1 : w11.cell? ⟨gb340, 1, none⟩ = some (.int .i64 a0_1) := (blk_cell BK340.out 1).trans rfl; have hfz13_0 := blk_frozen BK340.out 0; have hfz13_1 := blk_frozen BK340.out 1; have hcz14_0 : w11.cell? ⟨gb341, 0, none⟩ = some (.slice A1_0 l1_0.length c1_0) := (blk_cell BK341.out 0).trans rfl; have hcz14_1 : w11.cell? ⟨gb341, 1, none⟩ = some (.int .i64 a1_1) := (blk_cell BK341.out 1).trans rfl; have hfz14_0 := blk_frozen BK341.out 0; have hfz14_1 := blk_frozen BK341.out 1))
    go_ret
    exact ⟨by first | rfl | (simp [errW_none, errW_some] <;> rfl) | (simp [*, errW_none, errW_some] <;> rfl), by repeat (first | (with_reducible first | exact HB.out | apply below_alloc | apply pw_below_drewN | apply below_drew1 | refine below_set ?_ GE340.out | refine below_set ?_ GE341.out) | exact HB.out)⟩

end Go.Proofs.Ytblooffiggciiaa.PPs
/- PsS -/
namespace Go.Proofs.Ytblooffiggciiaa.Ps
open Go.RowKit Go.Proofs.Ytblooffiggciiaa.PPs Go.Proofs.YtblooffiggciiaaW.PrintWords Go.Proofs.YtblooffiggciiaaW.PrintLast Go.Proofs.YtblooffiggciiaaW.PrintMore Go.Proofs.Ytblooffiggciiaa.Sh
set_option linter.unusedVariables false
set_option linter.unusedSimpArgs false
/-- Two paths differ. -/
def df29 (x y : S29) : Bool := ((!((x.f0.f0) == (y.f0.f0)) || (!((x.f0.f1) == (y.f0.f1)) || (!((x.f0.f2) == (y.f0.f2)) || (!((x.f0.f3) == (y.f0.f3)))))) || ((!((x.f1.f0) == (y.f1.f0)) || (!((x.f1.f1) == (y.f1.f1)) || (!((x.f1.f2) == (y.f1.f2))))) || (!((x.f2) == (y.f2)) || (!((x.f3) == (y.f3)) || (!((x.f4) == (y.f4)) || (!((x.f5) == (y.f5))))))))
theorem df29_iff (x y : S29) : df29 x y = false ↔ x = y := by
  obtain ⟨⟨x0, x1, x2, x3⟩, ⟨x4, x5, x6⟩, x7, x8, x9, x10⟩ := x
  obtain ⟨⟨y0, y1, y2, y3⟩, ⟨y4, y5, y6⟩, y7, y8, y9, y10⟩ := y
  unfold df29
  simp only [Bool.or_eq_false_iff, Bool.not_eq_false', beq_iff_eq, S29.mk.injEq, S23.mk.injEq, S25.mk.injEq]
theorem same_l (l m : List S29) (p q : Int) (hlm : l.length = m.length) (hl : l.length ≤ 1000) : ∀ (n j k : Nat) (b : Bool), j + n = l.length → n < k → (b = true ↔ ∀ i, j ≤ i → i < l.length → l[i]? = m[i]?) → weftlineref14_Same.l0 k (j : Int) l p m q = some b
  | 0, j, k + 1, b, h, _, hb => by
    rw [weftlineref14_Same.l0, if_neg (by omega), hb.2 (fun i h1 h2 => absurd h1 (by omega))]
  | n + 1, j, k + 1, b, h, hk, hb => by
    have hj : j < l.length := by omega
    have hm : j < m.length := by omega
    rw [weftlineref14_Same.l0, if_pos (by omega), if_pos (by omega), if_pos (by omega), rd29 l j hj, rd29 m j hm]
    by_cases hd : l[j] = m[j]
    · rw [if_neg (by have := (df29_iff l[j] m[j]).2 hd; unfold df29 at this; rw [this]; simp), next_i j (by omega)]
      refine same_l l m p q hlm hl n (j + 1) k b (by omega) (by omega) (hb.trans ⟨fun h i h1 h2 => h i (by omega) h2, fun h i h1 h2 => ?_⟩)
      by_cases hij : i = j
      · subst hij; rw [List.getElem?_eq_getElem hj, List.getElem?_eq_getElem hm, hd]
      · exact h i (by omega) h2
    · rw [if_pos (by have : df29 l[j] m[j] = true := by { rw [← Bool.not_eq_false]; exact fun h => hd ((df29_iff _ _).1 h) }; unfold df29 at this; exact this)]
      congr 1
      symm
      rw [Bool.eq_false_iff]
      intro h
      have := hb.1 h j (Nat.le_refl _) hj
      rw [List.getElem?_eq_getElem hj, List.getElem?_eq_getElem hm] at this
      exact hd (Option.some.inj this)
theorem same_f {l m : List S29} {p q : Int} {k : Nat} (hl : l.length ≤ 1000) (hk : l.length + 1 < k) (b : Bool) (hb : b = true ↔ (l = m ∧ p = q)) : weftlineref14_Same.f k l p m q = some b := by
  obtain ⟨k2, rfl⟩ : ∃ k2, k = k2 + 1 := ⟨k - 1, by omega⟩
  unfold weftlineref14_Same.f
  by_cases hp : p = q
  · rw [if_pos hp]
    by_cases hn : l.length = m.length
    · have e : ((l.length : Int) != (m.length : Int)) = false := by rw [hn]; simp
      rw [e, weftlineref14_Same.j0, if_neg (by simp)]
      refine same_l l m p q hn hl l.length 0 k2 b (by omega) (by omega) (hb.trans ⟨?_, fun h => ⟨List.ext_getElem? fun i => ?_, hp⟩⟩)
      · rintro ⟨rfl, _⟩ i _ _; rfl
      · by_cases hi : i < l.length
        · exact h i (Nat.zero_le _) hi
        · rw [List.getElem?_eq_none (by omega), List.getElem?_eq_none (by omega)]
    · have e : ((l.length : Int) != (m.length : Int)) = true := by simp; omega
      rw [e, weftlineref14_Same.j0, if_pos rfl]
      congr 1
      symm
      rw [Bool.eq_false_iff]
      intro h
      exact hn (by rw [(hb.1 h).1])
  · rw [if_neg hp, weftlineref14_Same.j0, if_pos rfl]
    congr 1
    symm
    rw [Bool.eq_false_iff]
    intro h
    exact hp (hb.1 h).2
end Go.Proofs.Ytblooffiggciiaa.Ps
/- PPsx44 -/
namespace Go.Proofs.Ytblooffiggciiaa.PPs
open Go.RowKit Go.Proofs.YtblooffiggciiaaW.PrintWords Go.Proofs.YtblooffiggciiaaW.PrintLast Go.Proofs.YtblooffiggciiaaW.PrintMore
attribute [local go_sem] max2_int min2_int max_two min_two max_three min_three max_four min_four   -- for this text's walks alone
attribute [local go_sem] Go.Proofs.Ytblooffiggciiaa.Aid.isSome_setCell
set_option linter.unusedVariables false
set_option linter.unusedSimpArgs false
def weftlineref14_set.f (l0_0 : List (S29)) (a0_1 : Int) (a1 : Int) (a2_0 : Int) (a2_1 : Int) (a2_2 : Int) (a2_3 : Bool) (a2_4 : Int) (a2_5 : Int) (a2_6 : Int) (a2_7 : Int) (a2_8 : Int) (a2_9 : Int) (a2_10 : Int) : Option ((List (S29)) × Int) := (some (([] : List (S29)) : List (S29))).bind fun y256 => (if y256.length + l0_0.length < 1599289640401 then ((some (y256 ++ l0_0 : List (S29))).bind fun y259 => (if 0 ≤ a1 then (if a1 < (y259.length : Int) then (some ((y259.set (a1 : Int).toNat (⟨(⟨a2_0, a2_1, a2_2, a2_3⟩ : S23), (⟨a2_4, a2_5, a2_6⟩ : S25), a2_7, a2_8, a2_9, a2_10⟩ : S29)), a0_1)) else (none)) else (none))) else (none))
set_option maxHeartbeats 8000000 in
set_option maxRecDepth 100000 in
theorem weftlineref14_set.calls (A0_0 : Option Addr) (c0_0 : Nat) (l0_0 : List (S29)) (a0_1 : Int) (a1 : Int) (a2_0 : Int) (a2_1 : Int) (a2_2 : Int) (a2_3 : Bool) (a2_4 : Int) (a2_5 : Int) (a2_6 : Int) (a2_7 : Int) (a2_8 : Int) (a2_9 : Int) (a2_10 : Int) (r1 : List (S29)) (r2 : Int) (w : World) (hr0_0 : Kd.C k29 w A0_0 l0_0.length l0_0) (hc0_0 : l0_0.length ≤ c0_0) (h : weftlineref14_set.f l0_0 a0_1 a1 a2_0 a2_1 a2_2 a2_3 a2_4 a2_5 a2_6 a2_7 a2_8 a2_9 a2_10 = some (r1, r2)) :
    Calls Try.prog 84 #[.agg #[.slice A0_0 l0_0.length c0_0, .int .i64 a0_1], .int .i64 a1, .agg #[.int .i64 a2_0, .int .i64 a2_1, .int .i64 a2_2, .bool a2_3, .int .i64 a2_4, .int .i64 a2_5, .int .i64 a2_6, .int .i64 a2_7, .int .i64 a2_8, .int .u32 a2_9, .int .i64 a2_10]] w fun e w' => ∃ v0_ : Value, e = .returned (.agg #[v0_, .int .i64 r2]) ∧ Kd.R k29 29 w' w.heap.size (fun _ => True) v0_ r1 ∧ Below w.heap.size w w' := by
  have hu66 := Try.underlying66
  have hu29 := Try.underlying29
  have HR0_0 := Aside0.mk hr0_0
  have HC0_0 := Aside0.mk hc0_0
  clear hr0_0 hc0_0
  have HB := Aside0.mk (Below.refl w.heap.size w)
  have H : ((some (([] : List (S29)) : List (S29))).bind fun y256 => (if y256.length + l0_0.length < 1599289640401 then ((some (y256 ++ l0_0 : List (S29))).bind fun y259 => (if 0 ≤ a1 then (if a1 < (y259.length : Int) then (some ((y259.set (a1 : Int).toNat (⟨(⟨a2_0, a2_1, a2_2, a2_3⟩ : S23), (⟨a2_4, a2_5, a2_6⟩ : S25), a2_7, a2_8, a2_9, a2_10⟩ : S29)), a0_1)) else (none)) else (none))) else (none))) = some (r1, r2) := h
  clear h
  obtain ⟨y256, hy256⟩ : ∃ y_ : List (S29), y_ = (([] : List (S29))) := ⟨_, rfl⟩
  replace H : (if y256.length + l0_0.length < 1599289640401 then ((some (y256 ++ l0_0 : List (S29))).bind fun y259 => (if 0 ≤ a1 then (if a1 < (y259.length : Int) then (some ((y259.set (a1 : Int).toNat (⟨(⟨a2_0, a2_1, a2_2, a2_3⟩ : S23), (⟨a2_4, a2_5, a2_6⟩ : S25), a2_7, a2_8, a2_9, a2_10⟩ : S29)), a0_1)) else (none)) else (none))) else (none)) = some (r1, r2) := by first | (rw [hy256]; with_reducible exact H) | (have H2_ := (Option.bind_some _ _).symm.trans H; rw [hy256]; with_reducible exact H2_) | (have H2_ := (Option.bind_some _ _).symm.trans H; with_reducible exact H2_) | with_reducible exact H | (rw [hy256]; exact H) | exact H
  have Ny256 := Aside0.mk hy256
  clear hy256
  by_cases c4 : y256.length + l0_0.length < 1599289640401
  · rw [if_pos c4] at H
    have LMc4 := Aside0.mk c4
    clear c4
    obtain ⟨y259, hy259⟩ : ∃ y_ : List (S29), y_ = (y256 ++ l0_0) := ⟨_, rfl⟩
    replace H : (if 0 ≤ a1 then (if a1 < (y259.length : Int) then (some ((y259.set (a1 : Int).toNat (⟨(⟨a2_0, a2_1, a2_2, a2_3⟩ : S23), (⟨a2_4, a2_5, a2_6⟩ : S25), a2_7, a2_8, a2_9, a2_10⟩ : S29)), a0_1)) else (none)) else (none)) = some (r1, r2) := by first | (rw [hy259]; with_reducible exact H) | (have H2_ := (Option.bind_some _ _).symm.trans H; rw [hy259]; with_reducible exact H2_) | (have H2_ := (Option.bind_some _ _).symm.trans H; with_reducible exact H2_) | with_reducible exact H | (rw [hy259]; exact H) | exact H
    have Ny259 := Aside0.mk hy259
    clear hy259
    by_cases c5 : 0 ≤ a1
    · rw [if_pos c5] at H
      have c5b0 : decide (0 ≤ a1) = true := decide_eq_true c5
      clear c5
      by_cases c6 : a1 < (y259.length : Int)
      · rw [if_pos c6] at H
        have c6b0 : decide (a1 < (y259.length : Int)) = true := decide_eq_true c6
        clear c6
        obtain ⟨y262, hy262⟩ : ∃ y_ : List (S29), y_ = (y259.set (a1 : Int).toNat (⟨(⟨a2_0, a2_1, a2_2, a2_3⟩ : S23), (⟨a2_4, a2_5, a2_6⟩ : S25), a2_7, a2_8, a2_9, a2_10⟩ : S29)) := ⟨_, rfl⟩
        replace H : (some (y262, a0_1)) = some (r1, r2) := by first | (rw [hy262]; with_reducible exact H) | (have H2_ := (Option.bind_some _ _).symm.trans H; rw [hy262]; with_reducible exact H2_) | (have H2_ := (Option.bind_some _ _).symm.trans H; with_reducible exact H2_) | with_reducible exact H | (rw [hy262]; exact H) | exact H
        have Ny262 := Aside0.mk hy262
        clear hy262
        simp only [Option.some.injEq, Prod.mk.injEq] at H
        obtain ⟨rfl, rfl⟩ := H
        go_enter Try.func84, Try.ntmps84
        go_wp2_with (first | ((with_reducible refine gate_dst (N := 3) rfl ?_); refine box_event ?hg (N := 3) ?hd (cs := #[.slice A0_0 l0_0.length c0_0, .int .i64 a0_1]) (t := 66) ?hr ?_; (case hd => rfl); (case hg => rfl); (case hr => first | (go_simp; done) | (go_simp; rfl)); intro gb253 hg w8 hbox hb; have n0_ := Aside0.mk (below_step (by repeat (first | (with_reducible first | exact HB.out | apply below_alloc | apply pw_below_drewN | apply below_drew1) | exact HB.out)) hb); have n1_ := Aside0.mk (hbox); have n2_ := Aside0.mk ((by rw [hg]; exact (below_size (by repeat (first | (with_reducible first | exact HB.out | apply below_alloc | apply pw_below_drewN | apply below_drew1) | exact HB.out))) : w.heap.size ≤ gb253)); have n3_ := Aside0.mk ((by rw [hg]; exact (below_size (by repeat (first | (with_reducible first | exact HB.out | apply below_alloc | apply pw_below_drewN | apply below_drew1) | exact HB.out))) : w.heap.size ≤ gb253)); clear HB; have HB := n0_; have BK253 := n1_; have GW253 := n2_; have GE253 := n3_; clear n0_ n1_ n2_ n3_; clear hb hbox hg) | ((with_reducible refine gate_dst (N := 5) rfl ?_); refine box_event ?hg (N := 5) ?hd (cs := #[.int .i64 a2_0, .int .i64 a2_1, .int .i64 a2_2, .bool a2_3, .int .i64 a2_4, .int .i64 a2_5, .int .i64 a2_6, .int .i64 a2_7, .int .i64 a2_8, .int .u32 a2_9, .int .i64 a2_10]) (t := 29) ?hr ?_; (case hd => rfl); (case hg => rfl); (case hr => first | (go_simp; done) | (go_simp; rfl)); intro gb254 hg w9 hbox hb; have n0_ := Aside0.mk (blk_below (g := gb253) (o := .cells #[.slice A0_0 l0_0.length c0_0, .int .i64 a0_1] 66 (0, 0)) (by (with_reducible repeat (first | refine blk_drewN ?_ _ | refine blk_drew ?_ | refine blk_alloc ?_ _)); exact BK253.out) hb); have n1_ := Aside0.mk (below_step (by repeat (first | (with_reducible first | exact HB.out | apply below_alloc | apply pw_below_drewN | apply below_drew1 | refine below_set ?_ GE253.out) | exact HB.out)) hb); have n2_ := Aside0.mk (hbox); have n3_ := Aside0.mk ((by rw [hg]; exact (below_size (by repeat (first | (with_reducible first | exact HB.out | apply below_alloc | apply pw_below_drewN | apply below_drew1 | refine below_set ?_ GE253.out) | exact HB.out))) : w.heap.size ≤ gb254)); have n4_ := Aside0.mk ((by rw [hg]; exact (below_size (by repeat (first | (with_reducible first | exact HB.out | apply below_alloc | apply pw_below_drewN | apply below_drew1 | refine below_set ?_ GE253.out) | exact HB.out))) : w.heap.size ≤ gb254)); have n5_ := Aside0.mk ((by rw [hg]; exact Nat.ne_of_lt (blk_lt (g := gb253) (o := .cells #[.slice A0_0 l0_0.length c0_0, .int .i64 a0_1] 66 (0, 0)) (by (with_reducible repeat (first | refine blk_drewN ?_ _ | refine blk_drew ?_ | refine blk_alloc ?_ _)); exact BK253.out)) : gb253 ≠ gb254)); have n6_ := Aside0.mk ((by rw [hg]; exact Nat.ne_of_gt (blk_lt (g := gb253) (o := .cells #[.slice A0_0 l0_0.length c0_0, .int .i64 a0_1] 66 (0, 0)) (by (with_reducible repeat (first | refine blk_drewN ?_ _ | refine blk_drew ?_ | refine blk_alloc ?_ _)); exact BK253.out)) : gb254 ≠ gb253)); clear BK253; clear HB; have BK253 := n0_; have HB := n1_; have BK254 := n2_; have GW254 := n3_; have GE254 := n4_; have NB253_254 := n5_; have NB254_253 := n6_; clear n0_ n1_ n2_ n3_ n4_ n5_ n6_; clear hb hbox hg) | ((with_reducible refine gate_dst (N := 6) rfl ?_); refine box_event ?hg (N := 6) ?hd (cs := #[.slice none 0 0, .int .i64 0]) (t := 66) ?hr ?_; (case hd => rfl); (case hg => rfl); (case hr => first | (go_simp; done) | (go_simp; rfl)); intro gb255 hg w10 hbox hb; have n0_ := Aside0.mk (blk_below (g := gb253) (o := .cells #[.slice A0_0 l0_0.length c0_0, .int .i64 a0_1] 66 (0, 0)) (by (with_reducible repeat (first | refine blk_drewN ?_ _ | refine blk_drew ?_ | refine blk_alloc ?_ _)); exact BK253.out) hb); have n1_ := Aside0.mk (blk_below (g := gb254) (o := .cells #[.int .i64 a2_0, .int .i64 a2_1, .int .i64 a2_2, .bool a2_3, .int .i64 a2_4, .int .i64 a2_5, .int .i64 a2_6, .int .i64 a2_7, .int .i64 a2_8, .int .u32 a2_9, .int .i64 a2_10] 29 (0, 0)) (by (with_reducible repeat (first | refine blk_drewN ?_ _ | refine blk_drew ?_ | refine blk_alloc ?_ _)); exact BK254.out) hb); have n2_ := Aside0.mk (below_step (by repeat (first | (with_reducible first | exact HB.out | apply below_alloc | apply pw_below_drewN | apply below_drew1 | refine below_set ?_ GE253.out | refine below_set ?_ GE254.out) | exact HB.out)) hb); have n3_ := Aside0.mk (hbox); have n4_ := Aside0.mk ((by rw [hg]; exact (below_size (by repeat (first | (with_reducible first | exact HB.out | apply below_alloc | apply pw_below_drewN | apply below_drew1 | refine below_set ?_ GE253.out | refine below_set ?_ GE254.out) | exact HB.out))) : w.heap.size ≤ gb255)); have n5_ := Aside0.mk ((by rw [hg]; exact (below_size (by repeat (first | (with_reducible first | exact HB.out | apply below_alloc | apply pw_below_drewN | apply below_drew1 | refine below_set ?_ GE253.out | refine below_set ?_ GE254.out) | exact HB.out))) : w.heap.size ≤ gb255)); have n6_ := Aside0.mk ((by rw [hg]; exact Nat.ne_of_lt (blk_lt (g := gb253) (o := .cells #[.slice A0_0 l0_0.length c0_0, .int .i64 a0_1] 66 (0, 0)) (by (with_reducible repeat (first | refine blk_drewN ?_ _ | refine blk_drew ?_ | refine blk_alloc ?_ _)); exact BK253.out)) : gb253 ≠ gb255)); have n7_ := Aside0.mk ((by rw [hg]; exact Nat.ne_of_gt (blk_lt (g := gb253) (o := .cells #[.slice A0_0 l0_0.length c0_0, .int .i64 a0_1] 66 (0, 0)) (by (with_reducible repeat (first | refine blk_drewN ?_ _ | refine blk_drew ?_ | refine blk_alloc ?_ _)); exact BK253.out)) : gb255 ≠ gb253)); have n8_ := Aside0.mk ((by rw [hg]; exact Nat.ne_of_lt (blk_lt (g := gb254) (o := .cells #[.int .i64 a2_0, .int .i64 a2_1, .int .i64 a2_2, .bool a2_3, .int .i64 a2_4, .int .i64 a2_5, .int .i64 a2_6, .int .i64 a2_7, .int .i64 a2_8, .int .u32 a2_9, .int .i64 a2_10] 29 (0, 0)) (by (with_reducible repeat (first | refine blk_drewN ?_ _ | refine blk_drew ?_ | refine blk_alloc ?_ _)); exact BK254.out)) : gb254 ≠ gb255)); have n9_ := Aside0.mk ((by rw [hg]; exact Nat.ne_of_gt (blk_lt (g := gb254) (o := .cells #[.int .i64 a2_0, .int .i64 a2_1, .int .i64 a2_2, .bool a2_3, .int .i64 a2_4, .int .i64 a2_5, .int .i64 a2_6, .int .i64 a2_7, .int .i64 a2_8, .int .u32 a2_9, .int .i64 a2_10] 29 (0, 0)) (by (with_reducible repeat (first | refine blk_drewN ?_ _ | refine blk_drew ?_ | refine blk_alloc ?_ _)); exact BK254.out)) : gb255 ≠ gb254)); clear BK253; clear BK254; clear HB; have BK253 := n0_; have BK254 := n1_; have HB := n2_; have BK255 := n3_; have GW255 := n4_; have GE255 := n5_; have NB253_255 := n6_; have NB255_253 := n7_; have NB254_255 := n8_; have NB255_254 := n9_; clear n0_ n1_ n2_ n3_ n4_ n5_ n6_ n7_ n8_ n9_; clear hb hbox hg) | ((with_reducible refine gate_dst (N := 7) rfl ?_); refine Kd.R_lit k29 _ 29 ?hg (N := 7) ?hd (xs := ([] : List (S29))) (inner := []) (ok := fun _ => True) (okp := fun _ => True) ?hr ?hp (fun _ hk => hk) trivial (Below.refl _ _) (Nat.le_refl _) (by simp) ?_; (case hd => rfl); (case hg => rfl); (case hr => first | (go_simp; done) | (go_simp; rfl)); (case hp => exact (Reps.none _ _)); intro v257 w11 ho12 hb hg_ hnew_; clear hg_ hnew_; (first | rw [← Ny256.out] at ho12 | (simp only [Int.reduceToNat] at ho12; rw [← Ny256.out] at ho12)); have n0_ := Aside0.mk (Kd.R_lower (Kd.R_newB ho12 (g := gb254) (o := .cells #[.int .i64 a2_0, .int .i64 a2_1, .int .i64 a2_2, .bool a2_3, .int .i64 a2_4, .int .i64 a2_5, .int .i64 a2_6, .int .i64 a2_7, .int .i64 a2_8, .int .u32 a2_9, .int .i64 a2_10] 29 (0, 0)) (by (with_reducible repeat (first | refine blk_drewN ?_ _ | refine blk_drew ?_ | refine blk_alloc ?_ _)); exact BK254.out)) (below_size (by repeat (first | (with_reducible first | exact HB.out | apply below_alloc | apply pw_below_drewN | apply below_drew1 | refine below_set ?_ GE253.out | refine below_set ?_ GE254.out | refine below_set ?_ GE255.out) | exact HB.out)))); have n1_ := Aside0.mk (blk_below (g := gb253) (o := .cells #[.slice A0_0 l0_0.length c0_0, .int .i64 a0_1] 66 (0, 0)) (by (with_reducible repeat (first | refine blk_drewN ?_ _ | refine blk_drew ?_ | refine blk_alloc ?_ _)); exact BK253.out) hb); have n2_ := Aside0.mk (blk_below (g := gb254) (o := .cells #[.int .i64 a2_0, .int .i64 a2_1, .int .i64 a2_2, .bool a2_3, .int .i64 a2_4, .int .i64 a2_5, .int .i64 a2_6, .int .i64 a2_7, .int .i64 a2_8, .int .u32 a2_9, .int .i64 a2_10] 29 (0, 0)) (by (with_reducible repeat (first | refine blk_drewN ?_ _ | refine blk_drew ?_ | refine blk_alloc ?_ _)); exact BK254.out) hb); have n3_ := Aside0.mk (blk_below (g := gb255) (o := .cells #[.slice none 0 0, .int .i64 0] 66 (0, 0)) (by (with_reducible repeat (first | refine blk_drewN ?_ _ | refine blk_drew ?_ | refine blk_alloc ?_ _)); exact BK255.out) hb); have n4_ := Aside0.mk (below_step (by repeat (first | (with_reducible first | exact HB.out | apply below_alloc | apply pw_below_drewN | apply below_drew1 | refine below_set ?_ GE253.out | refine below_set ?_ GE254.out | refine below_set ?_ GE255.out) | exact HB.out)) hb); clear BK253; clear BK254; clear BK255; clear HB; have HO258 := n0_; have BK253 := n1_; have BK254 := n2_; have BK255 := n3_; have HB := n4_; clear n0_ n1_ n2_ n3_ n4_; clear hb ho12; have hnb13 := NB253_254.out; have hnc13 := NB254_253.out; have hnb14 := NB253_255.out; have hnc14 := NB255_253.out; have hcz15_0 : w11.cell? ⟨gb253, 0, none⟩ = some (.slice A0_0 l0_0.length c0_0) := (blk_cell BK253.out 0).trans rfl; have hcz15_1 : w11.cell? ⟨gb253, 1, none⟩ = some (.int .i64 a0_1) := (blk_cell BK253.out 1).trans rfl; have hfz15_0 := blk_frozen BK253.out 0; have hfz15_1 := blk_frozen BK253.out 1) | ((with_reducible refine gate_builtin (b := .append) (xs := #[.tmp 7, .tmp 9]) rfl ?_); at_builtin; refine Kd.R_append_rows k29 (w0 := w) w.heap.size rfl (.tmp 7) (.tmp 9) 64 29 (.agg #[(.int .i64 0), (.int .i64 0), (.int .i64 0), (.bool false), (.int .i64 0), (.int .i64 0), (.int .i64 0), (.int .i64 0), (.int .i64 0), (.int .u32 0), (.int .i64 0)]) 88 rfl Try.underlying64 info29 rfl (by decide) (by omega) v257 y256 l0_0 _ _ _ (fun k_ => k_ ≠ gb254) (fun _ => False) rfl rfl ?aO ?aR (fun _ _ h => h) (fun _ h => h.elim) ?aF ?aB ?aS ?aL ?_; (case aR => repeat (first | exact (Kd.C_below HR0_0.out HB.out) | (with_reducible refine Kd.C_alloc ?_ _) | (with_reducible refine Kd.C_drewN ?_ _) | (with_reducible refine Kd.C_drew ?_))); (case aB => exact (by repeat (first | (with_reducible first | exact HB.out | apply below_alloc | apply pw_below_drewN | apply below_drew1 | refine below_set ?_ GE253.out | refine below_set ?_ GE254.out | refine below_set ?_ GE255.out) | exact HB.out))); (case aF => exact (fun k_ hk => Kd.freshB (g := gb254) (o := .cells #[.int .i64 a2_0, .int .i64 a2_1, .int .i64 a2_2, .bool a2_3, .int .i64 a2_4, .int .i64 a2_5, .int .i64 a2_6, .int .i64 a2_7, .int .i64 a2_8, .int .u32 a2_9, .int .i64 a2_10] 29 (0, 0)) (by (with_reducible repeat (first | refine blk_drewN ?_ _ | refine blk_drew ?_ | refine blk_alloc ?_ _)); exact BK254.out) k_ hk)); (case aO => exact (by (with_reducible repeat (first | apply Kd.R_alloc | apply Kd.R_drewN | apply Kd.R_drew)); exact Kd.R_mono HO258.out (fun _ hk => hk.2))); (case aS => exact (below_size (by repeat (first | (with_reducible first | exact HB.out | apply below_alloc | apply pw_below_drewN | apply below_drew1 | refine below_set ?_ GE253.out | refine below_set ?_ GE254.out | refine below_set ?_ GE255.out) | exact HB.out)))); (case aL => have := LMc4.out; omega); intro v260 w16 ho hb hg hat; rw [← Ny259.out] at ho; have n0_ := Aside0.mk (blk_grown (g := gb253) (o := .cells #[.slice A0_0 l0_0.length c0_0, .int .i64 a0_1] 66 (0, 0)) (by (with_reducible repeat (first | refine blk_drewN ?_ _ | refine blk_drew ?_ | refine blk_alloc ?_ _)); exact BK253.out) hg (Kd.R_ne HO258.out BK253.out (by decide))); have n1_ := Aside0.mk (blk_grown (g := gb254) (o := .cells #[.int .i64 a2_0, .int .i64 a2_1, .int .i64 a2_2, .bool a2_3, .int .i64 a2_4, .int .i64 a2_5, .int .i64 a2_6, .int .i64 a2_7, .int .i64 a2_8, .int .u32 a2_9, .int .i64 a2_10] 29 (0, 0)) (by (with_reducible repeat (first | refine blk_drewN ?_ _ | refine blk_drew ?_ | refine blk_alloc ?_ _)); exact BK254.out) hg (Kd.R_away HO258.out (fun _ hk => hk.2))); have n2_ := Aside0.mk (blk_grown (g := gb255) (o := .cells #[.slice none 0 0, .int .i64 0] 66 (0, 0)) (by (with_reducible repeat (first | refine blk_drewN ?_ _ | refine blk_drew ?_ | refine blk_alloc ?_ _)); exact BK255.out) hg (Kd.R_ne HO258.out BK255.out (by decide))); have n3_ := Aside0.mk (hb); have n4_ := Aside0.mk (ho); clear BK253; clear BK254; clear BK255; clear HB; clear HO258; have BK253 := n0_; have BK254 := n1_; have BK255 := n2_; have HB := n3_; have HO261 := n4_; clear n0_ n1_ n2_ n3_ n4_; clear ho hb hg hat; obtain ⟨Ao17, co17, eo17⟩ := Kd.R_slice HO261.out; subst eo17; have hcz18_0 : w16.cell? ⟨gb253, 0, none⟩ = some (.slice A0_0 l0_0.length c0_0) := (blk_cell BK253.out 0).trans rfl; have hcz18_1 : w16.cell? ⟨gb253, 1, none⟩ = some (.int .i64 a0_1) := (blk_cell BK253.out 1).trans rfl; have hfz18_0 := blk_frozen BK253.out 0; have hfz18_1 := blk_frozen BK253.out 1) | ((with_reducible refine gate_store (t := 64) (p := 11) rfl ?_); refine store_event (t := 64) (p := 11) (v := ?vo_w19) (w1 := (w16.setCell ⟨gb253, 0, none⟩ (.slice Ao17 y259.length co17))) ?hg ?ho ?hn ?hr ?_; (case ho => rfl); (case hg => rfl); (case hn => rfl); (case hr => first | (go_simp; done) | (go_simp; rfl)); intro w19 hw; have n0_ : Aside0 (Kd.R k29 29 w19 w.heap.size (fun k_ => k_ ≠ gb254) (.slice Ao17 y259.length co17) y259) := ⟨(by rw [hw]; exact (by (with_reducible repeat (first | apply Kd.R_alloc | apply Kd.R_drewN | apply Kd.R_drew)); exact Kd.R_mono (Kd.R_far (p := ⟨gb253, 0, none⟩) (Kd.R_types HO261.out BK253.out (by decide)) (fun _ hk => hk.2) (.slice Ao17 y259.length co17)) (fun _ hk => hk.1)))⟩; have n1_ : Aside0 (w19.heap[gb253]? = some (.cells #[.slice Ao17 y259.length co17, .int .i64 a0_1] 66 (0, 0))) := ⟨(by rw [hw]; exact (by (with_reducible repeat (first | refine blk_drewN ?_ _ | refine blk_drew ?_ | refine blk_alloc ?_ _)); refine blk_put (cs := #[.slice A0_0 l0_0.length c0_0, .int .i64 a0_1]) ?_ 0 _ rfl; (with_reducible repeat (first | refine blk_drewN ?_ _ | refine blk_drew ?_ | refine blk_alloc ?_ _)); exact BK253.out))⟩; have n2_ : Aside0 (w19.heap[gb254]? = some (.cells #[.int .i64 a2_0, .int .i64 a2_1, .int .i64 a2_2, .bool a2_3, .int .i64 a2_4, .int .i64 a2_5, .int .i64 a2_6, .int .i64 a2_7, .int .i64 a2_8, .int .u32 a2_9, .int .i64 a2_10] 29 (0, 0))) := ⟨(by rw [hw]; exact (by (with_reducible repeat (first | refine blk_drewN ?_ _ | refine blk_drew ?_ | refine blk_alloc ?_ _)); refine blk_far ?_ NB254_253.out _; (with_reducible repeat (first | refine blk_drewN ?_ _ | refine blk_drew ?_ | refine blk_alloc ?_ _)); exact BK254.out))⟩; have n3_ : Aside0 (w19.heap[gb255]? = some (.cells #[.slice none 0 0, .int .i64 0] 66 (0, 0))) := ⟨(by rw [hw]; exact (by (with_reducible repeat (first | refine blk_drewN ?_ _ | refine blk_drew ?_ | refine blk_alloc ?_ _)); refine blk_far ?_ NB255_253.out _; (with_reducible repeat (first | refine blk_drewN ?_ _ | refine blk_drew ?_ | refine blk_alloc ?_ _)); exact BK255.out))⟩; have n4_ : Aside0 (Below w.heap.size w w19) := ⟨(by rw [hw]; exact (by repeat (first | (with_reducible first | exact HB.out | apply below_alloc | apply pw_below_drewN | apply below_drew1 | refine below_set ?_ GE253.out | refine below_set ?_ GE254.out | refine below_set ?_ GE255.out) | exact HB.out)))⟩; clear hw; clear HO261; clear BK253; clear BK254; clear BK255; clear HB; have HO261 := n0_; have BK253 := n1_; have BK254 := n2_; have BK255 := n3_; have HB := n4_; clear n0_ n1_ n2_ n3_ n4_; have hcz20_0 : w19.cell? ⟨gb253, 0, none⟩ = some (.slice Ao17 y259.length co17) := (blk_cell BK253.out 0).trans rfl; have hcz20_1 : w19.cell? ⟨gb253, 1, none⟩ = some (.int .i64 a0_1) := (blk_cell BK253.out 1).trans rfl; have hfz20_0 := blk_frozen BK253.out 0; have hfz20_1 := blk_frozen BK253.out 1; have hnb21 := NB254_255.out; have hnc21 := NB255_254.out; have hcz22_0 : w19.cell? ⟨gb254, 0, none⟩ = some (.int .i64 a2_0) := (blk_cell BK254.out 0).trans rfl; have hcz22_1 : w19.cell? ⟨gb254, 1, none⟩ = some (.int .i64 a2_1) := (blk_cell BK254.out 1).trans rfl; have hcz22_2 : w19.cell? ⟨gb254, 2, none⟩ = some (.int .i64 a2_2) := (blk_cell BK254.out 2).trans rfl; have hcz22_3 : w19.cell? ⟨gb254, 3, none⟩ = some (.bool a2_3) := (blk_cell BK254.out 3).trans rfl; have hcz22_4 : w19.cell? ⟨gb254, 4, none⟩ = some (.int .i64 a2_4) := (blk_cell BK254.out 4).trans rfl; have hcz22_5 : w19.cell? ⟨gb254, 5, none⟩ = some (.int .i64 a2_5) := (blk_cell BK254.out 5).trans rfl; have hcz22_6 : w19.cell? ⟨gb254, 6, none⟩ = some (.int .i64 a2_6) := (blk_cell BK254.out 6).trans rfl; have hcz22_7 : w19.cell? ⟨gb254, 7, none⟩ = some (.int .i64 a2_7) := (blk_cell BK254.out 7).trans rfl; have hcz22_8 : w19.cell? ⟨gb254, 8, none⟩ = some (.int .i64 a2_8) := (blk_cell BK254.out 8).trans rfl; have hcz22_9 : w19.cell? ⟨gb254, 9, none⟩ = some (.int .u32 a2_9) := (blk_cell BK254.out 9).trans rfl; have hcz22_10 : w19.cell? ⟨gb254, 10, none⟩ = some (.int .i64 a2_10) := (blk_cell BK254.out 10).trans rfl; have hfz22_0 := blk_frozen BK254.out 0; have hfz22_1 := blk_frozen BK254.out 1; have hfz22_2 := blk_frozen BK254.out 2; have hfz22_3 := blk_frozen BK254.out 3; have hfz22_4 := blk_frozen BK254.out 4; have hfz22_5 := blk_frozen BK254.out 5; have hfz22_6 := blk_frozen BK254.out 6; have hfz22_7 := blk_frozen BK254.out 7; have hfz22_8 := blk_frozen BK254.out 8; have hfz22_9 := blk_frozen BK254.out 9; have hfz22_10 := blk_frozen BK254.out 10; have p7 : 0 ≤ (a1 : Int) := of_decide_eq_true (by first | (with_reducible assumption) | assumption); have q7 : (a1 : Int) < ((y259.length : Int) : Int) := of_decide_eq_true (by first | (with_reducible assumption) | assumption); obtain ⟨go7, co7, eo7, gb7, gl7, cl7, HG7⟩ := Kd.R_form HO261.out (by omega); (first | cases eo7 | (injection eo7 with ea_ en_ ec_; (first | subst ea_ | (injection ea_ with ea_; subst ea_)); subst ec_; clear en_)); have GB7 := Aside0.mk gb7; have GG7 := Aside0.mk HG7; clear gb7 gl7 HG7; obtain ⟨ce7, hcl7, hM7, hcc7, hfr7⟩ := Kd.R_elem HO261.out z29 (a1 : Int) p7 q7; obtain rfl := k29_openM hM7; have hx7_0 : w19.cell? ⟨go7, (a1 : Int).toNat * 11, none⟩ = some (.int .i64 ((rd_T29 y259 a1).f0.f0)) := hcc7 0 _ rfl; have hx7_1 : w19.cell? ⟨go7, (a1 : Int).toNat * 11 + 1, none⟩ = some (.int .i64 ((rd_T29 y259 a1).f0.f1)) := hcc7 1 _ rfl; have hx7_2 : w19.cell? ⟨go7, (a1 : Int).toNat * 11 + 2, none⟩ = some (.int .i64 ((rd_T29 y259 a1).f0.f2)) := hcc7 2 _ rfl; have hx7_3 : w19.cell? ⟨go7, (a1 : Int).toNat * 11 + 3, none⟩ = some (.bool ((rd_T29 y259 a1).f0.f3)) := hcc7 3 _ rfl; have hx7_4 : w19.cell? ⟨go7, (a1 : Int).toNat * 11 + 4, none⟩ = some (.int .i64 ((rd_T29 y259 a1).f1.f0)) := hcc7 4 _ rfl; have hx7_5 : w19.cell? ⟨go7, (a1 : Int).toNat * 11 + 5, none⟩ = some (.int .i64 ((rd_T29 y259 a1).f1.f1)) := hcc7 5 _ rfl; have hx7_6 : w19.cell? ⟨go7, (a1 : Int).toNat * 11 + 6, none⟩ = some (.int .i64 ((rd_T29 y259 a1).f1.f2)) := hcc7 6 _ rfl; have hx7_7 : w19.cell? ⟨go7, (a1 : Int).toNat * 11 + 7, none⟩ = some (.int .i64 ((rd_T29 y259 a1).f2)) := hcc7 7 _ rfl; have hx7_8 : w19.cell? ⟨go7, (a1 : Int).toNat * 11 + 8, none⟩ = some (.int .i64 ((rd_T29 y259 a1).f3)) := hcc7 8 _ rfl; have hx7_9 : w19.cell? ⟨go7, (a1 : Int).toNat * 11 + 9, none⟩ = some (.int .u32 ((rd_T29 y259 a1).f4)) := hcc7 9 _ rfl; have hx7_10 : w19.cell? ⟨go7, (a1 : Int).toNat * 11 + 10, none⟩ = some (.int .i64 ((rd_T29 y259 a1).f5)) := hcc7 10 _ rfl; have hf7_0 : w19.frozen? ⟨go7, (a1 : Int).toNat * 11, none⟩ = false := hfr7 0; have hf7_1 : w19.frozen? ⟨go7, (a1 : Int).toNat * 11 + 1, none⟩ = false := hfr7 1; have hf7_2 : w19.frozen? ⟨go7, (a1 : Int).toNat * 11 + 2, none⟩ = false := hfr7 2; have hf7_3 : w19.frozen? ⟨go7, (a1 : Int).toNat * 11 + 3, none⟩ = false := hfr7 3; have hf7_4 : w19.frozen? ⟨go7, (a1 : Int).toNat * 11 + 4, none⟩ = false := hfr7 4; have hf7_5 : w19.frozen? ⟨go7, (a1 : Int).toNat * 11 + 5, none⟩ = false := hfr7 5; have hf7_6 : w19.frozen? ⟨go7, (a1 : Int).toNat * 11 + 6, none⟩ = false := hfr7 6; have hf7_7 : w19.frozen? ⟨go7, (a1 : Int).toNat * 11 + 7, none⟩ = false := hfr7 7; have hf7_8 : w19.frozen? ⟨go7, (a1 : Int).toNat * 11 + 8, none⟩ = false := hfr7 8; have hf7_9 : w19.frozen? ⟨go7, (a1 : Int).toNat * 11 + 9, none⟩ = false := hfr7 9; have hf7_10 : w19.frozen? ⟨go7, (a1 : Int).toNat * 11 + 10, none⟩ = false := hfr7 10; clear hcl7 hcc7 hfr7 hM7; replace p7 := eq_true p7; replace q7 := eq_true q7; have HX23 := Aside0.mk (show Kd.R k29 29 w19 w.heap.size (fun k_ => k_ ≠ gb254) (.slice (some ⟨go7, 0, none⟩) y259.length co17) y259 from (by (with_reducible repeat (first | apply Kd.R_alloc | apply Kd.R_drewN | apply Kd.R_drew)); exact HO261.out)); obtain ⟨ce23, hcl23, hM23, hcc23, hfr23⟩ := Kd.R_elem HX23.out z29 (a1 : Int) (of_decide_eq_true (by first | (with_reducible assumption) | assumption)) (by have h_ : (a1 : Int) < ((y259.length : Int) : Int) := of_decide_eq_true (by first | (with_reducible assumption) | assumption); first | exact h_ | (have e_ := (Kd.R_reads' HO261.out).1; omega) | simpa using h_); obtain rfl := k29_openM hM23; have HP23 := Kd.R_seg HX23.out (a1 : Int) (of_decide_eq_true (by first | (with_reducible assumption) | assumption)) (by have h_ : (a1 : Int) < ((y259.length : Int) : Int) := of_decide_eq_true (by first | (with_reducible assumption) | assumption); first | exact h_ | (have e_ := (Kd.R_reads' HO261.out).1; omega) | simpa using h_) (seg := [.int .i64 a2_0, .int .i64 a2_1, .int .i64 a2_2, .bool a2_3, .int .i64 a2_4, .int .i64 a2_5, .int .i64 a2_6, .int .i64 a2_7, .int .i64 a2_8, .int .u32 a2_9, .int .i64 a2_10]) (j := 0) hcl23 hcc23 (show 11 ≤ 11 from by decide) (x' := (⟨(⟨a2_0, a2_1, a2_2, a2_3⟩ : S23), (⟨a2_4, a2_5, a2_6⟩ : S25), a2_7, a2_8, a2_9, a2_10⟩ : S29)) (k29_mkM _ _ _ (⟨(⟨a2_0, a2_1, a2_2, a2_3⟩ : S23), (⟨a2_4, a2_5, a2_6⟩ : S25), a2_7, a2_8, a2_9, a2_10⟩ : S29) ) (fun _ hk => hk); have hx23_0 := hcc23 0 _ rfl; (try simp only [show (k29).sz = 11 from rfl, Nat.mul_one, Nat.add_zero] at hx23_0); have hf23_0 := hfr23 0; (try simp only [show (k29).sz = 11 from rfl, Nat.mul_one, Nat.add_zero] at hf23_0); have hx23_1 := hcc23 1 _ rfl; (try simp only [show (k29).sz = 11 from rfl, Nat.mul_one, Nat.add_zero] at hx23_1); have hf23_1 := hfr23 1; (try simp only [show (k29).sz = 11 from rfl, Nat.mul_one, Nat.add_zero] at hf23_1); have hx23_2 := hcc23 2 _ rfl; (try simp only [show (k29).sz = 11 from rfl, Nat.mul_one, Nat.add_zero] at hx23_2); have hf23_2 := hfr23 2; (try simp only [show (k29).sz = 11 from rfl, Nat.mul_one, Nat.add_zero] at hf23_2); have hx23_3 := hcc23 3 _ rfl; (try simp only [show (k29).sz = 11 from rfl, Nat.mul_one, Nat.add_zero] at hx23_3); have hf23_3 := hfr23 3; (try simp only [show (k29).sz = 11 from rfl, Nat.mul_one, Nat.add_zero] at hf23_3); have hx23_4 := hcc23 4 _ rfl; (try simp only [show (k29).sz = 11 from rfl, Nat.mul_one, Nat.add_zero] at hx23_4); have hf23_4 := hfr23 4; (try simp only [show (k29).sz = 11 from rfl, Nat.mul_one, Nat.add_zero] at hf23_4); have hx23_5 := hcc23 5 _ rfl; (try simp only [show (k29).sz = 11 from rfl, Nat.mul_one, Nat.add_zero] at hx23_5); have hf23_5 := hfr23 5; (try simp only [show (k29).sz = 11 from rfl, Nat.mul_one, Nat.add_zero] at hf23_5); have hx23_6 := hcc23 6 _ rfl; (try simp only [show (k29).sz = 11 from rfl, Nat.mul_one, Nat.add_zero] at hx23_6); have hf23_6 := hfr23 6; (try simp only [show (k29).sz = 11 from rfl, Nat.mul_one, Nat.add_zero] at hf23_6); have hx23_7 := hcc23 7 _ rfl; (try simp only [show (k29).sz = 11 from rfl, Nat.mul_one, Nat.add_zero] at hx23_7); have hf23_7 := hfr23 7; (try simp only [show (k29).sz = 11 from rfl, Nat.mul_one, Nat.add_zero] at hf23_7); have hx23_8 := hcc23 8 _ rfl; (try simp only [show (k29).sz = 11 from rfl, Nat.mul_one, Nat.add_zero] at hx23_8); have hf23_8 := hfr23 8; (try simp only [show (k29).sz = 11 from rfl, Nat.mul_one, Nat.add_zero] at hf23_8); have hx23_9 := hcc23 9 _ rfl; (try simp only [show (k29).sz = 11 from rfl, Nat.mul_one, Nat.add_zero] at hx23_9); have hf23_9 := hfr23 9; (try simp only [show (k29).sz = 11 from rfl, Nat.mul_one, Nat.add_zero] at hf23_9); have hx23_10 := hcc23 10 _ rfl; (try simp only [show (k29).sz = 11 from rfl, Nat.mul_one, Nat.add_zero] at hx23_10); have hf23_10 := hfr23 10; (try simp only [show (k29).sz = 11 from rfl, Nat.mul_one, Nat.add_zero] at hf23_10); clear hcl23 hcc23 hfr23 hM23) | ((with_reducible refine gate_store (t := 29) (p := 16) rfl ?_); refine store_event (t := 29) (p := 16) (v := ?vo_w24) (w1 := (((((((((((w19.setCell ⟨go7, (a1 : Int).toNat * 11, none⟩ (.int .i64 a2_0)).setCell ⟨go7, (a1 : Int).toNat * 11 + 1, none⟩ (.int .i64 a2_1)).setCell ⟨go7, (a1 : Int).toNat * 11 + 2, none⟩ (.int .i64 a2_2)).setCell ⟨go7, (a1 : Int).toNat * 11 + 3, none⟩ (.bool a2_3)).setCell ⟨go7, (a1 : Int).toNat * 11 + 4, none⟩ (.int .i64 a2_4)).setCell ⟨go7, (a1 : Int).toNat * 11 + 5, none⟩ (.int .i64 a2_5)).setCell ⟨go7, (a1 : Int).toNat * 11 + 6, none⟩ (.int .i64 a2_6)).setCell ⟨go7, (a1 : Int).toNat * 11 + 7, none⟩ (.int .i64 a2_7)).setCell ⟨go7, (a1 : Int).toNat * 11 + 8, none⟩ (.int .i64 a2_8)).setCell ⟨go7, (a1 : Int).toNat * 11 + 9, none⟩ (.int .u32 a2_9)).setCell ⟨go7, (a1 : Int).toNat * 11 + 10, none⟩ (.int .i64 a2_10))) ?hg ?ho ?hn ?hr ?_; (case ho => rfl); (case hg => rfl); (case hn => rfl); (case hr => first | (go_simp; done) | (go_simp; rfl)); intro w24 hw; have hg : w19.grownBy w24 (some go7) := (by rw [hw]; exact HP23.2); have hp_ : Kd.R k29 29 w24 w.heap.size (fun k_ => k_ ≠ gb254) (.slice (some ⟨go7, 0, none⟩) y259.length co17) y262 := (by rw [hw, Ny262.out]; exact HP23.1); clear HP23; have n0_ := Aside0.mk (blk_grown (g := gb253) (o := .cells #[.slice (some ⟨go7, 0, none⟩) y259.length co17, .int .i64 a0_1] 66 (0, 0)) (by (with_reducible repeat (first | refine blk_drewN ?_ _ | refine blk_drew ?_ | refine blk_alloc ?_ _)); exact BK253.out) hg (Kd.R_ne HO261.out BK253.out (by decide))); have n1_ := Aside0.mk (blk_grown (g := gb254) (o := .cells #[.int .i64 a2_0, .int .i64 a2_1, .int .i64 a2_2, .bool a2_3, .int .i64 a2_4, .int .i64 a2_5, .int .i64 a2_6, .int .i64 a2_7, .int .i64 a2_8, .int .u32 a2_9, .int .i64 a2_10] 29 (0, 0)) (by (with_reducible repeat (first | refine blk_drewN ?_ _ | refine blk_drew ?_ | refine blk_alloc ?_ _)); exact BK254.out) hg (Kd.R_away HO261.out (fun _ hk => hk))); have n2_ := Aside0.mk (blk_grown (g := gb255) (o := .cells #[.slice none 0 0, .int .i64 0] 66 (0, 0)) (by (with_reducible repeat (first | refine blk_drewN ?_ _ | refine blk_drew ?_ | refine blk_alloc ?_ _)); exact BK255.out) hg (Kd.R_ne HO261.out BK255.out (by decide))); have n3_ := Aside0.mk (hp_); have n4_ := Aside0.mk ((by rw [hw]; exact below_set (below_set (below_set (below_set (below_set (below_set (below_set (below_set (below_set (below_set (below_set (HB.out) GB7.out) GB7.out) GB7.out) GB7.out) GB7.out) GB7.out) GB7.out) GB7.out) GB7.out) GB7.out) GB7.out : Below w.heap.size w w24)); clear BK253; clear BK254; clear BK255; clear HO261; clear HB; have BK253 := n0_; have BK254 := n1_; have BK255 := n2_; have HO261 := n3_; have HB := n4_; clear n0_ n1_ n2_ n3_ n4_; clear hg hw hp_; have hcz25_0 : w24.cell? ⟨gb253, 0, none⟩ = some (.slice (some ⟨go7, 0, none⟩) y259.length co17) := (blk_cell BK253.out 0).trans rfl; have hcz25_1 : w24.cell? ⟨gb253, 1, none⟩ = some (.int .i64 a0_1) := (blk_cell BK253.out 1).trans rfl; have hfz25_0 := blk_frozen BK253.out 0; have hfz25_1 := blk_frozen BK253.out 1; have hcz26_0 : w24.cell? ⟨gb255, 0, none⟩ = some (.slice none 0 0) := (blk_cell BK255.out 0).trans rfl; have hcz26_1 : w24.cell? ⟨gb255, 1, none⟩ = some (.int .i64 0) := (blk_cell BK255.out 1).trans rfl; have hfz26_0 := blk_frozen BK255.out 0; have hfz26_1 := blk_frozen BK255.out 1))
        refine bodyPost_ret (results_cell_row rfl _ _ gb255 66 #[.slice (some ⟨go7, 0, none⟩) y259.length co17, .int .i64 a0_1] (0, 0) _ rfl (by (with_reducible repeat (first | refine blk_drewN ?_ _ | refine blk_drew ?_ | refine blk_alloc ?_ _)); refine blk_put (cs := #[.slice (some ⟨go7, 0, none⟩) y259.length co17, .int .i64 0]) ?_ 1 _ rfl; (with_reducible repeat (first | refine blk_drewN ?_ _ | refine blk_drew ?_ | refine blk_alloc ?_ _)); refine blk_put (cs := #[.slice none 0 0, .int .i64 0]) ?_ 0 _ rfl; (with_reducible repeat (first | refine blk_drewN ?_ _ | refine blk_drew ?_ | refine blk_alloc ?_ _)); exact BK255.out) Try.underlying66 rfl (by kernel_rfl)) rfl ?_
        exact ⟨_, by first | rfl | (simp [errW_none, errW_some] <;> rfl) | (simp [*, errW_none, errW_some] <;> rfl), by (with_reducible repeat (first | apply Kd.R_alloc | apply Kd.R_drewN | apply Kd.R_drew)); exact Kd.R_mono (Kd.R_far (p := ⟨gb255, 1, none⟩) (Kd.R_far (p := ⟨gb255, 0, none⟩) (Kd.R_types HO261.out BK255.out (by decide)) (fun _ hk => hk.2) (.slice (some ⟨go7, 0, none⟩) y259.length co17)) (fun _ hk => hk.2) (.int .i64 a0_1)) (fun _ hk => trivial), by repeat (first | (with_reducible first | exact HB.out | apply below_alloc | apply pw_below_drewN | apply below_drew1 | refine below_set ?_ GE253.out | refine below_set ?_ GE254.out | refine below_set ?_ GE255.out) | exact HB.out)⟩
      · rw [if_neg c6] at H
        exact absurd H (by simp)
    · rw [if_neg c5] at H
      exact absurd H (by simp)
  · rw [if_neg c4] at H
    exact absurd H (by simp)

end Go.Proofs.Ytblooffiggciiaa.PPs
/- PPsx45 -/
namespace Go.Proofs.Ytblooffiggciiaa.PPs
open Go.RowKit Go.Proofs.YtblooffiggciiaaW.PrintWords Go.Proofs.YtblooffiggciiaaW.PrintLast Go.Proofs.YtblooffiggciiaaW.PrintMore
attribute [local go_sem] max2_int min2_int max_two min_two max_three min_three max_four min_four   -- for this text's walks alone
attribute [local go_sem] Go.Proofs.Ytblooffiggciiaa.Aid.isSome_setCell
set_option linter.unusedVariables false
set_option linter.unusedSimpArgs false
def weftlineref14_Put.j0 : Nat → Bool → List (S29) → Int → Int → Int → Int → Bool → Int → Int → Int → Int → Int → Int → Int → Option ((List (S29)) × Int × Int)
  | 0, _, _, _, _, _, _, _, _, _, _, _, _, _, _ => none
  | k + 1, x14, x264000, x264001, x265000, x265001, x265002, x265003, x265004, x265005, x265006, x265007, x265008, x265009, x265010 => if x14 = true then (some (([] : List (S29)), 0, 1)) else ((weftlineref14_find.f k x264000 x264001 x265007).bind fun t268 => (if t268 < 0 then (some (([] : List (S29)), 0, 4)) else ((weftlineref14_set.f x264000 x264001 t268 x265000 x265001 x265002 x265003 x265004 x265005 x265006 x265007 x265008 x265009 x265010).bind fun bt269 => (some (bt269.1, bt269.2, 0)))))
def weftlineref14_Put.f (k : Nat) (l0_0 : List (S29)) (a0_1 : Int) (a1_0 : Int) (a1_1 : Int) (a1_2 : Int) (a1_3 : Bool) (a1_4 : Int) (a1_5 : Int) (a1_6 : Int) (a1_7 : Int) (a1_8 : Int) (a1_9 : Int) (a1_10 : Int) : Option ((List (S29)) × Int × Int) := (weftlineref14_Good.f k l0_0 a0_1).bind fun t266 => (if t266 = true then ((weftlineref13_Good.f k a1_0 a1_1 a1_2 a1_3 a1_4 a1_5 a1_6 a1_7 a1_8 a1_9 a1_10).bind fun t267 => (weftlineref14_Put.j0 k (!t267) l0_0 a0_1 a1_0 a1_1 a1_2 a1_3 a1_4 a1_5 a1_6 a1_7 a1_8 a1_9 a1_10)) else (weftlineref14_Put.j0 k true l0_0 a0_1 a1_0 a1_1 a1_2 a1_3 a1_4 a1_5 a1_6 a1_7 a1_8 a1_9 a1_10))
set_option maxHeartbeats 8000000 in
set_option maxRecDepth 100000 in
theorem weftlineref14_Put.calls (k : Nat) (A0_0 : Option Addr) (c0_0 : Nat) (l0_0 : List (S29)) (a0_1 : Int) (a1_0 : Int) (a1_1 : Int) (a1_2 : Int) (a1_3 : Bool) (a1_4 : Int) (a1_5 : Int) (a1_6 : Int) (a1_7 : Int) (a1_8 : Int) (a1_9 : Int) (a1_10 : Int) (r1 : List (S29)) (r2 : Int) (r3 : Int) (w : World) (hr0_0 : Kd.C k29 w A0_0 l0_0.length l0_0) (hc0_0 : l0_0.length ≤ c0_0) (h : weftlineref14_Put.f k l0_0 a0_1 a1_0 a1_1 a1_2 a1_3 a1_4 a1_5 a1_6 a1_7 a1_8 a1_9 a1_10 = some (r1, r2, r3)) :
    Calls Try.prog 38 #[.agg #[.slice A0_0 l0_0.length c0_0, .int .i64 a0_1], .agg #[.int .i64 a1_0, .int .i64 a1_1, .int .i64 a1_2, .bool a1_3, .int .i64 a1_4, .int .i64 a1_5, .int .i64 a1_6, .int .i64 a1_7, .int .i64 a1_8, .int .u32 a1_9, .int .i64 a1_10]] w fun e w' => ∃ v0_ : Value, e = .returned (.tuple #[.agg #[v0_, .int .i64 r2], .int .i64 r3]) ∧ Kd.R k29 29 w' w.heap.size (fun _ => True) v0_ r1 ∧ Below w.heap.size w w' := by
  have hu66 := Try.underlying66
  have hu29 := Try.underlying29
  have HR0_0 := Aside0.mk hr0_0
  have HC0_0 := Aside0.mk hc0_0
  clear hr0_0 hc0_0
  have HB := Aside0.mk (Below.refl w.heap.size w)
  have H : ((weftlineref14_Good.f k l0_0 a0_1).bind fun t266 => (if t266 = true then ((weftlineref13_Good.f k a1_0 a1_1 a1_2 a1_3 a1_4 a1_5 a1_6 a1_7 a1_8 a1_9 a1_10).bind fun t267 => (weftlineref14_Put.j0 k (!t267) l0_0 a0_1 a1_0 a1_1 a1_2 a1_3 a1_4 a1_5 a1_6 a1_7 a1_8 a1_9 a1_10)) else (weftlineref14_Put.j0 k true l0_0 a0_1 a1_0 a1_1 a1_2 a1_3 a1_4 a1_5 a1_6 a1_7 a1_8 a1_9 a1_10))) = some (r1, r2, r3) := h
  clear h
  have HC3 := Aside0.mk H
  clear H
  go_enter Try.func38, Try.ntmps38
  go_upto_region 1 with (first | ((with_reducible refine gate_dst (N := 2) rfl ?_); refine box_event ?hg (N := 2) ?hd (cs := #[.slice A0_0 l0_0.length c0_0, .int .i64 a0_1]) (t := 66) ?hr ?_; (case hd => rfl); (case hg => rfl); (case hr => first | (go_simp; done) | (go_simp; rfl)); intro gb263 hg w4 hbox hb; have n0_ := Aside0.mk (below_step (by repeat (first | (with_reducible first | exact HB.out | apply below_alloc | apply pw_below_drewN | apply below_drew1) | exact HB.out)) hb); have n1_ := Aside0.mk (hbox); have n2_ := Aside0.mk ((by rw [hg]; exact (below_size (by repeat (first | (with_reducible first | exact HB.out | apply below_alloc | apply pw_below_drewN | apply below_drew1) | exact HB.out))) : w.heap.size ≤ gb263)); have n3_ := Aside0.mk ((by rw [hg]; exact (below_size (by repeat (first | (with_reducible first | exact HB.out | apply below_alloc | apply pw_below_drewN | apply below_drew1) | exact HB.out))) : w.heap.size ≤ gb263)); clear HB; have HB := n0_; have BK263 := n1_; have GW263 := n2_; have GE263 := n3_; clear n0_ n1_ n2_ n3_; clear hb hbox hg) | ((with_reducible refine gate_dst (N := 3) rfl ?_); refine box_event ?hg (N := 3) ?hd (cs := #[.int .i64 a1_0, .int .i64 a1_1, .int .i64 a1_2, .bool a1_3, .int .i64 a1_4, .int .i64 a1_5, .int .i64 a1_6, .int .i64 a1_7, .int .i64 a1_8, .int .u32 a1_9, .int .i64 a1_10]) (t := 29) ?hr ?_; (case hd => rfl); (case hg => rfl); (case hr => first | (go_simp; done) | (go_simp; rfl)); intro gb264 hg w5 hbox hb; have n0_ := Aside0.mk (blk_below (g := gb263) (o := .cells #[.slice A0_0 l0_0.length c0_0, .int .i64 a0_1] 66 (0, 0)) (by (with_reducible repeat (first | refine blk_drewN ?_ _ | refine blk_drew ?_ | refine blk_alloc ?_ _)); exact BK263.out) hb); have n1_ := Aside0.mk (below_step (by repeat (first | (with_reducible first | exact HB.out | apply below_alloc | apply pw_below_drewN | apply below_drew1 | refine below_set ?_ GE263.out) | exact HB.out)) hb); have n2_ := Aside0.mk (hbox); have n3_ := Aside0.mk ((by rw [hg]; exact (below_size (by repeat (first | (with_reducible first | exact HB.out | apply below_alloc | apply pw_below_drewN | apply below_drew1 | refine below_set ?_ GE263.out) | exact HB.out))) : w.heap.size ≤ gb264)); have n4_ := Aside0.mk ((by rw [hg]; exact (below_size (by repeat (first | (with_reducible first | exact HB.out | apply below_alloc | apply pw_below_drewN | apply below_drew1 | refine below_set ?_ GE263.out) | exact HB.out))) : w.heap.size ≤ gb264)); have n5_ := Aside0.mk ((by rw [hg]; exact Nat.ne_of_lt (blk_lt (g := gb263) (o := .cells #[.slice A0_0 l0_0.length c0_0, .int .i64 a0_1] 66 (0, 0)) (by (with_reducible repeat (first | refine blk_drewN ?_ _ | refine blk_drew ?_ | refine blk_alloc ?_ _)); exact BK263.out)) : gb263 ≠ gb264)); have n6_ := Aside0.mk ((by rw [hg]; exact Nat.ne_of_gt (blk_lt (g := gb263) (o := .cells #[.slice A0_0 l0_0.length c0_0, .int .i64 a0_1] 66 (0, 0)) (by (with_reducible repeat (first | refine blk_drewN ?_ _ | refine blk_drew ?_ | refine blk_alloc ?_ _)); exact BK263.out)) : gb264 ≠ gb263)); clear BK263; clear HB; have BK263 := n0_; have HB := n1_; have BK264 := n2_; have GW264 := n3_; have GE264 := n4_; have NB263_264 := n5_; have NB264_263 := n6_; clear n0_ n1_ n2_ n3_ n4_ n5_ n6_; clear hb hbox hg) | ((with_reducible refine gate_dst (N := 4) rfl ?_); refine box_event ?hg (N := 4) ?hd (cs := #[.slice none 0 0, .int .i64 0]) (t := 66) ?hr ?_; (case hd => rfl); (case hg => rfl); (case hr => first | (go_simp; done) | (go_simp; rfl)); intro gb265 hg w6 hbox hb; have n0_ := Aside0.mk (blk_below (g := gb263) (o := .cells #[.slice A0_0 l0_0.length c0_0, .int .i64 a0_1] 66 (0, 0)) (by (with_reducible repeat (first | refine blk_drewN ?_ _ | refine blk_drew ?_ | refine blk_alloc ?_ _)); exact BK263.out) hb); have n1_ := Aside0.mk (blk_below (g := gb264) (o := .cells #[.int .i64 a1_0, .int .i64 a1_1, .int .i64 a1_2, .bool a1_3, .int .i64 a1_4, .int .i64 a1_5, .int .i64 a1_6, .int .i64 a1_7, .int .i64 a1_8, .int .u32 a1_9, .int .i64 a1_10] 29 (0, 0)) (by (with_reducible repeat (first | refine blk_drewN ?_ _ | refine blk_drew ?_ | refine blk_alloc ?_ _)); exact BK264.out) hb); have n2_ := Aside0.mk (below_step (by repeat (first | (with_reducible first | exact HB.out | apply below_alloc | apply pw_below_drewN | apply below_drew1 | refine below_set ?_ GE263.out | refine below_set ?_ GE264.out) | exact HB.out)) hb); have n3_ := Aside0.mk (hbox); have n4_ := Aside0.mk ((by rw [hg]; exact (below_size (by repeat (first | (with_reducible first | exact HB.out | apply below_alloc | apply pw_below_drewN | apply below_drew1 | refine below_set ?_ GE263.out | refine below_set ?_ GE264.out) | exact HB.out))) : w.heap.size ≤ gb265)); have n5_ := Aside0.mk ((by rw [hg]; exact (below_size (by repeat (first | (with_reducible first | exact HB.out | apply below_alloc | apply pw_below_drewN | apply below_drew1 | refine below_set ?_ GE263.out | refine below_set ?_ GE264.out) | exact HB.out))) : w.heap.size ≤ gb265)); have n6_ := Aside0.mk ((by rw [hg]; exact Nat.ne_of_lt (blk_lt (g := gb263) (o := .cells #[.slice A0_0 l0_0.length c0_0, .int .i64 a0_1] 66 (0, 0)) (by (with_reducible repeat (first | refine blk_drewN ?_ _ | refine blk_drew ?_ | refine blk_alloc ?_ _)); exact BK263.out)) : gb263 ≠ gb265)); have n7_ := Aside0.mk ((by rw [hg]; exact Nat.ne_of_gt (blk_lt (g := gb263) (o := .cells #[.slice A0_0 l0_0.length c0_0, .int .i64 a0_1] 66 (0, 0)) (by (with_reducible repeat (first | refine blk_drewN ?_ _ | refine blk_drew ?_ | refine blk_alloc ?_ _)); exact BK263.out)) : gb265 ≠ gb263)); have n8_ := Aside0.mk ((by rw [hg]; exact Nat.ne_of_lt (blk_lt (g := gb264) (o := .cells #[.int .i64 a1_0, .int .i64 a1_1, .int .i64 a1_2, .bool a1_3, .int .i64 a1_4, .int .i64 a1_5, .int .i64 a1_6, .int .i64 a1_7, .int .i64 a1_8, .int .u32 a1_9, .int .i64 a1_10] 29 (0, 0)) (by (with_reducible repeat (first | refine blk_drewN ?_ _ | refine blk_drew ?_ | refine blk_alloc ?_ _)); exact BK264.out)) : gb264 ≠ gb265)); have n9_ := Aside0.mk ((by rw [hg]; exact Nat.ne_of_gt (blk_lt (g := gb264) (o := .cells #[.int .i64 a1_0, .int .i64 a1_1, .int .i64 a1_2, .bool a1_3, .int .i64 a1_4, .int .i64 a1_5, .int .i64 a1_6, .int .i64 a1_7, .int .i64 a1_8, .int .u32 a1_9, .int .i64 a1_10] 29 (0, 0)) (by (with_reducible repeat (first | refine blk_drewN ?_ _ | refine blk_drew ?_ | refine blk_alloc ?_ _)); exact BK264.out)) : gb265 ≠ gb264)); clear BK263; clear BK264; clear HB; have BK263 := n0_; have BK264 := n1_; have HB := n2_; have BK265 := n3_; have GW265 := n4_; have GE265 := n5_; have NB263_265 := n6_; have NB265_263 := n7_; have NB264_265 := n8_; have NB265_264 := n9_; clear n0_ n1_ n2_ n3_ n4_ n5_ n6_ n7_ n8_ n9_; clear hb hbox hg))
  (try simp only [Act.put, List.setIfInBounds_toArray, List.set_cons_zero, List.set_cons_succ])
  go_cut [14] (fun v14 wc => ∃ (kq : Nat) (x14_2 : Bool), v14 = .bool x14_2 ∧ Aside0 (weftlineref14_Put.j0 kq x14_2 l0_0 a0_1 a1_0 a1_1 a1_2 a1_3 a1_4 a1_5 a1_6 a1_7 a1_8 a1_9 a1_10 = some (r1, r2, r3)) ∧ Aside0 (kq ≤ k) ∧ Aside0 (wc.heap[gb263]? = some (.cells #[(.slice A0_0 l0_0.length c0_0), .int .i64 a0_1] 66 (0, 0))) ∧ Aside0 (wc.heap[gb264]? = some (.cells #[.int .i64 a1_0, .int .i64 a1_1, .int .i64 a1_2, .bool a1_3, .int .i64 a1_4, .int .i64 a1_5, .int .i64 a1_6, .int .i64 a1_7, .int .i64 a1_8, .int .u32 a1_9, .int .i64 a1_10] 29 (0, 0))) ∧ Aside0 (wc.heap[gb265]? = some (.cells #[(.slice none 0 0), .int .i64 0] 66 (0, 0))) ∧ Aside0 (Below w.heap.size w wc))
  case first =>
    have H := HC3.out
    clear HC3
    replace H := Option.bind_eq_some_iff.mp H
    obtain ⟨t266, A70, H⟩ := H
    replace H : (if t266 = true then ((weftlineref13_Good.f k a1_0 a1_1 a1_2 a1_3 a1_4 a1_5 a1_6 a1_7 a1_8 a1_9 a1_10).bind fun t267 => (weftlineref14_Put.j0 k (!t267) l0_0 a0_1 a1_0 a1_1 a1_2 a1_3 a1_4 a1_5 a1_6 a1_7 a1_8 a1_9 a1_10)) else (weftlineref14_Put.j0 k true l0_0 a0_1 a1_0 a1_1 a1_2 a1_3 a1_4 a1_5 a1_6 a1_7 a1_8 a1_9 a1_10)) = some (r1, r2, r3) := H
    have A7 := Aside0.mk A70
    clear A70
    by_cases c8 : t266 = true
    · subst c8
      have H1 : ((weftlineref13_Good.f k a1_0 a1_1 a1_2 a1_3 a1_4 a1_5 a1_6 a1_7 a1_8 a1_9 a1_10).bind fun t267 => (weftlineref14_Put.j0 k (!t267) l0_0 a0_1 a1_0 a1_1 a1_2 a1_3 a1_4 a1_5 a1_6 a1_7 a1_8 a1_9 a1_10)) = some (r1, r2, r3) := by rw [if_pos rfl] at H; exact H
      clear H
      have H := H1
      clear H1
      replace H := Option.bind_eq_some_iff.mp H
      obtain ⟨t267, A90, H⟩ := H
      replace H : (weftlineref14_Put.j0 k (!t267) l0_0 a0_1 a1_0 a1_1 a1_2 a1_3 a1_4 a1_5 a1_6 a1_7 a1_8 a1_9 a1_10) = some (r1, r2, r3) := H
      have A9 := Aside0.mk A90
      clear A90
      have H' := Aside0.mk H
      clear H
      have hnb10 := NB263_264.out
      have hnc10 := NB264_263.out
      have hnb11 := NB263_265.out
      have hnc11 := NB265_263.out
      have hcz12_0 : w6.cell? ⟨gb263, 0, none⟩ = some (.slice A0_0 l0_0.length c0_0) := (blk_cell BK263.out 0).trans rfl
      have hcz12_1 : w6.cell? ⟨gb263, 1, none⟩ = some (.int .i64 a0_1) := (blk_cell BK263.out 1).trans rfl
      have hfz12_0 := blk_frozen BK263.out 0
      have hfz12_1 := blk_frozen BK263.out 1
      go_wp2_with (first | ((with_reducible refine gate_callee (f := 53) rfl ?_); refine goesL_ (some 8) rfl rfl Try.func53 (by kernel_rfl) rfl #[.agg #[.slice A0_0 l0_0.length c0_0, .int .i64 a0_1]] rfl (by (try simp only [List.map_toArray, List.map_cons, List.map_nil]); first | done | rfl | (simp only [List.length_drop, List.length_take]; rfl)) ?_; (with_reducible refine (weftlineref14_Good.calls k _ _ l0_0 a0_1 true _ ?side1 ?side2 A7.out).mono ?_); (case side1 => repeat (first | exact (Kd.C_below HR0_0.out HB.out) | (with_reducible refine Kd.C_alloc ?_ _) | (with_reducible refine Kd.C_drewN ?_ _) | (with_reducible refine Kd.C_drew ?_))); (case side2 => exact HC0_0.out); rintro e w13 ⟨rfl, hb⟩; refine ⟨_, rfl, ?_⟩; have n0_ := Aside0.mk (blk_below (g := gb263) (o := .cells #[.slice A0_0 l0_0.length c0_0, .int .i64 a0_1] 66 (0, 0)) (by (with_reducible repeat (first | refine blk_drewN ?_ _ | refine blk_drew ?_ | refine blk_alloc ?_ _)); exact BK263.out) hb); have n1_ := Aside0.mk (blk_below (g := gb264) (o := .cells #[.int .i64 a1_0, .int .i64 a1_1, .int .i64 a1_2, .bool a1_3, .int .i64 a1_4, .int .i64 a1_5, .int .i64 a1_6, .int .i64 a1_7, .int .i64 a1_8, .int .u32 a1_9, .int .i64 a1_10] 29 (0, 0)) (by (with_reducible repeat (first | refine blk_drewN ?_ _ | refine blk_drew ?_ | refine blk_alloc ?_ _)); exact BK264.out) hb); have n2_ := Aside0.mk (blk_below (g := gb265) (o := .cells #[.slice none 0 0, .int .i64 0] 66 (0, 0)) (by (with_reducible repeat (first | refine blk_drewN ?_ _ | refine blk_drew ?_ | refine blk_alloc ?_ _)); exact BK265.out) hb); have n3_ := Aside0.mk (below_step (by repeat (first | (with_reducible first | exact HB.out | apply below_alloc | apply pw_below_drewN | apply below_drew1 | refine below_set ?_ GE263.out | refine below_set ?_ GE264.out | refine below_set ?_ GE265.out) | exact HB.out)) hb); clear BK263; clear BK264; clear BK265; clear HB; have BK263 := n0_; have BK264 := n1_; have BK265 := n2_; have HB := n3_; clear n0_ n1_ n2_ n3_; (try clear hb); (try clear hb2); (try clear hk); (try clear hi); have hnb14 := NB264_265.out; have hnc14 := NB265_264.out; have hcz15_0 : w13.cell? ⟨gb264, 0, none⟩ = some (.int .i64 a1_0) := (blk_cell BK264.out 0).trans rfl; have hcz15_1 : w13.cell? ⟨gb264, 1, none⟩ = some (.int .i64 a1_1) := (blk_cell BK264.out 1).trans rfl; have hcz15_2 : w13.cell? ⟨gb264, 2, none⟩ = some (.int .i64 a1_2) := (blk_cell BK264.out 2).trans rfl; have hcz15_3 : w13.cell? ⟨gb264, 3, none⟩ = some (.bool a1_3) := (blk_cell BK264.out 3).trans rfl; have hcz15_4 : w13.cell? ⟨gb264, 4, none⟩ = some (.int .i64 a1_4) := (blk_cell BK264.out 4).trans rfl; have hcz15_5 : w13.cell? ⟨gb264, 5, none⟩ = some (.int .i64 a1_5) := (blk_cell BK264.out 5).trans rfl; have hcz15_6 : w13.cell? ⟨gb264, 6, none⟩ = some (.int .i64 a1_6) := (blk_cell BK264.out 6).trans rfl; have hcz15_7 : w13.cell? ⟨gb264, 7, none⟩ = some (.int .i64 a1_7) := (blk_cell BK264.out 7).trans rfl; have hcz15_8 : w13.cell? ⟨gb264, 8, none⟩ = some (.int .i64 a1_8) := (blk_cell BK264.out 8).trans rfl; have hcz15_9 : w13.cell? ⟨gb264, 9, none⟩ = some (.int .u32 a1_9) := (blk_cell BK264.out 9).trans rfl; have hcz15_10 : w13.cell? ⟨gb264, 10, none⟩ = some (.int .i64 a1_10) := (blk_cell BK264.out 10).trans rfl; have hfz15_0 := blk_frozen BK264.out 0; have hfz15_1 := blk_frozen BK264.out 1; have hfz15_2 := blk_frozen BK264.out 2; have hfz15_3 := blk_frozen BK264.out 3; have hfz15_4 := blk_frozen BK264.out 4; have hfz15_5 := blk_frozen BK264.out 5; have hfz15_6 := blk_frozen BK264.out 6; have hfz15_7 := blk_frozen BK264.out 7; have hfz15_8 := blk_frozen BK264.out 8; have hfz15_9 := blk_frozen BK264.out 9; have hfz15_10 := blk_frozen BK264.out 10) | (go_at_call 19; (with_reducible refine (weftlineref13_Good.calls k a1_0 a1_1 a1_2 a1_3 a1_4 a1_5 a1_6 a1_7 a1_8 a1_9 a1_10 t267 _ A9.out).mono ?_); rintro e w16 ⟨rfl, hb⟩; have n0_ := Aside0.mk (blk_below (g := gb263) (o := .cells #[.slice A0_0 l0_0.length c0_0, .int .i64 a0_1] 66 (0, 0)) (by (with_reducible repeat (first | refine blk_drewN ?_ _ | refine blk_drew ?_ | refine blk_alloc ?_ _)); exact BK263.out) hb); have n1_ := Aside0.mk (blk_below (g := gb264) (o := .cells #[.int .i64 a1_0, .int .i64 a1_1, .int .i64 a1_2, .bool a1_3, .int .i64 a1_4, .int .i64 a1_5, .int .i64 a1_6, .int .i64 a1_7, .int .i64 a1_8, .int .u32 a1_9, .int .i64 a1_10] 29 (0, 0)) (by (with_reducible repeat (first | refine blk_drewN ?_ _ | refine blk_drew ?_ | refine blk_alloc ?_ _)); exact BK264.out) hb); have n2_ := Aside0.mk (blk_below (g := gb265) (o := .cells #[.slice none 0 0, .int .i64 0] 66 (0, 0)) (by (with_reducible repeat (first | refine blk_drewN ?_ _ | refine blk_drew ?_ | refine blk_alloc ?_ _)); exact BK265.out) hb); have n3_ := Aside0.mk (below_step (by repeat (first | (with_reducible first | exact HB.out | apply below_alloc | apply pw_below_drewN | apply below_drew1 | refine below_set ?_ GE263.out | refine below_set ?_ GE264.out | refine below_set ?_ GE265.out) | exact HB.out)) hb); clear BK263; clear BK264; clear BK265; clear HB; have BK263 := n0_; have BK264 := n1_; have BK265 := n2_; have HB := n3_; clear n0_ n1_ n2_ n3_; (try clear hb); (try clear hb2); (try clear hk); (try clear hi)))
      go_meet
      case rel => exact ⟨_, (!t267), (by first | rfl | (simp; done) | (simp [*]; done)), H', ⟨by first | omega | exact Nat.le_refl _⟩, ⟨by (with_reducible repeat (first | refine blk_drewN ?_ _ | refine blk_drew ?_ | refine blk_alloc ?_ _)); exact BK263.out⟩, ⟨by (with_reducible repeat (first | refine blk_drewN ?_ _ | refine blk_drew ?_ | refine blk_alloc ?_ _)); exact BK264.out⟩, ⟨by (with_reducible repeat (first | refine blk_drewN ?_ _ | refine blk_drew ?_ | refine blk_alloc ?_ _)); exact BK265.out⟩, ⟨by repeat (first | (with_reducible first | exact HB.out | apply below_alloc | apply pw_below_drewN | apply below_drew1 | refine below_set ?_ GE263.out | refine below_set ?_ GE264.out | refine below_set ?_ GE265.out) | exact HB.out)⟩⟩
    · replace c8 := Bool.eq_false_iff.mpr c8
      subst c8
      have H1 : (weftlineref14_Put.j0 k true l0_0 a0_1 a1_0 a1_1 a1_2 a1_3 a1_4 a1_5 a1_6 a1_7 a1_8 a1_9 a1_10) = some (r1, r2, r3) := by rw [if_neg (show ¬ (false = true) by decide)] at H; exact H
      clear H
      have H := H1
      clear H1
      have H' := Aside0.mk H
      clear H
      have hnb17 := NB263_264.out
      have hnc17 := NB264_263.out
      have hnb18 := NB263_265.out
      have hnc18 := NB265_263.out
      have hcz19_0 : w6.cell? ⟨gb263, 0, none⟩ = some (.slice A0_0 l0_0.length c0_0) := (blk_cell BK263.out 0).trans rfl
      have hcz19_1 : w6.cell? ⟨gb263, 1, none⟩ = some (.int .i64 a0_1) := (blk_cell BK263.out 1).trans rfl
      have hfz19_0 := blk_frozen BK263.out 0
      have hfz19_1 := blk_frozen BK263.out 1
      go_wp2_with (first | ((with_reducible refine gate_callee (f := 53) rfl ?_); refine goesL_ (some 8) rfl rfl Try.func53 (by kernel_rfl) rfl #[.agg #[.slice A0_0 l0_0.length c0_0, .int .i64 a0_1]] rfl (by (try simp only [List.map_toArray, List.map_cons, List.map_nil]); first | done | rfl | (simp only [List.length_drop, List.length_take]; rfl)) ?_; (with_reducible refine (weftlineref14_Good.calls k _ _ l0_0 a0_1 false _ ?side1 ?side2 A7.out).mono ?_); (case side1 => repeat (first | exact (Kd.C_below HR0_0.out HB.out) | (with_reducible refine Kd.C_alloc ?_ _) | (with_reducible refine Kd.C_drewN ?_ _) | (with_reducible refine Kd.C_drew ?_))); (case side2 => exact HC0_0.out); rintro e w20 ⟨rfl, hb⟩; refine ⟨_, rfl, ?_⟩; have n0_ := Aside0.mk (blk_below (g := gb263) (o := .cells #[.slice A0_0 l0_0.length c0_0, .int .i64 a0_1] 66 (0, 0)) (by (with_reducible repeat (first | refine blk_drewN ?_ _ | refine blk_drew ?_ | refine blk_alloc ?_ _)); exact BK263.out) hb); have n1_ := Aside0.mk (blk_below (g := gb264) (o := .cells #[.int .i64 a1_0, .int .i64 a1_1, .int .i64 a1_2, .bool a1_3, .int .i64 a1_4, .int .i64 a1_5, .int .i64 a1_6, .int .i64 a1_7, .int .i64 a1_8, .int .u32 a1_9, .int .i64 a1_10] 29 (0, 0)) (by (with_reducible repeat (first | refine blk_drewN ?_ _ | refine blk_drew ?_ | refine blk_alloc ?_ _)); exact BK264.out) hb); have n2_ := Aside0.mk (blk_below (g := gb265) (o := .cells #[.slice none 0 0, .int .i64 0] 66 (0, 0)) (by (with_reducible repeat (first | refine blk_drewN ?_ _ | refine blk_drew ?_ | refine blk_alloc ?_ _)); exact BK265.out) hb); have n3_ := Aside0.mk (below_step (by repeat (first | (with_reducible first | exact HB.out | apply below_alloc | apply pw_below_drewN | apply below_drew1 | refine below_set ?_ GE263.out | refine below_set ?_ GE264.out | refine below_set ?_ GE265.out) | exact HB.out)) hb); clear BK263; clear BK264; clear BK265; clear HB; have BK263 := n0_; have BK264 := n1_; have BK265 := n2_; have HB := n3_; clear n0_ n1_ n2_ n3_; (try clear hb); (try clear hb2); (try clear hk); (try clear hi)))
      go_meet
      case rel => exact ⟨_, (true), (by first | rfl | (simp; done) | (simp [*]; done)), H', ⟨by first | omega | exact Nat.le_refl _⟩, ⟨by (with_reducible repeat (first | refine blk_drewN ?_ _ | refine blk_drew ?_ | refine blk_alloc ?_ _)); exact BK263.out⟩, ⟨by (with_reducible repeat (first | refine blk_drewN ?_ _ | refine blk_drew ?_ | refine blk_alloc ?_ _)); exact BK264.out⟩, ⟨by (with_reducible repeat (first | refine blk_drewN ?_ _ | refine blk_drew ?_ | refine blk_alloc ?_ _)); exact BK265.out⟩, ⟨by repeat (first | (with_reducible first | exact HB.out | apply below_alloc | apply pw_below_drewN | apply below_drew1 | refine below_set ?_ GE263.out | refine below_set ?_ GE264.out | refine below_set ?_ GE265.out) | exact HB.out)⟩⟩
  case rest =>
    clear HC3
    try clear c1
    try clear p2
    try clear c3
    try clear c5
    try clear c8
    try clear c10
    try clear c11
    try clear c14
    try clear c17
    try clear c18
    try clear hcz12_0
    try clear hcz12_1
    try clear hcz15_0
    try clear hcz15_1
    try clear hcz15_10
    try clear hcz15_2
    try clear hcz15_3
    try clear hcz15_4
    try clear hcz15_5
    try clear hcz15_6
    try clear hcz15_7
    try clear hcz15_8
    try clear hcz15_9
    try clear hcz19_0
    try clear hcz19_1
    try clear hfz12_0
    try clear hfz12_1
    try clear hfz15_0
    try clear hfz15_1
    try clear hfz15_10
    try clear hfz15_2
    try clear hfz15_3
    try clear hfz15_4
    try clear hfz15_5
    try clear hfz15_6
    try clear hfz15_7
    try clear hfz15_8
    try clear hfz15_9
    try clear hfz19_0
    try clear hfz19_1
    obtain ⟨kq, x14_2, rfl, HA, HJ2, BK263, BK264, BK265, HB⟩ := hcut
    cases kq with
    | zero => exact absurd HA.out (by simp [weftlineref14_Put.j0])
    | succ kj2 =>
      have H := HA.out
      clear HA
      simp only [weftlineref14_Put.j0] at H
      by_cases c21 : x14_2 = true
      · subst c21
        have H1 : (some (([] : List (S29)), 0, 1)) = some (r1, r2, r3) := by rw [if_pos rfl] at H; exact H
        clear H
        have H := H1
        clear H1
        simp only [Option.some.injEq, Prod.mk.injEq] at H
        obtain ⟨rfl, rfl, rfl⟩ := H
        have hnb22 := NB265_263.out
        have hnc22 := NB263_265.out
        have hnb23 := NB265_264.out
        have hnc23 := NB264_265.out
        have hcz24_0 : wc.cell? ⟨gb265, 0, none⟩ = some (.slice none 0 0) := (blk_cell BK265.out 0).trans rfl
        have hcz24_1 : wc.cell? ⟨gb265, 1, none⟩ = some (.int .i64 0) := (blk_cell BK265.out 1).trans rfl
        have hfz24_0 := blk_frozen BK265.out 0
        have hfz24_1 := blk_frozen BK265.out 1
        go_wp2
        refine bodyPost_ret (results_ct rfl _ _ gb265 66 #[.slice none 0 0, .int .i64 0] (0, 0) _ rfl (by (with_reducible repeat (first | refine blk_drewN ?_ _ | refine blk_drew ?_ | refine blk_alloc ?_ _)); refine blk_put (cs := #[.slice none 0 0, .int .i64 0]) ?_ 1 _ rfl; (with_reducible repeat (first | refine blk_drewN ?_ _ | refine blk_drew ?_ | refine blk_alloc ?_ _)); refine blk_put (cs := #[.slice none 0 0, .int .i64 0]) ?_ 0 _ rfl; (with_reducible repeat (first | refine blk_drewN ?_ _ | refine blk_drew ?_ | refine blk_alloc ?_ _)); exact BK265.out) Try.underlying66 rfl (by kernel_rfl)) rfl ?_
        exact ⟨_, by first | rfl | (simp [errW_none, errW_some] <;> rfl) | (simp [*, errW_none, errW_some] <;> rfl), by first | exact Kd.R_nil _ _ _ _ _ | exact Kd.N_nil _ _ _ _ _ | exact Kd.V_nil _ _ _ _ _ | exact Kd.Q_nil _ _ _ _ _ | exact Kd.S_nil _ _ _ _ _, by repeat (first | (with_reducible first | exact HB.out | apply below_alloc | apply pw_below_drewN | apply below_drew1 | refine below_set ?_ GE263.out | refine below_set ?_ GE264.out | refine below_set ?_ GE265.out) | exact HB.out)⟩
      · replace c21 := Bool.eq_false_iff.mpr c21
        subst c21
        have H1 : ((weftlineref14_find.f kj2 l0_0 a0_1 a1_7).bind fun t268 => (if t268 < 0 then (some (([] : List (S29)), 0, 4)) else ((weftlineref14_set.f l0_0 a0_1 t268 a1_0 a1_1 a1_2 a1_3 a1_4 a1_5 a1_6 a1_7 a1_8 a1_9 a1_10).bind fun bt269 => (some (bt269.1, bt269.2, 0))))) = some (r1, r2, r3) := by rw [if_neg (show ¬ (false = true) by decide)] at H; exact H
        clear H
        have H := H1
        clear H1
        replace H := Option.bind_eq_some_iff.mp H
        obtain ⟨t268, A250, H⟩ := H
        replace H : (if t268 < 0 then (some (([] : List (S29)), 0, 4)) else ((weftlineref14_set.f l0_0 a0_1 t268 a1_0 a1_1 a1_2 a1_3 a1_4 a1_5 a1_6 a1_7 a1_8 a1_9 a1_10).bind fun bt269 => (some (bt269.1, bt269.2, 0)))) = some (r1, r2, r3) := H
        have A25 := Aside0.mk A250
        clear A250
        by_cases c26 : t268 < 0
        · rw [if_pos c26] at H
          have c26b0 : decide (t268 < 0) = true := decide_eq_true c26
          clear c26
          simp only [Option.some.injEq, Prod.mk.injEq] at H
          obtain ⟨rfl, rfl, rfl⟩ := H
          have hnb27 := NB263_264.out
          have hnc27 := NB264_263.out
          have hnb28 := NB263_265.out
          have hnc28 := NB265_263.out
          have hcz29_0 : wc.cell? ⟨gb263, 0, none⟩ = some (.slice A0_0 l0_0.length c0_0) := (blk_cell BK263.out 0).trans rfl
          have hcz29_1 : wc.cell? ⟨gb263, 1, none⟩ = some (.int .i64 a0_1) := (blk_cell BK263.out 1).trans rfl
          have hfz29_0 := blk_frozen BK263.out 0
          have hfz29_1 := blk_frozen BK263.out 1
          have hnb30 := NB264_265.out
          have hnc30 := NB265_264.out
          have hcz31_0 : wc.cell? ⟨gb264, 0, none⟩ = some (.int .i64 a1_0) := (blk_cell BK264.out 0).trans rfl
          have hcz31_1 : wc.cell? ⟨gb264, 1, none⟩ = some (.int .i64 a1_1) := (blk_cell BK264.out 1).trans rfl
          have hcz31_2 : wc.cell? ⟨gb264, 2, none⟩ = some (.int .i64 a1_2) := (blk_cell BK264.out 2).trans rfl
          have hcz31_3 : wc.cell? ⟨gb264, 3, none⟩ = some (.bool a1_3) := (blk_cell BK264.out 3).trans rfl
          have hcz31_4 : wc.cell? ⟨gb264, 4, none⟩ = some (.int .i64 a1_4) := (blk_cell BK264.out 4).trans rfl
          have hcz31_5 : wc.cell? ⟨gb264, 5, none⟩ = some (.int .i64 a1_5) := (blk_cell BK264.out 5).trans rfl
          have hcz31_6 : wc.cell? ⟨gb264, 6, none⟩ = some (.int .i64 a1_6) := (blk_cell BK264.out 6).trans rfl
          have hcz31_7 : wc.cell? ⟨gb264, 7, none⟩ = some (.int .i64 a1_7) := (blk_cell BK264.out 7).trans rfl
          have hcz31_8 : wc.cell? ⟨gb264, 8, none⟩ = some (.int .i64 a1_8) := (blk_cell BK264.out 8).trans rfl
          have hcz31_9 : wc.cell? ⟨gb264, 9, none⟩ = some (.int .u32 a1_9) := (blk_cell BK264.out 9).trans rfl
          have hcz31_10 : wc.cell? ⟨gb264, 10, none⟩ = some (.int .i64 a1_10) := (blk_cell BK264.out 10).trans rfl
          have hfz31_0 := blk_frozen BK264.out 0
          have hfz31_1 := blk_frozen BK264.out 1
          have hfz31_2 := blk_frozen BK264.out 2
          have hfz31_3 := blk_frozen BK264.out 3
          have hfz31_4 := blk_frozen BK264.out 4
          have hfz31_5 := blk_frozen BK264.out 5
          have hfz31_6 := blk_frozen BK264.out 6
          have hfz31_7 := blk_frozen BK264.out 7
          have hfz31_8 := blk_frozen BK264.out 8
          have hfz31_9 := blk_frozen BK264.out 9
          have hfz31_10 := blk_frozen BK264.out 10
          go_wp2_with (first | ((with_reducible refine gate_callee (f := 83) rfl ?_); refine goesL_ (some 19) rfl rfl Try.func83 (by kernel_rfl) rfl #[.agg #[.slice A0_0 l0_0.length c0_0, .int .i64 a0_1], .int .i64 a1_7] rfl (by (try simp only [List.map_toArray, List.map_cons, List.map_nil]); first | done | rfl | (simp only [List.length_drop, List.length_take]; rfl)) ?_; (with_reducible refine (weftlineref14_find.calls kj2 _ _ l0_0 a0_1 a1_7 t268 _ ?side1 ?side2 A25.out).mono ?_); (case side1 => repeat (first | exact (Kd.C_below HR0_0.out HB.out) | (with_reducible refine Kd.C_alloc ?_ _) | (with_reducible refine Kd.C_drewN ?_ _) | (with_reducible refine Kd.C_drew ?_))); (case side2 => exact HC0_0.out); rintro e w32 ⟨rfl, hb⟩; refine ⟨_, rfl, ?_⟩; have n0_ := Aside0.mk (blk_below (g := gb263) (o := .cells #[.slice A0_0 l0_0.length c0_0, .int .i64 a0_1] 66 (0, 0)) (by (with_reducible repeat (first | refine blk_drewN ?_ _ | refine blk_drew ?_ | refine blk_alloc ?_ _)); exact BK263.out) hb); have n1_ := Aside0.mk (blk_below (g := gb264) (o := .cells #[.int .i64 a1_0, .int .i64 a1_1, .int .i64 a1_2, .bool a1_3, .int .i64 a1_4, .int .i64 a1_5, .int .i64 a1_6, .int .i64 a1_7, .int .i64 a1_8, .int .u32 a1_9, .int .i64 a1_10] 29 (0, 0)) (by (with_reducible repeat (first | refine blk_drewN ?_ _ | refine blk_drew ?_ | refine blk_alloc ?_ _)); exact BK264.out) hb); have n2_ := Aside0.mk (blk_below (g := gb265) (o := .cells #[.slice none 0 0, .int .i64 0] 66 (0, 0)) (by (with_reducible repeat (first | refine blk_drewN ?_ _ | refine blk_drew ?_ | refine blk_alloc ?_ _)); exact BK265.out) hb); have n3_ := Aside0.mk (below_step (by repeat (first | (with_reducible first | exact HB.out | apply below_alloc | apply pw_below_drewN | apply below_drew1 | refine below_set ?_ GE263.out | refine below_set ?_ GE264.out | refine below_set ?_ GE265.out) | exact HB.out)) hb); clear BK263; clear BK264; clear BK265; clear HB; have BK263 := n0_; have BK264 := n1_; have BK265 := n2_; have HB := n3_; clear n0_ n1_ n2_ n3_; (try clear hb); (try clear hb2); (try clear hk); (try clear hi); have hcz33_0 : w32.cell? ⟨gb265, 0, none⟩ = some (.slice none 0 0) := (blk_cell BK265.out 0).trans rfl; have hcz33_1 : w32.cell? ⟨gb265, 1, none⟩ = some (.int .i64 0) := (blk_cell BK265.out 1).trans rfl; have hfz33_0 := blk_frozen BK265.out 0; have hfz33_1 := blk_frozen BK265.out 1))
          refine bodyPost_ret (results_ct rfl _ _ gb265 66 #[.slice none 0 0, .int .i64 0] (0, 0) _ rfl (by (with_reducible repeat (first | refine blk_drewN ?_ _ | refine blk_drew ?_ | refine blk_alloc ?_ _)); refine blk_put (cs := #[.slice none 0 0, .int .i64 0]) ?_ 1 _ rfl; (with_reducible repeat (first | refine blk_drewN ?_ _ | refine blk_drew ?_ | refine blk_alloc ?_ _)); refine blk_put (cs := #[.slice none 0 0, .int .i64 0]) ?_ 0 _ rfl; (with_reducible repeat (first | refine blk_drewN ?_ _ | refine blk_drew ?_ | refine blk_alloc ?_ _)); exact BK265.out) Try.underlying66 rfl (by kernel_rfl)) rfl ?_
          exact ⟨_, by first | rfl | (simp [errW_none, errW_some] <;> rfl) | (simp [*, errW_none, errW_some] <;> rfl), by first | exact Kd.R_nil _ _ _ _ _ | exact Kd.N_nil _ _ _ _ _ | exact Kd.V_nil _ _ _ _ _ | exact Kd.Q_nil _ _ _ _ _ | exact Kd.S_nil _ _ _ _ _, by repeat (first | (with_reducible first | exact HB.out | apply below_alloc | apply pw_below_drewN | apply below_drew1 | refine below_set ?_ GE263.out | refine below_set ?_ GE264.out | refine below_set ?_ GE265.out) | exact HB.out)⟩
        · rw [if_neg c26] at H
          have c26b0 : decide (t268 < 0) = false := decide_eq_false c26
          clear c26
          replace H := Option.bind_eq_some_iff.mp H
          obtain ⟨⟨t269, t272⟩, A340, H⟩ := H
          replace H : (some (t269, t272, 0)) = some (r1, r2, r3) := H
          have A34 := Aside0.mk A340
          clear A340
          simp only [Option.some.injEq, Prod.mk.injEq] at H
          obtain ⟨rfl, rfl, rfl⟩ := H
          have hnb35 := NB263_264.out
          have hnc35 := NB264_263.out
          have hnb36 := NB263_265.out
          have hnc36 := NB265_263.out
          have hcz37_0 : wc.cell? ⟨gb263, 0, none⟩ = some (.slice A0_0 l0_0.length c0_0) := (blk_cell BK263.out 0).trans rfl
          have hcz37_1 : wc.cell? ⟨gb263, 1, none⟩ = some (.int .i64 a0_1) := (blk_cell BK263.out 1).trans rfl
          have hfz37_0 := blk_frozen BK263.out 0
          have hfz37_1 := blk_frozen BK263.out 1
          have hnb38 := NB264_265.out
          have hnc38 := NB265_264.out
          have hcz39_0 : wc.cell? ⟨gb264, 0, none⟩ = some (.int .i64 a1_0) := (blk_cell BK264.out 0).trans rfl
          have hcz39_1 : wc.cell? ⟨gb264, 1, none⟩ = some (.int .i64 a1_1) := (blk_cell BK264.out 1).trans rfl
          have hcz39_2 : wc.cell? ⟨gb264, 2, none⟩ = some (.int .i64 a1_2) := (blk_cell BK264.out 2).trans rfl
          have hcz39_3 : wc.cell? ⟨gb264, 3, none⟩ = some (.bool a1_3) := (blk_cell BK264.out 3).trans rfl
          have hcz39_4 : wc.cell? ⟨gb264, 4, none⟩ = some (.int .i64 a1_4) := (blk_cell BK264.out 4).trans rfl
          have hcz39_5 : wc.cell? ⟨gb264, 5, none⟩ = some (.int .i64 a1_5) := (blk_cell BK264.out 5).trans rfl
          have hcz39_6 : wc.cell? ⟨gb264, 6, none⟩ = some (.int .i64 a1_6) := (blk_cell BK264.out 6).trans rfl
          have hcz39_7 : wc.cell? ⟨gb264, 7, none⟩ = some (.int .i64 a1_7) := (blk_cell BK264.out 7).trans rfl
          have hcz39_8 : wc.cell? ⟨gb264, 8, none⟩ = some (.int .i64 a1_8) := (blk_cell BK264.out 8).trans rfl
          have hcz39_9 : wc.cell? ⟨gb264, 9, none⟩ = some (.int .u32 a1_9) := (blk_cell BK264.out 9).trans rfl
          have hcz39_10 : wc.cell? ⟨gb264, 10, none⟩ = some (.int .i64 a1_10) := (blk_cell BK264.out 10).trans rfl
          have hfz39_0 := blk_frozen BK264.out 0
          have hfz39_1 := blk_frozen BK264.out 1
          have hfz39_2 := blk_frozen BK264.out 2
          have hfz39_3 := blk_frozen BK264.out 3
          have hfz39_4 := blk_frozen BK264.out 4
          have hfz39_5 := blk_frozen BK264.out 5
          have hfz39_6 := blk_frozen BK264.out 6
          have hfz39_7 := blk_frozen BK264.out 7
          have hfz39_8 := blk_frozen BK264.out 8
          have hfz39_9 := blk_frozen BK264.out 9
          have hfz39_10 := blk_frozen BK264.out 10
          go_wp2_with (first | ((with_reducible refine gate_callee (f := 83) rfl ?_); refine goesL_ (some 19) rfl rfl Try.func83 (by kernel_rfl) rfl #[.agg #[.slice A0_0 l0_0.length c0_0, .int .i64 a0_1], .int .i64 a1_7] rfl (by (try simp only [List.map_toArray, List.map_cons, List.map_nil]); first | done | rfl | (simp only [List.length_drop, List.length_take]; rfl)) ?_; (with_reducible refine (weftlineref14_find.calls kj2 _ _ l0_0 a0_1 a1_7 t268 _ ?side1 ?side2 A25.out).mono ?_); (case side1 => repeat (first | exact (Kd.C_below HR0_0.out HB.out) | (with_reducible refine Kd.C_alloc ?_ _) | (with_reducible refine Kd.C_drewN ?_ _) | (with_reducible refine Kd.C_drew ?_))); (case side2 => exact HC0_0.out); rintro e w40 ⟨rfl, hb⟩; refine ⟨_, rfl, ?_⟩; have n0_ := Aside0.mk (blk_below (g := gb263) (o := .cells #[.slice A0_0 l0_0.length c0_0, .int .i64 a0_1] 66 (0, 0)) (by (with_reducible repeat (first | refine blk_drewN ?_ _ | refine blk_drew ?_ | refine blk_alloc ?_ _)); exact BK263.out) hb); have n1_ := Aside0.mk (blk_below (g := gb264) (o := .cells #[.int .i64 a1_0, .int .i64 a1_1, .int .i64 a1_2, .bool a1_3, .int .i64 a1_4, .int .i64 a1_5, .int .i64 a1_6, .int .i64 a1_7, .int .i64 a1_8, .int .u32 a1_9, .int .i64 a1_10] 29 (0, 0)) (by (with_reducible repeat (first | refine blk_drewN ?_ _ | refine blk_drew ?_ | refine blk_alloc ?_ _)); exact BK264.out) hb); have n2_ := Aside0.mk (blk_below (g := gb265) (o := .cells #[.slice none 0 0, .int .i64 0] 66 (0, 0)) (by (with_reducible repeat (first | refine blk_drewN ?_ _ | refine blk_drew ?_ | refine blk_alloc ?_ _)); exact BK265.out) hb); have n3_ := Aside0.mk (below_step (by repeat (first | (with_reducible first | exact HB.out | apply below_alloc | apply pw_below_drewN | apply below_drew1 | refine below_set ?_ GE263.out | refine below_set ?_ GE264.out | refine below_set ?_ GE265.out) | exact HB.out)) hb); clear BK263; clear BK264; clear BK265; clear HB; have BK263 := n0_; have BK264 := n1_; have BK265 := n2_; have HB := n3_; clear n0_ n1_ n2_ n3_; (try clear hb); (try clear hb2); (try clear hk); (try clear hi); have hcz41_0 : w40.cell? ⟨gb263, 0, none⟩ = some (.slice A0_0 l0_0.length c0_0) := (blk_cell BK263.out 0).trans rfl; have hcz41_1 : w40.cell? ⟨gb263, 1, none⟩ = some (.int .i64 a0_1) := (blk_cell BK263.out 1).trans rfl; have hfz41_0 := blk_frozen BK263.out 0; have hfz41_1 := blk_frozen BK263.out 1; have hcz42_0 : w40.cell? ⟨gb264, 0, none⟩ = some (.int .i64 a1_0) := (blk_cell BK264.out 0).trans rfl; have hcz42_1 : w40.cell? ⟨gb264, 1, none⟩ = some (.int .i64 a1_1) := (blk_cell BK264.out 1).trans rfl; have hcz42_2 : w40.cell? ⟨gb264, 2, none⟩ = some (.int .i64 a1_2) := (blk_cell BK264.out 2).trans rfl; have hcz42_3 : w40.cell? ⟨gb264, 3, none⟩ = some (.bool a1_3) := (blk_cell BK264.out 3).trans rfl; have hcz42_4 : w40.cell? ⟨gb264, 4, none⟩ = some (.int .i64 a1_4) := (blk_cell BK264.out 4).trans rfl; have hcz42_5 : w40.cell? ⟨gb264, 5, none⟩ = some (.int .i64 a1_5) := (blk_cell BK264.out 5).trans rfl; have hcz42_6 : w40.cell? ⟨gb264, 6, none⟩ = some (.int .i64 a1_6) := (blk_cell BK264.out 6).trans rfl; have hcz42_7 : w40.cell? ⟨gb264, 7, none⟩ = some (.int .i64 a1_7) := (blk_cell BK264.out 7).trans rfl; have hcz42_8 : w40.cell? ⟨gb264, 8, none⟩ = some (.int .i64 a1_8) := (blk_cell BK264.out 8).trans rfl; have hcz42_9 : w40.cell? ⟨gb264, 9, none⟩ = some (.int .u32 a1_9) := (blk_cell BK264.out 9).trans rfl; have hcz42_10 : w40.cell? ⟨gb264, 10, none⟩ = some (.int .i64 a1_10) := (blk_cell BK264.out 10).trans rfl; have hfz42_0 := blk_frozen BK264.out 0; have hfz42_1 := blk_frozen BK264.out 1; have hfz42_2 := blk_frozen BK264.out 2; have hfz42_3 := blk_frozen BK264.out 3; have hfz42_4 := blk_frozen BK264.out 4; have hfz42_5 := blk_frozen BK264.out 5; have hfz42_6 := blk_frozen BK264.out 6; have hfz42_7 := blk_frozen BK264.out 7; have hfz42_8 := blk_frozen BK264.out 8; have hfz42_9 := blk_frozen BK264.out 9; have hfz42_10 := blk_frozen BK264.out 10) | ((with_reducible refine gate_callee (f := 84) rfl ?_); refine goesL_ (some 26) rfl rfl Try.func84 (by kernel_rfl) rfl #[.agg #[.slice A0_0 l0_0.length c0_0, .int .i64 a0_1], .int .i64 t268, .agg #[.int .i64 a1_0, .int .i64 a1_1, .int .i64 a1_2, .bool a1_3, .int .i64 a1_4, .int .i64 a1_5, .int .i64 a1_6, .int .i64 a1_7, .int .i64 a1_8, .int .u32 a1_9, .int .i64 a1_10]] rfl (by (try simp only [List.map_toArray, List.map_cons, List.map_nil]); first | done | rfl | (simp only [List.length_drop, List.length_take]; rfl)) ?_; (with_reducible refine (weftlineref14_set.calls _ _ l0_0 a0_1 t268 a1_0 a1_1 a1_2 a1_3 a1_4 a1_5 a1_6 a1_7 a1_8 a1_9 a1_10 t269 t272 _ ?side1 ?side2 A34.out).mono ?_); (case side1 => repeat (first | exact (Kd.C_below HR0_0.out HB.out) | (with_reducible refine Kd.C_alloc ?_ _) | (with_reducible refine Kd.C_drewN ?_ _) | (with_reducible refine Kd.C_drew ?_))); (case side2 => exact HC0_0.out); rintro e w43 ⟨v270, rfl, ho0, hb⟩; refine ⟨_, rfl, ?_⟩; have n0_ := Aside0.mk (Kd.R_lower (Kd.R_newB ho0 (g := gb264) (o := .cells #[.int .i64 a1_0, .int .i64 a1_1, .int .i64 a1_2, .bool a1_3, .int .i64 a1_4, .int .i64 a1_5, .int .i64 a1_6, .int .i64 a1_7, .int .i64 a1_8, .int .u32 a1_9, .int .i64 a1_10] 29 (0, 0)) (by (with_reducible repeat (first | refine blk_drewN ?_ _ | refine blk_drew ?_ | refine blk_alloc ?_ _)); exact BK264.out)) (below_size (by repeat (first | (with_reducible first | exact HB.out | apply below_alloc | apply pw_below_drewN | apply below_drew1 | refine below_set ?_ GE263.out | refine below_set ?_ GE264.out | refine below_set ?_ GE265.out) | exact HB.out)))); have n1_ := Aside0.mk (blk_below (g := gb263) (o := .cells #[.slice A0_0 l0_0.length c0_0, .int .i64 a0_1] 66 (0, 0)) (by (with_reducible repeat (first | refine blk_drewN ?_ _ | refine blk_drew ?_ | refine blk_alloc ?_ _)); exact BK263.out) hb); have n2_ := Aside0.mk (blk_below (g := gb264) (o := .cells #[.int .i64 a1_0, .int .i64 a1_1, .int .i64 a1_2, .bool a1_3, .int .i64 a1_4, .int .i64 a1_5, .int .i64 a1_6, .int .i64 a1_7, .int .i64 a1_8, .int .u32 a1_9, .int .i64 a1_10] 29 (0, 0)) (by (with_reducible repeat (first | refine blk_drewN ?_ _ | refine blk_drew ?_ | refine blk_alloc ?_ _)); exact BK264.out) hb); have n3_ := Aside0.mk (blk_below (g := gb265) (o := .cells #[.slice none 0 0, .int .i64 0] 66 (0, 0)) (by (with_reducible repeat (first | refine blk_drewN ?_ _ | refine blk_drew ?_ | refine blk_alloc ?_ _)); exact BK265.out) hb); have n4_ := Aside0.mk (below_step (by repeat (first | (with_reducible first | exact HB.out | apply below_alloc | apply pw_below_drewN | apply below_drew1 | refine below_set ?_ GE263.out | refine below_set ?_ GE264.out | refine below_set ?_ GE265.out) | exact HB.out)) hb); clear BK263; clear BK264; clear BK265; clear HB; have HO271 := n0_; have BK263 := n1_; have BK264 := n2_; have BK265 := n3_; have HB := n4_; clear n0_ n1_ n2_ n3_ n4_; (try clear hb); (try clear hb2); (try clear hk); (try clear hi); (try clear ho0); obtain ⟨Ao44, co44, eo44⟩ := Kd.R_slice HO271.out; subst eo44; have hcz45_0 : w43.cell? ⟨gb265, 0, none⟩ = some (.slice none 0 0) := (blk_cell BK265.out 0).trans rfl; have hcz45_1 : w43.cell? ⟨gb265, 1, none⟩ = some (.int .i64 0) := (blk_cell BK265.out 1).trans rfl; have hfz45_0 := blk_frozen BK265.out 0; have hfz45_1 := blk_frozen BK265.out 1))
          refine bodyPost_ret (results_ct rfl _ _ gb265 66 #[.slice Ao44 t269.length co44, .int .i64 t272] (0, 0) _ rfl (by (with_reducible repeat (first | refine blk_drewN ?_ _ | refine blk_drew ?_ | refine blk_alloc ?_ _)); refine blk_put (cs := #[.slice Ao44 t269.length co44, .int .i64 0]) ?_ 1 _ rfl; (with_reducible repeat (first | refine blk_drewN ?_ _ | refine blk_drew ?_ | refine blk_alloc ?_ _)); refine blk_put (cs := #[.slice none 0 0, .int .i64 0]) ?_ 0 _ rfl; (with_reducible repeat (first | refine blk_drewN ?_ _ | refine blk_drew ?_ | refine blk_alloc ?_ _)); exact BK265.out) Try.underlying66 rfl (by kernel_rfl)) rfl ?_
          exact ⟨_, by first | rfl | (simp [errW_none, errW_some] <;> rfl) | (simp [*, errW_none, errW_some] <;> rfl), by (with_reducible repeat (first | apply Kd.R_alloc | apply Kd.R_drewN | apply Kd.R_drew)); exact Kd.R_mono (Kd.R_far (p := ⟨gb265, 1, none⟩) (Kd.R_far (p := ⟨gb265, 0, none⟩) (Kd.R_types HO271.out BK265.out (by decide)) (fun _ hk => hk.2) (.slice Ao44 t269.length co44)) (fun _ hk => hk.2) (.int .i64 t272)) (fun _ hk => trivial), by repeat (first | (with_reducible first | exact HB.out | apply below_alloc | apply pw_below_drewN | apply below_drew1 | refine below_set ?_ GE263.out | refine below_set ?_ GE264.out | refine below_set ?_ GE265.out) | exact HB.out)⟩

end Go.Proofs.Ytblooffiggciiaa.PPs
/- PPsx49 -/
namespace Go.Proofs.Ytblooffiggciiaa.PPs
open Go.RowKit Go.Proofs.YtblooffiggciiaaW.PrintWords Go.Proofs.YtblooffiggciiaaW.PrintLast Go.Proofs.YtblooffiggciiaaW.PrintMore
attribute [local go_sem] max2_int min2_int max_two min_two max_three min_three max_four min_four   -- for this text's walks alone
attribute [local go_sem] Go.Proofs.Ytblooffiggciiaa.Aid.isSome_setCell
set_option linter.unusedVariables false
set_option linter.unusedSimpArgs false
mutual
def weftlineref14_New.j0 : Nat → List Int → Bool → Option ((List (S29)) × Int × Int)
  | 0, _, _ => none
  | k + 1, x0, x14 => if x14 = true then (some (([] : List (S29)), 0, 1)) else (weftlineref14_New.l0 k x0 0 0)
def weftlineref14_New.l0 : Nat → List Int → Int → Int → Option ((List (S29)) × Int × Int)
  | 0, _, _, _ => none
  | k + 1, x0, x5, x285001 => if x5 < (x0.length : Int) then (if 0 ≤ x5 then ((weftlineref13_Addr.f (rd x0 x5)).bind fun t286 => (if t286 = true then (weftlineref14_New.l0 k x0 (wrap64 (x5 + 1)) x285001) else (some (([] : List (S29)), 0, 1)))) else (none)) else (weftlineref14_New.l1 k x0 0 ([] : List (S29)) x285001)
def weftlineref14_New.l1 : Nat → List Int → Int → List (S29) → Int → Option ((List (S29)) × Int × Int)
  | 0, _, _, _, _ => none
  | k + 1, x0, x6, x285000, x285001 => if x6 < (x0.length : Int) then (if 0 ≤ x6 then ((weftlineref14_find.f k x285000 x285001 (rd x0 x6)).bind fun t288 => (if t288 ≥ 0 then (some (([] : List (S29)), 0, 12)) else ((weftlineref13_New.f (rd x0 x6)).bind fun bt290 => (if x285000.length < 1599289640401 then (weftlineref14_New.l1 k x0 (wrap64 (x6 + 1)) (x285000 ++ [(⟨(⟨bt290.1, bt290.2.1, bt290.2.2.1, bt290.2.2.2.1⟩ : S23), (⟨bt290.2.2.2.2.1, bt290.2.2.2.2.2.1, bt290.2.2.2.2.2.2.1⟩ : S25), bt290.2.2.2.2.2.2.2.1, bt290.2.2.2.2.2.2.2.2.1, bt290.2.2.2.2.2.2.2.2.2.1, bt290.2.2.2.2.2.2.2.2.2.2⟩ : S29)]) x285001) else (none))))) else (none)) else (some (x285000, x285001, 0))
end
def weftlineref14_New.f (k : Nat) (l0 : List Int) : Option ((List (S29)) × Int × Int) := if (l0.length : Int) < 1 then (weftlineref14_New.j0 k l0 true) else (weftlineref14_New.j0 k l0 (decide ((l0.length : Int) > 4)))
def weftlineref14_New.T14 : Bool × List (List Nat × List Nat) := (true, [([], []), ([0], [0]), ([], []), ([], []), ([2, 3], [2, 3]), ([4], [4]), ([5], [5]), ([6], [6]), ([1, 7, 6], [1, 7]), ([0, 1, 2, 3, 4, 5, 6, 7, 8], []), ([9, 8, 8, 0, 1, 2, 3, 4, 5, 6, 7, 8], [8, 9])])
def weftlineref14_New.B14 : List Nat := [0, 1, 0, 0, 12, 28, 60, 124, 255, 511, 1023]
theorem weftlineref14_New.tab14 : rtab .any (opsOf Try.f40 14) = weftlineref14_New.T14 := by kernel_rfl
theorem weftlineref14_New.bits14 : waitsOk weftlineref14_New.T14.2 weftlineref14_New.B14 = true := by kernel_rfl
set_option maxHeartbeats 8000000 in
set_option maxRecDepth 100000 in
theorem weftlineref14_New.calls (k : Nat) (A0 : Option Addr) (c0 : Nat) (l0 : List Int) (r1 : List (S29)) (r2 : Int) (r3 : Int) (w : World) (hr0 : Kd.C (Kd.int .i64) w A0 l0.length l0) (hc0 : l0.length ≤ c0) (h : weftlineref14_New.f k l0 = some (r1, r2, r3)) :
    Calls Try.prog 40 #[.slice A0 l0.length c0] w fun e w' => ∃ v0_ : Value, e = .returned (.tuple #[.agg #[v0_, .int .i64 r2], .int .i64 r3]) ∧ Kd.R k29 29 w' w.heap.size (fun _ => True) v0_ r1 ∧ Below w.heap.size w w' := by
  have hu66 := Try.underlying66
  have HR0 := Aside0.mk hr0
  have HC0 := Aside0.mk hc0
  clear hr0 hc0
  have HB := Aside0.mk (Below.refl w.heap.size w)
  have H : (if (l0.length : Int) < 1 then (weftlineref14_New.j0 k l0 true) else (weftlineref14_New.j0 k l0 (decide ((l0.length : Int) > 4)))) = some (r1, r2, r3) := h
  clear h
  have HC2 := Aside0.mk H
  clear H
  go_enter Try.func40, Try.ntmps40
  go_upto_region 1 with (first | ((with_reducible refine gate_dst (N := 2) rfl ?_); (try (refine gate_guard (by rfl) ?_; dsimp only)); refine box_event ?hg (N := 2) ?hd (cs := #[.slice none 0 0, .int .i64 0]) (t := 66) ?hr ?_; (case hd => rfl); (case hg => rfl); (case hr => first | (go_simp; done) | (go_simp; rfl)); intro gb283 hg w3 hbox hb; have n0_ := Aside0.mk (below_step (by repeat (first | (with_reducible first | exact HB.out | apply below_alloc | apply pw_below_drewN | apply below_drew1) | exact HB.out)) hb); have n1_ := Aside0.mk (hbox); have n2_ := Aside0.mk ((by rw [hg]; exact (below_size (by repeat (first | (with_reducible first | exact HB.out | apply below_alloc | apply pw_below_drewN | apply below_drew1) | exact HB.out))) : w.heap.size ≤ gb283)); have n3_ := Aside0.mk ((by rw [hg]; exact (below_size (by repeat (first | (with_reducible first | exact HB.out | apply below_alloc | apply pw_below_drewN | apply below_drew1) | exact HB.out))) : w.heap.size ≤ gb283)); clear HB; have HB := n0_; have BK283 := n1_; have GW283 := n2_; have GE283 := n3_; clear n0_ n1_ n2_ n3_; clear hb hbox hg))
  (try simp only [Act.put, List.setIfInBounds_toArray, List.set_cons_zero, List.set_cons_succ])
  go_cut [14] (fun v14 wc => ∃ (kq : Nat) (x14_1 : Bool), v14 = .bool x14_1 ∧ Aside0 (weftlineref14_New.j0 kq l0 x14_1 = some (r1, r2, r3)) ∧ Aside0 (kq ≤ k) ∧ Aside0 (wc.heap[gb283]? = some (.cells #[(.slice none 0 0), .int .i64 0] 66 (0, 0))) ∧ Aside0 (Below w.heap.size w wc))
  case first =>
    have H := HC2.out
    clear HC2
    by_cases c4 : (l0.length : Int) < 1
    · rw [if_pos c4] at H
      have c4b0 : decide ((l0.length : Int) < 1) = true := decide_eq_true c4
      have c4b1 : decide (l0.length < 1) = true := decide_eq_true (by omega)
      clear c4
      (first | rw [c4b0] | (simp only [i64_w, i32_w]; rw [c4b0]) | skip)
      have H' := Aside0.mk H
      clear H
      go_wp2
      go_meet
      case rel => exact ⟨_, (true), (by first | rfl | (simp; done) | (simp [*]; done)), H', ⟨by first | omega | exact Nat.le_refl _⟩, ⟨by (with_reducible repeat (first | refine blk_drewN ?_ _ | refine blk_drew ?_ | refine blk_alloc ?_ _)); exact BK283.out⟩, ⟨by repeat (first | (with_reducible first | exact HB.out | apply below_alloc | apply pw_below_drewN | apply below_drew1 | refine below_set ?_ GE283.out) | exact HB.out)⟩⟩
    · rw [if_neg c4] at H
      have c4b0 : decide ((l0.length : Int) < 1) = false := decide_eq_false c4
      have c4b1 : decide (l0.length < 1) = false := decide_eq_false (by omega)
      clear c4
      (first | rw [c4b0] | (simp only [i64_w, i32_w]; rw [c4b0]) | skip)
      have H' := Aside0.mk H
      clear H
      go_wp2
      go_meet
      case rel => exact ⟨_, (decide ((l0.length : Int) > 4)), (by first | rfl | (simp; done) | (simp [*]; done)), H', ⟨by first | omega | exact Nat.le_refl _⟩, ⟨by (with_reducible repeat (first | refine blk_drewN ?_ _ | refine blk_drew ?_ | refine blk_alloc ?_ _)); exact BK283.out⟩, ⟨by repeat (first | (with_reducible first | exact HB.out | apply below_alloc | apply pw_below_drewN | apply below_drew1 | refine below_set ?_ GE283.out) | exact HB.out)⟩⟩
  case rest =>
    clear HC2
    try clear p2
    try clear c4
    try clear c4b0
    try clear c4b1
    obtain ⟨kq, x14_1, rfl, HA, HJ1, BK283, HB⟩ := hcut
    cases kq with
    | zero => exact absurd HA.out (by simp [weftlineref14_New.j0])
    | succ kj1 =>
      have H := HA.out
      clear HA
      simp only [weftlineref14_New.j0] at H
      by_cases c5 : x14_1 = true
      · subst c5
        have H1 : (some (([] : List (S29)), 0, 1)) = some (r1, r2, r3) := by rw [if_pos rfl] at H; exact H
        clear H
        have H := H1
        clear H1
        simp only [Option.some.injEq, Prod.mk.injEq] at H
        obtain ⟨rfl, rfl, rfl⟩ := H
        have hcz6_0 : wc.cell? ⟨gb283, 0, none⟩ = some (.slice none 0 0) := (blk_cell BK283.out 0).trans rfl
        have hcz6_1 : wc.cell? ⟨gb283, 1, none⟩ = some (.int .i64 0) := (blk_cell BK283.out 1).trans rfl
        have hfz6_0 := blk_frozen BK283.out 0
        have hfz6_1 := blk_frozen BK283.out 1
        go_wp2
        refine bodyPost_ret (results_ct rfl _ _ gb283 66 #[.slice none 0 0, .int .i64 0] (0, 0) _ rfl (by (with_reducible repeat (first | refine blk_drewN ?_ _ | refine blk_drew ?_ | refine blk_alloc ?_ _)); refine blk_put (cs := #[.slice none 0 0, .int .i64 0]) ?_ 1 _ rfl; (with_reducible repeat (first | refine blk_drewN ?_ _ | refine blk_drew ?_ | refine blk_alloc ?_ _)); refine blk_put (cs := #[.slice none 0 0, .int .i64 0]) ?_ 0 _ rfl; (with_reducible repeat (first | refine blk_drewN ?_ _ | refine blk_drew ?_ | refine blk_alloc ?_ _)); exact BK283.out) Try.underlying66 rfl (by kernel_rfl)) rfl ?_
        exact ⟨_, by first | rfl | (simp [errW_none, errW_some] <;> rfl) | (simp [*, errW_none, errW_some] <;> rfl), by first | exact Kd.R_nil _ _ _ _ _ | exact Kd.N_nil _ _ _ _ _ | exact Kd.V_nil _ _ _ _ _ | exact Kd.Q_nil _ _ _ _ _ | exact Kd.S_nil _ _ _ _ _, by repeat (first | (with_reducible first | exact HB.out | apply below_alloc | apply pw_below_drewN | apply below_drew1 | refine below_set ?_ GE283.out) | exact HB.out)⟩
      · replace c5 := Bool.eq_false_iff.mpr c5
        subst c5
        have H1 : (weftlineref14_New.l0 kj1 l0 0 0) = some (r1, r2, r3) := by rw [if_neg (show ¬ (false = true) by decide)] at H; exact H
        clear H
        have H := H1
        clear H1
        have H' := Aside0.mk H
        clear H
        go_wp2_with (first | ((with_reducible refine gate_dst (N := 4) rfl ?_); (try (refine gate_guard (by rfl) ?_; dsimp only)); refine box_event ?hg (N := 4) ?hd (cs := #[.slice none 0 0, .int .i64 0]) (t := 66) ?hr ?_; (case hd => rfl); (case hg => rfl); (case hr => first | (go_simp; done) | (go_simp; rfl)); intro gb284 hg w7 hbox hb; have n0_ := Aside0.mk (blk_below (g := gb283) (o := .cells #[.slice none 0 0, .int .i64 0] 66 (0, 0)) (by (with_reducible repeat (first | refine blk_drewN ?_ _ | refine blk_drew ?_ | refine blk_alloc ?_ _)); exact BK283.out) hb); have n1_ := Aside0.mk (below_step (by repeat (first | (with_reducible first | exact HB.out | apply below_alloc | apply pw_below_drewN | apply below_drew1 | refine below_set ?_ GE283.out) | exact HB.out)) hb); have n2_ := Aside0.mk (hbox); have n3_ := Aside0.mk ((by rw [hg]; exact (below_size (by repeat (first | (with_reducible first | exact HB.out | apply below_alloc | apply pw_below_drewN | apply below_drew1 | refine below_set ?_ GE283.out) | exact HB.out))) : w.heap.size ≤ gb284)); have n4_ := Aside0.mk ((by rw [hg]; exact (below_size (by repeat (first | (with_reducible first | exact HB.out | apply below_alloc | apply pw_below_drewN | apply below_drew1 | refine below_set ?_ GE283.out) | exact HB.out))) : w.heap.size ≤ gb284)); have n5_ := Aside0.mk ((by rw [hg]; exact Nat.ne_of_lt (blk_lt (g := gb283) (o := .cells #[.slice none 0 0, .int .i64 0] 66 (0, 0)) (by (with_reducible repeat (first | refine blk_drewN ?_ _ | refine blk_drew ?_ | refine blk_alloc ?_ _)); exact BK283.out)) : gb283 ≠ gb284)); have n6_ := Aside0.mk ((by rw [hg]; exact Nat.ne_of_gt (blk_lt (g := gb283) (o := .cells #[.slice none 0 0, .int .i64 0] 66 (0, 0)) (by (with_reducible repeat (first | refine blk_drewN ?_ _ | refine blk_drew ?_ | refine blk_alloc ?_ _)); exact BK283.out)) : gb284 ≠ gb283)); clear BK283; clear HB; have BK283 := n0_; have HB := n1_; have BK284 := n2_; have GW284 := n3_; have GE284 := n4_; have NB283_284 := n5_; have NB284_283 := n6_; clear n0_ n1_ n2_ n3_ n4_ n5_ n6_; clear hb hbox hg; have hnb8 := NB284_283.out; have hnc8 := NB283_284.out; have hcz9_0 : w7.cell? ⟨gb284, 0, none⟩ = some (.slice none 0 0) := (blk_cell BK284.out 0).trans rfl; have hcz9_1 : w7.cell? ⟨gb284, 1, none⟩ = some (.int .i64 0) := (blk_cell BK284.out 1).trans rfl; have hfz9_0 := blk_frozen BK284.out 0; have hfz9_1 := blk_frozen BK284.out 1))
        go_loopg [5] kj1 (fun kq v5 w' => ∃ (x5_2 : Int) (x284001_2 : Int), v5 = .int .i64 x5_2 ∧ Aside0 (weftlineref14_New.l0 kq l0 x5_2 0 = some (r1, r2, r3)) ∧ Aside0 (kq ≤ kj1) ∧ Aside0 (w'.heap[gb283]? = some (.cells #[(.slice none 0 0), .int .i64 x284001_2] 66 (0, 0))) ∧ Aside0 (w'.heap[gb284]? = some (.cells #[(.slice none 0 0), .int .i64 0] 66 (0, 0))) ∧ Aside0 (Below w.heap.size w w'))
        case atStart => exact ⟨(0), (0), (by first | rfl | (simp; done) | (simp [*]; done)), H', ⟨Nat.le_refl _⟩, ⟨by (with_reducible repeat (first | refine blk_drewN ?_ _ | refine blk_drew ?_ | refine blk_alloc ?_ _)); refine blk_far ?_ NB283_284.out _; (with_reducible repeat (first | refine blk_drewN ?_ _ | refine blk_drew ?_ | refine blk_alloc ?_ _)); refine blk_far ?_ NB283_284.out _; (with_reducible repeat (first | refine blk_drewN ?_ _ | refine blk_drew ?_ | refine blk_alloc ?_ _)); exact BK283.out⟩, ⟨by (with_reducible repeat (first | refine blk_drewN ?_ _ | refine blk_drew ?_ | refine blk_alloc ?_ _)); refine blk_put (cs := #[.slice none 0 0, .int .i64 0]) ?_ 1 _ rfl; (with_reducible repeat (first | refine blk_drewN ?_ _ | refine blk_drew ?_ | refine blk_alloc ?_ _)); refine blk_put (cs := #[.slice none 0 0, .int .i64 0]) ?_ 0 _ rfl; (with_reducible repeat (first | refine blk_drewN ?_ _ | refine blk_drew ?_ | refine blk_alloc ?_ _)); exact BK284.out⟩, ⟨by repeat (first | (with_reducible first | exact HB.out | apply below_alloc | apply pw_below_drewN | apply below_drew1 | refine below_set ?_ GE283.out | refine below_set ?_ GE284.out) | exact HB.out)⟩⟩
        case round =>
          clear H'
          try clear p2
          try clear c4
          try clear c4b0
          try clear c4b1
          try clear c5
          try clear c8
          try clear hcz6_0
          try clear hcz6_1
          try clear hcz9_0
          try clear hcz9_1
          try clear hfz6_0
          try clear hfz6_1
          try clear hfz9_0
          try clear hfz9_1
          try clear p2
          obtain ⟨x5_2, x284001_2, rfl, HA, HK2, BK283, BK284, HB⟩ := hrel
          cases gk with
          | zero => exact absurd HA.out (by simp [weftlineref14_New.l0])
          | succ k2 =>
            have H := HA.out
            clear HA
            simp only [weftlineref14_New.l0] at H
            by_cases c10 : x5_2 < (l0.length : Int)
            · rw [if_pos c10] at H
              have c10b0 : decide (x5_2 < (l0.length : Int)) = true := decide_eq_true c10
              clear c10
              by_cases c11 : 0 ≤ x5_2
              · rw [if_pos c11] at H
                have c11b0 : decide (0 ≤ x5_2) = true := decide_eq_true c11
                clear c11
                replace H := Option.bind_eq_some_iff.mp H
                obtain ⟨t286, A120, H⟩ := H
                replace H : (if t286 = true then (weftlineref14_New.l0 k2 l0 (wrap64 (x5_2 + 1)) 0) else (some (([] : List (S29)), 0, 1))) = some (r1, r2, r3) := H
                have A12 := Aside0.mk A120
                clear A120
                by_cases c13 : t286 = true
                · subst c13
                  have H1 : (weftlineref14_New.l0 k2 l0 (wrap64 (x5_2 + 1)) 0) = some (r1, r2, r3) := by rw [if_pos rfl] at H; exact H
                  clear H
                  have H := H1
                  clear H1
                  have H' := Aside0.mk H
                  clear H
                  have p285 : 0 ≤ (x5_2 : Int) := of_decide_eq_true (by first | (with_reducible assumption) | assumption)
                  have q285 : x5_2 < (l0.length : Int) := of_decide_eq_true (by first | (with_reducible assumption) | assumption)
                  obtain ⟨ad285, e285, hx285_0⟩ := Kd.at_int HR0.out x5_2 p285 q285
                  cases e285
                  replace hx285_0 := (HB.out.cell (World.block_lt_of_cell? w _ hx285_0)).trans hx285_0
                  replace p285 := eq_true p285
                  replace q285 := eq_true q285
                  go_wp2_with (first | ((with_reducible refine gate_callee (f := 14) rfl ?_); refine goesL_ (some 27) rfl rfl Try.func14 (by kernel_rfl) rfl #[.int .i64 (rd l0 x5_2)] rfl (by (try simp only [List.map_toArray, List.map_cons, List.map_nil]); first | done | rfl | (simp only [List.length_drop, List.length_take]; rfl)) ?_; (with_reducible refine (weftlineref13_Addr.calls (rd l0 x5_2) true _ A12.out).mono ?_); rintro e w' ⟨rfl, ⟨nd, rfl⟩⟩; refine ⟨_, rfl, ?_⟩))
                  go_roundg k2
                  case measure => have := HJ1.out; have := HK2.out; omega
                  case rel => exact ⟨(wrap64 (x5_2 + 1)), (x284001_2), (by first | rfl | (simp; done) | (simp [*]; done)), H', ⟨by have := HJ1.out; have := HK2.out; omega⟩, ⟨by (with_reducible repeat (first | refine blk_drewN ?_ _ | refine blk_drew ?_ | refine blk_alloc ?_ _)); exact BK283.out⟩, ⟨by (with_reducible repeat (first | refine blk_drewN ?_ _ | refine blk_drew ?_ | refine blk_alloc ?_ _)); exact BK284.out⟩, ⟨by repeat (first | (with_reducible first | exact HB.out | apply below_alloc | apply pw_below_drewN | apply below_drew1 | refine below_set ?_ GE283.out | refine below_set ?_ GE284.out) | exact HB.out)⟩⟩
                · replace c13 := Bool.eq_false_iff.mpr c13
                  subst c13
                  have H1 : (some (([] : List (S29)), 0, 1)) = some (r1, r2, r3) := by rw [if_neg (show ¬ (false = true) by decide)] at H; exact H
                  clear H
                  have H := H1
                  clear H1
                  simp only [Option.some.injEq, Prod.mk.injEq] at H
                  obtain ⟨rfl, rfl, rfl⟩ := H
                  have p285 : 0 ≤ (x5_2 : Int) := of_decide_eq_true (by first | (with_reducible assumption) | assumption)
                  have q285 : x5_2 < (l0.length : Int) := of_decide_eq_true (by first | (with_reducible assumption) | assumption)
                  obtain ⟨ad285, e285, hx285_0⟩ := Kd.at_int HR0.out x5_2 p285 q285
                  cases e285
                  replace hx285_0 := (HB.out.cell (World.block_lt_of_cell? w _ hx285_0)).trans hx285_0
                  replace p285 := eq_true p285
                  replace q285 := eq_true q285
                  go_wp2_with (first | ((with_reducible refine gate_callee (f := 14) rfl ?_); refine goesL_ (some 27) rfl rfl Try.func14 (by kernel_rfl) rfl #[.int .i64 (rd l0 x5_2)] rfl (by (try simp only [List.map_toArray, List.map_cons, List.map_nil]); first | done | rfl | (simp only [List.length_drop, List.length_take]; rfl)) ?_; (with_reducible refine (weftlineref13_Addr.calls (rd l0 x5_2) false _ A12.out).mono ?_); rintro e w' ⟨rfl, ⟨nd, rfl⟩⟩; refine ⟨_, rfl, ?_⟩; (try (rw [drewN_self wr]; generalize hq_ : World.drewN wr _ = wr; have n0_ : Aside0 (wr.heap[gb283]? = some (.cells #[.slice none 0 0, .int .i64 x284001_2] 66 (0, 0))) := ⟨by rw [← hq_]; exact (by (with_reducible repeat (first | refine blk_drewN ?_ _ | refine blk_drew ?_ | refine blk_alloc ?_ _)); exact BK283.out)⟩; have n1_ : Aside0 (wr.heap[gb284]? = some (.cells #[.slice none 0 0, .int .i64 0] 66 (0, 0))) := ⟨by rw [← hq_]; exact (by (with_reducible repeat (first | refine blk_drewN ?_ _ | refine blk_drew ?_ | refine blk_alloc ?_ _)); exact BK284.out)⟩; have n2_ : Aside0 (Below w.heap.size w wr) := ⟨by rw [← hq_]; exact (by repeat (first | (with_reducible first | exact HB.out | apply below_alloc | apply pw_below_drewN | apply below_drew1 | refine below_set ?_ GE283.out | refine below_set ?_ GE284.out) | exact HB.out))⟩; clear BK283 BK284 HB hq_; have BK283 := n0_; have BK284 := n1_; have HB := n2_; clear n0_ n1_ n2_)); have hnb14 := NB283_284.out; have hnc14 := NB284_283.out; have hcz15_0 : wr.cell? ⟨gb283, 0, none⟩ = some (.slice none 0 0) := (blk_cell BK283.out 0).trans rfl; have hcz15_1 : wr.cell? ⟨gb283, 1, none⟩ = some (.int .i64 x284001_2) := (blk_cell BK283.out 1).trans rfl; have hfz15_0 := blk_frozen BK283.out 0; have hfz15_1 := blk_frozen BK283.out 1))
                  refine bodyPost_ret (results_ct rfl _ _ gb283 66 #[.slice none 0 0, .int .i64 0] (0, 0) _ rfl (by (with_reducible repeat (first | refine blk_drewN ?_ _ | refine blk_drew ?_ | refine blk_alloc ?_ _)); refine blk_put (cs := #[.slice none 0 0, .int .i64 x284001_2]) ?_ 1 _ rfl; (with_reducible repeat (first | refine blk_drewN ?_ _ | refine blk_drew ?_ | refine blk_alloc ?_ _)); refine blk_put (cs := #[.slice none 0 0, .int .i64 x284001_2]) ?_ 0 _ rfl; (with_reducible repeat (first | refine blk_drewN ?_ _ | refine blk_drew ?_ | refine blk_alloc ?_ _)); exact BK283.out) Try.underlying66 rfl (by kernel_rfl)) rfl ?_
                  exact ⟨_, by first | rfl | (simp [errW_none, errW_some] <;> rfl) | (simp [*, errW_none, errW_some] <;> rfl), by first | exact Kd.R_nil _ _ _ _ _ | exact Kd.N_nil _ _ _ _ _ | exact Kd.V_nil _ _ _ _ _ | exact Kd.Q_nil _ _ _ _ _ | exact Kd.S_nil _ _ _ _ _, by repeat (first | (with_reducible first | exact HB.out | apply below_alloc | apply pw_below_drewN | apply below_drew1 | refine below_set ?_ GE283.out | refine below_set ?_ GE284.out) | exact HB.out)⟩
              · rw [if_neg c11] at H
                exact absurd H (by simp)
            · rw [if_neg c10] at H
              have c10b0 : decide (x5_2 < (l0.length : Int)) = false := decide_eq_false c10
              clear c10
              have H' := Aside0.mk H
              clear H
              go_wp2
              go_loopg [6] k2 (fun kq v6 w' => ∃ (x6_3 : Int) (x284001_3 : Int) (x285000_3 : List (S29)) (u285000 : Value), v6 = .int .i64 x6_3 ∧ Aside0 (weftlineref14_New.l1 kq l0 x6_3 x285000_3 0 = some (r1, r2, r3)) ∧ Aside0 (kq ≤ k2) ∧ Aside0 (Kd.R k29 29 w' w.heap.size (fun _ => True) u285000 x285000_3) ∧ Aside0 (w'.heap[gb283]? = some (.cells #[(.slice none 0 0), .int .i64 x284001_3] 66 (0, 0))) ∧ Aside0 (w'.heap[gb284]? = some (.cells #[u285000, .int .i64 0] 66 (0, 0))) ∧ Aside0 (Below w.heap.size w w'))
              case atStart => exact ⟨(0), (x284001_2), (([] : List (S29))), (.slice none 0 0), (by first | rfl | (simp; done) | (simp [*]; done)), H', ⟨Nat.le_refl _⟩, ⟨by first | exact Kd.R_nil _ _ _ _ _ | exact Kd.N_nil _ _ _ _ _ | exact Kd.V_nil _ _ _ _ _ | exact Kd.Q_nil _ _ _ _ _ | exact Kd.S_nil _ _ _ _ _⟩, ⟨by (with_reducible repeat (first | refine blk_drewN ?_ _ | refine blk_drew ?_ | refine blk_alloc ?_ _)); exact BK283.out⟩, ⟨by (with_reducible repeat (first | refine blk_drewN ?_ _ | refine blk_drew ?_ | refine blk_alloc ?_ _)); exact BK284.out⟩, ⟨by repeat (first | (with_reducible first | exact HB.out | apply below_alloc | apply pw_below_drewN | apply below_drew1 | refine below_set ?_ GE283.out | refine below_set ?_ GE284.out) | exact HB.out)⟩⟩
              case round =>
                clear H'
                try clear c1
                try clear p2
                try clear q2
                try clear hx2
                try clear c4
                try clear c4b0
                try clear c4b1
                try clear c5
                try clear p6
                try clear c8
                try clear c10
                try clear c10b0
                try clear c11
                try clear c11b0
                try clear c13
                try clear c14
                try clear hcz15_0
                try clear hcz15_1
                try clear hcz6_0
                try clear hcz6_1
                try clear hcz9_0
                try clear hcz9_1
                try clear hfz15_0
                try clear hfz15_1
                try clear hfz6_0
                try clear hfz6_1
                try clear hfz9_0
                try clear hfz9_1
                try clear hx285_0
                try clear p2
                try clear p285
                try clear q285
                obtain ⟨x6_3, x284001_3, x285000_3, u285000, rfl, HA, HK3, HO_285000, BK283, BK284, HB⟩ := hrel
                cases gk with
                | zero => exact absurd HA.out (by simp [weftlineref14_New.l1])
                | succ k3 =>
                  have H := HA.out
                  clear HA
                  simp only [weftlineref14_New.l1] at H
                  by_cases c16 : x6_3 < (l0.length : Int)
                  · rw [if_pos c16] at H
                    have c16b0 : decide (x6_3 < (l0.length : Int)) = true := decide_eq_true c16
                    clear c16
                    by_cases c17 : 0 ≤ x6_3
                    · rw [if_pos c17] at H
                      have c17b0 : decide (0 ≤ x6_3) = true := decide_eq_true c17
                      clear c17
                      replace H := Option.bind_eq_some_iff.mp H
                      obtain ⟨t288, A180, H⟩ := H
                      replace H : (if t288 ≥ 0 then (some (([] : List (S29)), 0, 12)) else ((weftlineref13_New.f (rd l0 x6_3)).bind fun bt290 => (if x285000_3.length < 1599289640401 then (weftlineref14_New.l1 k3 l0 (wrap64 (x6_3 + 1)) (x285000_3 ++ [(⟨(⟨bt290.1, bt290.2.1, bt290.2.2.1, bt290.2.2.2.1⟩ : S23), (⟨bt290.2.2.2.2.1, bt290.2.2.2.2.2.1, bt290.2.2.2.2.2.2.1⟩ : S25), bt290.2.2.2.2.2.2.2.1, bt290.2.2.2.2.2.2.2.2.1, bt290.2.2.2.2.2.2.2.2.2.1, bt290.2.2.2.2.2.2.2.2.2.2⟩ : S29)]) 0) else (none)))) = some (r1, r2, r3) := H
                      have A18 := Aside0.mk A180
                      clear A180
                      by_cases c19 : t288 ≥ 0
                      · rw [if_pos c19] at H
                        have c19b0 : decide (0 ≤ t288) = true := decide_eq_true c19
                        clear c19
                        simp only [Option.some.injEq, Prod.mk.injEq] at H
                        obtain ⟨rfl, rfl, rfl⟩ := H
                        try go_wp2
                        have n0_ := Aside0.mk (Kd.R_drew HO_285000.out)
                        have n1_ := Aside0.mk (blk_drew BK283.out)
                        have n2_ := Aside0.mk (blk_drew BK284.out)
                        have n3_ := Aside0.mk (below_drew1 HB.out)
                        clear HO_285000
                        clear BK283
                        clear BK284
                        clear HB
                        have HO_285000 := n0_
                        have BK283 := n1_
                        have BK284 := n2_
                        have HB := n3_
                        clear n0_ n1_ n2_ n3_
                        have p287 : 0 ≤ (x6_3 : Int) := of_decide_eq_true (by first | (with_reducible assumption) | assumption)
                        have q287 : x6_3 < (l0.length : Int) := of_decide_eq_true (by first | (with_reducible assumption) | assumption)
                        obtain ⟨ad287, e287, hx287_0⟩ := Kd.at_int HR0.out x6_3 p287 q287
                        have hw287_0 := hx287_0
                        cases e287
                        replace hx287_0 := (HB.out.cell (World.block_lt_of_cell? w _ hx287_0)).trans hx287_0
                        replace p287 := eq_true p287
                        replace q287 := eq_true q287
                        obtain ⟨Ao21, co21, eo21⟩ := Kd.R_slice HO_285000.out
                        (first | subst eo21 | (injection eo21 with f1_ f2_ f3_; have f4_ := f1_.symm; have f5_ := f3_.symm; clear f1_ f2_ f3_; subst f4_; subst f5_))
                        refine start_ (n := 7) (S := fun w' => w'.cell? ⟨gb284, 0, none⟩ = some (.slice Ao21 x285000_3.length co21) ∧ w'.cell? ⟨gb284, 1, none⟩ = some (.int .i64 0) ∧ w'.cell? (ad287.add (x6_3).toNat) = some (.int .i64 (rd l0 x6_3))) (ds := []) #[false, false, false, false, false, false, false] (by kernel_rfl) rfl rfl ⟨(blk_cell BK284.out 0).trans rfl, (blk_cell BK284.out 1).trans rfl, ((HB.out.cell (World.block_lt_of_cell? w _ hw287_0)).trans hw287_0)⟩ (fun hHeld => ?_)
                        generalize wr.drew = w20 at HO_285000 BK283 BK284 HB hx287_0 hHeld ⊢
                        refine pure_ (i := 1) (N := some 37) (v := ?_) (a' := ?_) #[false, true, false, false, false, false, false] rfl rfl (by kernel_rfl) (fun _ _ _ h => h) (Or.inl ⟨by rfl, ?_⟩) ?_ ?_
                        rotate_left
                        · intro w'
                          go_simp
                          with_reducible rfl
                        rotate_left
                        · simp only [Act.put, List.setIfInBounds_toArray, List.set_cons_zero, List.set_cons_succ, i64_w, i32_w]
                          rfl
                        refine pure_ (i := 2) (N := some 38) (v := ?_) (a' := ?_) #[false, true, true, false, false, false, false] rfl rfl (by kernel_rfl) (fun _ _ _ h => h) (Or.inl ⟨by rfl, ?_⟩) ?_ ?_
                        rotate_left
                        · intro w'
                          go_simp
                          with_reducible rfl
                        rotate_left
                        · simp only [Act.put, List.setIfInBounds_toArray, List.set_cons_zero, List.set_cons_succ, i64_w, i32_w]
                          rfl
                        refine pure_ (i := 3) (N := some 39) (v := ?_) (a' := ?_) #[false, true, true, true, false, false, false] rfl rfl (by kernel_rfl) (fun _ _ _ h => h) (Or.inl ⟨by rfl, ?_⟩) ?_ ?_
                        rotate_left
                        · intro w'
                          go_simp
                          with_reducible rfl
                        rotate_left
                        · simp only [Act.put, List.setIfInBounds_toArray, List.set_cons_zero, List.set_cons_succ, i64_w, i32_w]
                          rfl
                        refine take_ (i := 0) (N := some 36) (v := ?_) (a' := ?_) #[true, true, true, true, false, false, false] rfl rfl (by kernel_rfl) (fun _ _ _ h => h) (Or.inl ⟨by rfl, ?_⟩) hHeld ?_ ?_
                        rotate_left
                        · rintro w' ⟨s0, s1, s2⟩
                          go_simp
                          with_reducible rfl
                        rotate_left
                        · simp only [Act.put, List.setIfInBounds_toArray, List.set_cons_zero, List.set_cons_succ, i64_w, i32_w]
                          rfl
                        refine take_ (i := 4) (N := some 40) (v := ?_) (a' := ?_) #[true, true, true, true, true, false, false] rfl rfl (by kernel_rfl) (fun _ _ _ h => h) (Or.inl ⟨by rfl, ?_⟩) hHeld ?_ ?_
                        rotate_left
                        · rintro w' ⟨s0, s1, s2⟩
                          go_simp
                          with_reducible rfl
                        rotate_left
                        · simp only [Act.put, List.setIfInBounds_toArray, List.set_cons_zero, List.set_cons_succ, i64_w, i32_w]
                          rfl
                        refine one_ (i := 5) (N := some 41) #[true, true, true, true, true, true, false] rfl rfl (by kernel_rfl) (by decide) (fun K hK => ?_)
                        refine goes_ Try.func83 (by kernel_rfl) rfl #[.agg #[.slice Ao21 x285000_3.length co21, .int .i64 0], .int .i64 (rd l0 x6_3)] (by rfl) rfl rfl (by (try simp only [List.map_toArray, List.map_cons, List.map_nil]); first | done | rfl | (simp only [List.length_drop, List.length_take]; rfl)) ?_
                        with_reducible refine (weftlineref14_find.calls k3 _ _ x285000_3 0 (rd l0 x6_3) t288 _ ?side1 ?side2 A18.out).mono ?_
                        (case side1 => repeat (first | exact (Kd.R_reads' HO_285000.out).2.2 | (with_reducible refine Kd.C_alloc ?_ _) | (with_reducible refine Kd.C_drewN ?_ _) | (with_reducible refine Kd.C_drew ?_)))
                        (case side2 => exact (Kd.R_reads' HO_285000.out).2.1)
                        rintro e w22 ⟨rfl, hb⟩
                        refine ⟨_, rfl, ?_⟩
                        have n0_ := Aside0.mk (Kd.R_below (by (with_reducible repeat (first | apply Kd.R_alloc | apply Kd.R_drewN | apply Kd.R_drew)); exact HO_285000.out) hb)
                        have n1_ := Aside0.mk (blk_below (g := gb283) (o := .cells #[.slice none 0 0, .int .i64 x284001_3] 66 (0, 0)) (by (with_reducible repeat (first | refine blk_drewN ?_ _ | refine blk_drew ?_ | refine blk_alloc ?_ _)); exact BK283.out) hb)
                        have n2_ := Aside0.mk (blk_below (g := gb284) (o := .cells #[.slice Ao21 x285000_3.length co21, .int .i64 0] 66 (0, 0)) (by (with_reducible repeat (first | refine blk_drewN ?_ _ | refine blk_drew ?_ | refine blk_alloc ?_ _)); exact BK284.out) hb)
                        have n3_ := Aside0.mk (below_step (by repeat (first | (with_reducible first | exact HB.out | apply below_alloc | apply pw_below_drewN | apply below_drew1 | refine below_set ?_ GE283.out | refine below_set ?_ GE284.out) | exact HB.out)) hb)
                        clear HO_285000
                        clear BK283
                        clear BK284
                        clear HB
                        have HO_285000 := n0_
                        have BK283 := n1_
                        have BK284 := n2_
                        have HB := n3_
                        clear n0_ n1_ n2_ n3_
                        (try clear hb)
                        (try clear hb2)
                        (try clear hk)
                        (try clear hi)
                        refine hK.out _ _ ⟨(blk_cell BK284.out 0).trans rfl, (blk_cell BK284.out 1).trans rfl, ((HB.out.cell (World.block_lt_of_cell? w _ hw287_0)).trans hw287_0)⟩ (fun hHeld => ?_)
                        clear hK K
                        refine norm_ (a' := ?_) ?_ ?_
                        rotate_left
                        · show Act.put _ (some 41) _ = _
                          simp only [Act.put, List.setIfInBounds_toArray, List.set_cons_zero, List.set_cons_succ, i64_w, i32_w]
                          rfl
                        refine pure_ (i := 6) (N := some 42) (v := ?_) (a' := ?_) #[true, true, true, true, true, true, true] rfl rfl (by kernel_rfl) (fun _ _ _ h => h) (Or.inl ⟨by rfl, ?_⟩) ?_ ?_
                        rotate_left
                        · intro w'
                          go_simp
                          with_reducible rfl
                        rotate_left
                        · simp only [Act.put, List.setIfInBounds_toArray, List.set_cons_zero, List.set_cons_succ, i64_w, i32_w]
                          rfl
                        refine done_ (by kernel_rfl) ?_
                        have hnb23 := NB283_284.out
                        have hnc23 := NB284_283.out
                        have hcz24_0 : w22.cell? ⟨gb283, 0, none⟩ = some (.slice none 0 0) := (blk_cell BK283.out 0).trans rfl
                        have hcz24_1 : w22.cell? ⟨gb283, 1, none⟩ = some (.int .i64 x284001_3) := (blk_cell BK283.out 1).trans rfl
                        have hfz24_0 := blk_frozen BK283.out 0
                        have hfz24_1 := blk_frozen BK283.out 1
                        try go_wp2
                        refine bodyPost_ret (results_ct rfl _ _ gb283 66 #[.slice none 0 0, .int .i64 0] (0, 0) _ rfl (by (with_reducible repeat (first | refine blk_drewN ?_ _ | refine blk_drew ?_ | refine blk_alloc ?_ _)); refine blk_put (cs := #[.slice none 0 0, .int .i64 x284001_3]) ?_ 1 _ rfl; (with_reducible repeat (first | refine blk_drewN ?_ _ | refine blk_drew ?_ | refine blk_alloc ?_ _)); refine blk_put (cs := #[.slice none 0 0, .int .i64 x284001_3]) ?_ 0 _ rfl; (with_reducible repeat (first | refine blk_drewN ?_ _ | refine blk_drew ?_ | refine blk_alloc ?_ _)); exact BK283.out) Try.underlying66 rfl (by kernel_rfl)) rfl ?_
                        exact ⟨_, by first | rfl | (simp [errW_none, errW_some] <;> rfl) | (simp [*, errW_none, errW_some] <;> rfl), by first | exact Kd.R_nil _ _ _ _ _ | exact Kd.N_nil _ _ _ _ _ | exact Kd.V_nil _ _ _ _ _ | exact Kd.Q_nil _ _ _ _ _ | exact Kd.S_nil _ _ _ _ _, by repeat (first | (with_reducible first | exact HB.out | apply below_alloc | apply pw_below_drewN | apply below_drew1 | refine below_set ?_ GE283.out | refine below_set ?_ GE284.out) | exact HB.out)⟩
                      · rw [if_neg c19] at H
                        have c19b0 : decide (0 ≤ t288) = false := decide_eq_false c19
                        clear c19
                        replace H := Option.bind_eq_some_iff.mp H
                        obtain ⟨⟨t290, t291, t292, t293, t294, t295, t296, t297, t298, t299, t300⟩, A250, H⟩ := H
                        replace H : (if x285000_3.length < 1599289640401 then (weftlineref14_New.l1 k3 l0 (wrap64 (x6_3 + 1)) (x285000_3 ++ [(⟨(⟨t290, t291, t292, t293⟩ : S23), (⟨t294, t295, t296⟩ : S25), t297, t298, t299, t300⟩ : S29)]) 0) else (none)) = some (r1, r2, r3) := H
                        have A25 := Aside0.mk A250
                        clear A250
                        by_cases c26 : x285000_3.length < 1599289640401
                        · rw [if_pos c26] at H
                          have LMc26 := Aside0.mk c26
                          clear c26
                          obtain ⟨y301, hy301⟩ : ∃ y_ : List (S29), y_ = (x285000_3 ++ [(⟨(⟨t290, t291, t292, t293⟩ : S23), (⟨t294, t295, t296⟩ : S25), t297, t298, t299, t300⟩ : S29)]) := ⟨_, rfl⟩
                          replace H : (weftlineref14_New.l1 k3 l0 (wrap64 (x6_3 + 1)) y301 0) = some (r1, r2, r3) := by first | (rw [hy301]; with_reducible exact H) | (have H2_ := (Option.bind_some _ _).symm.trans H; rw [hy301]; with_reducible exact H2_) | (have H2_ := (Option.bind_some _ _).symm.trans H; with_reducible exact H2_) | with_reducible exact H | (rw [hy301]; exact H) | exact H
                          have Ny301 := Aside0.mk hy301
                          clear hy301
                          have H' := Aside0.mk H
                          clear H
                          try go_wp2
                          have n0_ := Aside0.mk (Kd.R_drew HO_285000.out)
                          have n1_ := Aside0.mk (blk_drew BK283.out)
                          have n2_ := Aside0.mk (blk_drew BK284.out)
                          have n3_ := Aside0.mk (below_drew1 HB.out)
                          clear HO_285000
                          clear BK283
                          clear BK284
                          clear HB
                          have HO_285000 := n0_
                          have BK283 := n1_
                          have BK284 := n2_
                          have HB := n3_
                          clear n0_ n1_ n2_ n3_
                          have p287 : 0 ≤ (x6_3 : Int) := of_decide_eq_true (by first | (with_reducible assumption) | assumption)
                          have q287 : x6_3 < (l0.length : Int) := of_decide_eq_true (by first | (with_reducible assumption) | assumption)
                          obtain ⟨ad287, e287, hx287_0⟩ := Kd.at_int HR0.out x6_3 p287 q287
                          have hw287_0 := hx287_0
                          cases e287
                          replace hx287_0 := (HB.out.cell (World.block_lt_of_cell? w _ hx287_0)).trans hx287_0
                          replace p287 := eq_true p287
                          replace q287 := eq_true q287
                          obtain ⟨Ao28, co28, eo28⟩ := Kd.R_slice HO_285000.out
                          (first | subst eo28 | (injection eo28 with f1_ f2_ f3_; have f4_ := f1_.symm; have f5_ := f3_.symm; clear f1_ f2_ f3_; subst f4_; subst f5_))
                          refine start_ (n := 7) (S := fun w' => w'.cell? ⟨gb284, 0, none⟩ = some (.slice Ao28 x285000_3.length co28) ∧ w'.cell? ⟨gb284, 1, none⟩ = some (.int .i64 0) ∧ w'.cell? (ad287.add (x6_3).toNat) = some (.int .i64 (rd l0 x6_3))) (ds := []) #[false, false, false, false, false, false, false] (by kernel_rfl) rfl rfl ⟨(blk_cell BK284.out 0).trans rfl, (blk_cell BK284.out 1).trans rfl, ((HB.out.cell (World.block_lt_of_cell? w _ hw287_0)).trans hw287_0)⟩ (fun hHeld => ?_)
                          generalize wr.drew = w27 at HO_285000 BK283 BK284 HB hx287_0 hHeld ⊢
                          refine pure_ (i := 1) (N := some 37) (v := ?_) (a' := ?_) #[false, true, false, false, false, false, false] rfl rfl (by kernel_rfl) (fun _ _ _ h => h) (Or.inl ⟨by rfl, ?_⟩) ?_ ?_
                          rotate_left
                          · intro w'
                            go_simp
                            with_reducible rfl
                          rotate_left
                          · simp only [Act.put, List.setIfInBounds_toArray, List.set_cons_zero, List.set_cons_succ, i64_w, i32_w]
                            rfl
                          refine pure_ (i := 2) (N := some 38) (v := ?_) (a' := ?_) #[false, true, true, false, false, false, false] rfl rfl (by kernel_rfl) (fun _ _ _ h => h) (Or.inl ⟨by rfl, ?_⟩) ?_ ?_
                          rotate_left
                          · intro w'
                            go_simp
                            with_reducible rfl
                          rotate_left
                          · simp only [Act.put, List.setIfInBounds_toArray, List.set_cons_zero, List.set_cons_succ, i64_w, i32_w]
                            rfl
                          refine pure_ (i := 3) (N := some 39) (v := ?_) (a' := ?_) #[false, true, true, true, false, false, false] rfl rfl (by kernel_rfl) (fun _ _ _ h => h) (Or.inl ⟨by rfl, ?_⟩) ?_ ?_
                          rotate_left
                          · intro w'
                            go_simp
                            with_reducible rfl
                          rotate_left
                          · simp only [Act.put, List.setIfInBounds_toArray, List.set_cons_zero, List.set_cons_succ, i64_w, i32_w]
                            rfl
                          refine take_ (i := 0) (N := some 36) (v := ?_) (a' := ?_) #[true, true, true, true, false, false, false] rfl rfl (by kernel_rfl) (fun _ _ _ h => h) (Or.inl ⟨by rfl, ?_⟩) hHeld ?_ ?_
                          rotate_left
                          · rintro w' ⟨s0, s1, s2⟩
                            go_simp
                            with_reducible rfl
                          rotate_left
                          · simp only [Act.put, List.setIfInBounds_toArray, List.set_cons_zero, List.set_cons_succ, i64_w, i32_w]
                            rfl
                          refine take_ (i := 4) (N := some 40) (v := ?_) (a' := ?_) #[true, true, true, true, true, false, false] rfl rfl (by kernel_rfl) (fun _ _ _ h => h) (Or.inl ⟨by rfl, ?_⟩) hHeld ?_ ?_
                          rotate_left
                          · rintro w' ⟨s0, s1, s2⟩
                            go_simp
                            with_reducible rfl
                          rotate_left
                          · simp only [Act.put, List.setIfInBounds_toArray, List.set_cons_zero, List.set_cons_succ, i64_w, i32_w]
                            rfl
                          refine one_ (i := 5) (N := some 41) #[true, true, true, true, true, true, false] rfl rfl (by kernel_rfl) (by decide) (fun K hK => ?_)
                          refine goes_ Try.func83 (by kernel_rfl) rfl #[.agg #[.slice Ao28 x285000_3.length co28, .int .i64 0], .int .i64 (rd l0 x6_3)] (by rfl) rfl rfl (by (try simp only [List.map_toArray, List.map_cons, List.map_nil]); first | done | rfl | (simp only [List.length_drop, List.length_take]; rfl)) ?_
                          with_reducible refine (weftlineref14_find.calls k3 _ _ x285000_3 0 (rd l0 x6_3) t288 _ ?side1 ?side2 A18.out).mono ?_
                          (case side1 => repeat (first | exact (Kd.R_reads' HO_285000.out).2.2 | (with_reducible refine Kd.C_alloc ?_ _) | (with_reducible refine Kd.C_drewN ?_ _) | (with_reducible refine Kd.C_drew ?_)))
                          (case side2 => exact (Kd.R_reads' HO_285000.out).2.1)
                          rintro e w29 ⟨rfl, hb⟩
                          refine ⟨_, rfl, ?_⟩
                          have n0_ := Aside0.mk (Kd.R_below (by (with_reducible repeat (first | apply Kd.R_alloc | apply Kd.R_drewN | apply Kd.R_drew)); exact HO_285000.out) hb)
                          have n1_ := Aside0.mk (blk_below (g := gb283) (o := .cells #[.slice none 0 0, .int .i64 x284001_3] 66 (0, 0)) (by (with_reducible repeat (first | refine blk_drewN ?_ _ | refine blk_drew ?_ | refine blk_alloc ?_ _)); exact BK283.out) hb)
                          have n2_ := Aside0.mk (blk_below (g := gb284) (o := .cells #[.slice Ao28 x285000_3.length co28, .int .i64 0] 66 (0, 0)) (by (with_reducible repeat (first | refine blk_drewN ?_ _ | refine blk_drew ?_ | refine blk_alloc ?_ _)); exact BK284.out) hb)
                          have n3_ := Aside0.mk (below_step (by repeat (first | (with_reducible first | exact HB.out | apply below_alloc | apply pw_below_drewN | apply below_drew1 | refine below_set ?_ GE283.out | refine below_set ?_ GE284.out) | exact HB.out)) hb)
                          clear HO_285000
                          clear BK283
                          clear BK284
                          clear HB
                          have HO_285000 := n0_
                          have BK283 := n1_
                          have BK284 := n2_
                          have HB := n3_
                          clear n0_ n1_ n2_ n3_
                          (try clear hb)
                          (try clear hb2)
                          (try clear hk)
                          (try clear hi)
                          refine hK.out _ _ ⟨(blk_cell BK284.out 0).trans rfl, (blk_cell BK284.out 1).trans rfl, ((HB.out.cell (World.block_lt_of_cell? w _ hw287_0)).trans hw287_0)⟩ (fun hHeld => ?_)
                          clear hK K
                          refine norm_ (a' := ?_) ?_ ?_
                          rotate_left
                          · show Act.put _ (some 41) _ = _
                            simp only [Act.put, List.setIfInBounds_toArray, List.set_cons_zero, List.set_cons_succ, i64_w, i32_w]
                            rfl
                          refine pure_ (i := 6) (N := some 42) (v := ?_) (a' := ?_) #[true, true, true, true, true, true, true] rfl rfl (by kernel_rfl) (fun _ _ _ h => h) (Or.inl ⟨by rfl, ?_⟩) ?_ ?_
                          rotate_left
                          · intro w'
                            go_simp
                            with_reducible rfl
                          rotate_left
                          · simp only [Act.put, List.setIfInBounds_toArray, List.set_cons_zero, List.set_cons_succ, i64_w, i32_w]
                            rfl
                          refine done_ (by kernel_rfl) ?_
                          try go_wp2
                          have n0_ := Aside0.mk (Kd.R_drew HO_285000.out)
                          have n1_ := Aside0.mk (blk_drew BK283.out)
                          have n2_ := Aside0.mk (blk_drew BK284.out)
                          have n3_ := Aside0.mk (below_drew1 HB.out)
                          clear HO_285000
                          clear BK283
                          clear BK284
                          clear HB
                          have HO_285000 := n0_
                          have BK283 := n1_
                          have BK284 := n2_
                          have HB := n3_
                          clear n0_ n1_ n2_ n3_
                          have p289 : 0 ≤ (x6_3 : Int) := of_decide_eq_true (by first | (with_reducible assumption) | assumption)
                          have q289 : x6_3 < (l0.length : Int) := of_decide_eq_true (by first | (with_reducible assumption) | assumption)
                          obtain ⟨ad289, e289, hx289_0⟩ := Kd.at_int HR0.out x6_3 p289 q289
                          have hw289_0 := hx289_0
                          obtain rfl : ad287 = ad289 := (by injection e289)
                          replace hx289_0 := (HB.out.cell (World.block_lt_of_cell? w _ hx289_0)).trans hx289_0
                          replace p289 := eq_true p289
                          replace q289 := eq_true q289
                          refine start_ (n := 11) (S := fun w' => w'.cell? ⟨gb284, 0, none⟩ = some (.slice Ao28 x285000_3.length co28) ∧ w'.cell? ⟨gb284, 1, none⟩ = some (.int .i64 0) ∧ w'.cell? (ad287.add (x6_3).toNat) = some (.int .i64 (rd l0 x6_3))) (ds := [10]) #[false, false, false, false, false, false, false, false, false, false, false] (by kernel_rfl) rfl rfl ⟨(blk_cell BK284.out 0).trans rfl, (blk_cell BK284.out 1).trans rfl, ((HB.out.cell (World.block_lt_of_cell? w _ hw289_0)).trans hw289_0)⟩ (fun hHeld => ?_); refine with_tabW weftlineref14_New.tab14 weftlineref14_New.bits14 (fun HT_ HW_ => ?_)
                          generalize w29.drew = w30 at HO_285000 BK283 BK284 HB hx289_0 hHeld ⊢
                          refine pure_ (i := 0) (N := some 44) (v := ?_) (a' := ?_) #[true, false, false, false, false, false, false, false, false, false, false] rfl rfl (any_of HT_.out (by kernel_rfl)) (fun _ _ _ h => h) (Or.inl ⟨by rfl, ?_⟩) ?_ ?_
                          rotate_left
                          · intro w'
                            go_simp
                            with_reducible rfl
                          rotate_left
                          · simp only [Act.put, List.setIfInBounds_toArray, List.set_cons_zero, List.set_cons_succ, i64_w, i32_w]
                            rfl
                          refine pure_ (i := 2) (N := some 46) (v := ?_) (a' := ?_) #[true, false, true, false, false, false, false, false, false, false, false] rfl rfl (any_of HT_.out (by kernel_rfl)) (fun _ _ _ h => h) (Or.inl ⟨by rfl, ?_⟩) ?_ ?_
                          rotate_left
                          · intro w'
                            go_simp
                            with_reducible rfl
                          rotate_left
                          · simp only [Act.put, List.setIfInBounds_toArray, List.set_cons_zero, List.set_cons_succ, i64_w, i32_w]
                            rfl
                          refine pure_ (i := 3) (N := some 47) (v := ?_) (a' := ?_) #[true, false, true, true, false, false, false, false, false, false, false] rfl rfl (any_of HT_.out (by kernel_rfl)) (fun _ _ _ h => h) (Or.inl ⟨by rfl, ?_⟩) ?_ ?_
                          rotate_left
                          · intro w'
                            go_simp
                            with_reducible rfl
                          rotate_left
                          · simp only [Act.put, List.setIfInBounds_toArray, List.set_cons_zero, List.set_cons_succ, i64_w, i32_w]
                            rfl
                          refine pure_ (i := 4) (N := some 48) (v := ?_) (a' := ?_) #[true, false, true, true, true, false, false, false, false, false, false] rfl rfl (any_of HT_.out (by kernel_rfl)) (fun _ _ _ h => h) (Or.inl ⟨by rfl, ?_⟩) ?_ ?_
                          rotate_left
                          · intro w'
                            go_simp
                            with_reducible rfl
                          rotate_left
                          · simp only [Act.put, List.setIfInBounds_toArray, List.set_cons_zero, List.set_cons_succ, i64_w, i32_w]
                            rfl
                          refine take_ (i := 1) (N := some 45) (v := ?_) (a' := ?_) #[true, true, true, true, true, false, false, false, false, false, false] rfl rfl (take_ofW HT_.out HW_.out (by kernel_rfl)) (fun _ _ _ h => h) (Or.inl ⟨by rfl, ?_⟩) hHeld ?_ ?_
                          rotate_left
                          · rintro w' ⟨s0, s1, s2⟩
                            go_simp
                            with_reducible rfl
                          rotate_left
                          · simp only [Act.put, List.setIfInBounds_toArray, List.set_cons_zero, List.set_cons_succ, i64_w, i32_w]
                            rfl
                          refine take_ (i := 5) (N := some 49) (v := ?_) (a' := ?_) #[true, true, true, true, true, true, false, false, false, false, false] rfl rfl (take_ofW HT_.out HW_.out (by kernel_rfl)) (fun _ _ _ h => h) (Or.inl ⟨by rfl, ?_⟩) hHeld ?_ ?_
                          rotate_left
                          · rintro w' ⟨s0, s1, s2⟩
                            go_simp
                            with_reducible rfl
                          rotate_left
                          · simp only [Act.put, List.setIfInBounds_toArray, List.set_cons_zero, List.set_cons_succ, i64_w, i32_w]
                            rfl
                          refine one_ (i := 6) (N := some 50) #[true, true, true, true, true, true, true, false, false, false, false] rfl rfl (one_of HT_.out (by kernel_rfl)) (by decide) (fun K hK => ?_)
                          refine goes_ Try.func17 (by kernel_rfl) rfl #[.int .i64 (rd l0 x6_3)] (by rfl) rfl rfl (by (try simp only [List.map_toArray, List.map_cons, List.map_nil]); first | done | rfl | (simp only [List.length_drop, List.length_take]; rfl)) ?_
                          with_reducible refine (weftlineref13_New.calls (rd l0 x6_3) t290 t291 t292 t293 t294 t295 t296 t297 t298 t299 t300 _ A25.out).mono ?_
                          rintro e w31 ⟨rfl, hb⟩
                          refine ⟨_, rfl, ?_⟩
                          have n0_ := Aside0.mk (Kd.R_below (by (with_reducible repeat (first | apply Kd.R_alloc | apply Kd.R_drewN | apply Kd.R_drew)); exact HO_285000.out) hb)
                          have n1_ := Aside0.mk (blk_below (g := gb283) (o := .cells #[.slice none 0 0, .int .i64 x284001_3] 66 (0, 0)) (by (with_reducible repeat (first | refine blk_drewN ?_ _ | refine blk_drew ?_ | refine blk_alloc ?_ _)); exact BK283.out) hb)
                          have n2_ := Aside0.mk (blk_below (g := gb284) (o := .cells #[.slice Ao28 x285000_3.length co28, .int .i64 0] 66 (0, 0)) (by (with_reducible repeat (first | refine blk_drewN ?_ _ | refine blk_drew ?_ | refine blk_alloc ?_ _)); exact BK284.out) hb)
                          have n3_ := Aside0.mk (below_step (by repeat (first | (with_reducible first | exact HB.out | apply below_alloc | apply pw_below_drewN | apply below_drew1 | refine below_set ?_ GE283.out | refine below_set ?_ GE284.out) | exact HB.out)) hb)
                          clear HO_285000
                          clear BK283
                          clear BK284
                          clear HB
                          have HO_285000 := n0_
                          have BK283 := n1_
                          have BK284 := n2_
                          have HB := n3_
                          clear n0_ n1_ n2_ n3_
                          (try clear hb)
                          (try clear hb2)
                          (try clear hk)
                          (try clear hi)
                          refine hK.out _ _ ⟨(blk_cell BK284.out 0).trans rfl, (blk_cell BK284.out 1).trans rfl, ((HB.out.cell (World.block_lt_of_cell? w _ hw289_0)).trans hw289_0)⟩ (fun hHeld => ?_)
                          clear hK K
                          refine norm_ (a' := ?_) ?_ ?_
                          rotate_left
                          · show Act.put _ (some 50) _ = _
                            simp only [Act.put, List.setIfInBounds_toArray, List.set_cons_zero, List.set_cons_succ, i64_w, i32_w]
                            rfl
                          refine one_ (i := 7) (N := some 51) #[true, true, true, true, true, true, true, true, false, false, false] rfl rfl (one_of HT_.out (by kernel_rfl)) (by decide) (fun K hK => ?_)
                          refine value_ (w1 := ?_) (v := ?_) (by rfl) rfl ?_ ?_
                          rotate_left 2
                          · go_simp
                            constructor
                            · rfl
                            · rfl
                          refine hK.out _ _ ⟨(blk_cell (blk_alloc BK284.out _) 0).trans rfl, (blk_cell (blk_alloc BK284.out _) 1).trans rfl, (World.cell?_alloc_lt _ _ _ (World.block_lt_of_cell? _ _ (((HB.out.cell (World.block_lt_of_cell? w _ hw289_0)).trans hw289_0)))).trans (((HB.out.cell (World.block_lt_of_cell? w _ hw289_0)).trans hw289_0))⟩ (fun hHeld => ?_)
                          clear hK K
                          refine norm_ (a' := ?_) ?_ ?_
                          rotate_left
                          · show Act.put _ (some 51) _ = _
                            simp only [Act.put, List.setIfInBounds_toArray, List.set_cons_zero, List.set_cons_succ, i64_w, i32_w]
                            rfl
                          refine one_ (i := 8) (N := some 52) #[true, true, true, true, true, true, true, true, true, false, false] rfl rfl (one_of HT_.out (by kernel_rfl)) (by decide) (fun K hK => ?_)
                          refine Kd.R_append_step k29 (w0 := w) w.heap.size (by rfl) (.tmp 45) (.tmp 51) 64 29 (.agg #[(.int .i64 0), (.int .i64 0), (.int .i64 0), (.bool false), (.int .i64 0), (.int .i64 0), (.int .i64 0), (.int .i64 0), (.int .i64 0), (.int .u32 0), (.int .i64 0)]) 88 rfl Try.underlying64 info29 rfl (by decide) (by omega) (.slice Ao28 x285000_3.length co28) x285000_3 (⟨(⟨t290, t291, t292, t293⟩ : S23), (⟨t294, t295, t296⟩ : S25), t297, t298, t299, t300⟩ : S29) [.int .i64 t290, .int .i64 t291, .int .i64 t292, .bool t293, .int .i64 t294, .int .i64 t295, .int .i64 t296, .int .i64 t297, .int .i64 t298, .int .u32 t299, .int .i64 t300] (fun _ => True) (fun _ => False) rfl rfl ?aP (fun _ hk => hk.elim) ?aF ?aO ?aB ?aS ?aL ?_
                          (case aP => exact k29_mkM _ _ _ (⟨(⟨t290, t291, t292, t293⟩ : S23), (⟨t294, t295, t296⟩ : S25), t297, t298, t299, t300⟩ : S29))
                          (case aB => exact (by repeat (first | (with_reducible first | exact HB.out | apply below_alloc | apply pw_below_drewN | apply below_drew1 | refine below_set ?_ GE283.out | refine below_set ?_ GE284.out) | exact HB.out)))
                          (case aF => exact (fun _ _ => trivial))
                          (case aO => exact (by (with_reducible repeat (first | apply Kd.R_alloc | apply Kd.R_drewN | apply Kd.R_drew)); exact HO_285000.out))
                          (case aS => exact (below_size (by repeat (first | (with_reducible first | exact HB.out | apply below_alloc | apply pw_below_drewN | apply below_drew1 | refine below_set ?_ GE283.out | refine below_set ?_ GE284.out) | exact HB.out))))
                          (case aL => have := LMc26.out; omega)
                          intro v302 w32 ho hb hg hat
                          rw [← Ny301.out] at ho
                          have n0_ := Aside0.mk (blk_grown (g := gb283) (o := .cells #[.slice none 0 0, .int .i64 x284001_3] 66 (0, 0)) (by (with_reducible repeat (first | refine blk_drewN ?_ _ | refine blk_drew ?_ | refine blk_alloc ?_ _)); exact BK283.out) hg (Kd.R_ne HO_285000.out BK283.out (by decide)))
                          have n1_ := Aside0.mk (blk_grown (g := gb284) (o := .cells #[.slice Ao28 x285000_3.length co28, .int .i64 0] 66 (0, 0)) (by (with_reducible repeat (first | refine blk_drewN ?_ _ | refine blk_drew ?_ | refine blk_alloc ?_ _)); exact BK284.out) hg (Kd.R_ne HO_285000.out BK284.out (by decide)))
                          have n2_ := Aside0.mk (hb)
                          have n3_ := Aside0.mk (ho)
                          clear BK283
                          clear BK284
                          clear HB
                          clear HO_285000
                          have BK283 := n0_
                          have BK284 := n1_
                          have HB := n2_
                          have HO303 := n3_
                          clear n0_ n1_ n2_ n3_
                          clear ho hb hg hat
                          obtain ⟨Ao33, co33, eo33⟩ := Kd.R_slice HO303.out
                          (first | subst eo33 | (injection eo33 with f1_ f2_ f3_; have f4_ := f1_.symm; have f5_ := f3_.symm; clear f1_ f2_ f3_; subst f4_; subst f5_))
                          refine hK.out _ _ ⟨(blk_cell BK284.out 0).trans rfl, (blk_cell BK284.out 1).trans rfl, ((HB.out.cell (World.block_lt_of_cell? w _ hw289_0)).trans hw289_0)⟩ (fun hHeld => ?_)
                          clear hK K
                          refine norm_ (a' := ?_) ?_ ?_
                          rotate_left
                          · show Act.put _ (some 52) _ = _
                            simp only [Act.put, List.setIfInBounds_toArray, List.set_cons_zero, List.set_cons_succ, i64_w, i32_w]
                            rfl
                          refine pure_ (i := 9) (N := some 53) (v := ?_) (a' := ?_) #[true, true, true, true, true, true, true, true, true, true, false] rfl rfl (any_of HT_.out (by kernel_rfl)) (fun _ _ _ h => h) (Or.inl ⟨by rfl, ?_⟩) ?_ ?_
                          rotate_left
                          · intro w'
                            go_simp
                            with_reducible rfl
                          rotate_left
                          · simp only [Act.put, List.setIfInBounds_toArray, List.set_cons_zero, List.set_cons_succ, i64_w, i32_w]
                            rfl
                          refine last_ (i := 10) (N := none) #[true, true, true, true, true, true, true, true, true, true, true] rfl rfl (one_of HT_.out (by kernel_rfl)) (by decide) (fun K hK => ?_)
                          have hs34 : w32.cell? ⟨gb284, 0, none⟩ = some (.slice Ao28 x285000_3.length co28) := (blk_cell BK284.out 0).trans rfl
                          have hfs34 := blk_frozen BK284.out 0
                          have hns34_0 := NB283_284.out
                          have hms34_0 := NB284_283.out
                          refine skip_ (w1 := ?_) (by rfl) rfl ?_ ?_
                          rotate_left
                          · go_simp
                            rfl
                          refine hK.out _ _ ?_
                          clear hK K
                          refine done_ (done_of HT_.out (by kernel_rfl)) ?_
                          try go_wp2
                          go_roundg k3
                          case measure => have := HJ1.out; have := HK2.out; have := HK3.out; omega
                          case rel => exact ⟨(wrap64 (x6_3 + 1)), (x284001_3), (y301), (.slice Ao33 y301.length co33), (by first | rfl | (simp; done) | (simp [*]; done)), H', ⟨by have := HJ1.out; have := HK2.out; have := HK3.out; omega⟩, ⟨by (with_reducible repeat (first | apply Kd.R_alloc | apply Kd.R_drewN | apply Kd.R_drew)); exact Kd.R_mono (Kd.R_far (p := ⟨gb284, 0, none⟩) (Kd.R_types HO303.out BK284.out (by decide)) (fun _ hk => hk.2) (.slice Ao33 y301.length co33)) (fun _ hk => trivial)⟩, ⟨by (with_reducible repeat (first | refine blk_drewN ?_ _ | refine blk_drew ?_ | refine blk_alloc ?_ _)); refine blk_far ?_ NB283_284.out _; (with_reducible repeat (first | refine blk_drewN ?_ _ | refine blk_drew ?_ | refine blk_alloc ?_ _)); exact BK283.out⟩, ⟨by (with_reducible repeat (first | refine blk_drewN ?_ _ | refine blk_drew ?_ | refine blk_alloc ?_ _)); refine blk_put (cs := #[.slice Ao28 x285000_3.length co28, .int .i64 0]) ?_ 0 _ rfl; (with_reducible repeat (first | refine blk_drewN ?_ _ | refine blk_drew ?_ | refine blk_alloc ?_ _)); exact BK284.out⟩, ⟨by repeat (first | (with_reducible first | exact HB.out | apply below_alloc | apply pw_below_drewN | apply below_drew1 | refine below_set ?_ GE283.out | refine below_set ?_ GE284.out) | exact HB.out)⟩⟩
                        · rw [if_neg c26] at H
                          exact absurd H (by simp)
                    · rw [if_neg c17] at H
                      exact absurd H (by simp)
                  · rw [if_neg c16] at H
                    have c16b0 : decide (x6_3 < (l0.length : Int)) = false := decide_eq_false c16
                    clear c16
                    simp only [Option.some.injEq, Prod.mk.injEq] at H
                    obtain ⟨rfl, rfl, rfl⟩ := H
                    have hnb35 := NB284_283.out
                    have hnc35 := NB283_284.out
                    have hcz36_0 : wr.cell? ⟨gb284, 0, none⟩ = some (u285000) := (blk_cell BK284.out 0).trans rfl
                    have hcz36_1 : wr.cell? ⟨gb284, 1, none⟩ = some (.int .i64 0) := (blk_cell BK284.out 1).trans rfl
                    have hfz36_0 := blk_frozen BK284.out 0
                    have hfz36_1 := blk_frozen BK284.out 1
                    obtain ⟨Ao37, co37, eo37⟩ := Kd.R_slice HO_285000.out
                    subst eo37
                    have hcz38_0 : wr.cell? ⟨gb283, 0, none⟩ = some (.slice none 0 0) := (blk_cell BK283.out 0).trans rfl
                    have hcz38_1 : wr.cell? ⟨gb283, 1, none⟩ = some (.int .i64 x284001_3) := (blk_cell BK283.out 1).trans rfl
                    have hfz38_0 := blk_frozen BK283.out 0
                    have hfz38_1 := blk_frozen BK283.out 1
                    go_wp2
                    refine bodyPost_ret (results_ct rfl _ _ gb283 66 #[.slice Ao37 x285000_3.length co37, .int .i64 0] (0, 0) _ rfl (by (with_reducible repeat (first | refine blk_drewN ?_ _ | refine blk_drew ?_ | refine blk_alloc ?_ _)); refine blk_put (cs := #[.slice Ao37 x285000_3.length co37, .int .i64 x284001_3]) ?_ 1 _ rfl; (with_reducible repeat (first | refine blk_drewN ?_ _ | refine blk_drew ?_ | refine blk_alloc ?_ _)); refine blk_put (cs := #[.slice none 0 0, .int .i64 x284001_3]) ?_ 0 _ rfl; (with_reducible repeat (first | refine blk_drewN ?_ _ | refine blk_drew ?_ | refine blk_alloc ?_ _)); exact BK283.out) Try.underlying66 rfl (by kernel_rfl)) rfl ?_
                    exact ⟨_, by first | rfl | (simp [errW_none, errW_some] <;> rfl) | (simp [*, errW_none, errW_some] <;> rfl), by (with_reducible repeat (first | apply Kd.R_alloc | apply Kd.R_drewN | apply Kd.R_drew)); exact Kd.R_mono (Kd.R_far (p := ⟨gb283, 1, none⟩) (Kd.R_far (p := ⟨gb283, 0, none⟩) (Kd.R_types HO_285000.out BK283.out (by decide)) (fun _ hk => hk.2) (.slice Ao37 x285000_3.length co37)) (fun _ hk => hk.2) (.int .i64 0)) (fun _ hk => trivial), by repeat (first | (with_reducible first | exact HB.out | apply below_alloc | apply pw_below_drewN | apply below_drew1 | refine below_set ?_ GE283.out | refine below_set ?_ GE284.out) | exact HB.out)⟩

end Go.Proofs.Ytblooffiggciiaa.PPs
/- PsT -/
namespace Go.Proofs.Ytblooffiggciiaa.Ps
open Go.RowKit Go.Proofs.Ytblooffiggciiaa.PPs Go.Proofs.YtblooffiggciiaaW.PrintWords Go.Proofs.YtblooffiggciiaaW.PrintLast Go.Proofs.YtblooffiggciiaaW.PrintMore Go.Proofs.Ytblooffiggciiaa.Sh
set_option linter.unusedVariables false
set_option linter.unusedSimpArgs false
/-- An error's number. -/
def erN : Option Int → Int
  | none => 0
  | some e => e
theorem map_vc (l : List S29) : (l.map cv).map vc = l := by
  rw [List.map_map]
  have : vc ∘ cv = id := rfl
  rw [this, List.map_id]
theorem set_vc (l : List S29) (i : Nat) (x : S29) : ((l.map cv).set i (cv x)).map vc = l.set i x := by
  rw [← List.map_set, map_vc]
/-- The answer as the document's. -/
def ans (r : List S34 × Int × Option Int) : List S29 × Int × Int := (r.1.map vc, r.2.1, erN r.2.2)
theorem put_f {l : List S29} {p : Int} (x : S29) {k : Nat} (hl : l.length ≤ 1000) (hk : 2 * l.length + 4 < k) :
    weftlineref14_Put.f k l p x.f0.f0 x.f0.f1 x.f0.f2 x.f0.f3 x.f1.f0 x.f1.f1 x.f1.f2 x.f2 x.f3 x.f4 x.f5 = some (ans (putL (l.map cv) p (cv x))) := by
  obtain ⟨k2, rfl⟩ : ∃ k2, k = k2 + 1 := ⟨k - 1, by omega⟩
  unfold weftlineref14_Put.f
  rw [good_f hl (by omega), qrefgood]
  simp only [Option.bind_some]
  have hg : ∀ (c : Prop) [Decidable c], c = G (cv x) → True := fun _ _ _ => trivial
  cases hgd : gdb (l.map cv) p with
  | false =>
    rw [if_neg (by simp)]
    have e : putL (l.map cv) p (cv x) = ([], 0, some 1) := by
      unfold putL fnd
      by_cases hx : G (cv x)
      · rw [if_pos hx, if_neg (by rw [hgd]; simp)]
      · rw [if_neg hx]
    rw [e]
    rfl
  | true =>
    rw [if_pos rfl]
    by_cases hx : G (cv x)
    · have hx' : goodQ x.f0.f0 x.f0.f1 x.f0.f2 x.f0.f3 x.f1.f0 x.f1.f1 x.f1.f2 x.f2 x.f3 x.f4 x.f5 := hx
      rw [decide_eq_true hx']
      simp only [weftlineref14_Put.j0, Bool.not_true, Bool.false_eq_true, if_false]
      rw [find_f hl (by omega)]
      simp only [Option.bind_some]
      unfold putL fnd
      rw [if_pos hx, if_pos hgd]
      rcases plc_at (l.map cv) x.f2 with h1 | ⟨i, h1, h2, h3⟩
      · have h1' : plc (l.map cv) (cv x).f2 = -1 := h1
        rw [h1, h1', if_pos (by omega), if_pos (by omega)]
        rfl
      · have h2' : plc (l.map cv) (cv x).f2 = i := h2
        rw [List.length_map] at h1
        rw [h2, h2', if_neg (by omega), if_neg (by omega)]
        unfold weftlineref14_set.f
        simp only [Option.bind_some, List.nil_append, List.length_nil, Nat.zero_add]
        rw [if_pos (by omega), if_pos (by omega), if_pos (by omega)]
        simp only [Option.bind_some, ans, Int.toNat_natCast, erN]
        rw [set_vc]
    · have hx' : ¬ goodQ x.f0.f0 x.f0.f1 x.f0.f2 x.f0.f3 x.f1.f0 x.f1.f1 x.f1.f2 x.f2 x.f3 x.f4 x.f5 := hx
      rw [decide_eq_false hx']
      unfold putL
      rw [if_neg hx]
      rfl
end Go.Proofs.Ytblooffiggciiaa.Ps
/- PsU -/
namespace Go.Proofs.Ytblooffiggciiaa.Ps
open Go.RowKit Go.Proofs.Ytblooffiggciiaa.PPs Go.Proofs.YtblooffiggciiaaW.PrintWords Go.Proofs.YtblooffiggciiaaW.PrintLast Go.Proofs.YtblooffiggciiaaW.PrintMore Go.Proofs.Ytblooffiggciiaa.Sh
set_option linter.unusedVariables false
set_option linter.unusedSimpArgs false
def newR (a : Int) : S29 := vc (newS a)
theorem rdI (l : List Int) (j : Nat) (h : j < l.length) : rd l (j : Int) = l[j] := by
  unfold rd; rw [Int.toNat_natCast, List.getD_eq_getElem?_getD, List.getElem?_eq_getElem h]; rfl
theorem new_l0 (l : List Int) (q : Int) (hl : l.length ≤ 1000) (m : Nat) : ∀ (n j : Nat), j + n = l.length → weftlineref14_New.l0 (n + 1 + m) l (j : Int) q = if (∀ a ∈ l.drop j, addrP a) then weftlineref14_New.l1 m l 0 [] q else some ([], 0, 1)
  | 0, j, h => by
    have : j = l.length := by omega
    subst this
    rw [show 0 + 1 + m = m + 1 by omega, weftlineref14_New.l0, if_neg (by omega), List.drop_length, if_pos (by simp)]
  | n + 1, j, h => by
    have hj : j < l.length := by omega
    rw [show n + 1 + 1 + m = (n + 1 + m) + 1 by omega, weftlineref14_New.l0, if_pos (by omega), if_pos (by omega), rdI l j hj, refaddr_eq]
    simp only [Option.bind_some]
    rw [List.drop_eq_getElem_cons hj]
    by_cases ha : addrP l[j]
    · rw [decide_eq_true ha, if_pos rfl, next_i j (by omega), new_l0 l q hl m n (j + 1) (by omega)]
      simp only [List.forall_mem_cons, ha, true_and]
    · rw [decide_eq_false ha, if_neg (by simp), if_neg (fun hall => ha (hall _ (List.mem_cons_self ..)))]
theorem ixF_app (p : S34 → Bool) (ys : List S34) : ∀ (xs : List S34) (k : Int), 0 ≤ k → ixF p (xs ++ ys) k = if 0 ≤ ixF p xs k then ixF p xs k else ixF p ys (k + xs.length)
  | [], k, _ => by simp [ixF]
  | x :: xs, k, h => by
    show (if p x = true then k else ixF p (xs ++ ys) (k + 1)) = if 0 ≤ (if p x = true then k else ixF p xs (k + 1)) then (if p x = true then k else ixF p xs (k + 1)) else ixF p ys (k + ((xs.length + 1 : Nat) : Int))
    by_cases hp : p x = true
    · simp only [if_pos hp, if_pos h]
    · simp only [if_neg hp]
      rw [ixF_app p ys xs (k + 1) (by omega)]
      congr 2
      omega
/-- The j-th address stands ahead of itself. -/
def dupA (l : List Int) (j : Nat) : Prop := 0 ≤ plc ((l.take j).map newS) (l.getD j 0)
theorem plc_split (l : List Int) (j : Nat) (hj : j < l.length) : plc (l.map newS) (l.getD j 0) ≠ j ↔ dupA l j := by
  have e : l.map newS = (l.take j).map newS ++ (l.drop j).map newS := by rw [← List.map_append, List.take_append_drop]
  have hlen : ((l.take j).map newS).length = j := by simp; omega
  unfold dupA plc
  rw [e, ixF_app _ _ _ _ (by omega), hlen]
  have hg : l.getD j 0 = l[j] := by rw [List.getD_eq_getElem?_getD, List.getElem?_eq_getElem hj]; rfl
  rw [hg, List.drop_eq_getElem_cons hj, List.map_cons]
  have hd : ixF (fun x => x.f2 == l[j]) (newS l[j] :: (l.drop (j + 1)).map newS) (0 + (j : Int)) = j := by
    show (if ((newS l[j]).f2 == l[j]) = true then (0 + (j : Int)) else _) = _
    rw [if_pos (by simp [newS])]; simp
  rw [hd]
  by_cases h : 0 ≤ ixF (fun x => x.f2 == l[j]) ((l.take j).map newS) 0
  · rw [if_pos h]
    refine ⟨fun _ => h, fun _ => ?_⟩
    rcases plc_at ((l.take j).map newS) l[j] with h1 | ⟨i, h1, h2, _⟩
    · unfold plc at h1; omega
    · unfold plc at h2; rw [hlen] at h1; omega
  · rw [if_neg h]; exact ⟨fun hne => absurd rfl hne, fun h' => absurd h' h⟩
theorem tw_new (l : List Int) : tw (l.map newS) = true ↔ ∃ j, j < l.length ∧ dupA l j := by
  unfold tw
  rw [List.any_eq_true]
  constructor
  · rintro ⟨j, hj, h⟩
    have hj' : j < l.length := by simpa using hj
    refine ⟨j, hj', (plc_split l j hj').1 ?_⟩
    have e : ((l.map newS).getD j z34).f2 = l.getD j 0 := by
      rw [List.getD_eq_getElem?_getD, List.getElem?_map, List.getD_eq_getElem?_getD, List.getElem?_eq_getElem hj']; rfl
    rw [e] at h
    simpa using h
  · rintro ⟨j, hj, h⟩
    refine ⟨j, by simpa using hj, ?_⟩
    have e : ((l.map newS).getD j z34).f2 = l.getD j 0 := by
      rw [List.getD_eq_getElem?_getD, List.getElem?_map, List.getD_eq_getElem?_getD, List.getElem?_eq_getElem hj]; rfl
    rw [e]
    simpa using (plc_split l j hj).2 h
theorem take_one' {l : List Int} {j : Nat} (hj : j < l.length) : (l.take (j + 1)).map newR = (l.take j).map newR ++ [newR l[j]] := by
  rw [List.take_add_one, List.getElem?_eq_getElem hj, List.map_append]; rfl
theorem new_l1 (l : List Int) (q : Int) (hl : l.length ≤ 1000) (b : Bool) : ∀ (n j k : Nat), j + n = l.length → n + l.length + 1 < k → (b = true ↔ ∃ i, j ≤ i ∧ i < l.length ∧ dupA l i) → weftlineref14_New.l1 k l (j : Int) ((l.take j).map newR) q = if b = true then some ([], 0, 12) else some (l.map newR, q, 0)
  | 0, j, k + 1, h, _, hb => by
    have : j = l.length := by omega
    subst this
    rw [weftlineref14_New.l1, if_neg (by omega), if_neg (by rw [hb]; rintro ⟨i, h1, h2, _⟩; omega), List.take_length]
  | n + 1, j, k + 1, h, hk, hb => by
    have hj : j < l.length := by omega
    have hm : ((l.take j).map newR).map cv = (l.take j).map newS := by rw [List.map_map]; rfl
    have hg : l.getD j 0 = l[j] := by rw [List.getD_eq_getElem?_getD, List.getElem?_eq_getElem hj]; rfl
    rw [weftlineref14_New.l1, if_pos (by omega), if_pos (by omega), rdI l j hj, find_f (by simp; omega) (by simp; omega), hm]
    simp only [Option.bind_some]
    by_cases hd : dupA l j
    · have hd' := hd
      unfold dupA at hd'
      rw [hg] at hd'
      rw [if_pos hd', if_pos (hb.2 ⟨j, Nat.le_refl _, hj, hd⟩)]
    · have hd' := hd
      unfold dupA at hd'
      rw [hg] at hd'
      rw [if_neg hd']
      have e : weftlineref13_New.f l[j] = some (0, 0, 30, false, 512, 2000, 0, l[j], 0, 0, 0) := rfl
      rw [e]
      simp only [Option.bind_some]
      rw [if_pos (by simp; omega), next_i j (by omega)]
      have := new_l1 l q hl b n (j + 1) k (by omega) (by omega) (hb.trans ⟨fun ⟨i, h1, h2, h3⟩ => ⟨i, by
        rcases Nat.lt_or_ge j i with h | h
        · exact h
        · have : i = j := by omega
          subst this; exact absurd h3 hd, h2, h3⟩, fun ⟨i, h1, h2, h3⟩ => ⟨i, by omega, h2, h3⟩⟩)
      rw [take_one' hj] at this
      exact this
theorem new_f {l : List Int} {k : Nat} (hl : l.length ≤ 1000) (hk : 3 * l.length + 10 < k) : weftlineref14_New.f k l = some (ans (newL l)) := by
  obtain ⟨m, rfl⟩ : ∃ m, k = (l.length + 1 + m) + 1 := ⟨k - l.length - 2, by omega⟩
  unfold weftlineref14_New.f newL
  by_cases h1 : (l.length : Int) < 1
  · rw [if_pos h1, if_pos (by omega)]; rfl
  · rw [if_neg h1]
    by_cases h2 : (l.length : Int) > 4
    · rw [decide_eq_true h2, if_pos (by omega)]; rfl
    · rw [decide_eq_false h2, if_neg (by omega), weftlineref14_New.j0, if_neg (by simp)]
      have h0 := new_l0 l 0 hl m l.length 0 (by omega)
      rw [show ((0 : Nat) : Int) = 0 from rfl] at h0
      rw [h0, List.drop_zero]
      by_cases ha : ∀ a ∈ l, addrP a
      · rw [if_pos ha, if_pos ha]
        have h3 := new_l1 l 0 hl (tw (l.map newS)) l.length 0 m (by omega) (by omega) ((tw_new l).trans ⟨fun ⟨j, h1, h2⟩ => ⟨j, Nat.zero_le _, h1, h2⟩, fun ⟨j, _, h1, h2⟩ => ⟨j, h1, h2⟩⟩)
        rw [List.take_zero, List.map_nil] at h3
        rw [show ((0 : Nat) : Int) = 0 from rfl] at h3
        rw [h3]
        by_cases ht : tw (l.map newS) = true
        · rw [if_pos ht, if_pos ht]; rfl
        · rw [if_neg ht, if_neg ht]
          unfold ans
          rw [List.map_map]; rfl
      · rw [if_neg ha, if_neg ha]; rfl
end Go.Proofs.Ytblooffiggciiaa.Ps
