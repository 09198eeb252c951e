/- PathsChangeSaid: part 4 of its proof: printed functions and their contracts, plain laws. -/
import Derived.Test.YtblooffiggciiaaZPathsChangeSaid3
import Derived.Lib.QuietBelow
import Derived.Lib.QuietBelowIn
import Derived.Sort.QuietTacIn
import Derived.Laws.CopyOwn
set_option linter.unusedVariables false
set_option linter.unusedSimpArgs false
/- PPsx51 -/
namespace Go.Proofs.Ytblooffiggciiaa.PPs
open Go.RowKit Go.Proofs.YtblooffiggciiaaW.PrintWords Go.Proofs.YtblooffiggciiaaW.PrintLast Go.Proofs.YtblooffiggciiaaW.PrintMore
attribute [local go_sem] max2_int min2_int max_two min_two max_three min_three max_four min_four   -- for this text's walks alone
attribute [local go_sem] Go.Proofs.Ytblooffiggciiaa.Aid.isSome_setCell
attribute [local go_sem high] eqA29 eqA60
mutual
def weftlineref14_Same.j0 : Nat → Bool → List (S29) → Int → List (S29) → Int → Option (Bool)
  | 0, _, _, _, _, _ => none
  | k + 1, x19, x306000, x306001, x307000, x307001 => if x19 = true then (some false) else (weftlineref14_Same.l0 k 0 x306000 x306001 x307000 x307001)
def weftlineref14_Same.l0 : Nat → Int → List (S29) → Int → List (S29) → Int → Option (Bool)
  | 0, _, _, _, _, _ => none
  | k + 1, x5, x306000, x306001, x307000, x307001 => if x5 < (x306000.length : Int) then (if 0 ≤ x5 then (if x5 < (x307000.length : Int) then (if ((!(((rd_T29 x306000 x5).f0.f0) == ((rd_T29 x307000 x5).f0.f0)) || (!(((rd_T29 x306000 x5).f0.f1) == ((rd_T29 x307000 x5).f0.f1)) || (!(((rd_T29 x306000 x5).f0.f2) == ((rd_T29 x307000 x5).f0.f2)) || (!(((rd_T29 x306000 x5).f0.f3) == ((rd_T29 x307000 x5).f0.f3)))))) || ((!(((rd_T29 x306000 x5).f1.f0) == ((rd_T29 x307000 x5).f1.f0)) || (!(((rd_T29 x306000 x5).f1.f1) == ((rd_T29 x307000 x5).f1.f1)) || (!(((rd_T29 x306000 x5).f1.f2) == ((rd_T29 x307000 x5).f1.f2))))) || (!(((rd_T29 x306000 x5).f2) == ((rd_T29 x307000 x5).f2)) || (!(((rd_T29 x306000 x5).f3) == ((rd_T29 x307000 x5).f3)) || (!(((rd_T29 x306000 x5).f4) == ((rd_T29 x307000 x5).f4)) || (!(((rd_T29 x306000 x5).f5) == ((rd_T29 x307000 x5).f5)))))))) = true then (some false) else (weftlineref14_Same.l0 k (wrap64 (x5 + 1)) x306000 x306001 x307000 x307001)) else (none)) else (none)) else (some true)
end
def weftlineref14_Same.f (k : Nat) (l0_0 : List (S29)) (a0_1 : Int) (l1_0 : List (S29)) (a1_1 : Int) : Option (Bool) := if a0_1 = a1_1 then (weftlineref14_Same.j0 k ((l0_0.length : Int) != (l1_0.length : Int)) l0_0 a0_1 l1_0 a1_1) else (weftlineref14_Same.j0 k true l0_0 a0_1 l1_0 a1_1)
set_option maxHeartbeats 8000000 in
set_option maxRecDepth 100000 in
theorem weftlineref14_Same.calls (k : Nat) (A0_0 : Option Addr) (c0_0 : Nat) (l0_0 : List (S29)) (a0_1 : Int) (A1_0 : Option Addr) (c1_0 : Nat) (l1_0 : List (S29)) (a1_1 : Int) (r : Bool) (w : World) (hr0_0 : Kd.C k29 w A0_0 l0_0.length l0_0) (hc0_0 : l0_0.length ≤ c0_0) (hr1_0 : Kd.C k29 w A1_0 l1_0.length l1_0) (hc1_0 : l1_0.length ≤ c1_0) (h : weftlineref14_Same.f k l0_0 a0_1 l1_0 a1_1 = some r) :
    Calls Try.prog 42 #[.agg #[.slice A0_0 l0_0.length c0_0, .int .i64 a0_1], .agg #[.slice A1_0 l1_0.length c1_0, .int .i64 a1_1]] w fun e w' => e = .returned (.bool r) ∧ Below w.heap.size w w' := by
  have hu66 := Try.underlying66
  have hu29 := Try.underlying29
  have HR0_0 := Aside0.mk hr0_0
  have HC0_0 := Aside0.mk hc0_0
  clear hr0_0 hc0_0
  have HR1_0 := Aside0.mk hr1_0
  have HC1_0 := Aside0.mk hc1_0
  clear hr1_0 hc1_0
  have HB := Aside0.mk (Below.refl w.heap.size w)
  have H : (if a0_1 = a1_1 then (weftlineref14_Same.j0 k ((l0_0.length : Int) != (l1_0.length : Int)) l0_0 a0_1 l1_0 a1_1) else (weftlineref14_Same.j0 k true l0_0 a0_1 l1_0 a1_1)) = some r := h
  clear h
  have HC3 := Aside0.mk H
  clear H
  go_enter Try.func42, Try.ntmps42
  go_upto_region 1 with (first | ((with_reducible refine gate_dst (N := 2) rfl ?_); (try (refine gate_guard (by rfl) ?_; dsimp only)); refine box_event ?hg (N := 2) ?hd (cs := #[.slice A0_0 l0_0.length c0_0, .int .i64 a0_1]) (t := 66) ?hr ?_; (case hd => rfl); (case hg => rfl); (case hr => first | (go_simp; done) | (go_simp; rfl)); intro gb305 hg w4 hbox hb; have n0_ := Aside0.mk (below_step (by repeat (first | (with_reducible first | exact HB.out | apply below_alloc | apply pw_below_drewN | apply below_drew1) | exact HB.out)) hb); have n1_ := Aside0.mk (hbox); have n2_ := Aside0.mk ((by rw [hg]; exact (below_size (by repeat (first | (with_reducible first | exact HB.out | apply below_alloc | apply pw_below_drewN | apply below_drew1) | exact HB.out))) : w.heap.size ≤ gb305)); have n3_ := Aside0.mk ((by rw [hg]; exact (below_size (by repeat (first | (with_reducible first | exact HB.out | apply below_alloc | apply pw_below_drewN | apply below_drew1) | exact HB.out))) : w.heap.size ≤ gb305)); clear HB; have HB := n0_; have BK305 := n1_; have GW305 := n2_; have GE305 := n3_; clear n0_ n1_ n2_ n3_; clear hb hbox hg) | ((with_reducible refine gate_dst (N := 3) rfl ?_); (try (refine gate_guard (by rfl) ?_; dsimp only)); refine box_event ?hg (N := 3) ?hd (cs := #[.slice A1_0 l1_0.length c1_0, .int .i64 a1_1]) (t := 66) ?hr ?_; (case hd => rfl); (case hg => rfl); (case hr => first | (go_simp; done) | (go_simp; rfl)); intro gb306 hg w5 hbox hb; have n0_ := Aside0.mk (blk_below (g := gb305) (o := .cells #[.slice A0_0 l0_0.length c0_0, .int .i64 a0_1] 66 (0, 0)) (by (with_reducible repeat (first | refine blk_drewN ?_ _ | refine blk_drew ?_ | refine blk_alloc ?_ _)); exact BK305.out) hb); have n1_ := Aside0.mk (below_step (by repeat (first | (with_reducible first | exact HB.out | apply below_alloc | apply pw_below_drewN | apply below_drew1 | refine below_set ?_ GE305.out) | exact HB.out)) hb); have n2_ := Aside0.mk (hbox); have n3_ := Aside0.mk ((by rw [hg]; exact (below_size (by repeat (first | (with_reducible first | exact HB.out | apply below_alloc | apply pw_below_drewN | apply below_drew1 | refine below_set ?_ GE305.out) | exact HB.out))) : w.heap.size ≤ gb306)); have n4_ := Aside0.mk ((by rw [hg]; exact (below_size (by repeat (first | (with_reducible first | exact HB.out | apply below_alloc | apply pw_below_drewN | apply below_drew1 | refine below_set ?_ GE305.out) | exact HB.out))) : w.heap.size ≤ gb306)); have n5_ := Aside0.mk ((by rw [hg]; exact Nat.ne_of_lt (blk_lt (g := gb305) (o := .cells #[.slice A0_0 l0_0.length c0_0, .int .i64 a0_1] 66 (0, 0)) (by (with_reducible repeat (first | refine blk_drewN ?_ _ | refine blk_drew ?_ | refine blk_alloc ?_ _)); exact BK305.out)) : gb305 ≠ gb306)); have n6_ := Aside0.mk ((by rw [hg]; exact Nat.ne_of_gt (blk_lt (g := gb305) (o := .cells #[.slice A0_0 l0_0.length c0_0, .int .i64 a0_1] 66 (0, 0)) (by (with_reducible repeat (first | refine blk_drewN ?_ _ | refine blk_drew ?_ | refine blk_alloc ?_ _)); exact BK305.out)) : gb306 ≠ gb305)); clear BK305; clear HB; have BK305 := n0_; have HB := n1_; have BK306 := n2_; have GW306 := n3_; have GE306 := n4_; have NB305_306 := n5_; have NB306_305 := n6_; clear n0_ n1_ n2_ n3_ n4_ n5_ n6_; clear hb hbox hg))
  repeat (go_quiet (first | ((with_reducible refine gate_dst (N := 2) rfl ?_); (try (refine gate_guard (by rfl) ?_; dsimp only)); refine box_event ?hg (N := 2) ?hd (cs := #[.slice A0_0 l0_0.length c0_0, .int .i64 a0_1]) (t := 66) ?hr ?_; (case hd => rfl); (case hg => rfl); (case hr => first | (go_simp; done) | (go_simp; rfl)); intro gb305 hg w4 hbox hb; have n0_ := Aside0.mk (below_step (by repeat (first | (with_reducible first | exact HB.out | apply below_alloc | apply pw_below_drewN | apply below_drew1) | exact HB.out)) hb); have n1_ := Aside0.mk (hbox); have n2_ := Aside0.mk ((by rw [hg]; exact (below_size (by repeat (first | (with_reducible first | exact HB.out | apply below_alloc | apply pw_below_drewN | apply below_drew1) | exact HB.out))) : w.heap.size ≤ gb305)); have n3_ := Aside0.mk ((by rw [hg]; exact (below_size (by repeat (first | (with_reducible first | exact HB.out | apply below_alloc | apply pw_below_drewN | apply below_drew1) | exact HB.out))) : w.heap.size ≤ gb305)); clear HB; have HB := n0_; have BK305 := n1_; have GW305 := n2_; have GE305 := n3_; clear n0_ n1_ n2_ n3_; clear hb hbox hg) | ((with_reducible refine gate_dst (N := 3) rfl ?_); (try (refine gate_guard (by rfl) ?_; dsimp only)); refine box_event ?hg (N := 3) ?hd (cs := #[.slice A1_0 l1_0.length c1_0, .int .i64 a1_1]) (t := 66) ?hr ?_; (case hd => rfl); (case hg => rfl); (case hr => first | (go_simp; done) | (go_simp; rfl)); intro gb306 hg w5 hbox hb; have n0_ := Aside0.mk (blk_below (g := gb305) (o := .cells #[.slice A0_0 l0_0.length c0_0, .int .i64 a0_1] 66 (0, 0)) (by (with_reducible repeat (first | refine blk_drewN ?_ _ | refine blk_drew ?_ | refine blk_alloc ?_ _)); exact BK305.out) hb); have n1_ := Aside0.mk (below_step (by repeat (first | (with_reducible first | exact HB.out | apply below_alloc | apply pw_below_drewN | apply below_drew1 | refine below_set ?_ GE305.out) | exact HB.out)) hb); have n2_ := Aside0.mk (hbox); have n3_ := Aside0.mk ((by rw [hg]; exact (below_size (by repeat (first | (with_reducible first | exact HB.out | apply below_alloc | apply pw_below_drewN | apply below_drew1 | refine below_set ?_ GE305.out) | exact HB.out))) : w.heap.size ≤ gb306)); have n4_ := Aside0.mk ((by rw [hg]; exact (below_size (by repeat (first | (with_reducible first | exact HB.out | apply below_alloc | apply pw_below_drewN | apply below_drew1 | refine below_set ?_ GE305.out) | exact HB.out))) : w.heap.size ≤ gb306)); have n5_ := Aside0.mk ((by rw [hg]; exact Nat.ne_of_lt (blk_lt (g := gb305) (o := .cells #[.slice A0_0 l0_0.length c0_0, .int .i64 a0_1] 66 (0, 0)) (by (with_reducible repeat (first | refine blk_drewN ?_ _ | refine blk_drew ?_ | refine blk_alloc ?_ _)); exact BK305.out)) : gb305 ≠ gb306)); have n6_ := Aside0.mk ((by rw [hg]; exact Nat.ne_of_gt (blk_lt (g := gb305) (o := .cells #[.slice A0_0 l0_0.length c0_0, .int .i64 a0_1] 66 (0, 0)) (by (with_reducible repeat (first | refine blk_drewN ?_ _ | refine blk_drew ?_ | refine blk_alloc ?_ _)); exact BK305.out)) : gb306 ≠ gb305)); clear BK305; clear HB; have BK305 := n0_; have HB := n1_; have BK306 := n2_; have GW306 := n3_; have GE306 := n4_; have NB305_306 := n5_; have NB306_305 := n6_; clear n0_ n1_ n2_ n3_ n4_ n5_ n6_; clear hb hbox hg)); go_upto_region 1 with (first | ((with_reducible refine gate_dst (N := 2) rfl ?_); (try (refine gate_guard (by rfl) ?_; dsimp only)); refine box_event ?hg (N := 2) ?hd (cs := #[.slice A0_0 l0_0.length c0_0, .int .i64 a0_1]) (t := 66) ?hr ?_; (case hd => rfl); (case hg => rfl); (case hr => first | (go_simp; done) | (go_simp; rfl)); intro gb305 hg w4 hbox hb; have n0_ := Aside0.mk (below_step (by repeat (first | (with_reducible first | exact HB.out | apply below_alloc | apply pw_below_drewN | apply below_drew1) | exact HB.out)) hb); have n1_ := Aside0.mk (hbox); have n2_ := Aside0.mk ((by rw [hg]; exact (below_size (by repeat (first | (with_reducible first | exact HB.out | apply below_alloc | apply pw_below_drewN | apply below_drew1) | exact HB.out))) : w.heap.size ≤ gb305)); have n3_ := Aside0.mk ((by rw [hg]; exact (below_size (by repeat (first | (with_reducible first | exact HB.out | apply below_alloc | apply pw_below_drewN | apply below_drew1) | exact HB.out))) : w.heap.size ≤ gb305)); clear HB; have HB := n0_; have BK305 := n1_; have GW305 := n2_; have GE305 := n3_; clear n0_ n1_ n2_ n3_; clear hb hbox hg) | ((with_reducible refine gate_dst (N := 3) rfl ?_); (try (refine gate_guard (by rfl) ?_; dsimp only)); refine box_event ?hg (N := 3) ?hd (cs := #[.slice A1_0 l1_0.length c1_0, .int .i64 a1_1]) (t := 66) ?hr ?_; (case hd => rfl); (case hg => rfl); (case hr => first | (go_simp; done) | (go_simp; rfl)); intro gb306 hg w5 hbox hb; have n0_ := Aside0.mk (blk_below (g := gb305) (o := .cells #[.slice A0_0 l0_0.length c0_0, .int .i64 a0_1] 66 (0, 0)) (by (with_reducible repeat (first | refine blk_drewN ?_ _ | refine blk_drew ?_ | refine blk_alloc ?_ _)); exact BK305.out) hb); have n1_ := Aside0.mk (below_step (by repeat (first | (with_reducible first | exact HB.out | apply below_alloc | apply pw_below_drewN | apply below_drew1 | refine below_set ?_ GE305.out) | exact HB.out)) hb); have n2_ := Aside0.mk (hbox); have n3_ := Aside0.mk ((by rw [hg]; exact (below_size (by repeat (first | (with_reducible first | exact HB.out | apply below_alloc | apply pw_below_drewN | apply below_drew1 | refine below_set ?_ GE305.out) | exact HB.out))) : w.heap.size ≤ gb306)); have n4_ := Aside0.mk ((by rw [hg]; exact (below_size (by repeat (first | (with_reducible first | exact HB.out | apply below_alloc | apply pw_below_drewN | apply below_drew1 | refine below_set ?_ GE305.out) | exact HB.out))) : w.heap.size ≤ gb306)); have n5_ := Aside0.mk ((by rw [hg]; exact Nat.ne_of_lt (blk_lt (g := gb305) (o := .cells #[.slice A0_0 l0_0.length c0_0, .int .i64 a0_1] 66 (0, 0)) (by (with_reducible repeat (first | refine blk_drewN ?_ _ | refine blk_drew ?_ | refine blk_alloc ?_ _)); exact BK305.out)) : gb305 ≠ gb306)); have n6_ := Aside0.mk ((by rw [hg]; exact Nat.ne_of_gt (blk_lt (g := gb305) (o := .cells #[.slice A0_0 l0_0.length c0_0, .int .i64 a0_1] 66 (0, 0)) (by (with_reducible repeat (first | refine blk_drewN ?_ _ | refine blk_drew ?_ | refine blk_alloc ?_ _)); exact BK305.out)) : gb306 ≠ gb305)); clear BK305; clear HB; have BK305 := n0_; have HB := n1_; have BK306 := n2_; have GW306 := n3_; have GE306 := n4_; have NB305_306 := n5_; have NB306_305 := n6_; clear n0_ n1_ n2_ n3_ n4_ n5_ n6_; clear hb hbox hg)))
  (try simp only [Act.put, List.setIfInBounds_toArray, List.set_cons_zero, List.set_cons_succ])
  go_cut [19] (fun v19 wc => ∃ (kq : Nat) (x19_2 : Bool), v19 = .bool x19_2 ∧ Aside0 (weftlineref14_Same.j0 kq x19_2 l0_0 a0_1 l1_0 a1_1 = some r) ∧ Aside0 (kq ≤ k) ∧ Aside0 (wc.heap[gb305]? = some (.cells #[(.slice A0_0 l0_0.length c0_0), .int .i64 a0_1] 66 (0, 0))) ∧ Aside0 (wc.heap[gb306]? = some (.cells #[(.slice A1_0 l1_0.length c1_0), .int .i64 a1_1] 66 (0, 0))) ∧ Aside0 (Below w.heap.size w wc))
  case first =>
    have H := HC3.out
    clear HC3
    by_cases c6 : a0_1 = a1_1
    · rw [if_pos c6] at H
      have c6b0 : (a0_1 == a1_1) = true := beq_iff_eq.mpr c6
      have c6b1 : (a0_1 != a1_1) = false := bne_eq_false_iff_eq.mpr c6
      clear c6
      (first | rw [c6b0] | (simp only [i64_w, i32_w]; rw [c6b0]) | skip)
      have H' := Aside0.mk H
      clear H
      have hnb7 := NB305_306.out
      have hnc7 := NB306_305.out
      have hcz8_0 : w5.cell? ⟨gb305, 0, none⟩ = some (.slice A0_0 l0_0.length c0_0) := (blk_cell BK305.out 0).trans rfl
      have hcz8_1 : w5.cell? ⟨gb305, 1, none⟩ = some (.int .i64 a0_1) := (blk_cell BK305.out 1).trans rfl
      have hfz8_0 := blk_frozen BK305.out 0
      have hfz8_1 := blk_frozen BK305.out 1
      have hcz9_0 : w5.cell? ⟨gb306, 0, none⟩ = some (.slice A1_0 l1_0.length c1_0) := (blk_cell BK306.out 0).trans rfl
      have hcz9_1 : w5.cell? ⟨gb306, 1, none⟩ = some (.int .i64 a1_1) := (blk_cell BK306.out 1).trans rfl
      have hfz9_0 := blk_frozen BK306.out 0
      have hfz9_1 := blk_frozen BK306.out 1
      go_wp2
      repeat (go_quiet (fail); try go_wp2)
      go_meet
      case rel => exact ⟨_, (((l0_0.length : Int) != (l1_0.length : Int))), (by first | rfl | (simp; done) | (simp [*]; done)), H', ⟨by first | omega | exact Nat.le_refl _⟩, ⟨by (with_reducible repeat (first | refine blk_drewN ?_ _ | refine blk_drew ?_ | refine blk_alloc ?_ _)); exact BK305.out⟩, ⟨by (with_reducible repeat (first | refine blk_drewN ?_ _ | refine blk_drew ?_ | refine blk_alloc ?_ _)); exact BK306.out⟩, ⟨by repeat (first | (with_reducible first | exact HB.out | apply below_alloc | apply pw_below_drewN | apply below_drew1 | refine below_set ?_ GE305.out | refine below_set ?_ GE306.out) | exact HB.out)⟩⟩
    · rw [if_neg c6] at H
      have c6b0 : (a0_1 == a1_1) = false := beq_eq_false_iff_ne.mpr c6
      have c6b1 : (a0_1 != a1_1) = true := bne_iff_ne.mpr c6
      (first | rw [c6b0] | (simp only [i64_w, i32_w]; rw [c6b0]) | skip)
      have H' := Aside0.mk H
      clear H
      have hnb10 := NB305_306.out
      have hnc10 := NB306_305.out
      have hcz11_0 : w5.cell? ⟨gb305, 0, none⟩ = some (.slice A0_0 l0_0.length c0_0) := (blk_cell BK305.out 0).trans rfl
      have hcz11_1 : w5.cell? ⟨gb305, 1, none⟩ = some (.int .i64 a0_1) := (blk_cell BK305.out 1).trans rfl
      have hfz11_0 := blk_frozen BK305.out 0
      have hfz11_1 := blk_frozen BK305.out 1
      have hcz12_0 : w5.cell? ⟨gb306, 0, none⟩ = some (.slice A1_0 l1_0.length c1_0) := (blk_cell BK306.out 0).trans rfl
      have hcz12_1 : w5.cell? ⟨gb306, 1, none⟩ = some (.int .i64 a1_1) := (blk_cell BK306.out 1).trans rfl
      have hfz12_0 := blk_frozen BK306.out 0
      have hfz12_1 := blk_frozen BK306.out 1
      go_wp2
      repeat (go_quiet (fail); try go_wp2)
      go_meet
      case rel => exact ⟨_, (true), (by first | rfl | (simp; done) | (simp [*]; done)), H', ⟨by first | omega | exact Nat.le_refl _⟩, ⟨by (with_reducible repeat (first | refine blk_drewN ?_ _ | refine blk_drew ?_ | refine blk_alloc ?_ _)); exact BK305.out⟩, ⟨by (with_reducible repeat (first | refine blk_drewN ?_ _ | refine blk_drew ?_ | refine blk_alloc ?_ _)); exact BK306.out⟩, ⟨by repeat (first | (with_reducible first | exact HB.out | apply below_alloc | apply pw_below_drewN | apply below_drew1 | refine below_set ?_ GE305.out | refine below_set ?_ GE306.out) | exact HB.out)⟩⟩
  case rest =>
    clear HC3
    try clear c1
    try clear p2
    try clear c4
    try clear c6
    try clear c6b0
    try clear c6b1
    try clear c7
    try clear c10
    try clear hcz11_0
    try clear hcz11_1
    try clear hcz12_0
    try clear hcz12_1
    try clear hcz8_0
    try clear hcz8_1
    try clear hcz9_0
    try clear hcz9_1
    try clear hfz11_0
    try clear hfz11_1
    try clear hfz12_0
    try clear hfz12_1
    try clear hfz8_0
    try clear hfz8_1
    try clear hfz9_0
    try clear hfz9_1
    obtain ⟨kq, x19_2, rfl, HA, HJ2, BK305, BK306, HB⟩ := hcut
    cases kq with
    | zero => exact absurd HA.out (by simp [weftlineref14_Same.j0])
    | succ kj2 =>
      have H := HA.out
      clear HA
      simp only [weftlineref14_Same.j0] at H
      by_cases c13 : x19_2 = true
      · subst c13
        have H1 : (some false) = some r := by rw [if_pos rfl] at H; exact H
        clear H
        have H := H1
        clear H1
        obtain rfl := Option.some.inj H
        go_wp2
        repeat (go_quiet (fail); try go_wp2)
        go_ret
        exact ⟨by first | rfl | (simp [errW_none, errW_some] <;> rfl) | (simp [*, errW_none, errW_some] <;> rfl), by repeat (first | (with_reducible first | exact HB.out | apply below_alloc | apply pw_below_drewN | apply below_drew1 | refine below_set ?_ GE305.out | refine below_set ?_ GE306.out) | exact HB.out)⟩
      · replace c13 := Bool.eq_false_iff.mpr c13
        subst c13
        have H1 : (weftlineref14_Same.l0 kj2 0 l0_0 a0_1 l1_0 a1_1) = some r := by rw [if_neg (show ¬ (false = true) by decide)] at H; exact H
        clear H
        have H := H1
        clear H1
        have H' := Aside0.mk H
        clear H
        go_wp2
        repeat (go_quiet (fail); try go_wp2)
        go_loopg [5] kj2 (fun kq v5 w' => ∃ (x5_2 : Int), v5 = .int .i64 x5_2 ∧ Aside0 (weftlineref14_Same.l0 kq x5_2 l0_0 a0_1 l1_0 a1_1 = some r) ∧ Aside0 (kq ≤ kj2) ∧ Aside0 (w'.heap[gb305]? = some (.cells #[(.slice A0_0 l0_0.length c0_0), .int .i64 a0_1] 66 (0, 0))) ∧ Aside0 (w'.heap[gb306]? = some (.cells #[(.slice A1_0 l1_0.length c1_0), .int .i64 a1_1] 66 (0, 0))) ∧ Aside0 (Below w.heap.size w w'))
        case atStart => exact ⟨(0), (by first | rfl | (simp; done) | (simp [*]; done)), H', ⟨Nat.le_refl _⟩, ⟨by (with_reducible repeat (first | refine blk_drewN ?_ _ | refine blk_drew ?_ | refine blk_alloc ?_ _)); exact BK305.out⟩, ⟨by (with_reducible repeat (first | refine blk_drewN ?_ _ | refine blk_drew ?_ | refine blk_alloc ?_ _)); exact BK306.out⟩, ⟨by repeat (first | (with_reducible first | exact HB.out | apply below_alloc | apply pw_below_drewN | apply below_drew1 | refine below_set ?_ GE305.out | refine below_set ?_ GE306.out) | exact HB.out)⟩⟩
        case round =>
          clear H'
          try clear c1
          try clear p2
          try clear c4
          try clear c6
          try clear c6b0
          try clear c6b1
          try clear c7
          try clear c10
          try clear c13
          try clear hcz11_0
          try clear hcz11_1
          try clear hcz12_0
          try clear hcz12_1
          try clear hcz8_0
          try clear hcz8_1
          try clear hcz9_0
          try clear hcz9_1
          try clear hfz11_0
          try clear hfz11_1
          try clear hfz12_0
          try clear hfz12_1
          try clear hfz8_0
          try clear hfz8_1
          try clear hfz9_0
          try clear hfz9_1
          try clear p2
          obtain ⟨x5_2, rfl, HA, HK2, BK305, BK306, HB⟩ := hrel
          cases gk with
          | zero => exact absurd HA.out (by simp [weftlineref14_Same.l0])
          | succ k2 =>
            have H := HA.out
            clear HA
            simp only [weftlineref14_Same.l0] at H
            by_cases c14 : x5_2 < (l0_0.length : Int)
            · rw [if_pos c14] at H
              have c14b0 : decide (x5_2 < (l0_0.length : Int)) = true := decide_eq_true c14
              clear c14
              by_cases c15 : 0 ≤ x5_2
              · rw [if_pos c15] at H
                have c15b0 : decide (0 ≤ x5_2) = true := decide_eq_true c15
                clear c15
                by_cases c16 : x5_2 < (l1_0.length : Int)
                · rw [if_pos c16] at H
                  have c16b0 : decide (x5_2 < (l1_0.length : Int)) = true := decide_eq_true c16
                  clear c16
                  by_cases c17 : ((!(((rd_T29 l0_0 x5_2).f0.f0) == ((rd_T29 l1_0 x5_2).f0.f0)) || (!(((rd_T29 l0_0 x5_2).f0.f1) == ((rd_T29 l1_0 x5_2).f0.f1)) || (!(((rd_T29 l0_0 x5_2).f0.f2) == ((rd_T29 l1_0 x5_2).f0.f2)) || (!(((rd_T29 l0_0 x5_2).f0.f3) == ((rd_T29 l1_0 x5_2).f0.f3)))))) || ((!(((rd_T29 l0_0 x5_2).f1.f0) == ((rd_T29 l1_0 x5_2).f1.f0)) || (!(((rd_T29 l0_0 x5_2).f1.f1) == ((rd_T29 l1_0 x5_2).f1.f1)) || (!(((rd_T29 l0_0 x5_2).f1.f2) == ((rd_T29 l1_0 x5_2).f1.f2))))) || (!(((rd_T29 l0_0 x5_2).f2) == ((rd_T29 l1_0 x5_2).f2)) || (!(((rd_T29 l0_0 x5_2).f3) == ((rd_T29 l1_0 x5_2).f3)) || (!(((rd_T29 l0_0 x5_2).f4) == ((rd_T29 l1_0 x5_2).f4)) || (!(((rd_T29 l0_0 x5_2).f5) == ((rd_T29 l1_0 x5_2).f5)))))))) = true
                  · rw [if_pos c17] at H
                    have c17b0 : ((!(((rd_T29 l0_0 x5_2).f0.f0) == ((rd_T29 l1_0 x5_2).f0.f0)) || (!(((rd_T29 l0_0 x5_2).f0.f1) == ((rd_T29 l1_0 x5_2).f0.f1)) || (!(((rd_T29 l0_0 x5_2).f0.f2) == ((rd_T29 l1_0 x5_2).f0.f2)) || (!(((rd_T29 l0_0 x5_2).f0.f3) == ((rd_T29 l1_0 x5_2).f0.f3)))))) || ((!(((rd_T29 l0_0 x5_2).f1.f0) == ((rd_T29 l1_0 x5_2).f1.f0)) || (!(((rd_T29 l0_0 x5_2).f1.f1) == ((rd_T29 l1_0 x5_2).f1.f1)) || (!(((rd_T29 l0_0 x5_2).f1.f2) == ((rd_T29 l1_0 x5_2).f1.f2))))) || (!(((rd_T29 l0_0 x5_2).f2) == ((rd_T29 l1_0 x5_2).f2)) || (!(((rd_T29 l0_0 x5_2).f3) == ((rd_T29 l1_0 x5_2).f3)) || (!(((rd_T29 l0_0 x5_2).f4) == ((rd_T29 l1_0 x5_2).f4)) || (!(((rd_T29 l0_0 x5_2).f5) == ((rd_T29 l1_0 x5_2).f5)))))))) = true := c17
                    clear c17
                    obtain rfl := Option.some.inj H
                    have hnb18 := NB305_306.out
                    have hnc18 := NB306_305.out
                    have hcz19_0 : wr.cell? ⟨gb305, 0, none⟩ = some (.slice A0_0 l0_0.length c0_0) := (blk_cell BK305.out 0).trans rfl
                    have hcz19_1 : wr.cell? ⟨gb305, 1, none⟩ = some (.int .i64 a0_1) := (blk_cell BK305.out 1).trans rfl
                    have hfz19_0 := blk_frozen BK305.out 0
                    have hfz19_1 := blk_frozen BK305.out 1
                    have p307 : 0 ≤ (x5_2 : Int) := of_decide_eq_true (by first | (with_reducible assumption) | assumption)
                    have q307 : x5_2 < (l0_0.length : Int) := of_decide_eq_true (by first | (with_reducible assumption) | assumption)
                    obtain ⟨ad307, e307, hx307_0, hx307_1, hx307_2, hx307_3, hx307_4, hx307_5, hx307_6, hx307_7, hx307_8, hx307_9, hx307_10⟩ := at_T29 HR0_0.out x5_2 p307 q307
                    cases e307
                    replace hx307_0 := (HB.out.cell (World.block_lt_of_cell? w _ hx307_0)).trans hx307_0
                    replace hx307_1 := (HB.out.cell (World.block_lt_of_cell? w _ hx307_1)).trans hx307_1
                    replace hx307_2 := (HB.out.cell (World.block_lt_of_cell? w _ hx307_2)).trans hx307_2
                    replace hx307_3 := (HB.out.cell (World.block_lt_of_cell? w _ hx307_3)).trans hx307_3
                    replace hx307_4 := (HB.out.cell (World.block_lt_of_cell? w _ hx307_4)).trans hx307_4
                    replace hx307_5 := (HB.out.cell (World.block_lt_of_cell? w _ hx307_5)).trans hx307_5
                    replace hx307_6 := (HB.out.cell (World.block_lt_of_cell? w _ hx307_6)).trans hx307_6
                    replace hx307_7 := (HB.out.cell (World.block_lt_of_cell? w _ hx307_7)).trans hx307_7
                    replace hx307_8 := (HB.out.cell (World.block_lt_of_cell? w _ hx307_8)).trans hx307_8
                    replace hx307_9 := (HB.out.cell (World.block_lt_of_cell? w _ hx307_9)).trans hx307_9
                    replace hx307_10 := (HB.out.cell (World.block_lt_of_cell? w _ hx307_10)).trans hx307_10
                    replace p307 := eq_true p307
                    replace q307 := eq_true q307
                    have hcz20_0 : wr.cell? ⟨gb306, 0, none⟩ = some (.slice A1_0 l1_0.length c1_0) := (blk_cell BK306.out 0).trans rfl
                    have hcz20_1 : wr.cell? ⟨gb306, 1, none⟩ = some (.int .i64 a1_1) := (blk_cell BK306.out 1).trans rfl
                    have hfz20_0 := blk_frozen BK306.out 0
                    have hfz20_1 := blk_frozen BK306.out 1
                    have p308 : 0 ≤ (x5_2 : Int) := of_decide_eq_true (by first | (with_reducible assumption) | assumption)
                    have q308 : x5_2 < (l1_0.length : Int) := of_decide_eq_true (by first | (with_reducible assumption) | assumption)
                    obtain ⟨ad308, e308, hx308_0, hx308_1, hx308_2, hx308_3, hx308_4, hx308_5, hx308_6, hx308_7, hx308_8, hx308_9, hx308_10⟩ := at_T29 HR1_0.out x5_2 p308 q308
                    cases e308
                    replace hx308_0 := (HB.out.cell (World.block_lt_of_cell? w _ hx308_0)).trans hx308_0
                    replace hx308_1 := (HB.out.cell (World.block_lt_of_cell? w _ hx308_1)).trans hx308_1
                    replace hx308_2 := (HB.out.cell (World.block_lt_of_cell? w _ hx308_2)).trans hx308_2
                    replace hx308_3 := (HB.out.cell (World.block_lt_of_cell? w _ hx308_3)).trans hx308_3
                    replace hx308_4 := (HB.out.cell (World.block_lt_of_cell? w _ hx308_4)).trans hx308_4
                    replace hx308_5 := (HB.out.cell (World.block_lt_of_cell? w _ hx308_5)).trans hx308_5
                    replace hx308_6 := (HB.out.cell (World.block_lt_of_cell? w _ hx308_6)).trans hx308_6
                    replace hx308_7 := (HB.out.cell (World.block_lt_of_cell? w _ hx308_7)).trans hx308_7
                    replace hx308_8 := (HB.out.cell (World.block_lt_of_cell? w _ hx308_8)).trans hx308_8
                    replace hx308_9 := (HB.out.cell (World.block_lt_of_cell? w _ hx308_9)).trans hx308_9
                    replace hx308_10 := (HB.out.cell (World.block_lt_of_cell? w _ hx308_10)).trans hx308_10
                    replace p308 := eq_true p308
                    replace q308 := eq_true q308
                    go_wp2
                    repeat (go_quiet (fail); try go_wp2)
                    go_ret
                    exact ⟨by first | rfl | (simp [errW_none, errW_some] <;> rfl) | (simp [*, errW_none, errW_some] <;> rfl), by repeat (first | (with_reducible first | exact HB.out | apply below_alloc | apply pw_below_drewN | apply below_drew1 | refine below_set ?_ GE305.out | refine below_set ?_ GE306.out) | exact HB.out)⟩
                  · rw [if_neg c17] at H
                    have c17b0 : ((!(((rd_T29 l0_0 x5_2).f0.f0) == ((rd_T29 l1_0 x5_2).f0.f0)) || (!(((rd_T29 l0_0 x5_2).f0.f1) == ((rd_T29 l1_0 x5_2).f0.f1)) || (!(((rd_T29 l0_0 x5_2).f0.f2) == ((rd_T29 l1_0 x5_2).f0.f2)) || (!(((rd_T29 l0_0 x5_2).f0.f3) == ((rd_T29 l1_0 x5_2).f0.f3)))))) || ((!(((rd_T29 l0_0 x5_2).f1.f0) == ((rd_T29 l1_0 x5_2).f1.f0)) || (!(((rd_T29 l0_0 x5_2).f1.f1) == ((rd_T29 l1_0 x5_2).f1.f1)) || (!(((rd_T29 l0_0 x5_2).f1.f2) == ((rd_T29 l1_0 x5_2).f1.f2))))) || (!(((rd_T29 l0_0 x5_2).f2) == ((rd_T29 l1_0 x5_2).f2)) || (!(((rd_T29 l0_0 x5_2).f3) == ((rd_T29 l1_0 x5_2).f3)) || (!(((rd_T29 l0_0 x5_2).f4) == ((rd_T29 l1_0 x5_2).f4)) || (!(((rd_T29 l0_0 x5_2).f5) == ((rd_T29 l1_0 x5_2).f5)))))))) = false := by simpa using c17
                    clear c17
                    have H' := Aside0.mk H
                    clear H
                    have hnb21 := NB305_306.out
                    have hnc21 := NB306_305.out
                    have hcz22_0 : wr.cell? ⟨gb305, 0, none⟩ = some (.slice A0_0 l0_0.length c0_0) := (blk_cell BK305.out 0).trans rfl
                    have hcz22_1 : wr.cell? ⟨gb305, 1, none⟩ = some (.int .i64 a0_1) := (blk_cell BK305.out 1).trans rfl
                    have hfz22_0 := blk_frozen BK305.out 0
                    have hfz22_1 := blk_frozen BK305.out 1
                    have p307 : 0 ≤ (x5_2 : Int) := of_decide_eq_true (by first | (with_reducible assumption) | assumption)
                    have q307 : x5_2 < (l0_0.length : Int) := of_decide_eq_true (by first | (with_reducible assumption) | assumption)
                    obtain ⟨ad307, e307, hx307_0, hx307_1, hx307_2, hx307_3, hx307_4, hx307_5, hx307_6, hx307_7, hx307_8, hx307_9, hx307_10⟩ := at_T29 HR0_0.out x5_2 p307 q307
                    cases e307
                    replace hx307_0 := (HB.out.cell (World.block_lt_of_cell? w _ hx307_0)).trans hx307_0
                    replace hx307_1 := (HB.out.cell (World.block_lt_of_cell? w _ hx307_1)).trans hx307_1
                    replace hx307_2 := (HB.out.cell (World.block_lt_of_cell? w _ hx307_2)).trans hx307_2
                    replace hx307_3 := (HB.out.cell (World.block_lt_of_cell? w _ hx307_3)).trans hx307_3
                    replace hx307_4 := (HB.out.cell (World.block_lt_of_cell? w _ hx307_4)).trans hx307_4
                    replace hx307_5 := (HB.out.cell (World.block_lt_of_cell? w _ hx307_5)).trans hx307_5
                    replace hx307_6 := (HB.out.cell (World.block_lt_of_cell? w _ hx307_6)).trans hx307_6
                    replace hx307_7 := (HB.out.cell (World.block_lt_of_cell? w _ hx307_7)).trans hx307_7
                    replace hx307_8 := (HB.out.cell (World.block_lt_of_cell? w _ hx307_8)).trans hx307_8
                    replace hx307_9 := (HB.out.cell (World.block_lt_of_cell? w _ hx307_9)).trans hx307_9
                    replace hx307_10 := (HB.out.cell (World.block_lt_of_cell? w _ hx307_10)).trans hx307_10
                    replace p307 := eq_true p307
                    replace q307 := eq_true q307
                    have hcz23_0 : wr.cell? ⟨gb306, 0, none⟩ = some (.slice A1_0 l1_0.length c1_0) := (blk_cell BK306.out 0).trans rfl
                    have hcz23_1 : wr.cell? ⟨gb306, 1, none⟩ = some (.int .i64 a1_1) := (blk_cell BK306.out 1).trans rfl
                    have hfz23_0 := blk_frozen BK306.out 0
                    have hfz23_1 := blk_frozen BK306.out 1
                    have p308 : 0 ≤ (x5_2 : Int) := of_decide_eq_true (by first | (with_reducible assumption) | assumption)
                    have q308 : x5_2 < (l1_0.length : Int) := of_decide_eq_true (by first | (with_reducible assumption) | assumption)
                    obtain ⟨ad308, e308, hx308_0, hx308_1, hx308_2, hx308_3, hx308_4, hx308_5, hx308_6, hx308_7, hx308_8, hx308_9, hx308_10⟩ := at_T29 HR1_0.out x5_2 p308 q308
                    cases e308
                    replace hx308_0 := (HB.out.cell (World.block_lt_of_cell? w _ hx308_0)).trans hx308_0
                    replace hx308_1 := (HB.out.cell (World.block_lt_of_cell? w _ hx308_1)).trans hx308_1
                    replace hx308_2 := (HB.out.cell (World.block_lt_of_cell? w _ hx308_2)).trans hx308_2
                    replace hx308_3 := (HB.out.cell (World.block_lt_of_cell? w _ hx308_3)).trans hx308_3
                    replace hx308_4 := (HB.out.cell (World.block_lt_of_cell? w _ hx308_4)).trans hx308_4
                    replace hx308_5 := (HB.out.cell (World.block_lt_of_cell? w _ hx308_5)).trans hx308_5
                    replace hx308_6 := (HB.out.cell (World.block_lt_of_cell? w _ hx308_6)).trans hx308_6
                    replace hx308_7 := (HB.out.cell (World.block_lt_of_cell? w _ hx308_7)).trans hx308_7
                    replace hx308_8 := (HB.out.cell (World.block_lt_of_cell? w _ hx308_8)).trans hx308_8
                    replace hx308_9 := (HB.out.cell (World.block_lt_of_cell? w _ hx308_9)).trans hx308_9
                    replace hx308_10 := (HB.out.cell (World.block_lt_of_cell? w _ hx308_10)).trans hx308_10
                    replace p308 := eq_true p308
                    replace q308 := eq_true q308
                    go_wp2
                    repeat (go_quiet (fail); try go_wp2)
                    go_roundg k2
                    case measure => have := HJ2.out; have := HK2.out; omega
                    case rel => exact ⟨(wrap64 (x5_2 + 1)), (by first | rfl | (simp; done) | (simp [*]; done)), H', ⟨by have := HJ2.out; have := HK2.out; omega⟩, ⟨by (with_reducible repeat (first | refine blk_drewN ?_ _ | refine blk_drew ?_ | refine blk_alloc ?_ _)); exact BK305.out⟩, ⟨by (with_reducible repeat (first | refine blk_drewN ?_ _ | refine blk_drew ?_ | refine blk_alloc ?_ _)); exact BK306.out⟩, ⟨by repeat (first | (with_reducible first | exact HB.out | apply below_alloc | apply pw_below_drewN | apply below_drew1 | refine below_set ?_ GE305.out | refine below_set ?_ GE306.out) | exact HB.out)⟩⟩
                · rw [if_neg c16] at H
                  exact absurd H (by simp)
              · rw [if_neg c15] at H
                exact absurd H (by simp)
            · rw [if_neg c14] at H
              have c14b0 : decide (x5_2 < (l0_0.length : Int)) = false := decide_eq_false c14
              clear c14
              obtain rfl := Option.some.inj H
              have hnb24 := NB305_306.out
              have hnc24 := NB306_305.out
              have hcz25_0 : wr.cell? ⟨gb305, 0, none⟩ = some (.slice A0_0 l0_0.length c0_0) := (blk_cell BK305.out 0).trans rfl
              have hcz25_1 : wr.cell? ⟨gb305, 1, none⟩ = some (.int .i64 a0_1) := (blk_cell BK305.out 1).trans rfl
              have hfz25_0 := blk_frozen BK305.out 0
              have hfz25_1 := blk_frozen BK305.out 1
              go_wp2
              repeat (go_quiet (fail); try go_wp2)
              go_ret
              exact ⟨by first | rfl | (simp [errW_none, errW_some] <;> rfl) | (simp [*, errW_none, errW_some] <;> rfl), by repeat (first | (with_reducible first | exact HB.out | apply below_alloc | apply pw_below_drewN | apply below_drew1 | refine below_set ?_ GE305.out | refine below_set ?_ GE306.out) | exact HB.out)⟩

end Go.Proofs.Ytblooffiggciiaa.PPs
/- PPsx52 -/
namespace Go.Proofs.Ytblooffiggciiaa.PPs
open Go.RowKit Go.Proofs.YtblooffiggciiaaW.PrintWords Go.Proofs.YtblooffiggciiaaW.PrintLast Go.Proofs.YtblooffiggciiaaW.PrintMore
attribute [local go_sem] max2_int min2_int max_two min_two max_three min_three max_four min_four   -- for this text's walks alone
attribute [local go_sem] Go.Proofs.Ytblooffiggciiaa.Aid.isSome_setCell
def weftlinelaw13_Document.f (a0_0 : Int) (a0_1 : Int) (a0_2 : Int) (a0_3 : Bool) (a0_4 : Int) (a0_5 : Int) (a0_6 : Int) (a0_7 : Int) (a0_8 : Int) (a0_9 : Int) (a0_10 : Int) : Option (Int × Int × Int × Bool × Int × Int × Int × Int × Int × Int × Int) := some (a0_0, a0_1, a0_2, a0_3, a0_4, a0_5, a0_6, a0_7, a0_8, a0_9, a0_10)
set_option maxHeartbeats 8000000 in
set_option maxRecDepth 100000 in
theorem weftlinelaw13_Document.calls (a0_0 : Int) (a0_1 : Int) (a0_2 : Int) (a0_3 : Bool) (a0_4 : Int) (a0_5 : Int) (a0_6 : Int) (a0_7 : Int) (a0_8 : Int) (a0_9 : Int) (a0_10 : Int) (r1 : Int) (r2 : Int) (r3 : Int) (r4 : Bool) (r5 : Int) (r6 : Int) (r7 : Int) (r8 : Int) (r9 : Int) (r10 : Int) (r11 : Int) (w : World) (h : weftlinelaw13_Document.f a0_0 a0_1 a0_2 a0_3 a0_4 a0_5 a0_6 a0_7 a0_8 a0_9 a0_10 = some (r1, r2, r3, r4, r5, r6, r7, r8, r9, r10, r11)) :
    Calls Try.prog 16 #[.agg #[.int .i64 a0_0, .int .i64 a0_1, .int .i64 a0_2, .bool a0_3, .int .i64 a0_4, .int .i64 a0_5, .int .i64 a0_6, .int .i64 a0_7, .int .i64 a0_8, .int .u32 a0_9, .int .i64 a0_10]] w fun e w' => e = .returned (.agg #[.int .i64 r1, .int .i64 r2, .int .i64 r3, .bool r4, .int .i64 r5, .int .i64 r6, .int .i64 r7, .int .i64 r8, .int .i64 r9, .int .u32 r10, .int .i64 r11]) ∧ Below w.heap.size w w' := by
  have hu34 := Try.underlying34
  have hu29 := Try.underlying29
  have hu31 := Try.underlying31
  have hu32 := Try.underlying32
  have HB := Aside0.mk (Below.refl w.heap.size w)
  have H : (some (a0_0, a0_1, a0_2, a0_3, a0_4, a0_5, a0_6, a0_7, a0_8, a0_9, a0_10)) = some (r1, r2, r3, r4, r5, r6, r7, r8, r9, r10, r11) := h
  clear h
  simp only [Option.some.injEq, Prod.mk.injEq] at H
  obtain ⟨rfl, rfl, rfl, rfl, rfl, rfl, rfl, rfl, rfl, rfl, rfl⟩ := H
  go_enter Try.func16, Try.ntmps16
  go_wp2_with (first | ((with_reducible refine gate_dst (N := 1) rfl ?_); refine box_event ?hg (N := 1) ?hd (cs := #[.int .i64 a0_0, .int .i64 a0_1, .int .i64 a0_2, .bool a0_3, .int .i64 a0_4, .int .i64 a0_5, .int .i64 a0_6, .int .i64 a0_7, .int .i64 a0_8, .int .u32 a0_9, .int .i64 a0_10]) (t := 34) ?hr ?_; (case hd => rfl); (case hg => rfl); (case hr => first | (go_simp; done) | (go_simp; rfl)); intro gb309 hg w2 hbox hb; have n0_ := Aside0.mk (below_step (by repeat (first | (with_reducible first | exact HB.out | apply below_alloc | apply pw_below_drewN | apply below_drew1) | exact HB.out)) hb); have n1_ := Aside0.mk (hbox); have n2_ := Aside0.mk ((by rw [hg]; exact (below_size (by repeat (first | (with_reducible first | exact HB.out | apply below_alloc | apply pw_below_drewN | apply below_drew1) | exact HB.out))) : w.heap.size ≤ gb309)); have n3_ := Aside0.mk ((by rw [hg]; exact (below_size (by repeat (first | (with_reducible first | exact HB.out | apply below_alloc | apply pw_below_drewN | apply below_drew1) | exact HB.out))) : w.heap.size ≤ gb309)); clear HB; have HB := n0_; have BK309 := n1_; have GW309 := n2_; have GE309 := n3_; clear n0_ n1_ n2_ n3_; clear hb hbox hg) | ((with_reducible refine gate_dst (N := 2) rfl ?_); refine box_event ?hg (N := 2) ?hd (cs := #[.int .i64 0, .int .i64 0, .int .i64 0, .bool false, .int .i64 0, .int .i64 0, .int .i64 0, .int .i64 0, .int .i64 0, .int .u32 0, .int .i64 0]) (t := 29) ?hr ?_; (case hd => rfl); (case hg => rfl); (case hr => first | (go_simp; done) | (go_simp; rfl)); intro gb310 hg w3 hbox hb; have n0_ := Aside0.mk (blk_below (g := gb309) (o := .cells #[.int .i64 a0_0, .int .i64 a0_1, .int .i64 a0_2, .bool a0_3, .int .i64 a0_4, .int .i64 a0_5, .int .i64 a0_6, .int .i64 a0_7, .int .i64 a0_8, .int .u32 a0_9, .int .i64 a0_10] 34 (0, 0)) (by (with_reducible repeat (first | refine blk_drewN ?_ _ | refine blk_drew ?_ | refine blk_alloc ?_ _)); exact BK309.out) hb); have n1_ := Aside0.mk (below_step (by repeat (first | (with_reducible first | exact HB.out | apply below_alloc | apply pw_below_drewN | apply below_drew1 | refine below_set ?_ GE309.out) | exact HB.out)) hb); have n2_ := Aside0.mk (hbox); have n3_ := Aside0.mk ((by rw [hg]; exact (below_size (by repeat (first | (with_reducible first | exact HB.out | apply below_alloc | apply pw_below_drewN | apply below_drew1 | refine below_set ?_ GE309.out) | exact HB.out))) : w.heap.size ≤ gb310)); have n4_ := Aside0.mk ((by rw [hg]; exact (below_size (by repeat (first | (with_reducible first | exact HB.out | apply below_alloc | apply pw_below_drewN | apply below_drew1 | refine below_set ?_ GE309.out) | exact HB.out))) : w.heap.size ≤ gb310)); have n5_ := Aside0.mk ((by rw [hg]; exact Nat.ne_of_lt (blk_lt (g := gb309) (o := .cells #[.int .i64 a0_0, .int .i64 a0_1, .int .i64 a0_2, .bool a0_3, .int .i64 a0_4, .int .i64 a0_5, .int .i64 a0_6, .int .i64 a0_7, .int .i64 a0_8, .int .u32 a0_9, .int .i64 a0_10] 34 (0, 0)) (by (with_reducible repeat (first | refine blk_drewN ?_ _ | refine blk_drew ?_ | refine blk_alloc ?_ _)); exact BK309.out)) : gb309 ≠ gb310)); have n6_ := Aside0.mk ((by rw [hg]; exact Nat.ne_of_gt (blk_lt (g := gb309) (o := .cells #[.int .i64 a0_0, .int .i64 a0_1, .int .i64 a0_2, .bool a0_3, .int .i64 a0_4, .int .i64 a0_5, .int .i64 a0_6, .int .i64 a0_7, .int .i64 a0_8, .int .u32 a0_9, .int .i64 a0_10] 34 (0, 0)) (by (with_reducible repeat (first | refine blk_drewN ?_ _ | refine blk_drew ?_ | refine blk_alloc ?_ _)); exact BK309.out)) : gb310 ≠ gb309)); clear BK309; clear HB; have BK309 := n0_; have HB := n1_; have BK310 := n2_; have GW310 := n3_; have GE310 := n4_; have NB309_310 := n5_; have NB310_309 := n6_; clear n0_ n1_ n2_ n3_ n4_ n5_ n6_; clear hb hbox hg; have hnb4 := NB309_310.out; have hnc4 := NB310_309.out; have hcz5_0 : w3.cell? ⟨gb309, 0, none⟩ = some (.int .i64 a0_0) := (blk_cell BK309.out 0).trans rfl; have hcz5_1 : w3.cell? ⟨gb309, 1, none⟩ = some (.int .i64 a0_1) := (blk_cell BK309.out 1).trans rfl; have hcz5_2 : w3.cell? ⟨gb309, 2, none⟩ = some (.int .i64 a0_2) := (blk_cell BK309.out 2).trans rfl; have hcz5_3 : w3.cell? ⟨gb309, 3, none⟩ = some (.bool a0_3) := (blk_cell BK309.out 3).trans rfl; have hcz5_4 : w3.cell? ⟨gb309, 4, none⟩ = some (.int .i64 a0_4) := (blk_cell BK309.out 4).trans rfl; have hcz5_5 : w3.cell? ⟨gb309, 5, none⟩ = some (.int .i64 a0_5) := (blk_cell BK309.out 5).trans rfl; have hcz5_6 : w3.cell? ⟨gb309, 6, none⟩ = some (.int .i64 a0_6) := (blk_cell BK309.out 6).trans rfl; have hcz5_7 : w3.cell? ⟨gb309, 7, none⟩ = some (.int .i64 a0_7) := (blk_cell BK309.out 7).trans rfl; have hcz5_8 : w3.cell? ⟨gb309, 8, none⟩ = some (.int .i64 a0_8) := (blk_cell BK309.out 8).trans rfl; have hcz5_9 : w3.cell? ⟨gb309, 9, none⟩ = some (.int .u32 a0_9) := (blk_cell BK309.out 9).trans rfl; have hcz5_10 : w3.cell? ⟨gb309, 10, none⟩ = some (.int .i64 a0_10) := (blk_cell BK309.out 10).trans rfl; have hfz5_0 := blk_frozen BK309.out 0; have hfz5_1 := blk_frozen BK309.out 1; have hfz5_2 := blk_frozen BK309.out 2; have hfz5_3 := blk_frozen BK309.out 3; have hfz5_4 := blk_frozen BK309.out 4; have hfz5_5 := blk_frozen BK309.out 5; have hfz5_6 := blk_frozen BK309.out 6; have hfz5_7 := blk_frozen BK309.out 7; have hfz5_8 := blk_frozen BK309.out 8; have hfz5_9 := blk_frozen BK309.out 9; have hfz5_10 := blk_frozen BK309.out 10; have hcz6_0 : w3.cell? ⟨gb310, 0, none⟩ = some (.int .i64 0) := (blk_cell BK310.out 0).trans rfl; have hcz6_1 : w3.cell? ⟨gb310, 1, none⟩ = some (.int .i64 0) := (blk_cell BK310.out 1).trans rfl; have hcz6_2 : w3.cell? ⟨gb310, 2, none⟩ = some (.int .i64 0) := (blk_cell BK310.out 2).trans rfl; have hcz6_3 : w3.cell? ⟨gb310, 3, none⟩ = some (.bool false) := (blk_cell BK310.out 3).trans rfl; have hcz6_4 : w3.cell? ⟨gb310, 4, none⟩ = some (.int .i64 0) := (blk_cell BK310.out 4).trans rfl; have hcz6_5 : w3.cell? ⟨gb310, 5, none⟩ = some (.int .i64 0) := (blk_cell BK310.out 5).trans rfl; have hcz6_6 : w3.cell? ⟨gb310, 6, none⟩ = some (.int .i64 0) := (blk_cell BK310.out 6).trans rfl; have hcz6_7 : w3.cell? ⟨gb310, 7, none⟩ = some (.int .i64 0) := (blk_cell BK310.out 7).trans rfl; have hcz6_8 : w3.cell? ⟨gb310, 8, none⟩ = some (.int .i64 0) := (blk_cell BK310.out 8).trans rfl; have hcz6_9 : w3.cell? ⟨gb310, 9, none⟩ = some (.int .u32 0) := (blk_cell BK310.out 9).trans rfl; have hcz6_10 : w3.cell? ⟨gb310, 10, none⟩ = some (.int .i64 0) := (blk_cell BK310.out 10).trans rfl; have hfz6_0 := blk_frozen BK310.out 0; have hfz6_1 := blk_frozen BK310.out 1; have hfz6_2 := blk_frozen BK310.out 2; have hfz6_3 := blk_frozen BK310.out 3; have hfz6_4 := blk_frozen BK310.out 4; have hfz6_5 := blk_frozen BK310.out 5; have hfz6_6 := blk_frozen BK310.out 6; have hfz6_7 := blk_frozen BK310.out 7; have hfz6_8 := blk_frozen BK310.out 8; have hfz6_9 := blk_frozen BK310.out 9; have hfz6_10 := blk_frozen BK310.out 10))
  refine bodyPost_ret (results_cell_row rfl _ _ gb310 29 #[.int .i64 a0_0, .int .i64 a0_1, .int .i64 a0_2, .bool a0_3, .int .i64 a0_4, .int .i64 a0_5, .int .i64 a0_6, .int .i64 a0_7, .int .i64 a0_8, .int .u32 a0_9, .int .i64 a0_10] (0, 0) _ rfl (by (with_reducible repeat (first | refine blk_drewN ?_ _ | refine blk_drew ?_ | refine blk_alloc ?_ _)); refine blk_put (cs := #[.int .i64 a0_0, .int .i64 a0_1, .int .i64 a0_2, .bool a0_3, .int .i64 a0_4, .int .i64 a0_5, .int .i64 a0_6, .int .i64 a0_7, .int .i64 a0_8, .int .u32 a0_9, .int .i64 0]) ?_ 10 _ rfl; (with_reducible repeat (first | refine blk_drewN ?_ _ | refine blk_drew ?_ | refine blk_alloc ?_ _)); refine blk_put (cs := #[.int .i64 a0_0, .int .i64 a0_1, .int .i64 a0_2, .bool a0_3, .int .i64 a0_4, .int .i64 a0_5, .int .i64 a0_6, .int .i64 a0_7, .int .i64 a0_8, .int .u32 0, .int .i64 0]) ?_ 9 _ rfl; (with_reducible repeat (first | refine blk_drewN ?_ _ | refine blk_drew ?_ | refine blk_alloc ?_ _)); refine blk_put (cs := #[.int .i64 a0_0, .int .i64 a0_1, .int .i64 a0_2, .bool a0_3, .int .i64 a0_4, .int .i64 a0_5, .int .i64 a0_6, .int .i64 a0_7, .int .i64 0, .int .u32 0, .int .i64 0]) ?_ 8 _ rfl; (with_reducible repeat (first | refine blk_drewN ?_ _ | refine blk_drew ?_ | refine blk_alloc ?_ _)); refine blk_put (cs := #[.int .i64 a0_0, .int .i64 a0_1, .int .i64 a0_2, .bool a0_3, .int .i64 a0_4, .int .i64 a0_5, .int .i64 a0_6, .int .i64 0, .int .i64 0, .int .u32 0, .int .i64 0]) ?_ 7 _ rfl; (with_reducible repeat (first | refine blk_drewN ?_ _ | refine blk_drew ?_ | refine blk_alloc ?_ _)); refine blk_put (cs := #[.int .i64 a0_0, .int .i64 a0_1, .int .i64 a0_2, .bool a0_3, .int .i64 a0_4, .int .i64 a0_5, .int .i64 0, .int .i64 0, .int .i64 0, .int .u32 0, .int .i64 0]) ?_ 6 _ rfl; (with_reducible repeat (first | refine blk_drewN ?_ _ | refine blk_drew ?_ | refine blk_alloc ?_ _)); refine blk_put (cs := #[.int .i64 a0_0, .int .i64 a0_1, .int .i64 a0_2, .bool a0_3, .int .i64 a0_4, .int .i64 0, .int .i64 0, .int .i64 0, .int .i64 0, .int .u32 0, .int .i64 0]) ?_ 5 _ rfl; (with_reducible repeat (first | refine blk_drewN ?_ _ | refine blk_drew ?_ | refine blk_alloc ?_ _)); refine blk_put (cs := #[.int .i64 a0_0, .int .i64 a0_1, .int .i64 a0_2, .bool a0_3, .int .i64 0, .int .i64 0, .int .i64 0, .int .i64 0, .int .i64 0, .int .u32 0, .int .i64 0]) ?_ 4 _ rfl; (with_reducible repeat (first | refine blk_drewN ?_ _ | refine blk_drew ?_ | refine blk_alloc ?_ _)); refine blk_put (cs := #[.int .i64 a0_0, .int .i64 a0_1, .int .i64 a0_2, .bool false, .int .i64 0, .int .i64 0, .int .i64 0, .int .i64 0, .int .i64 0, .int .u32 0, .int .i64 0]) ?_ 3 _ rfl; (with_reducible repeat (first | refine blk_drewN ?_ _ | refine blk_drew ?_ | refine blk_alloc ?_ _)); refine blk_put (cs := #[.int .i64 a0_0, .int .i64 a0_1, .int .i64 0, .bool false, .int .i64 0, .int .i64 0, .int .i64 0, .int .i64 0, .int .i64 0, .int .u32 0, .int .i64 0]) ?_ 2 _ rfl; (with_reducible repeat (first | refine blk_drewN ?_ _ | refine blk_drew ?_ | refine blk_alloc ?_ _)); refine blk_put (cs := #[.int .i64 a0_0, .int .i64 0, .int .i64 0, .bool false, .int .i64 0, .int .i64 0, .int .i64 0, .int .i64 0, .int .i64 0, .int .u32 0, .int .i64 0]) ?_ 1 _ rfl; (with_reducible repeat (first | refine blk_drewN ?_ _ | refine blk_drew ?_ | refine blk_alloc ?_ _)); refine blk_put (cs := #[.int .i64 0, .int .i64 0, .int .i64 0, .bool false, .int .i64 0, .int .i64 0, .int .i64 0, .int .i64 0, .int .i64 0, .int .u32 0, .int .i64 0]) ?_ 0 _ rfl; (with_reducible repeat (first | refine blk_drewN ?_ _ | refine blk_drew ?_ | refine blk_alloc ?_ _)); exact BK310.out) Try.underlying29 rfl (by kernel_rfl)) rfl ?_
  exact ⟨by first | rfl | (simp [errW_none, errW_some] <;> rfl) | (simp [*, errW_none, errW_some] <;> rfl), by repeat (first | (with_reducible first | exact HB.out | apply below_alloc | apply pw_below_drewN | apply below_drew1 | refine below_set ?_ GE309.out | refine below_set ?_ GE310.out) | exact HB.out)⟩

end Go.Proofs.Ytblooffiggciiaa.PPs
/- PPsx53 -/
namespace Go.Proofs.Ytblooffiggciiaa.PPs
open Go.RowKit Go.Proofs.YtblooffiggciiaaW.PrintWords Go.Proofs.YtblooffiggciiaaW.PrintLast Go.Proofs.YtblooffiggciiaaW.PrintMore
attribute [local go_sem] max2_int min2_int max_two min_two max_three min_three max_four min_four   -- for this text's walks alone
attribute [local go_sem] Go.Proofs.Ytblooffiggciiaa.Aid.isSome_setCell
def weftlinelaw14_Document.l0 : Nat → List (S34) → Int → Int → List (S29) → Int → Option ((List (S29)) × Int)
  | 0, _, _, _, _, _ => none
  | k + 1, x10, x11, x12, x314000, x314001 => if x12 < x11 then (if 0 ≤ x12 then (if x12 < (x10.length : Int) then ((weftlinelaw13_Document.f ((rd_T34 x10 x12).f0.f0) ((rd_T34 x10 x12).f0.f1) ((rd_T34 x10 x12).f0.f2) ((rd_T34 x10 x12).f0.f3) ((rd_T34 x10 x12).f1.f0) ((rd_T34 x10 x12).f1.f1) ((rd_T34 x10 x12).f1.f2) ((rd_T34 x10 x12).f2) ((rd_T34 x10 x12).f3) ((rd_T34 x10 x12).f4) ((rd_T34 x10 x12).f5)).bind fun bt316 => (if x314000.length < 1599289640401 then (weftlinelaw14_Document.l0 k x10 x11 (wrap64 (x12 + 1)) (x314000 ++ [(⟨(⟨bt316.1, bt316.2.1, bt316.2.2.1, bt316.2.2.2.1⟩ : S23), (⟨bt316.2.2.2.2.1, bt316.2.2.2.2.2.1, bt316.2.2.2.2.2.2.1⟩ : S25), bt316.2.2.2.2.2.2.2.1, bt316.2.2.2.2.2.2.2.2.1, bt316.2.2.2.2.2.2.2.2.2.1, bt316.2.2.2.2.2.2.2.2.2.2⟩ : S29)]) x314001) else (none))) else (none)) else (none)) else (some (x314000, x314001))
def weftlinelaw14_Document.f (k : Nat) (l0_0 : List (S34)) (a0_1 : Int) : Option ((List (S29)) × Int) := weftlinelaw14_Document.l0 k l0_0 (l0_0.length : Int) 0 ([] : List (S29)) a0_1
def weftlinelaw14_Document.T5 : Bool × List (List Nat × List Nat) := (true, [([], []), ([0], [0]), ([], []), ([2], [2]), ([3], [3]), ([1, 4, 3], [1, 4]), ([0, 1, 2, 3, 4, 5], []), ([6, 5, 5, 0, 1, 2, 3, 4, 5], [5, 6])])
def weftlinelaw14_Document.B5 : List Nat := [0, 1, 0, 4, 12, 31, 63, 127]
theorem weftlinelaw14_Document.tab5 : rtab .any (opsOf Try.f43 5) = weftlinelaw14_Document.T5 := by kernel_rfl
theorem weftlinelaw14_Document.bits5 : waitsOk weftlinelaw14_Document.T5.2 weftlinelaw14_Document.B5 = true := by kernel_rfl
set_option maxHeartbeats 8000000 in
set_option maxRecDepth 100000 in
theorem weftlinelaw14_Document.calls (k : Nat) (A0_0 : Option Addr) (c0_0 : Nat) (l0_0 : List (S34)) (a0_1 : Int) (r1 : List (S29)) (r2 : Int) (w : World) (hr0_0 : Kd.C k34 w A0_0 l0_0.length l0_0) (hc0_0 : l0_0.length ≤ c0_0) (h : weftlinelaw14_Document.f k l0_0 a0_1 = some (r1, r2)) :
    Calls Try.prog 43 #[.agg #[.slice A0_0 l0_0.length c0_0, .int .i64 a0_1]] w fun e w' => ∃ v0_ : Value, e = .returned (.agg #[v0_, .int .i64 r2]) ∧ Kd.R k29 29 w' w.heap.size (fun _ => True) v0_ r1 ∧ Below w.heap.size w w' := by
  have hu70 := Try.underlying70
  have hu66 := Try.underlying66
  have hu34 := Try.underlying34
  have HR0_0 := Aside0.mk hr0_0
  have HC0_0 := Aside0.mk hc0_0
  clear hr0_0 hc0_0
  have HB := Aside0.mk (Below.refl w.heap.size w)
  have H : (weftlinelaw14_Document.l0 k l0_0 (l0_0.length : Int) 0 ([] : List (S29)) a0_1) = some (r1, r2) := h
  clear h
  have H' := Aside0.mk H
  clear H
  go_enter Try.func43, Try.ntmps43
  go_wp2_with (first | ((with_reducible refine gate_dst (N := 1) rfl ?_); refine box_event ?hg (N := 1) ?hd (cs := #[.slice A0_0 l0_0.length c0_0, .int .i64 a0_1]) (t := 70) ?hr ?_; (case hd => rfl); (case hg => rfl); (case hr => first | (go_simp; done) | (go_simp; rfl)); intro gb311 hg w2 hbox hb; have n0_ := Aside0.mk (below_step (by repeat (first | (with_reducible first | exact HB.out | apply below_alloc | apply pw_below_drewN | apply below_drew1) | exact HB.out)) hb); have n1_ := Aside0.mk (hbox); have n2_ := Aside0.mk ((by rw [hg]; exact (below_size (by repeat (first | (with_reducible first | exact HB.out | apply below_alloc | apply pw_below_drewN | apply below_drew1) | exact HB.out))) : w.heap.size ≤ gb311)); have n3_ := Aside0.mk ((by rw [hg]; exact (below_size (by repeat (first | (with_reducible first | exact HB.out | apply below_alloc | apply pw_below_drewN | apply below_drew1) | exact HB.out))) : w.heap.size ≤ gb311)); clear HB; have HB := n0_; have BK311 := n1_; have GW311 := n2_; have GE311 := n3_; clear n0_ n1_ n2_ n3_; clear hb hbox hg) | ((with_reducible refine gate_dst (N := 2) rfl ?_); refine box_event ?hg (N := 2) ?hd (cs := #[.slice none 0 0, .int .i64 0]) (t := 66) ?hr ?_; (case hd => rfl); (case hg => rfl); (case hr => first | (go_simp; done) | (go_simp; rfl)); intro gb312 hg w3 hbox hb; have n0_ := Aside0.mk (blk_below (g := gb311) (o := .cells #[.slice A0_0 l0_0.length c0_0, .int .i64 a0_1] 70 (0, 0)) (by (with_reducible repeat (first | refine blk_drewN ?_ _ | refine blk_drew ?_ | refine blk_alloc ?_ _)); exact BK311.out) hb); have n1_ := Aside0.mk (below_step (by repeat (first | (with_reducible first | exact HB.out | apply below_alloc | apply pw_below_drewN | apply below_drew1 | refine below_set ?_ GE311.out) | exact HB.out)) hb); have n2_ := Aside0.mk (hbox); have n3_ := Aside0.mk ((by rw [hg]; exact (below_size (by repeat (first | (with_reducible first | exact HB.out | apply below_alloc | apply pw_below_drewN | apply below_drew1 | refine below_set ?_ GE311.out) | exact HB.out))) : w.heap.size ≤ gb312)); have n4_ := Aside0.mk ((by rw [hg]; exact (below_size (by repeat (first | (with_reducible first | exact HB.out | apply below_alloc | apply pw_below_drewN | apply below_drew1 | refine below_set ?_ GE311.out) | exact HB.out))) : w.heap.size ≤ gb312)); have n5_ := Aside0.mk ((by rw [hg]; exact Nat.ne_of_lt (blk_lt (g := gb311) (o := .cells #[.slice A0_0 l0_0.length c0_0, .int .i64 a0_1] 70 (0, 0)) (by (with_reducible repeat (first | refine blk_drewN ?_ _ | refine blk_drew ?_ | refine blk_alloc ?_ _)); exact BK311.out)) : gb311 ≠ gb312)); have n6_ := Aside0.mk ((by rw [hg]; exact Nat.ne_of_gt (blk_lt (g := gb311) (o := .cells #[.slice A0_0 l0_0.length c0_0, .int .i64 a0_1] 70 (0, 0)) (by (with_reducible repeat (first | refine blk_drewN ?_ _ | refine blk_drew ?_ | refine blk_alloc ?_ _)); exact BK311.out)) : gb312 ≠ gb311)); clear BK311; clear HB; have BK311 := n0_; have HB := n1_; have BK312 := n2_; have GW312 := n3_; have GE312 := n4_; have NB311_312 := n5_; have NB312_311 := n6_; clear n0_ n1_ n2_ n3_ n4_ n5_ n6_; clear hb hbox hg; have hnb4 := NB311_312.out; have hnc4 := NB312_311.out; have hcz5_0 : w3.cell? ⟨gb311, 0, none⟩ = some (.slice A0_0 l0_0.length c0_0) := (blk_cell BK311.out 0).trans rfl; have hcz5_1 : w3.cell? ⟨gb311, 1, none⟩ = some (.int .i64 a0_1) := (blk_cell BK311.out 1).trans rfl; have hfz5_0 := blk_frozen BK311.out 0; have hfz5_1 := blk_frozen BK311.out 1) | ((with_reducible refine gate_dst (N := 3) rfl ?_); refine box_event ?hg (N := 3) ?hd (cs := #[.slice none 0 0, .int .i64 0]) (t := 66) ?hr ?_; (case hd => rfl); (case hg => rfl); (case hr => first | (go_simp; done) | (go_simp; rfl)); intro gb313 hg w6 hbox hb; have n0_ := Aside0.mk (blk_below (g := gb311) (o := .cells #[.slice A0_0 l0_0.length c0_0, .int .i64 a0_1] 70 (0, 0)) (by (with_reducible repeat (first | refine blk_drewN ?_ _ | refine blk_drew ?_ | refine blk_alloc ?_ _)); exact BK311.out) hb); have n1_ := Aside0.mk (blk_below (g := gb312) (o := .cells #[.slice none 0 0, .int .i64 0] 66 (0, 0)) (by (with_reducible repeat (first | refine blk_drewN ?_ _ | refine blk_drew ?_ | refine blk_alloc ?_ _)); exact BK312.out) hb); have n2_ := Aside0.mk (below_step (by repeat (first | (with_reducible first | exact HB.out | apply below_alloc | apply pw_below_drewN | apply below_drew1 | refine below_set ?_ GE311.out | refine below_set ?_ GE312.out) | exact HB.out)) hb); have n3_ := Aside0.mk (hbox); have n4_ := Aside0.mk ((by rw [hg]; exact (below_size (by repeat (first | (with_reducible first | exact HB.out | apply below_alloc | apply pw_below_drewN | apply below_drew1 | refine below_set ?_ GE311.out | refine below_set ?_ GE312.out) | exact HB.out))) : w.heap.size ≤ gb313)); have n5_ := Aside0.mk ((by rw [hg]; exact (below_size (by repeat (first | (with_reducible first | exact HB.out | apply below_alloc | apply pw_below_drewN | apply below_drew1 | refine below_set ?_ GE311.out | refine below_set ?_ GE312.out) | exact HB.out))) : w.heap.size ≤ gb313)); have n6_ := Aside0.mk ((by rw [hg]; exact Nat.ne_of_lt (blk_lt (g := gb311) (o := .cells #[.slice A0_0 l0_0.length c0_0, .int .i64 a0_1] 70 (0, 0)) (by (with_reducible repeat (first | refine blk_drewN ?_ _ | refine blk_drew ?_ | refine blk_alloc ?_ _)); exact BK311.out)) : gb311 ≠ gb313)); have n7_ := Aside0.mk ((by rw [hg]; exact Nat.ne_of_gt (blk_lt (g := gb311) (o := .cells #[.slice A0_0 l0_0.length c0_0, .int .i64 a0_1] 70 (0, 0)) (by (with_reducible repeat (first | refine blk_drewN ?_ _ | refine blk_drew ?_ | refine blk_alloc ?_ _)); exact BK311.out)) : gb313 ≠ gb311)); have n8_ := Aside0.mk ((by rw [hg]; exact Nat.ne_of_lt (blk_lt (g := gb312) (o := .cells #[.slice none 0 0, .int .i64 0] 66 (0, 0)) (by (with_reducible repeat (first | refine blk_drewN ?_ _ | refine blk_drew ?_ | refine blk_alloc ?_ _)); exact BK312.out)) : gb312 ≠ gb313)); have n9_ := Aside0.mk ((by rw [hg]; exact Nat.ne_of_gt (blk_lt (g := gb312) (o := .cells #[.slice none 0 0, .int .i64 0] 66 (0, 0)) (by (with_reducible repeat (first | refine blk_drewN ?_ _ | refine blk_drew ?_ | refine blk_alloc ?_ _)); exact BK312.out)) : gb313 ≠ gb312)); clear BK311; clear BK312; clear HB; have BK311 := n0_; have BK312 := n1_; have HB := n2_; have BK313 := n3_; have GW313 := n4_; have GE313 := n5_; have NB311_313 := n6_; have NB313_311 := n7_; have NB312_313 := n8_; have NB313_312 := n9_; clear n0_ n1_ n2_ n3_ n4_ n5_ n6_ n7_ n8_ n9_; clear hb hbox hg; have hnb7 := NB313_311.out; have hnc7 := NB311_313.out; have hnb8 := NB313_312.out; have hnc8 := NB312_313.out; have hcz9_0 : w6.cell? ⟨gb313, 0, none⟩ = some (.slice none 0 0) := (blk_cell BK313.out 0).trans rfl; have hcz9_1 : w6.cell? ⟨gb313, 1, none⟩ = some (.int .i64 0) := (blk_cell BK313.out 1).trans rfl; have hfz9_0 := blk_frozen BK313.out 0; have hfz9_1 := blk_frozen BK313.out 1; have hcz10_0 : w6.cell? ⟨gb311, 0, none⟩ = some (.slice A0_0 l0_0.length c0_0) := (blk_cell BK311.out 0).trans rfl; have hcz10_1 : w6.cell? ⟨gb311, 1, none⟩ = some (.int .i64 a0_1) := (blk_cell BK311.out 1).trans rfl; have hfz10_0 := blk_frozen BK311.out 0; have hfz10_1 := blk_frozen BK311.out 1))
  go_loopg [12] k (fun kq v12 w' => ∃ (x12_1 : Int) (x314000_1 : List (S29)) (u314000 : Value), v12 = .int .i64 x12_1 ∧ Aside0 (weftlinelaw14_Document.l0 kq l0_0 (l0_0.length : Int) x12_1 x314000_1 a0_1 = some (r1, r2)) ∧ Aside0 (kq ≤ k) ∧ Aside0 (Kd.R k29 29 w' w.heap.size (fun _ => True) u314000 x314000_1) ∧ Aside0 (w'.heap[gb311]? = some (.cells #[(.slice A0_0 l0_0.length c0_0), .int .i64 a0_1] 70 (0, 0))) ∧ Aside0 (w'.heap[gb312]? = some (.cells #[(.slice none 0 0), .int .i64 0] 66 (0, 0))) ∧ Aside0 (w'.heap[gb313]? = some (.cells #[u314000, .int .i64 a0_1] 66 (0, 0))) ∧ Aside0 (Below w.heap.size w w'))
  case atStart => exact ⟨(0), (([] : List (S29))), (.slice none 0 0), (by first | rfl | (simp; done) | (simp [*]; done)), H', ⟨Nat.le_refl _⟩, ⟨by first | exact Kd.R_nil _ _ _ _ _ | exact Kd.N_nil _ _ _ _ _ | exact Kd.V_nil _ _ _ _ _ | exact Kd.Q_nil _ _ _ _ _ | exact Kd.S_nil _ _ _ _ _⟩, ⟨by (with_reducible repeat (first | refine blk_drewN ?_ _ | refine blk_drew ?_ | refine blk_alloc ?_ _)); refine blk_far ?_ NB311_313.out _; (with_reducible repeat (first | refine blk_drewN ?_ _ | refine blk_drew ?_ | refine blk_alloc ?_ _)); refine blk_far ?_ NB311_313.out _; (with_reducible repeat (first | refine blk_drewN ?_ _ | refine blk_drew ?_ | refine blk_alloc ?_ _)); exact BK311.out⟩, ⟨by (with_reducible repeat (first | refine blk_drewN ?_ _ | refine blk_drew ?_ | refine blk_alloc ?_ _)); refine blk_far ?_ NB312_313.out _; (with_reducible repeat (first | refine blk_drewN ?_ _ | refine blk_drew ?_ | refine blk_alloc ?_ _)); refine blk_far ?_ NB312_313.out _; (with_reducible repeat (first | refine blk_drewN ?_ _ | refine blk_drew ?_ | refine blk_alloc ?_ _)); exact BK312.out⟩, ⟨by (with_reducible repeat (first | refine blk_drewN ?_ _ | refine blk_drew ?_ | refine blk_alloc ?_ _)); refine blk_put (cs := #[.slice none 0 0, .int .i64 0]) ?_ 1 _ rfl; (with_reducible repeat (first | refine blk_drewN ?_ _ | refine blk_drew ?_ | refine blk_alloc ?_ _)); refine blk_put (cs := #[.slice none 0 0, .int .i64 0]) ?_ 0 _ rfl; (with_reducible repeat (first | refine blk_drewN ?_ _ | refine blk_drew ?_ | refine blk_alloc ?_ _)); exact BK313.out⟩, ⟨by repeat (first | (with_reducible first | exact HB.out | apply below_alloc | apply pw_below_drewN | apply below_drew1 | refine below_set ?_ GE311.out | refine below_set ?_ GE312.out | refine below_set ?_ GE313.out) | exact HB.out)⟩⟩
  case round =>
    clear H'
    try clear p2
    try clear c4
    try clear c7
    try clear c8
    try clear hcz10_0
    try clear hcz10_1
    try clear hcz5_0
    try clear hcz5_1
    try clear hcz9_0
    try clear hcz9_1
    try clear hfz10_0
    try clear hfz10_1
    try clear hfz5_0
    try clear hfz5_1
    try clear hfz9_0
    try clear hfz9_1
    obtain ⟨x12_1, x314000_1, u314000, rfl, HA, HK1, HO_314000, BK311, BK312, BK313, HB⟩ := hrel
    cases gk with
    | zero => exact absurd HA.out (by simp [weftlinelaw14_Document.l0])
    | succ k1 =>
      have H := HA.out
      clear HA
      simp only [weftlinelaw14_Document.l0] at H
      by_cases c11 : x12_1 < (l0_0.length : Int)
      · rw [if_pos c11] at H
        have c11b0 : decide (x12_1 < (l0_0.length : Int)) = true := decide_eq_true c11
        clear c11
        by_cases c12 : 0 ≤ x12_1
        · rw [if_pos c12] at H
          have c12b0 : decide (0 ≤ x12_1) = true := decide_eq_true c12
          clear c12
          by_cases c13 : x12_1 < (l0_0.length : Int)
          · rw [if_pos c13] at H
            have c13b0 : decide (x12_1 < (l0_0.length : Int)) = true := decide_eq_true c13
            clear c13
            replace H := Option.bind_eq_some_iff.mp H
            obtain ⟨⟨t316, t317, t318, t319, t320, t321, t322, t323, t324, t325, t326⟩, A140, H⟩ := H
            replace H : (if x314000_1.length < 1599289640401 then (weftlinelaw14_Document.l0 k1 l0_0 (l0_0.length : Int) (wrap64 (x12_1 + 1)) (x314000_1 ++ [(⟨(⟨t316, t317, t318, t319⟩ : S23), (⟨t320, t321, t322⟩ : S25), t323, t324, t325, t326⟩ : S29)]) a0_1) else (none)) = some (r1, r2) := H
            have A14 := Aside0.mk A140
            clear A140
            by_cases c15 : x314000_1.length < 1599289640401
            · rw [if_pos c15] at H
              have LMc15 := Aside0.mk c15
              clear c15
              obtain ⟨y327, hy327⟩ : ∃ y_ : List (S29), y_ = (x314000_1 ++ [(⟨(⟨t316, t317, t318, t319⟩ : S23), (⟨t320, t321, t322⟩ : S25), t323, t324, t325, t326⟩ : S29)]) := ⟨_, rfl⟩
              replace H : (weftlinelaw14_Document.l0 k1 l0_0 (l0_0.length : Int) (wrap64 (x12_1 + 1)) y327 a0_1) = some (r1, r2) := by first | (rw [hy327]; with_reducible exact H) | (have H2_ := (Option.bind_some _ _).symm.trans H; rw [hy327]; with_reducible exact H2_) | (have H2_ := (Option.bind_some _ _).symm.trans H; with_reducible exact H2_) | with_reducible exact H | (rw [hy327]; exact H) | exact H
              have Ny327 := Aside0.mk hy327
              clear hy327
              have H' := Aside0.mk H
              clear H
              have p314 : 0 ≤ (x12_1 : Int) := of_decide_eq_true (by first | (with_reducible assumption) | assumption)
              have q314 : x12_1 < (l0_0.length : Int) := of_decide_eq_true (by first | (with_reducible assumption) | assumption)
              obtain ⟨ad314, e314, hx314_0, hx314_1, hx314_2, hx314_3, hx314_4, hx314_5, hx314_6, hx314_7, hx314_8, hx314_9, hx314_10⟩ := at_T34 HR0_0.out x12_1 p314 q314
              cases e314
              replace hx314_0 := (HB.out.cell (World.block_lt_of_cell? w _ hx314_0)).trans hx314_0
              replace hx314_1 := (HB.out.cell (World.block_lt_of_cell? w _ hx314_1)).trans hx314_1
              replace hx314_2 := (HB.out.cell (World.block_lt_of_cell? w _ hx314_2)).trans hx314_2
              replace hx314_3 := (HB.out.cell (World.block_lt_of_cell? w _ hx314_3)).trans hx314_3
              replace hx314_4 := (HB.out.cell (World.block_lt_of_cell? w _ hx314_4)).trans hx314_4
              replace hx314_5 := (HB.out.cell (World.block_lt_of_cell? w _ hx314_5)).trans hx314_5
              replace hx314_6 := (HB.out.cell (World.block_lt_of_cell? w _ hx314_6)).trans hx314_6
              replace hx314_7 := (HB.out.cell (World.block_lt_of_cell? w _ hx314_7)).trans hx314_7
              replace hx314_8 := (HB.out.cell (World.block_lt_of_cell? w _ hx314_8)).trans hx314_8
              replace hx314_9 := (HB.out.cell (World.block_lt_of_cell? w _ hx314_9)).trans hx314_9
              replace hx314_10 := (HB.out.cell (World.block_lt_of_cell? w _ hx314_10)).trans hx314_10
              replace p314 := eq_true p314
              replace q314 := eq_true q314
              try go_wp2_with (first | ((with_reducible refine gate_dst (N := 5) rfl ?_); refine box_event ?hg (N := 5) ?hd (cs := #[.int .i64 0, .int .i64 0, .int .i64 0, .bool false, .int .i64 0, .int .i64 0, .int .i64 0, .int .i64 0, .int .i64 0, .int .u32 0, .int .i64 0]) (t := 34) ?hr ?_; (case hd => rfl); (case hg => rfl); (case hr => first | (go_simp; done) | (go_simp; rfl)); intro gb315 hg w16 hbox hb; have n0_ := Aside0.mk (Kd.R_below (by (with_reducible repeat (first | apply Kd.R_alloc | apply Kd.R_drewN | apply Kd.R_drew)); exact HO_314000.out) hb); have n1_ := Aside0.mk (blk_below (g := gb311) (o := .cells #[.slice (some ad314) l0_0.length c0_0, .int .i64 a0_1] 70 (0, 0)) (by (with_reducible repeat (first | refine blk_drewN ?_ _ | refine blk_drew ?_ | refine blk_alloc ?_ _)); exact BK311.out) hb); have n2_ := Aside0.mk (blk_below (g := gb312) (o := .cells #[.slice none 0 0, .int .i64 0] 66 (0, 0)) (by (with_reducible repeat (first | refine blk_drewN ?_ _ | refine blk_drew ?_ | refine blk_alloc ?_ _)); exact BK312.out) hb); have n3_ := Aside0.mk (blk_below (g := gb313) (o := .cells #[u314000, .int .i64 a0_1] 66 (0, 0)) (by (with_reducible repeat (first | refine blk_drewN ?_ _ | refine blk_drew ?_ | refine blk_alloc ?_ _)); exact BK313.out) hb); have n4_ := Aside0.mk (below_step (by repeat (first | (with_reducible first | exact HB.out | apply below_alloc | apply pw_below_drewN | apply below_drew1 | refine below_set ?_ GE311.out | refine below_set ?_ GE312.out | refine below_set ?_ GE313.out) | exact HB.out)) hb); have n5_ := Aside0.mk (hbox); have n6_ := Aside0.mk ((by rw [hg]; exact (below_size (by repeat (first | (with_reducible first | exact HB.out | apply below_alloc | apply pw_below_drewN | apply below_drew1 | refine below_set ?_ GE311.out | refine below_set ?_ GE312.out | refine below_set ?_ GE313.out) | exact HB.out))) : w.heap.size ≤ gb315)); have n7_ := Aside0.mk ((by rw [hg]; exact (below_size (by repeat (first | (with_reducible first | exact HB.out | apply below_alloc | apply pw_below_drewN | apply below_drew1 | refine below_set ?_ GE311.out | refine below_set ?_ GE312.out | refine below_set ?_ GE313.out) | exact HB.out))) : w.heap.size ≤ gb315)); have n8_ := Aside0.mk ((by rw [hg]; exact Nat.ne_of_lt (blk_lt (g := gb311) (o := .cells #[.slice (some ad314) l0_0.length c0_0, .int .i64 a0_1] 70 (0, 0)) (by (with_reducible repeat (first | refine blk_drewN ?_ _ | refine blk_drew ?_ | refine blk_alloc ?_ _)); exact BK311.out)) : gb311 ≠ gb315)); have n9_ := Aside0.mk ((by rw [hg]; exact Nat.ne_of_gt (blk_lt (g := gb311) (o := .cells #[.slice (some ad314) l0_0.length c0_0, .int .i64 a0_1] 70 (0, 0)) (by (with_reducible repeat (first | refine blk_drewN ?_ _ | refine blk_drew ?_ | refine blk_alloc ?_ _)); exact BK311.out)) : gb315 ≠ gb311)); have n10_ := Aside0.mk ((by rw [hg]; exact Nat.ne_of_lt (blk_lt (g := gb312) (o := .cells #[.slice none 0 0, .int .i64 0] 66 (0, 0)) (by (with_reducible repeat (first | refine blk_drewN ?_ _ | refine blk_drew ?_ | refine blk_alloc ?_ _)); exact BK312.out)) : gb312 ≠ gb315)); have n11_ := Aside0.mk ((by rw [hg]; exact Nat.ne_of_gt (blk_lt (g := gb312) (o := .cells #[.slice none 0 0, .int .i64 0] 66 (0, 0)) (by (with_reducible repeat (first | refine blk_drewN ?_ _ | refine blk_drew ?_ | refine blk_alloc ?_ _)); exact BK312.out)) : gb315 ≠ gb312)); have n12_ := Aside0.mk ((by rw [hg]; exact Nat.ne_of_lt (blk_lt (g := gb313) (o := .cells #[u314000, .int .i64 a0_1] 66 (0, 0)) (by (with_reducible repeat (first | refine blk_drewN ?_ _ | refine blk_drew ?_ | refine blk_alloc ?_ _)); exact BK313.out)) : gb313 ≠ gb315)); have n13_ := Aside0.mk ((by rw [hg]; exact Nat.ne_of_gt (blk_lt (g := gb313) (o := .cells #[u314000, .int .i64 a0_1] 66 (0, 0)) (by (with_reducible repeat (first | refine blk_drewN ?_ _ | refine blk_drew ?_ | refine blk_alloc ?_ _)); exact BK313.out)) : gb315 ≠ gb313)); clear HO_314000; clear BK311; clear BK312; clear BK313; clear HB; have HO_314000 := n0_; have BK311 := n1_; have BK312 := n2_; have BK313 := n3_; have HB := n4_; have BK315 := n5_; have GW315 := n6_; have GE315 := n7_; have NB311_315 := n8_; have NB315_311 := n9_; have NB312_315 := n10_; have NB315_312 := n11_; have NB313_315 := n12_; have NB315_313 := n13_; clear n0_ n1_ n2_ n3_ n4_ n5_ n6_ n7_ n8_ n9_ n10_ n11_ n12_ n13_; clear hb hbox hg; have hnb17 := NB315_311.out; have hnc17 := NB311_315.out; have hnb18 := NB315_312.out; have hnc18 := NB312_315.out; have hnb19 := NB315_313.out; have hnc19 := NB313_315.out; have hcz20_0 : w16.cell? ⟨gb315, 0, none⟩ = some (.int .i64 0) := (blk_cell BK315.out 0).trans rfl; have hcz20_1 : w16.cell? ⟨gb315, 1, none⟩ = some (.int .i64 0) := (blk_cell BK315.out 1).trans rfl; have hcz20_2 : w16.cell? ⟨gb315, 2, none⟩ = some (.int .i64 0) := (blk_cell BK315.out 2).trans rfl; have hcz20_3 : w16.cell? ⟨gb315, 3, none⟩ = some (.bool false) := (blk_cell BK315.out 3).trans rfl; have hcz20_4 : w16.cell? ⟨gb315, 4, none⟩ = some (.int .i64 0) := (blk_cell BK315.out 4).trans rfl; have hcz20_5 : w16.cell? ⟨gb315, 5, none⟩ = some (.int .i64 0) := (blk_cell BK315.out 5).trans rfl; have hcz20_6 : w16.cell? ⟨gb315, 6, none⟩ = some (.int .i64 0) := (blk_cell BK315.out 6).trans rfl; have hcz20_7 : w16.cell? ⟨gb315, 7, none⟩ = some (.int .i64 0) := (blk_cell BK315.out 7).trans rfl; have hcz20_8 : w16.cell? ⟨gb315, 8, none⟩ = some (.int .i64 0) := (blk_cell BK315.out 8).trans rfl; have hcz20_9 : w16.cell? ⟨gb315, 9, none⟩ = some (.int .u32 0) := (blk_cell BK315.out 9).trans rfl; have hcz20_10 : w16.cell? ⟨gb315, 10, none⟩ = some (.int .i64 0) := (blk_cell BK315.out 10).trans rfl; have hfz20_0 := blk_frozen BK315.out 0; have hfz20_1 := blk_frozen BK315.out 1; have hfz20_2 := blk_frozen BK315.out 2; have hfz20_3 := blk_frozen BK315.out 3; have hfz20_4 := blk_frozen BK315.out 4; have hfz20_5 := blk_frozen BK315.out 5; have hfz20_6 := blk_frozen BK315.out 6; have hfz20_7 := blk_frozen BK315.out 7; have hfz20_8 := blk_frozen BK315.out 8; have hfz20_9 := blk_frozen BK315.out 9; have hfz20_10 := blk_frozen BK315.out 10))
              have n0_ : Aside0 (Kd.R k29 29 (((((((((((w16.setCell ⟨gb315, 0, none⟩ (.int .i64 ((rd_T34 l0_0 x12_1).f0.f0))).setCell ⟨gb315, 1, none⟩ (.int .i64 ((rd_T34 l0_0 x12_1).f0.f1))).setCell ⟨gb315, 2, none⟩ (.int .i64 ((rd_T34 l0_0 x12_1).f0.f2))).setCell ⟨gb315, 3, none⟩ (.bool ((rd_T34 l0_0 x12_1).f0.f3))).setCell ⟨gb315, 4, none⟩ (.int .i64 ((rd_T34 l0_0 x12_1).f1.f0))).setCell ⟨gb315, 5, none⟩ (.int .i64 ((rd_T34 l0_0 x12_1).f1.f1))).setCell ⟨gb315, 6, none⟩ (.int .i64 ((rd_T34 l0_0 x12_1).f1.f2))).setCell ⟨gb315, 7, none⟩ (.int .i64 ((rd_T34 l0_0 x12_1).f2))).setCell ⟨gb315, 8, none⟩ (.int .i64 ((rd_T34 l0_0 x12_1).f3))).setCell ⟨gb315, 9, none⟩ (.int .u32 ((rd_T34 l0_0 x12_1).f4))).setCell ⟨gb315, 10, none⟩ (.int .i64 ((rd_T34 l0_0 x12_1).f5))) w.heap.size (fun _ => True) u314000 x314000_1) := ⟨by (with_reducible repeat (first | apply Kd.R_alloc | apply Kd.R_drewN | apply Kd.R_drew)); exact Kd.R_mono (Kd.R_far (p := ⟨gb315, 10, none⟩) (Kd.R_far (p := ⟨gb315, 9, none⟩) (Kd.R_far (p := ⟨gb315, 8, none⟩) (Kd.R_far (p := ⟨gb315, 7, none⟩) (Kd.R_far (p := ⟨gb315, 6, none⟩) (Kd.R_far (p := ⟨gb315, 5, none⟩) (Kd.R_far (p := ⟨gb315, 4, none⟩) (Kd.R_far (p := ⟨gb315, 3, none⟩) (Kd.R_far (p := ⟨gb315, 2, none⟩) (Kd.R_far (p := ⟨gb315, 1, none⟩) (Kd.R_far (p := ⟨gb315, 0, none⟩) (Kd.R_types HO_314000.out BK315.out (by decide)) (fun _ hk => hk.2) (.int .i64 ((rd_T34 l0_0 x12_1).f0.f0))) (fun _ hk => hk.2) (.int .i64 ((rd_T34 l0_0 x12_1).f0.f1))) (fun _ hk => hk.2) (.int .i64 ((rd_T34 l0_0 x12_1).f0.f2))) (fun _ hk => hk.2) (.bool ((rd_T34 l0_0 x12_1).f0.f3))) (fun _ hk => hk.2) (.int .i64 ((rd_T34 l0_0 x12_1).f1.f0))) (fun _ hk => hk.2) (.int .i64 ((rd_T34 l0_0 x12_1).f1.f1))) (fun _ hk => hk.2) (.int .i64 ((rd_T34 l0_0 x12_1).f1.f2))) (fun _ hk => hk.2) (.int .i64 ((rd_T34 l0_0 x12_1).f2))) (fun _ hk => hk.2) (.int .i64 ((rd_T34 l0_0 x12_1).f3))) (fun _ hk => hk.2) (.int .u32 ((rd_T34 l0_0 x12_1).f4))) (fun _ hk => hk.2) (.int .i64 ((rd_T34 l0_0 x12_1).f5))) (fun _ hk => trivial)⟩
              have n1_ : Aside0 ((((((((((((w16.setCell ⟨gb315, 0, none⟩ (.int .i64 ((rd_T34 l0_0 x12_1).f0.f0))).setCell ⟨gb315, 1, none⟩ (.int .i64 ((rd_T34 l0_0 x12_1).f0.f1))).setCell ⟨gb315, 2, none⟩ (.int .i64 ((rd_T34 l0_0 x12_1).f0.f2))).setCell ⟨gb315, 3, none⟩ (.bool ((rd_T34 l0_0 x12_1).f0.f3))).setCell ⟨gb315, 4, none⟩ (.int .i64 ((rd_T34 l0_0 x12_1).f1.f0))).setCell ⟨gb315, 5, none⟩ (.int .i64 ((rd_T34 l0_0 x12_1).f1.f1))).setCell ⟨gb315, 6, none⟩ (.int .i64 ((rd_T34 l0_0 x12_1).f1.f2))).setCell ⟨gb315, 7, none⟩ (.int .i64 ((rd_T34 l0_0 x12_1).f2))).setCell ⟨gb315, 8, none⟩ (.int .i64 ((rd_T34 l0_0 x12_1).f3))).setCell ⟨gb315, 9, none⟩ (.int .u32 ((rd_T34 l0_0 x12_1).f4))).setCell ⟨gb315, 10, none⟩ (.int .i64 ((rd_T34 l0_0 x12_1).f5))).heap[gb311]? = some (.cells #[.slice (some ad314) l0_0.length c0_0, .int .i64 a0_1] 70 (0, 0))) := ⟨by (with_reducible repeat (first | refine blk_drewN ?_ _ | refine blk_drew ?_ | refine blk_alloc ?_ _)); refine blk_far ?_ NB311_315.out _; (with_reducible repeat (first | refine blk_drewN ?_ _ | refine blk_drew ?_ | refine blk_alloc ?_ _)); refine blk_far ?_ NB311_315.out _; (with_reducible repeat (first | refine blk_drewN ?_ _ | refine blk_drew ?_ | refine blk_alloc ?_ _)); refine blk_far ?_ NB311_315.out _; (with_reducible repeat (first | refine blk_drewN ?_ _ | refine blk_drew ?_ | refine blk_alloc ?_ _)); refine blk_far ?_ NB311_315.out _; (with_reducible repeat (first | refine blk_drewN ?_ _ | refine blk_drew ?_ | refine blk_alloc ?_ _)); refine blk_far ?_ NB311_315.out _; (with_reducible repeat (first | refine blk_drewN ?_ _ | refine blk_drew ?_ | refine blk_alloc ?_ _)); refine blk_far ?_ NB311_315.out _; (with_reducible repeat (first | refine blk_drewN ?_ _ | refine blk_drew ?_ | refine blk_alloc ?_ _)); refine blk_far ?_ NB311_315.out _; (with_reducible repeat (first | refine blk_drewN ?_ _ | refine blk_drew ?_ | refine blk_alloc ?_ _)); refine blk_far ?_ NB311_315.out _; (with_reducible repeat (first | refine blk_drewN ?_ _ | refine blk_drew ?_ | refine blk_alloc ?_ _)); refine blk_far ?_ NB311_315.out _; (with_reducible repeat (first | refine blk_drewN ?_ _ | refine blk_drew ?_ | refine blk_alloc ?_ _)); refine blk_far ?_ NB311_315.out _; (with_reducible repeat (first | refine blk_drewN ?_ _ | refine blk_drew ?_ | refine blk_alloc ?_ _)); refine blk_far ?_ NB311_315.out _; (with_reducible repeat (first | refine blk_drewN ?_ _ | refine blk_drew ?_ | refine blk_alloc ?_ _)); exact BK311.out⟩
              have n2_ : Aside0 ((((((((((((w16.setCell ⟨gb315, 0, none⟩ (.int .i64 ((rd_T34 l0_0 x12_1).f0.f0))).setCell ⟨gb315, 1, none⟩ (.int .i64 ((rd_T34 l0_0 x12_1).f0.f1))).setCell ⟨gb315, 2, none⟩ (.int .i64 ((rd_T34 l0_0 x12_1).f0.f2))).setCell ⟨gb315, 3, none⟩ (.bool ((rd_T34 l0_0 x12_1).f0.f3))).setCell ⟨gb315, 4, none⟩ (.int .i64 ((rd_T34 l0_0 x12_1).f1.f0))).setCell ⟨gb315, 5, none⟩ (.int .i64 ((rd_T34 l0_0 x12_1).f1.f1))).setCell ⟨gb315, 6, none⟩ (.int .i64 ((rd_T34 l0_0 x12_1).f1.f2))).setCell ⟨gb315, 7, none⟩ (.int .i64 ((rd_T34 l0_0 x12_1).f2))).setCell ⟨gb315, 8, none⟩ (.int .i64 ((rd_T34 l0_0 x12_1).f3))).setCell ⟨gb315, 9, none⟩ (.int .u32 ((rd_T34 l0_0 x12_1).f4))).setCell ⟨gb315, 10, none⟩ (.int .i64 ((rd_T34 l0_0 x12_1).f5))).heap[gb312]? = some (.cells #[.slice none 0 0, .int .i64 0] 66 (0, 0))) := ⟨by (with_reducible repeat (first | refine blk_drewN ?_ _ | refine blk_drew ?_ | refine blk_alloc ?_ _)); refine blk_far ?_ NB312_315.out _; (with_reducible repeat (first | refine blk_drewN ?_ _ | refine blk_drew ?_ | refine blk_alloc ?_ _)); refine blk_far ?_ NB312_315.out _; (with_reducible repeat (first | refine blk_drewN ?_ _ | refine blk_drew ?_ | refine blk_alloc ?_ _)); refine blk_far ?_ NB312_315.out _; (with_reducible repeat (first | refine blk_drewN ?_ _ | refine blk_drew ?_ | refine blk_alloc ?_ _)); refine blk_far ?_ NB312_315.out _; (with_reducible repeat (first | refine blk_drewN ?_ _ | refine blk_drew ?_ | refine blk_alloc ?_ _)); refine blk_far ?_ NB312_315.out _; (with_reducible repeat (first | refine blk_drewN ?_ _ | refine blk_drew ?_ | refine blk_alloc ?_ _)); refine blk_far ?_ NB312_315.out _; (with_reducible repeat (first | refine blk_drewN ?_ _ | refine blk_drew ?_ | refine blk_alloc ?_ _)); refine blk_far ?_ NB312_315.out _; (with_reducible repeat (first | refine blk_drewN ?_ _ | refine blk_drew ?_ | refine blk_alloc ?_ _)); refine blk_far ?_ NB312_315.out _; (with_reducible repeat (first | refine blk_drewN ?_ _ | refine blk_drew ?_ | refine blk_alloc ?_ _)); refine blk_far ?_ NB312_315.out _; (with_reducible repeat (first | refine blk_drewN ?_ _ | refine blk_drew ?_ | refine blk_alloc ?_ _)); refine blk_far ?_ NB312_315.out _; (with_reducible repeat (first | refine blk_drewN ?_ _ | refine blk_drew ?_ | refine blk_alloc ?_ _)); refine blk_far ?_ NB312_315.out _; (with_reducible repeat (first | refine blk_drewN ?_ _ | refine blk_drew ?_ | refine blk_alloc ?_ _)); exact BK312.out⟩
              have n3_ : Aside0 ((((((((((((w16.setCell ⟨gb315, 0, none⟩ (.int .i64 ((rd_T34 l0_0 x12_1).f0.f0))).setCell ⟨gb315, 1, none⟩ (.int .i64 ((rd_T34 l0_0 x12_1).f0.f1))).setCell ⟨gb315, 2, none⟩ (.int .i64 ((rd_T34 l0_0 x12_1).f0.f2))).setCell ⟨gb315, 3, none⟩ (.bool ((rd_T34 l0_0 x12_1).f0.f3))).setCell ⟨gb315, 4, none⟩ (.int .i64 ((rd_T34 l0_0 x12_1).f1.f0))).setCell ⟨gb315, 5, none⟩ (.int .i64 ((rd_T34 l0_0 x12_1).f1.f1))).setCell ⟨gb315, 6, none⟩ (.int .i64 ((rd_T34 l0_0 x12_1).f1.f2))).setCell ⟨gb315, 7, none⟩ (.int .i64 ((rd_T34 l0_0 x12_1).f2))).setCell ⟨gb315, 8, none⟩ (.int .i64 ((rd_T34 l0_0 x12_1).f3))).setCell ⟨gb315, 9, none⟩ (.int .u32 ((rd_T34 l0_0 x12_1).f4))).setCell ⟨gb315, 10, none⟩ (.int .i64 ((rd_T34 l0_0 x12_1).f5))).heap[gb313]? = some (.cells #[u314000, .int .i64 a0_1] 66 (0, 0))) := ⟨by (with_reducible repeat (first | refine blk_drewN ?_ _ | refine blk_drew ?_ | refine blk_alloc ?_ _)); refine blk_far ?_ NB313_315.out _; (with_reducible repeat (first | refine blk_drewN ?_ _ | refine blk_drew ?_ | refine blk_alloc ?_ _)); refine blk_far ?_ NB313_315.out _; (with_reducible repeat (first | refine blk_drewN ?_ _ | refine blk_drew ?_ | refine blk_alloc ?_ _)); refine blk_far ?_ NB313_315.out _; (with_reducible repeat (first | refine blk_drewN ?_ _ | refine blk_drew ?_ | refine blk_alloc ?_ _)); refine blk_far ?_ NB313_315.out _; (with_reducible repeat (first | refine blk_drewN ?_ _ | refine blk_drew ?_ | refine blk_alloc ?_ _)); refine blk_far ?_ NB313_315.out _; (with_reducible repeat (first | refine blk_drewN ?_ _ | refine blk_drew ?_ | refine blk_alloc ?_ _)); refine blk_far ?_ NB313_315.out _; (with_reducible repeat (first | refine blk_drewN ?_ _ | refine blk_drew ?_ | refine blk_alloc ?_ _)); refine blk_far ?_ NB313_315.out _; (with_reducible repeat (first | refine blk_drewN ?_ _ | refine blk_drew ?_ | refine blk_alloc ?_ _)); refine blk_far ?_ NB313_315.out _; (with_reducible repeat (first | refine blk_drewN ?_ _ | refine blk_drew ?_ | refine blk_alloc ?_ _)); refine blk_far ?_ NB313_315.out _; (with_reducible repeat (first | refine blk_drewN ?_ _ | refine blk_drew ?_ | refine blk_alloc ?_ _)); refine blk_far ?_ NB313_315.out _; (with_reducible repeat (first | refine blk_drewN ?_ _ | refine blk_drew ?_ | refine blk_alloc ?_ _)); refine blk_far ?_ NB313_315.out _; (with_reducible repeat (first | refine blk_drewN ?_ _ | refine blk_drew ?_ | refine blk_alloc ?_ _)); exact BK313.out⟩
              have n4_ : Aside0 ((((((((((((w16.setCell ⟨gb315, 0, none⟩ (.int .i64 ((rd_T34 l0_0 x12_1).f0.f0))).setCell ⟨gb315, 1, none⟩ (.int .i64 ((rd_T34 l0_0 x12_1).f0.f1))).setCell ⟨gb315, 2, none⟩ (.int .i64 ((rd_T34 l0_0 x12_1).f0.f2))).setCell ⟨gb315, 3, none⟩ (.bool ((rd_T34 l0_0 x12_1).f0.f3))).setCell ⟨gb315, 4, none⟩ (.int .i64 ((rd_T34 l0_0 x12_1).f1.f0))).setCell ⟨gb315, 5, none⟩ (.int .i64 ((rd_T34 l0_0 x12_1).f1.f1))).setCell ⟨gb315, 6, none⟩ (.int .i64 ((rd_T34 l0_0 x12_1).f1.f2))).setCell ⟨gb315, 7, none⟩ (.int .i64 ((rd_T34 l0_0 x12_1).f2))).setCell ⟨gb315, 8, none⟩ (.int .i64 ((rd_T34 l0_0 x12_1).f3))).setCell ⟨gb315, 9, none⟩ (.int .u32 ((rd_T34 l0_0 x12_1).f4))).setCell ⟨gb315, 10, none⟩ (.int .i64 ((rd_T34 l0_0 x12_1).f5))).heap[gb315]? = some (.cells #[.int .i64 ((rd_T34 l0_0 x12_1).f0.f0), .int .i64 ((rd_T34 l0_0 x12_1).f0.f1), .int .i64 ((rd_T34 l0_0 x12_1).f0.f2), .bool ((rd_T34 l0_0 x12_1).f0.f3), .int .i64 ((rd_T34 l0_0 x12_1).f1.f0), .int .i64 ((rd_T34 l0_0 x12_1).f1.f1), .int .i64 ((rd_T34 l0_0 x12_1).f1.f2), .int .i64 ((rd_T34 l0_0 x12_1).f2), .int .i64 ((rd_T34 l0_0 x12_1).f3), .int .u32 ((rd_T34 l0_0 x12_1).f4), .int .i64 ((rd_T34 l0_0 x12_1).f5)] 34 (0, 0))) := ⟨by (with_reducible repeat (first | refine blk_drewN ?_ _ | refine blk_drew ?_ | refine blk_alloc ?_ _)); refine blk_put (cs := #[.int .i64 ((rd_T34 l0_0 x12_1).f0.f0), .int .i64 ((rd_T34 l0_0 x12_1).f0.f1), .int .i64 ((rd_T34 l0_0 x12_1).f0.f2), .bool ((rd_T34 l0_0 x12_1).f0.f3), .int .i64 ((rd_T34 l0_0 x12_1).f1.f0), .int .i64 ((rd_T34 l0_0 x12_1).f1.f1), .int .i64 ((rd_T34 l0_0 x12_1).f1.f2), .int .i64 ((rd_T34 l0_0 x12_1).f2), .int .i64 ((rd_T34 l0_0 x12_1).f3), .int .u32 ((rd_T34 l0_0 x12_1).f4), .int .i64 0]) ?_ 10 _ rfl; (with_reducible repeat (first | refine blk_drewN ?_ _ | refine blk_drew ?_ | refine blk_alloc ?_ _)); refine blk_put (cs := #[.int .i64 ((rd_T34 l0_0 x12_1).f0.f0), .int .i64 ((rd_T34 l0_0 x12_1).f0.f1), .int .i64 ((rd_T34 l0_0 x12_1).f0.f2), .bool ((rd_T34 l0_0 x12_1).f0.f3), .int .i64 ((rd_T34 l0_0 x12_1).f1.f0), .int .i64 ((rd_T34 l0_0 x12_1).f1.f1), .int .i64 ((rd_T34 l0_0 x12_1).f1.f2), .int .i64 ((rd_T34 l0_0 x12_1).f2), .int .i64 ((rd_T34 l0_0 x12_1).f3), .int .u32 0, .int .i64 0]) ?_ 9 _ rfl; (with_reducible repeat (first | refine blk_drewN ?_ _ | refine blk_drew ?_ | refine blk_alloc ?_ _)); refine blk_put (cs := #[.int .i64 ((rd_T34 l0_0 x12_1).f0.f0), .int .i64 ((rd_T34 l0_0 x12_1).f0.f1), .int .i64 ((rd_T34 l0_0 x12_1).f0.f2), .bool ((rd_T34 l0_0 x12_1).f0.f3), .int .i64 ((rd_T34 l0_0 x12_1).f1.f0), .int .i64 ((rd_T34 l0_0 x12_1).f1.f1), .int .i64 ((rd_T34 l0_0 x12_1).f1.f2), .int .i64 ((rd_T34 l0_0 x12_1).f2), .int .i64 0, .int .u32 0, .int .i64 0]) ?_ 8 _ rfl; (with_reducible repeat (first | refine blk_drewN ?_ _ | refine blk_drew ?_ | refine blk_alloc ?_ _)); refine blk_put (cs := #[.int .i64 ((rd_T34 l0_0 x12_1).f0.f0), .int .i64 ((rd_T34 l0_0 x12_1).f0.f1), .int .i64 ((rd_T34 l0_0 x12_1).f0.f2), .bool ((rd_T34 l0_0 x12_1).f0.f3), .int .i64 ((rd_T34 l0_0 x12_1).f1.f0), .int .i64 ((rd_T34 l0_0 x12_1).f1.f1), .int .i64 ((rd_T34 l0_0 x12_1).f1.f2), .int .i64 0, .int .i64 0, .int .u32 0, .int .i64 0]) ?_ 7 _ rfl; (with_reducible repeat (first | refine blk_drewN ?_ _ | refine blk_drew ?_ | refine blk_alloc ?_ _)); refine blk_put (cs := #[.int .i64 ((rd_T34 l0_0 x12_1).f0.f0), .int .i64 ((rd_T34 l0_0 x12_1).f0.f1), .int .i64 ((rd_T34 l0_0 x12_1).f0.f2), .bool ((rd_T34 l0_0 x12_1).f0.f3), .int .i64 ((rd_T34 l0_0 x12_1).f1.f0), .int .i64 ((rd_T34 l0_0 x12_1).f1.f1), .int .i64 0, .int .i64 0, .int .i64 0, .int .u32 0, .int .i64 0]) ?_ 6 _ rfl; (with_reducible repeat (first | refine blk_drewN ?_ _ | refine blk_drew ?_ | refine blk_alloc ?_ _)); refine blk_put (cs := #[.int .i64 ((rd_T34 l0_0 x12_1).f0.f0), .int .i64 ((rd_T34 l0_0 x12_1).f0.f1), .int .i64 ((rd_T34 l0_0 x12_1).f0.f2), .bool ((rd_T34 l0_0 x12_1).f0.f3), .int .i64 ((rd_T34 l0_0 x12_1).f1.f0), .int .i64 0, .int .i64 0, .int .i64 0, .int .i64 0, .int .u32 0, .int .i64 0]) ?_ 5 _ rfl; (with_reducible repeat (first | refine blk_drewN ?_ _ | refine blk_drew ?_ | refine blk_alloc ?_ _)); refine blk_put (cs := #[.int .i64 ((rd_T34 l0_0 x12_1).f0.f0), .int .i64 ((rd_T34 l0_0 x12_1).f0.f1), .int .i64 ((rd_T34 l0_0 x12_1).f0.f2), .bool ((rd_T34 l0_0 x12_1).f0.f3), .int .i64 0, .int .i64 0, .int .i64 0, .int .i64 0, .int .i64 0, .int .u32 0, .int .i64 0]) ?_ 4 _ rfl; (with_reducible repeat (first | refine blk_drewN ?_ _ | refine blk_drew ?_ | refine blk_alloc ?_ _)); refine blk_put (cs := #[.int .i64 ((rd_T34 l0_0 x12_1).f0.f0), .int .i64 ((rd_T34 l0_0 x12_1).f0.f1), .int .i64 ((rd_T34 l0_0 x12_1).f0.f2), .bool false, .int .i64 0, .int .i64 0, .int .i64 0, .int .i64 0, .int .i64 0, .int .u32 0, .int .i64 0]) ?_ 3 _ rfl; (with_reducible repeat (first | refine blk_drewN ?_ _ | refine blk_drew ?_ | refine blk_alloc ?_ _)); refine blk_put (cs := #[.int .i64 ((rd_T34 l0_0 x12_1).f0.f0), .int .i64 ((rd_T34 l0_0 x12_1).f0.f1), .int .i64 0, .bool false, .int .i64 0, .int .i64 0, .int .i64 0, .int .i64 0, .int .i64 0, .int .u32 0, .int .i64 0]) ?_ 2 _ rfl; (with_reducible repeat (first | refine blk_drewN ?_ _ | refine blk_drew ?_ | refine blk_alloc ?_ _)); refine blk_put (cs := #[.int .i64 ((rd_T34 l0_0 x12_1).f0.f0), .int .i64 0, .int .i64 0, .bool false, .int .i64 0, .int .i64 0, .int .i64 0, .int .i64 0, .int .i64 0, .int .u32 0, .int .i64 0]) ?_ 1 _ rfl; (with_reducible repeat (first | refine blk_drewN ?_ _ | refine blk_drew ?_ | refine blk_alloc ?_ _)); refine blk_put (cs := #[.int .i64 0, .int .i64 0, .int .i64 0, .bool false, .int .i64 0, .int .i64 0, .int .i64 0, .int .i64 0, .int .i64 0, .int .u32 0, .int .i64 0]) ?_ 0 _ rfl; (with_reducible repeat (first | refine blk_drewN ?_ _ | refine blk_drew ?_ | refine blk_alloc ?_ _)); exact BK315.out⟩
              have n5_ : Aside0 (Below w.heap.size w (((((((((((w16.setCell ⟨gb315, 0, none⟩ (.int .i64 ((rd_T34 l0_0 x12_1).f0.f0))).setCell ⟨gb315, 1, none⟩ (.int .i64 ((rd_T34 l0_0 x12_1).f0.f1))).setCell ⟨gb315, 2, none⟩ (.int .i64 ((rd_T34 l0_0 x12_1).f0.f2))).setCell ⟨gb315, 3, none⟩ (.bool ((rd_T34 l0_0 x12_1).f0.f3))).setCell ⟨gb315, 4, none⟩ (.int .i64 ((rd_T34 l0_0 x12_1).f1.f0))).setCell ⟨gb315, 5, none⟩ (.int .i64 ((rd_T34 l0_0 x12_1).f1.f1))).setCell ⟨gb315, 6, none⟩ (.int .i64 ((rd_T34 l0_0 x12_1).f1.f2))).setCell ⟨gb315, 7, none⟩ (.int .i64 ((rd_T34 l0_0 x12_1).f2))).setCell ⟨gb315, 8, none⟩ (.int .i64 ((rd_T34 l0_0 x12_1).f3))).setCell ⟨gb315, 9, none⟩ (.int .u32 ((rd_T34 l0_0 x12_1).f4))).setCell ⟨gb315, 10, none⟩ (.int .i64 ((rd_T34 l0_0 x12_1).f5)))) := ⟨by repeat (first | (with_reducible first | exact HB.out | apply below_alloc | apply pw_below_drewN | apply below_drew1 | refine below_set ?_ GE311.out | refine below_set ?_ GE312.out | refine below_set ?_ GE313.out | refine below_set ?_ GE315.out) | exact HB.out)⟩
              (try clear HO_314000)
              (try clear BK311)
              (try clear BK312)
              (try clear BK313)
              (try clear BK315)
              (try clear HB)
              generalize (((((((((((w16.setCell ⟨gb315, 0, none⟩ (.int .i64 ((rd_T34 l0_0 x12_1).f0.f0))).setCell ⟨gb315, 1, none⟩ (.int .i64 ((rd_T34 l0_0 x12_1).f0.f1))).setCell ⟨gb315, 2, none⟩ (.int .i64 ((rd_T34 l0_0 x12_1).f0.f2))).setCell ⟨gb315, 3, none⟩ (.bool ((rd_T34 l0_0 x12_1).f0.f3))).setCell ⟨gb315, 4, none⟩ (.int .i64 ((rd_T34 l0_0 x12_1).f1.f0))).setCell ⟨gb315, 5, none⟩ (.int .i64 ((rd_T34 l0_0 x12_1).f1.f1))).setCell ⟨gb315, 6, none⟩ (.int .i64 ((rd_T34 l0_0 x12_1).f1.f2))).setCell ⟨gb315, 7, none⟩ (.int .i64 ((rd_T34 l0_0 x12_1).f2))).setCell ⟨gb315, 8, none⟩ (.int .i64 ((rd_T34 l0_0 x12_1).f3))).setCell ⟨gb315, 9, none⟩ (.int .u32 ((rd_T34 l0_0 x12_1).f4))).setCell ⟨gb315, 10, none⟩ (.int .i64 ((rd_T34 l0_0 x12_1).f5))) = w21 at n0_ n1_ n2_ n3_ n4_ n5_ ⊢
              have HO_314000 := n0_
              have BK311 := n1_
              have BK312 := n2_
              have BK313 := n3_
              have BK315 := n4_
              have HB := n5_
              clear n0_ n1_ n2_ n3_ n4_ n5_
              have n0_ := Aside0.mk (Kd.R_drew HO_314000.out)
              have n1_ := Aside0.mk (blk_drew BK311.out)
              have n2_ := Aside0.mk (blk_drew BK312.out)
              have n3_ := Aside0.mk (blk_drew BK313.out)
              have n4_ := Aside0.mk (blk_drew BK315.out)
              have n5_ := Aside0.mk (below_drew1 HB.out)
              clear HO_314000
              clear BK311
              clear BK312
              clear BK313
              clear BK315
              clear HB
              have HO_314000 := n0_
              have BK311 := n1_
              have BK312 := n2_
              have BK313 := n3_
              have BK315 := n4_
              have HB := n5_
              clear n0_ n1_ n2_ n3_ n4_ n5_
              refine start_ (n := 8) (S := fun w' => w'.cell? ⟨gb313, 0, none⟩ = some (u314000) ∧ w'.cell? ⟨gb313, 1, none⟩ = some (.int .i64 a0_1) ∧ w'.cell? ⟨gb315, 0, none⟩ = some (.int .i64 ((rd_T34 l0_0 x12_1).f0.f0)) ∧ w'.cell? ⟨gb315, 1, none⟩ = some (.int .i64 ((rd_T34 l0_0 x12_1).f0.f1)) ∧ w'.cell? ⟨gb315, 2, none⟩ = some (.int .i64 ((rd_T34 l0_0 x12_1).f0.f2)) ∧ w'.cell? ⟨gb315, 3, none⟩ = some (.bool ((rd_T34 l0_0 x12_1).f0.f3)) ∧ w'.cell? ⟨gb315, 4, none⟩ = some (.int .i64 ((rd_T34 l0_0 x12_1).f1.f0)) ∧ w'.cell? ⟨gb315, 5, none⟩ = some (.int .i64 ((rd_T34 l0_0 x12_1).f1.f1)) ∧ w'.cell? ⟨gb315, 6, none⟩ = some (.int .i64 ((rd_T34 l0_0 x12_1).f1.f2)) ∧ w'.cell? ⟨gb315, 7, none⟩ = some (.int .i64 ((rd_T34 l0_0 x12_1).f2)) ∧ w'.cell? ⟨gb315, 8, none⟩ = some (.int .i64 ((rd_T34 l0_0 x12_1).f3)) ∧ w'.cell? ⟨gb315, 9, none⟩ = some (.int .u32 ((rd_T34 l0_0 x12_1).f4)) ∧ w'.cell? ⟨gb315, 10, none⟩ = some (.int .i64 ((rd_T34 l0_0 x12_1).f5))) (ds := [7]) #[false, false, false, false, false, false, false, false] (by kernel_rfl) rfl rfl ⟨(blk_cell BK313.out 0).trans rfl, (blk_cell BK313.out 1).trans rfl, (blk_cell BK315.out 0).trans rfl, (blk_cell BK315.out 1).trans rfl, (blk_cell BK315.out 2).trans rfl, (blk_cell BK315.out 3).trans rfl, (blk_cell BK315.out 4).trans rfl, (blk_cell BK315.out 5).trans rfl, (blk_cell BK315.out 6).trans rfl, (blk_cell BK315.out 7).trans rfl, (blk_cell BK315.out 8).trans rfl, (blk_cell BK315.out 9).trans rfl, (blk_cell BK315.out 10).trans rfl⟩ (fun hHeld => ?_); refine with_tabW weftlinelaw14_Document.tab5 weftlinelaw14_Document.bits5 (fun HT_ HW_ => ?_)
              generalize w21.drew = w22 at HO_314000 BK311 BK312 BK313 BK315 HB hHeld ⊢
              refine pure_ (i := 0) (N := some 16) (v := ?_) (a' := ?_) #[true, false, false, false, false, false, false, false] rfl rfl (any_of HT_.out (by kernel_rfl)) (fun _ _ _ h => h) (Or.inl ⟨by rfl, ?_⟩) ?_ ?_
              rotate_left
              · intro w'
                go_simp
                with_reducible rfl
              rotate_left
              · simp only [Act.put, List.setIfInBounds_toArray, List.set_cons_zero, List.set_cons_succ, i64_w, i32_w]
                rfl
              refine take_ (i := 1) (N := some 17) (v := ?_) (a' := ?_) #[true, true, false, false, false, false, false, false] rfl rfl (take_ofW HT_.out HW_.out (by kernel_rfl)) (fun _ _ _ h => h) (Or.inl ⟨by rfl, ?_⟩) hHeld ?_ ?_
              rotate_left
              · rintro w' ⟨s0, s1, s2, s3, s4, s5, s6, s7, s8, s9, s10, s11, s12⟩
                go_simp
                with_reducible rfl
              rotate_left
              · simp only [Act.put, List.setIfInBounds_toArray, List.set_cons_zero, List.set_cons_succ, i64_w, i32_w]
                rfl
              refine take_ (i := 2) (N := some 18) (v := ?_) (a' := ?_) #[true, true, true, false, false, false, false, false] rfl rfl (take_ofW HT_.out HW_.out (by kernel_rfl)) (fun _ _ _ h => h) (Or.inl ⟨by rfl, ?_⟩) hHeld ?_ ?_
              rotate_left
              · rintro w' ⟨s0, s1, s2, s3, s4, s5, s6, s7, s8, s9, s10, s11, s12⟩
                go_simp
                with_reducible rfl
              rotate_left
              · simp only [Act.put, List.setIfInBounds_toArray, List.set_cons_zero, List.set_cons_succ, i64_w, i32_w]
                rfl
              refine one_ (i := 3) (N := some 19) #[true, true, true, true, false, false, false, false] rfl rfl (one_of HT_.out (by kernel_rfl)) (by decide) (fun K hK => ?_)
              refine goes_ Try.func16 (by kernel_rfl) rfl #[.agg #[.int .i64 ((rd_T34 l0_0 x12_1).f0.f0), .int .i64 ((rd_T34 l0_0 x12_1).f0.f1), .int .i64 ((rd_T34 l0_0 x12_1).f0.f2), .bool ((rd_T34 l0_0 x12_1).f0.f3), .int .i64 ((rd_T34 l0_0 x12_1).f1.f0), .int .i64 ((rd_T34 l0_0 x12_1).f1.f1), .int .i64 ((rd_T34 l0_0 x12_1).f1.f2), .int .i64 ((rd_T34 l0_0 x12_1).f2), .int .i64 ((rd_T34 l0_0 x12_1).f3), .int .u32 ((rd_T34 l0_0 x12_1).f4), .int .i64 ((rd_T34 l0_0 x12_1).f5)]] (by rfl) rfl rfl (by (try simp only [List.map_toArray, List.map_cons, List.map_nil]); first | done | rfl | (simp only [List.length_drop, List.length_take]; rfl)) ?_
              with_reducible refine (weftlinelaw13_Document.calls ((rd_T34 l0_0 x12_1).f0.f0) ((rd_T34 l0_0 x12_1).f0.f1) ((rd_T34 l0_0 x12_1).f0.f2) ((rd_T34 l0_0 x12_1).f0.f3) ((rd_T34 l0_0 x12_1).f1.f0) ((rd_T34 l0_0 x12_1).f1.f1) ((rd_T34 l0_0 x12_1).f1.f2) ((rd_T34 l0_0 x12_1).f2) ((rd_T34 l0_0 x12_1).f3) ((rd_T34 l0_0 x12_1).f4) ((rd_T34 l0_0 x12_1).f5) t316 t317 t318 t319 t320 t321 t322 t323 t324 t325 t326 _ A14.out).mono ?_
              rintro e w23 ⟨rfl, hb⟩
              refine ⟨_, rfl, ?_⟩
              have n0_ := Aside0.mk (Kd.R_below (by (with_reducible repeat (first | apply Kd.R_alloc | apply Kd.R_drewN | apply Kd.R_drew)); exact HO_314000.out) hb)
              have n1_ := Aside0.mk (blk_below (g := gb311) (o := .cells #[.slice (some ad314) l0_0.length c0_0, .int .i64 a0_1] 70 (0, 0)) (by (with_reducible repeat (first | refine blk_drewN ?_ _ | refine blk_drew ?_ | refine blk_alloc ?_ _)); exact BK311.out) hb)
              have n2_ := Aside0.mk (blk_below (g := gb312) (o := .cells #[.slice none 0 0, .int .i64 0] 66 (0, 0)) (by (with_reducible repeat (first | refine blk_drewN ?_ _ | refine blk_drew ?_ | refine blk_alloc ?_ _)); exact BK312.out) hb)
              have n3_ := Aside0.mk (blk_below (g := gb313) (o := .cells #[u314000, .int .i64 a0_1] 66 (0, 0)) (by (with_reducible repeat (first | refine blk_drewN ?_ _ | refine blk_drew ?_ | refine blk_alloc ?_ _)); exact BK313.out) hb)
              have n4_ := Aside0.mk (blk_below (g := gb315) (o := .cells #[.int .i64 ((rd_T34 l0_0 x12_1).f0.f0), .int .i64 ((rd_T34 l0_0 x12_1).f0.f1), .int .i64 ((rd_T34 l0_0 x12_1).f0.f2), .bool ((rd_T34 l0_0 x12_1).f0.f3), .int .i64 ((rd_T34 l0_0 x12_1).f1.f0), .int .i64 ((rd_T34 l0_0 x12_1).f1.f1), .int .i64 ((rd_T34 l0_0 x12_1).f1.f2), .int .i64 ((rd_T34 l0_0 x12_1).f2), .int .i64 ((rd_T34 l0_0 x12_1).f3), .int .u32 ((rd_T34 l0_0 x12_1).f4), .int .i64 ((rd_T34 l0_0 x12_1).f5)] 34 (0, 0)) (by (with_reducible repeat (first | refine blk_drewN ?_ _ | refine blk_drew ?_ | refine blk_alloc ?_ _)); exact BK315.out) hb)
              have n5_ := Aside0.mk (below_step (by repeat (first | (with_reducible first | exact HB.out | apply below_alloc | apply pw_below_drewN | apply below_drew1 | refine below_set ?_ GE311.out | refine below_set ?_ GE312.out | refine below_set ?_ GE313.out | refine below_set ?_ GE315.out) | exact HB.out)) hb)
              clear HO_314000
              clear BK311
              clear BK312
              clear BK313
              clear BK315
              clear HB
              have HO_314000 := n0_
              have BK311 := n1_
              have BK312 := n2_
              have BK313 := n3_
              have BK315 := n4_
              have HB := n5_
              clear n0_ n1_ n2_ n3_ n4_ n5_
              (try clear hb)
              (try clear hb2)
              (try clear hk)
              (try clear hi)
              refine hK.out _ _ ⟨(blk_cell BK313.out 0).trans rfl, (blk_cell BK313.out 1).trans rfl, (blk_cell BK315.out 0).trans rfl, (blk_cell BK315.out 1).trans rfl, (blk_cell BK315.out 2).trans rfl, (blk_cell BK315.out 3).trans rfl, (blk_cell BK315.out 4).trans rfl, (blk_cell BK315.out 5).trans rfl, (blk_cell BK315.out 6).trans rfl, (blk_cell BK315.out 7).trans rfl, (blk_cell BK315.out 8).trans rfl, (blk_cell BK315.out 9).trans rfl, (blk_cell BK315.out 10).trans rfl⟩ (fun hHeld => ?_)
              clear hK K
              refine norm_ (a' := ?_) ?_ ?_
              rotate_left
              · show Act.put _ (some 19) _ = _
                simp only [Act.put, List.setIfInBounds_toArray, List.set_cons_zero, List.set_cons_succ, i64_w, i32_w]
                rfl
              refine one_ (i := 4) (N := some 20) #[true, true, true, true, true, false, false, false] rfl rfl (one_of HT_.out (by kernel_rfl)) (by decide) (fun K hK => ?_)
              refine value_ (w1 := ?_) (v := ?_) (by rfl) rfl ?_ ?_
              rotate_left 2
              · go_simp
                constructor
                · rfl
                · rfl
              refine hK.out _ _ ⟨(blk_cell (blk_alloc BK313.out _) 0).trans rfl, (blk_cell (blk_alloc BK313.out _) 1).trans rfl, (blk_cell (blk_alloc BK315.out _) 0).trans rfl, (blk_cell (blk_alloc BK315.out _) 1).trans rfl, (blk_cell (blk_alloc BK315.out _) 2).trans rfl, (blk_cell (blk_alloc BK315.out _) 3).trans rfl, (blk_cell (blk_alloc BK315.out _) 4).trans rfl, (blk_cell (blk_alloc BK315.out _) 5).trans rfl, (blk_cell (blk_alloc BK315.out _) 6).trans rfl, (blk_cell (blk_alloc BK315.out _) 7).trans rfl, (blk_cell (blk_alloc BK315.out _) 8).trans rfl, (blk_cell (blk_alloc BK315.out _) 9).trans rfl, (blk_cell (blk_alloc BK315.out _) 10).trans rfl⟩ (fun hHeld => ?_)
              clear hK K
              refine norm_ (a' := ?_) ?_ ?_
              rotate_left
              · show Act.put _ (some 20) _ = _
                simp only [Act.put, List.setIfInBounds_toArray, List.set_cons_zero, List.set_cons_succ, i64_w, i32_w]
                rfl
              refine one_ (i := 5) (N := some 21) #[true, true, true, true, true, true, false, false] rfl rfl (one_of HT_.out (by kernel_rfl)) (by decide) (fun K hK => ?_)
              refine Kd.R_append_step k29 (w0 := w) w.heap.size (by rfl) (.tmp 17) (.tmp 20) 64 29 (.agg #[(.int .i64 0), (.int .i64 0), (.int .i64 0), (.bool false), (.int .i64 0), (.int .i64 0), (.int .i64 0), (.int .i64 0), (.int .i64 0), (.int .u32 0), (.int .i64 0)]) 88 rfl Try.underlying64 info29 rfl (by decide) (by omega) u314000 x314000_1 (⟨(⟨t316, t317, t318, t319⟩ : S23), (⟨t320, t321, t322⟩ : S25), t323, t324, t325, t326⟩ : S29) [.int .i64 t316, .int .i64 t317, .int .i64 t318, .bool t319, .int .i64 t320, .int .i64 t321, .int .i64 t322, .int .i64 t323, .int .i64 t324, .int .u32 t325, .int .i64 t326] (fun _ => True) (fun _ => False) rfl rfl ?aP (fun _ hk => hk.elim) ?aF ?aO ?aB ?aS ?aL ?_
              (case aP => exact k29_mkM _ _ _ (⟨(⟨t316, t317, t318, t319⟩ : S23), (⟨t320, t321, t322⟩ : S25), t323, t324, t325, t326⟩ : S29))
              (case aB => exact (by repeat (first | (with_reducible first | exact HB.out | apply below_alloc | apply pw_below_drewN | apply below_drew1 | refine below_set ?_ GE311.out | refine below_set ?_ GE312.out | refine below_set ?_ GE313.out | refine below_set ?_ GE315.out) | exact HB.out)))
              (case aF => exact (fun _ _ => trivial))
              (case aO => exact (by (with_reducible repeat (first | apply Kd.R_alloc | apply Kd.R_drewN | apply Kd.R_drew)); exact HO_314000.out))
              (case aS => exact (below_size (by repeat (first | (with_reducible first | exact HB.out | apply below_alloc | apply pw_below_drewN | apply below_drew1 | refine below_set ?_ GE311.out | refine below_set ?_ GE312.out | refine below_set ?_ GE313.out | refine below_set ?_ GE315.out) | exact HB.out))))
              (case aL => have := LMc15.out; omega)
              intro v328 w24 ho hb hg hat
              rw [← Ny327.out] at ho
              have n0_ := Aside0.mk (blk_grown (g := gb311) (o := .cells #[.slice (some ad314) l0_0.length c0_0, .int .i64 a0_1] 70 (0, 0)) (by (with_reducible repeat (first | refine blk_drewN ?_ _ | refine blk_drew ?_ | refine blk_alloc ?_ _)); exact BK311.out) hg (Kd.R_ne HO_314000.out BK311.out (by decide)))
              have n1_ := Aside0.mk (blk_grown (g := gb312) (o := .cells #[.slice none 0 0, .int .i64 0] 66 (0, 0)) (by (with_reducible repeat (first | refine blk_drewN ?_ _ | refine blk_drew ?_ | refine blk_alloc ?_ _)); exact BK312.out) hg (Kd.R_ne HO_314000.out BK312.out (by decide)))
              have n2_ := Aside0.mk (blk_grown (g := gb313) (o := .cells #[u314000, .int .i64 a0_1] 66 (0, 0)) (by (with_reducible repeat (first | refine blk_drewN ?_ _ | refine blk_drew ?_ | refine blk_alloc ?_ _)); exact BK313.out) hg (Kd.R_ne HO_314000.out BK313.out (by decide)))
              have n3_ := Aside0.mk (blk_grown (g := gb315) (o := .cells #[.int .i64 ((rd_T34 l0_0 x12_1).f0.f0), .int .i64 ((rd_T34 l0_0 x12_1).f0.f1), .int .i64 ((rd_T34 l0_0 x12_1).f0.f2), .bool ((rd_T34 l0_0 x12_1).f0.f3), .int .i64 ((rd_T34 l0_0 x12_1).f1.f0), .int .i64 ((rd_T34 l0_0 x12_1).f1.f1), .int .i64 ((rd_T34 l0_0 x12_1).f1.f2), .int .i64 ((rd_T34 l0_0 x12_1).f2), .int .i64 ((rd_T34 l0_0 x12_1).f3), .int .u32 ((rd_T34 l0_0 x12_1).f4), .int .i64 ((rd_T34 l0_0 x12_1).f5)] 34 (0, 0)) (by (with_reducible repeat (first | refine blk_drewN ?_ _ | refine blk_drew ?_ | refine blk_alloc ?_ _)); exact BK315.out) hg (Kd.R_ne HO_314000.out BK315.out (by decide)))
              have n4_ := Aside0.mk (hb)
              have n5_ := Aside0.mk (ho)
              clear BK311
              clear BK312
              clear BK313
              clear BK315
              clear HB
              clear HO_314000
              have BK311 := n0_
              have BK312 := n1_
              have BK313 := n2_
              have BK315 := n3_
              have HB := n4_
              have HO329 := n5_
              clear n0_ n1_ n2_ n3_ n4_ n5_
              clear ho hb hg hat
              obtain ⟨Ao25, co25, eo25⟩ := Kd.R_slice HO329.out
              (first | subst eo25 | (injection eo25 with f1_ f2_ f3_; have f4_ := f1_.symm; have f5_ := f3_.symm; clear f1_ f2_ f3_; subst f4_; subst f5_))
              refine hK.out _ _ ⟨(blk_cell BK313.out 0).trans rfl, (blk_cell BK313.out 1).trans rfl, (blk_cell BK315.out 0).trans rfl, (blk_cell BK315.out 1).trans rfl, (blk_cell BK315.out 2).trans rfl, (blk_cell BK315.out 3).trans rfl, (blk_cell BK315.out 4).trans rfl, (blk_cell BK315.out 5).trans rfl, (blk_cell BK315.out 6).trans rfl, (blk_cell BK315.out 7).trans rfl, (blk_cell BK315.out 8).trans rfl, (blk_cell BK315.out 9).trans rfl, (blk_cell BK315.out 10).trans rfl⟩ (fun hHeld => ?_)
              clear hK K
              refine norm_ (a' := ?_) ?_ ?_
              rotate_left
              · show Act.put _ (some 21) _ = _
                simp only [Act.put, List.setIfInBounds_toArray, List.set_cons_zero, List.set_cons_succ, i64_w, i32_w]
                rfl
              refine pure_ (i := 6) (N := some 22) (v := ?_) (a' := ?_) #[true, true, true, true, true, true, true, false] rfl rfl (any_of HT_.out (by kernel_rfl)) (fun _ _ _ h => h) (Or.inl ⟨by rfl, ?_⟩) ?_ ?_
              rotate_left
              · intro w'
                go_simp
                with_reducible rfl
              rotate_left
              · simp only [Act.put, List.setIfInBounds_toArray, List.set_cons_zero, List.set_cons_succ, i64_w, i32_w]
                rfl
              refine last_ (i := 7) (N := none) #[true, true, true, true, true, true, true, true] rfl rfl (one_of HT_.out (by kernel_rfl)) (by decide) (fun K hK => ?_)
              have hs26 : w24.cell? ⟨gb313, 0, none⟩ = some (u314000) := (blk_cell BK313.out 0).trans rfl
              have hfs26 := blk_frozen BK313.out 0
              have hns26_0 := NB311_313.out
              have hns26_1 := NB312_313.out
              have hns26_3 := NB315_313.out
              have hms26_0 := NB313_311.out
              have hms26_1 := NB313_312.out
              have hms26_3 := NB313_315.out
              refine skip_ (w1 := ?_) (by rfl) rfl ?_ ?_
              rotate_left
              · go_simp
                rfl
              refine hK.out _ _ ?_
              clear hK K
              refine done_ (done_of HT_.out (by kernel_rfl)) ?_
              try go_wp2
              go_roundg k1
              case measure => have := HK1.out; omega
              case rel => exact ⟨(wrap64 (x12_1 + 1)), (y327), (.slice Ao25 y327.length co25), (by first | rfl | (simp; done) | (simp [*]; done)), H', ⟨by have := HK1.out; omega⟩, ⟨by (with_reducible repeat (first | apply Kd.R_alloc | apply Kd.R_drewN | apply Kd.R_drew)); exact Kd.R_mono (Kd.R_far (p := ⟨gb313, 0, none⟩) (Kd.R_types HO329.out BK313.out (by decide)) (fun _ hk => hk.2) (.slice Ao25 y327.length co25)) (fun _ hk => trivial)⟩, ⟨by (with_reducible repeat (first | refine blk_drewN ?_ _ | refine blk_drew ?_ | refine blk_alloc ?_ _)); refine blk_far ?_ NB311_313.out _; (with_reducible repeat (first | refine blk_drewN ?_ _ | refine blk_drew ?_ | refine blk_alloc ?_ _)); exact BK311.out⟩, ⟨by (with_reducible repeat (first | refine blk_drewN ?_ _ | refine blk_drew ?_ | refine blk_alloc ?_ _)); refine blk_far ?_ NB312_313.out _; (with_reducible repeat (first | refine blk_drewN ?_ _ | refine blk_drew ?_ | refine blk_alloc ?_ _)); exact BK312.out⟩, ⟨by (with_reducible repeat (first | refine blk_drewN ?_ _ | refine blk_drew ?_ | refine blk_alloc ?_ _)); refine blk_put (cs := #[u314000, .int .i64 a0_1]) ?_ 0 _ rfl; (with_reducible repeat (first | refine blk_drewN ?_ _ | refine blk_drew ?_ | refine blk_alloc ?_ _)); exact BK313.out⟩, ⟨by repeat (first | (with_reducible first | exact HB.out | apply below_alloc | apply pw_below_drewN | apply below_drew1 | refine below_set ?_ GE311.out | refine below_set ?_ GE312.out | refine below_set ?_ GE313.out | refine below_set ?_ GE315.out) | exact HB.out)⟩⟩
            · rw [if_neg c15] at H
              exact absurd H (by simp)
          · rw [if_neg c13] at H
            exact absurd H (by simp)
        · rw [if_neg c12] at H
          exact absurd H (by simp)
      · rw [if_neg c11] at H
        have c11b0 : decide (x12_1 < (l0_0.length : Int)) = false := decide_eq_false c11
        clear c11
        simp only [Option.some.injEq, Prod.mk.injEq] at H
        obtain ⟨rfl, rfl⟩ := H
        have hnb27 := NB313_311.out
        have hnc27 := NB311_313.out
        have hnb28 := NB313_312.out
        have hnc28 := NB312_313.out
        have hcz29_0 : wr.cell? ⟨gb313, 0, none⟩ = some (u314000) := (blk_cell BK313.out 0).trans rfl
        have hcz29_1 : wr.cell? ⟨gb313, 1, none⟩ = some (.int .i64 a0_1) := (blk_cell BK313.out 1).trans rfl
        have hfz29_0 := blk_frozen BK313.out 0
        have hfz29_1 := blk_frozen BK313.out 1
        obtain ⟨Ao30, co30, eo30⟩ := Kd.R_slice HO_314000.out
        subst eo30
        have hnb31 := NB312_311.out
        have hnc31 := NB311_312.out
        have hcz32_0 : wr.cell? ⟨gb312, 0, none⟩ = some (.slice none 0 0) := (blk_cell BK312.out 0).trans rfl
        have hcz32_1 : wr.cell? ⟨gb312, 1, none⟩ = some (.int .i64 0) := (blk_cell BK312.out 1).trans rfl
        have hfz32_0 := blk_frozen BK312.out 0
        have hfz32_1 := blk_frozen BK312.out 1
        go_wp2
        refine bodyPost_ret (results_cell_row rfl _ _ gb312 66 #[.slice Ao30 x314000_1.length co30, .int .i64 a0_1] (0, 0) _ rfl (by (with_reducible repeat (first | refine blk_drewN ?_ _ | refine blk_drew ?_ | refine blk_alloc ?_ _)); refine blk_put (cs := #[.slice Ao30 x314000_1.length co30, .int .i64 0]) ?_ 1 _ rfl; (with_reducible repeat (first | refine blk_drewN ?_ _ | refine blk_drew ?_ | refine blk_alloc ?_ _)); refine blk_put (cs := #[.slice none 0 0, .int .i64 0]) ?_ 0 _ rfl; (with_reducible repeat (first | refine blk_drewN ?_ _ | refine blk_drew ?_ | refine blk_alloc ?_ _)); exact BK312.out) Try.underlying66 rfl (by kernel_rfl)) rfl ?_
        exact ⟨_, by first | rfl | (simp [errW_none, errW_some] <;> rfl) | (simp [*, errW_none, errW_some] <;> rfl), by (with_reducible repeat (first | apply Kd.R_alloc | apply Kd.R_drewN | apply Kd.R_drew)); exact Kd.R_mono (Kd.R_far (p := ⟨gb312, 1, none⟩) (Kd.R_far (p := ⟨gb312, 0, none⟩) (Kd.R_types HO_314000.out BK312.out (by decide)) (fun _ hk => hk.2) (.slice Ao30 x314000_1.length co30)) (fun _ hk => hk.2) (.int .i64 a0_1)) (fun _ hk => trivial), by repeat (first | (with_reducible first | exact HB.out | apply below_alloc | apply pw_below_drewN | apply below_drew1 | refine below_set ?_ GE311.out | refine below_set ?_ GE312.out | refine below_set ?_ GE313.out) | exact HB.out)⟩

end Go.Proofs.Ytblooffiggciiaa.PPs
/- PPsx54 -/
namespace Go.Proofs.Ytblooffiggciiaa.PPs
open Go.RowKit Go.Proofs.YtblooffiggciiaaW.PrintWords Go.Proofs.YtblooffiggciiaaW.PrintLast Go.Proofs.YtblooffiggciiaaW.PrintMore
attribute [local go_sem] max2_int min2_int max_two min_two max_three min_three max_four min_four   -- for this text's walks alone
attribute [local go_sem] Go.Proofs.Ytblooffiggciiaa.Aid.isSome_setCell
def weftlinelaw14_told.f (k : Nat) (l0_0 : List (S34)) (a0_1 : Int) (a1 : Option Int) (l2_0 : List (S29)) (a2_1 : Int) (a3 : Int) : Option (Bool) := (weftlinenum_Num.f a1).bind fun t332 => (if t332 = a3 then ((weftlinelaw14_Document.f k l0_0 a0_1).bind fun bt333 => ((weftlineref14_Same.f k bt333.1 bt333.2 l2_0 a2_1).bind fun t337 => (some t337))) else (some false))
def weftlinelaw14_told.T1 : Bool × List (List Nat × List Nat) := (true, [([], []), ([0], [0]), ([], []), ([1, 2], [1, 2]), ([3, 1], [3]), ([4], [4]), ([5, 4, 4], [4, 5]), ([4], [4]), ([6, 7, 6, 4], [4, 6, 7]), ([4, 8], [4, 8]), ([9, 8, 0, 1, 2, 3, 4, 5, 6, 7, 8, 9], [9])])
def weftlinelaw14_told.B1 : List Nat := [0, 1, 0, 7, 15, 31, 63, 31, 255, 511, 1023]
theorem weftlinelaw14_told.tab1 : rtab .any (opsOf Try.f41 1) = weftlinelaw14_told.T1 := by kernel_rfl
theorem weftlinelaw14_told.bits1 : waitsOk weftlinelaw14_told.T1.2 weftlinelaw14_told.B1 = true := by kernel_rfl
set_option maxHeartbeats 8000000 in
set_option maxRecDepth 100000 in
theorem weftlinelaw14_told.calls (k : Nat) (A0_0 : Option Addr) (c0_0 : Nat) (l0_0 : List (S34)) (a0_1 : Int) (a1 : Option Int) (A2_0 : Option Addr) (c2_0 : Nat) (l2_0 : List (S29)) (a2_1 : Int) (a3 : Int) (r : Bool) (w : World) (hr0_0 : Kd.C k34 w A0_0 l0_0.length l0_0) (hc0_0 : l0_0.length ≤ c0_0) (hr2_0 : Kd.C k29 w A2_0 l2_0.length l2_0) (hc2_0 : l2_0.length ≤ c2_0) (h : weftlinelaw14_told.f k l0_0 a0_1 a1 l2_0 a2_1 a3 = some r) :
    Calls Try.prog 41 #[.agg #[.slice A0_0 l0_0.length c0_0, .int .i64 a0_1], errW a1, .agg #[.slice A2_0 l2_0.length c2_0, .int .i64 a2_1], .int .i64 a3] w fun e w' => e = .returned (.bool r) ∧ Below w.heap.size w w' := by
  have hu70 := Try.underlying70
  have hu66 := Try.underlying66
  have HR0_0 := Aside0.mk hr0_0
  have HC0_0 := Aside0.mk hc0_0
  clear hr0_0 hc0_0
  have HR2_0 := Aside0.mk hr2_0
  have HC2_0 := Aside0.mk hc2_0
  clear hr2_0 hc2_0
  have HB := Aside0.mk (Below.refl w.heap.size w)
  have H : ((weftlinenum_Num.f a1).bind fun t332 => (if t332 = a3 then ((weftlinelaw14_Document.f k l0_0 a0_1).bind fun bt333 => ((weftlineref14_Same.f k bt333.1 bt333.2 l2_0 a2_1).bind fun t337 => (some t337))) else (some false))) = some r := h
  clear h
  replace H := Option.bind_eq_some_iff.mp H
  obtain ⟨t332, A50, H⟩ := H
  replace H : (if t332 = a3 then ((weftlinelaw14_Document.f k l0_0 a0_1).bind fun bt333 => ((weftlineref14_Same.f k bt333.1 bt333.2 l2_0 a2_1).bind fun t337 => (some t337))) else (some false)) = some r := H
  have A5 := Aside0.mk A50
  clear A50
  by_cases c6 : t332 = a3
  · rw [if_pos c6] at H
    have c6b0 : (t332 == a3) = true := beq_iff_eq.mpr c6
    have c6b1 : (t332 != a3) = false := bne_eq_false_iff_eq.mpr c6
    clear c6
    replace H := Option.bind_eq_some_iff.mp H
    obtain ⟨⟨t333, t336⟩, A70, H⟩ := H
    replace H : ((weftlineref14_Same.f k t333 t336 l2_0 a2_1).bind fun t337 => (some t337)) = some r := H
    have A7 := Aside0.mk A70
    clear A70
    replace H := Option.bind_eq_some_iff.mp H
    obtain ⟨t337, A80, H⟩ := H
    replace H : (some t337) = some r := H
    have A8 := Aside0.mk A80
    clear A80
    obtain rfl := Option.some.inj H
    go_enter Try.func41, Try.ntmps41
    try go_wp2_with (first | ((with_reducible refine gate_dst (N := 4) rfl ?_); refine box_event ?hg (N := 4) ?hd (cs := #[.slice A0_0 l0_0.length c0_0, .int .i64 a0_1]) (t := 70) ?hr ?_; (case hd => rfl); (case hg => rfl); (case hr => first | (go_simp; done) | (go_simp; rfl)); intro gb330 hg w9 hbox hb; have n0_ := Aside0.mk (below_step (by repeat (first | (with_reducible first | exact HB.out | apply below_alloc | apply pw_below_drewN | apply below_drew1) | exact HB.out)) hb); have n1_ := Aside0.mk (hbox); have n2_ := Aside0.mk ((by rw [hg]; exact (below_size (by repeat (first | (with_reducible first | exact HB.out | apply below_alloc | apply pw_below_drewN | apply below_drew1) | exact HB.out))) : w.heap.size ≤ gb330)); have n3_ := Aside0.mk ((by rw [hg]; exact (below_size (by repeat (first | (with_reducible first | exact HB.out | apply below_alloc | apply pw_below_drewN | apply below_drew1) | exact HB.out))) : w.heap.size ≤ gb330)); clear HB; have HB := n0_; have BK330 := n1_; have GW330 := n2_; have GE330 := n3_; clear n0_ n1_ n2_ n3_; clear hb hbox hg) | ((with_reducible refine gate_dst (N := 6) rfl ?_); refine box_event ?hg (N := 6) ?hd (cs := #[.slice A2_0 l2_0.length c2_0, .int .i64 a2_1]) (t := 66) ?hr ?_; (case hd => rfl); (case hg => rfl); (case hr => first | (go_simp; done) | (go_simp; rfl)); intro gb331 hg w10 hbox hb; have n0_ := Aside0.mk (blk_below (g := gb330) (o := .cells #[.slice A0_0 l0_0.length c0_0, .int .i64 a0_1] 70 (0, 0)) (by (with_reducible repeat (first | refine blk_drewN ?_ _ | refine blk_drew ?_ | refine blk_alloc ?_ _)); exact BK330.out) hb); have n1_ := Aside0.mk (below_step (by repeat (first | (with_reducible first | exact HB.out | apply below_alloc | apply pw_below_drewN | apply below_drew1 | refine below_set ?_ GE330.out) | exact HB.out)) hb); have n2_ := Aside0.mk (hbox); have n3_ := Aside0.mk ((by rw [hg]; exact (below_size (by repeat (first | (with_reducible first | exact HB.out | apply below_alloc | apply pw_below_drewN | apply below_drew1 | refine below_set ?_ GE330.out) | exact HB.out))) : w.heap.size ≤ gb331)); have n4_ := Aside0.mk ((by rw [hg]; exact (below_size (by repeat (first | (with_reducible first | exact HB.out | apply below_alloc | apply pw_below_drewN | apply below_drew1 | refine below_set ?_ GE330.out) | exact HB.out))) : w.heap.size ≤ gb331)); have n5_ := Aside0.mk ((by rw [hg]; exact Nat.ne_of_lt (blk_lt (g := gb330) (o := .cells #[.slice A0_0 l0_0.length c0_0, .int .i64 a0_1] 70 (0, 0)) (by (with_reducible repeat (first | refine blk_drewN ?_ _ | refine blk_drew ?_ | refine blk_alloc ?_ _)); exact BK330.out)) : gb330 ≠ gb331)); have n6_ := Aside0.mk ((by rw [hg]; exact Nat.ne_of_gt (blk_lt (g := gb330) (o := .cells #[.slice A0_0 l0_0.length c0_0, .int .i64 a0_1] 70 (0, 0)) (by (with_reducible repeat (first | refine blk_drewN ?_ _ | refine blk_drew ?_ | refine blk_alloc ?_ _)); exact BK330.out)) : gb331 ≠ gb330)); clear BK330; clear HB; have BK330 := n0_; have HB := n1_; have BK331 := n2_; have GW331 := n3_; have GE331 := n4_; have NB330_331 := n5_; have NB331_330 := n6_; clear n0_ n1_ n2_ n3_ n4_ n5_ n6_; clear hb hbox hg))
    have n0_ := Aside0.mk (blk_drew BK330.out)
    have n1_ := Aside0.mk (blk_drew BK331.out)
    have n2_ := Aside0.mk (below_drew1 HB.out)
    clear BK330
    clear BK331
    clear HB
    have BK330 := n0_
    have BK331 := n1_
    have HB := n2_
    clear n0_ n1_ n2_
    have CA5 := fun W => weftlinenum_Num.calls a1 t332 W A5.out
    try simp only [errW_none, errW_some] at CA5
    refine start_ (n := 11) (S := fun w' => w'.cell? ⟨gb330, 0, none⟩ = some (.slice A0_0 l0_0.length c0_0) ∧ w'.cell? ⟨gb330, 1, none⟩ = some (.int .i64 a0_1) ∧ w'.cell? ⟨gb331, 0, none⟩ = some (.slice A2_0 l2_0.length c2_0) ∧ w'.cell? ⟨gb331, 1, none⟩ = some (.int .i64 a2_1)) (ds := []) #[false, false, false, false, false, false, false, false, false, false, false] (by kernel_rfl) rfl rfl ⟨(blk_cell BK330.out 0).trans rfl, (blk_cell BK330.out 1).trans rfl, (blk_cell BK331.out 0).trans rfl, (blk_cell BK331.out 1).trans rfl⟩ (fun hHeld => ?_); refine with_tabW weftlinelaw14_told.tab1 weftlinelaw14_told.bits1 (fun HT_ HW_ => ?_)
    generalize w10.drew = w11 at BK330 BK331 HB hHeld ⊢
    refine pure_ (i := 0) (N := some 9) (v := ?_) (a' := ?_) #[true, false, false, false, false, false, false, false, false, false, false] rfl rfl (any_of HT_.out (by kernel_rfl)) (fun _ _ _ h => h) (Or.inl ⟨by rfl, ?_⟩) ?_ ?_
    rotate_left
    · intro w'
      go_simp
      with_reducible rfl
    rotate_left
    · simp only [Act.put, List.setIfInBounds_toArray, List.set_cons_zero, List.set_cons_succ, i64_w, i32_w]
      rfl
    refine pure_ (i := 2) (N := some 11) (v := ?_) (a' := ?_) #[true, false, true, false, false, false, false, false, false, false, false] rfl rfl (any_of HT_.out (by kernel_rfl)) (fun _ _ _ h => h) (Or.inl ⟨by rfl, ?_⟩) ?_ ?_
    rotate_left
    · intro w'
      go_simp
      with_reducible rfl
    rotate_left
    · simp only [Act.put, List.setIfInBounds_toArray, List.set_cons_zero, List.set_cons_succ, i64_w, i32_w]
      rfl
    refine one_ (i := 1) (N := some 10) #[true, true, true, false, false, false, false, false, false, false, false] rfl rfl (one_of HT_.out (by kernel_rfl)) (by decide) (fun K hK => ?_)
    refine goes_ Try.func33 (by kernel_rfl) rfl #[errW a1] (by rfl) rfl rfl (by (try simp only [List.map_toArray, List.map_cons, List.map_nil]); first | done | rfl | (simp only [List.length_drop, List.length_take]; rfl)) ?_
    with_reducible refine (CA5 _).mono ?_
    rintro e w' ⟨rfl, ⟨nd, rfl⟩⟩
    refine ⟨_, rfl, ?_⟩
    refine hK.out _ _ ⟨(blk_cell BK330.out 0).trans rfl, (blk_cell BK330.out 1).trans rfl, (blk_cell BK331.out 0).trans rfl, (blk_cell BK331.out 1).trans rfl⟩ (fun hHeld => ?_)
    clear hK K
    refine norm_ (a' := ?_) ?_ ?_
    rotate_left
    · show Act.put _ (some 10) _ = _
      simp only [Act.put, List.setIfInBounds_toArray, List.set_cons_zero, List.set_cons_succ, i64_w, i32_w]
      rfl
    refine pure_ (i := 3) (N := some 12) (v := ?_) (a' := ?_) #[true, true, true, true, false, false, false, false, false, false, false] rfl rfl (any_of HT_.out (by kernel_rfl)) (fun _ _ _ h => h) (Or.inl ⟨by rfl, ?_⟩) ?_ ?_
    rotate_left
    · intro w'
      go_simp
      with_reducible rfl
    rotate_left
    · simp only [Act.put, List.setIfInBounds_toArray, List.set_cons_zero, List.set_cons_succ, i64_w, i32_w]
      rfl
    refine pure_ (i := 4) (N := some 13) (v := ?_) (a' := ?_) #[true, true, true, true, true, false, false, false, false, false, false] rfl rfl (any_of HT_.out (by kernel_rfl)) (fun _ _ _ h => h) (Or.inl ⟨by rfl, ?_⟩) ?_ ?_
    rotate_left
    · intro w'
      go_simp
      with_reducible rfl
    rotate_left
    · simp only [Act.put, List.setIfInBounds_toArray, List.set_cons_zero, List.set_cons_succ, i64_w, i32_w]
      rfl
    refine take_ (i := 5) (N := some 14) (v := ?_) (a' := ?_) #[true, true, true, true, true, true, false, false, false, false, false] rfl rfl (take_ofW HT_.out HW_.out (by kernel_rfl)) (fun _ _ _ h => h) (Or.inl ⟨by rfl, ?_⟩) hHeld ?_ ?_
    rotate_left
    · rintro w' ⟨s0, s1, s2, s3⟩
      go_simp
      with_reducible rfl
    rotate_left
    · simp only [Act.put, List.setIfInBounds_toArray, List.set_cons_zero, List.set_cons_succ, i64_w, i32_w]
      rfl
    refine take_ (i := 7) (N := some 16) (v := ?_) (a' := ?_) #[true, true, true, true, true, true, false, true, false, false, false] rfl rfl (take_ofW HT_.out HW_.out (by kernel_rfl)) (fun _ _ _ h => h) (Or.inl ⟨by rfl, ?_⟩) hHeld ?_ ?_
    rotate_left
    · rintro w' ⟨s0, s1, s2, s3⟩
      go_simp
      with_reducible rfl
    rotate_left
    · simp only [Act.put, List.setIfInBounds_toArray, List.set_cons_zero, List.set_cons_succ, i64_w, i32_w]
      rfl
    refine one_ (i := 6) (N := some 15) #[true, true, true, true, true, true, true, true, false, false, false] rfl rfl (one_of HT_.out (by kernel_rfl)) (by decide) (fun K hK => ?_)
    refine goes_ Try.func43 (by kernel_rfl) rfl #[.agg #[.slice A0_0 l0_0.length c0_0, .int .i64 a0_1]] (by rfl) rfl rfl (by (try simp only [List.map_toArray, List.map_cons, List.map_nil]); first | done | rfl | (simp only [List.length_drop, List.length_take]; rfl)) ?_
    with_reducible refine (weftlinelaw14_Document.calls k _ _ l0_0 a0_1 t333 t336 _ ?side1 ?side2 A7.out).mono ?_
    (case side1 => repeat (first | exact (Kd.C_below HR0_0.out (by repeat (first | (with_reducible first | exact HB.out | apply below_alloc | apply pw_below_drewN | apply below_drew1 | refine below_set ?_ GE330.out | refine below_set ?_ GE331.out) | exact HB.out))) | (with_reducible refine Kd.C_alloc ?_ _) | (with_reducible refine Kd.C_drewN ?_ _) | (with_reducible refine Kd.C_drew ?_)))
    (case side2 => exact HC0_0.out)
    rintro e w12 ⟨v334, rfl, ho0, hb⟩
    refine ⟨_, rfl, ?_⟩
    have n0_ := Aside0.mk (Kd.R_lower ho0 (below_size (by repeat (first | (with_reducible first | exact HB.out | apply below_alloc | apply pw_below_drewN | apply below_drew1 | refine below_set ?_ GE330.out | refine below_set ?_ GE331.out) | exact HB.out))))
    have n1_ := Aside0.mk (blk_below (g := gb330) (o := .cells #[.slice A0_0 l0_0.length c0_0, .int .i64 a0_1] 70 (0, 0)) (by (with_reducible repeat (first | refine blk_drewN ?_ _ | refine blk_drew ?_ | refine blk_alloc ?_ _)); exact BK330.out) hb)
    have n2_ := Aside0.mk (blk_below (g := gb331) (o := .cells #[.slice A2_0 l2_0.length c2_0, .int .i64 a2_1] 66 (0, 0)) (by (with_reducible repeat (first | refine blk_drewN ?_ _ | refine blk_drew ?_ | refine blk_alloc ?_ _)); exact BK331.out) hb)
    have n3_ := Aside0.mk (below_step (by repeat (first | (with_reducible first | exact HB.out | apply below_alloc | apply pw_below_drewN | apply below_drew1 | refine below_set ?_ GE330.out | refine below_set ?_ GE331.out) | exact HB.out)) hb)
    clear BK330
    clear BK331
    clear HB
    have HO335 := n0_
    have BK330 := n1_
    have BK331 := n2_
    have HB := n3_
    clear n0_ n1_ n2_ n3_
    (try clear hb)
    (try clear hb2)
    (try clear hk)
    (try clear hi)
    (try clear ho0)
    obtain ⟨Ao13, co13, eo13⟩ := Kd.R_slice HO335.out
    (first | subst eo13 | (injection eo13 with f1_ f2_ f3_; have f4_ := f1_.symm; have f5_ := f3_.symm; clear f1_ f2_ f3_; subst f4_; subst f5_))
    refine hK.out _ _ ⟨(blk_cell BK330.out 0).trans rfl, (blk_cell BK330.out 1).trans rfl, (blk_cell BK331.out 0).trans rfl, (blk_cell BK331.out 1).trans rfl⟩ (fun hHeld => ?_)
    clear hK K
    refine norm_ (a' := ?_) ?_ ?_
    rotate_left
    · show Act.put _ (some 15) _ = _
      simp only [Act.put, List.setIfInBounds_toArray, List.set_cons_zero, List.set_cons_succ, i64_w, i32_w]
      rfl
    refine one_ (i := 8) (N := some 17) #[true, true, true, true, true, true, true, true, true, false, false] rfl rfl (one_of HT_.out (by kernel_rfl)) (by decide) (fun K hK => ?_)
    refine goes_ Try.func42 (by kernel_rfl) rfl #[.agg #[.slice Ao13 t333.length co13, .int .i64 t336], .agg #[.slice A2_0 l2_0.length c2_0, .int .i64 a2_1]] (by rfl) rfl rfl (by (try simp only [List.map_toArray, List.map_cons, List.map_nil]); first | done | rfl | (simp only [List.length_drop, List.length_take]; rfl)) ?_
    with_reducible refine (weftlineref14_Same.calls k _ _ t333 t336 _ _ l2_0 a2_1 t337 _ ?side1 ?side2 ?side3 ?side4 A8.out).mono ?_
    (case side1 => repeat (first | exact (Kd.R_reads' HO335.out).2.2 | (with_reducible refine Kd.C_alloc ?_ _) | (with_reducible refine Kd.C_drewN ?_ _) | (with_reducible refine Kd.C_drew ?_)))
    (case side2 => exact (Kd.R_reads' HO335.out).2.1)
    (case side3 => repeat (first | exact (Kd.C_below HR2_0.out HB.out) | (with_reducible refine Kd.C_alloc ?_ _) | (with_reducible refine Kd.C_drewN ?_ _) | (with_reducible refine Kd.C_drew ?_)))
    (case side4 => exact HC2_0.out)
    rintro e w14 ⟨rfl, hb⟩
    refine ⟨_, rfl, ?_⟩
    have n0_ := Aside0.mk (Kd.R_below (by (with_reducible repeat (first | apply Kd.R_alloc | apply Kd.R_drewN | apply Kd.R_drew)); exact HO335.out) hb)
    have n1_ := Aside0.mk (blk_below (g := gb330) (o := .cells #[.slice A0_0 l0_0.length c0_0, .int .i64 a0_1] 70 (0, 0)) (by (with_reducible repeat (first | refine blk_drewN ?_ _ | refine blk_drew ?_ | refine blk_alloc ?_ _)); exact BK330.out) hb)
    have n2_ := Aside0.mk (blk_below (g := gb331) (o := .cells #[.slice A2_0 l2_0.length c2_0, .int .i64 a2_1] 66 (0, 0)) (by (with_reducible repeat (first | refine blk_drewN ?_ _ | refine blk_drew ?_ | refine blk_alloc ?_ _)); exact BK331.out) hb)
    have n3_ := Aside0.mk (below_step (by repeat (first | (with_reducible first | exact HB.out | apply below_alloc | apply pw_below_drewN | apply below_drew1 | refine below_set ?_ GE330.out | refine below_set ?_ GE331.out) | exact HB.out)) hb)
    clear HO335
    clear BK330
    clear BK331
    clear HB
    have HO335 := n0_
    have BK330 := n1_
    have BK331 := n2_
    have HB := n3_
    clear n0_ n1_ n2_ n3_
    (try clear hb)
    (try clear hb2)
    (try clear hk)
    (try clear hi)
    refine hK.out _ _ ⟨(blk_cell BK330.out 0).trans rfl, (blk_cell BK330.out 1).trans rfl, (blk_cell BK331.out 0).trans rfl, (blk_cell BK331.out 1).trans rfl⟩ (fun hHeld => ?_)
    clear hK K
    refine norm_ (a' := ?_) ?_ ?_
    rotate_left
    · show Act.put _ (some 17) _ = _
      simp only [Act.put, List.setIfInBounds_toArray, List.set_cons_zero, List.set_cons_succ, i64_w, i32_w]
      rfl
    refine pure_ (i := 9) (N := some 18) (v := ?_) (a' := ?_) #[true, true, true, true, true, true, true, true, true, true, false] rfl rfl (any_of HT_.out (by kernel_rfl)) (fun _ _ _ h => h) (Or.inl ⟨by rfl, ?_⟩) ?_ ?_
    rotate_left
    · intro w'
      go_simp
      with_reducible rfl
    rotate_left
    · simp only [Act.put, List.setIfInBounds_toArray, List.set_cons_zero, List.set_cons_succ, i64_w, i32_w]
      rfl
    refine pure_ (i := 10) (N := some 8) (v := ?_) (a' := ?_) #[true, true, true, true, true, true, true, true, true, true, true] rfl rfl (any_of HT_.out (by kernel_rfl)) (fun _ _ _ h => h) (Or.inl ⟨by rfl, ?_⟩) ?_ ?_
    rotate_left
    · intro w'
      go_simp
      with_reducible rfl
    rotate_left
    · simp only [Act.put, List.setIfInBounds_toArray, List.set_cons_zero, List.set_cons_succ, i64_w, i32_w]
      rfl
    refine done_ (done_of HT_.out (by kernel_rfl)) ?_
    try go_wp2
    go_ret
    exact ⟨by first | rfl | (simp [errW_none, errW_some] <;> rfl) | (simp [*, errW_none, errW_some] <;> rfl), by repeat (first | (with_reducible first | exact HB.out | apply below_alloc | apply pw_below_drewN | apply below_drew1 | refine below_set ?_ GE330.out | refine below_set ?_ GE331.out) | exact HB.out)⟩
  · rw [if_neg c6] at H
    have c6b0 : (t332 == a3) = false := beq_eq_false_iff_ne.mpr c6
    have c6b1 : (t332 != a3) = true := bne_iff_ne.mpr c6
    obtain rfl := Option.some.inj H
    go_enter Try.func41, Try.ntmps41
    try go_wp2_with (first | ((with_reducible refine gate_dst (N := 4) rfl ?_); refine box_event ?hg (N := 4) ?hd (cs := #[.slice A0_0 l0_0.length c0_0, .int .i64 a0_1]) (t := 70) ?hr ?_; (case hd => rfl); (case hg => rfl); (case hr => first | (go_simp; done) | (go_simp; rfl)); intro gb330 hg w15 hbox hb; have n0_ := Aside0.mk (below_step (by repeat (first | (with_reducible first | exact HB.out | apply below_alloc | apply pw_below_drewN | apply below_drew1) | exact HB.out)) hb); have n1_ := Aside0.mk (hbox); have n2_ := Aside0.mk ((by rw [hg]; exact (below_size (by repeat (first | (with_reducible first | exact HB.out | apply below_alloc | apply pw_below_drewN | apply below_drew1) | exact HB.out))) : w.heap.size ≤ gb330)); have n3_ := Aside0.mk ((by rw [hg]; exact (below_size (by repeat (first | (with_reducible first | exact HB.out | apply below_alloc | apply pw_below_drewN | apply below_drew1) | exact HB.out))) : w.heap.size ≤ gb330)); clear HB; have HB := n0_; have BK330 := n1_; have GW330 := n2_; have GE330 := n3_; clear n0_ n1_ n2_ n3_; clear hb hbox hg) | ((with_reducible refine gate_dst (N := 6) rfl ?_); refine box_event ?hg (N := 6) ?hd (cs := #[.slice A2_0 l2_0.length c2_0, .int .i64 a2_1]) (t := 66) ?hr ?_; (case hd => rfl); (case hg => rfl); (case hr => first | (go_simp; done) | (go_simp; rfl)); intro gb331 hg w16 hbox hb; have n0_ := Aside0.mk (blk_below (g := gb330) (o := .cells #[.slice A0_0 l0_0.length c0_0, .int .i64 a0_1] 70 (0, 0)) (by (with_reducible repeat (first | refine blk_drewN ?_ _ | refine blk_drew ?_ | refine blk_alloc ?_ _)); exact BK330.out) hb); have n1_ := Aside0.mk (below_step (by repeat (first | (with_reducible first | exact HB.out | apply below_alloc | apply pw_below_drewN | apply below_drew1 | refine below_set ?_ GE330.out) | exact HB.out)) hb); have n2_ := Aside0.mk (hbox); have n3_ := Aside0.mk ((by rw [hg]; exact (below_size (by repeat (first | (with_reducible first | exact HB.out | apply below_alloc | apply pw_below_drewN | apply below_drew1 | refine below_set ?_ GE330.out) | exact HB.out))) : w.heap.size ≤ gb331)); have n4_ := Aside0.mk ((by rw [hg]; exact (below_size (by repeat (first | (with_reducible first | exact HB.out | apply below_alloc | apply pw_below_drewN | apply below_drew1 | refine below_set ?_ GE330.out) | exact HB.out))) : w.heap.size ≤ gb331)); have n5_ := Aside0.mk ((by rw [hg]; exact Nat.ne_of_lt (blk_lt (g := gb330) (o := .cells #[.slice A0_0 l0_0.length c0_0, .int .i64 a0_1] 70 (0, 0)) (by (with_reducible repeat (first | refine blk_drewN ?_ _ | refine blk_drew ?_ | refine blk_alloc ?_ _)); exact BK330.out)) : gb330 ≠ gb331)); have n6_ := Aside0.mk ((by rw [hg]; exact Nat.ne_of_gt (blk_lt (g := gb330) (o := .cells #[.slice A0_0 l0_0.length c0_0, .int .i64 a0_1] 70 (0, 0)) (by (with_reducible repeat (first | refine blk_drewN ?_ _ | refine blk_drew ?_ | refine blk_alloc ?_ _)); exact BK330.out)) : gb331 ≠ gb330)); clear BK330; clear HB; have BK330 := n0_; have HB := n1_; have BK331 := n2_; have GW331 := n3_; have GE331 := n4_; have NB330_331 := n5_; have NB331_330 := n6_; clear n0_ n1_ n2_ n3_ n4_ n5_ n6_; clear hb hbox hg))
    have n0_ := Aside0.mk (blk_drew BK330.out)
    have n1_ := Aside0.mk (blk_drew BK331.out)
    have n2_ := Aside0.mk (below_drew1 HB.out)
    clear BK330
    clear BK331
    clear HB
    have BK330 := n0_
    have BK331 := n1_
    have HB := n2_
    clear n0_ n1_ n2_
    have CA5 := fun W => weftlinenum_Num.calls a1 t332 W A5.out
    try simp only [errW_none, errW_some] at CA5
    refine start_ (n := 11) (S := fun w' => True) (ds := []) #[false, false, false, false, false, false, false, false, false, false, false] (by kernel_rfl) rfl rfl trivial (fun hHeld => ?_); refine with_tabW weftlinelaw14_told.tab1 weftlinelaw14_told.bits1 (fun HT_ HW_ => ?_)
    generalize w16.drew = w17 at BK330 BK331 HB hHeld ⊢
    refine pure_ (i := 0) (N := some 9) (v := ?_) (a' := ?_) #[true, false, false, false, false, false, false, false, false, false, false] rfl rfl (any_of HT_.out (by kernel_rfl)) (fun _ _ _ h => h) (Or.inl ⟨by rfl, ?_⟩) ?_ ?_
    rotate_left
    · intro w'
      go_simp
      with_reducible rfl
    rotate_left
    · simp only [Act.put, List.setIfInBounds_toArray, List.set_cons_zero, List.set_cons_succ, i64_w, i32_w]
      rfl
    refine pure_ (i := 2) (N := some 11) (v := ?_) (a' := ?_) #[true, false, true, false, false, false, false, false, false, false, false] rfl rfl (any_of HT_.out (by kernel_rfl)) (fun _ _ _ h => h) (Or.inl ⟨by rfl, ?_⟩) ?_ ?_
    rotate_left
    · intro w'
      go_simp
      with_reducible rfl
    rotate_left
    · simp only [Act.put, List.setIfInBounds_toArray, List.set_cons_zero, List.set_cons_succ, i64_w, i32_w]
      rfl
    refine one_ (i := 1) (N := some 10) #[true, true, true, false, false, false, false, false, false, false, false] rfl rfl (one_of HT_.out (by kernel_rfl)) (by decide) (fun K hK => ?_)
    refine goes_ Try.func33 (by kernel_rfl) rfl #[errW a1] (by rfl) rfl rfl (by (try simp only [List.map_toArray, List.map_cons, List.map_nil]); first | done | rfl | (simp only [List.length_drop, List.length_take]; rfl)) ?_
    with_reducible refine (CA5 _).mono ?_
    rintro e w' ⟨rfl, ⟨nd, rfl⟩⟩
    refine ⟨_, rfl, ?_⟩
    refine hK.out _ _ trivial (fun hHeld => ?_)
    clear hK K
    refine norm_ (a' := ?_) ?_ ?_
    rotate_left
    · show Act.put _ (some 10) _ = _
      simp only [Act.put, List.setIfInBounds_toArray, List.set_cons_zero, List.set_cons_succ, i64_w, i32_w]
      rfl
    refine pure_ (i := 3) (N := some 12) (v := ?_) (a' := ?_) #[true, true, true, true, false, false, false, false, false, false, false] rfl rfl (any_of HT_.out (by kernel_rfl)) (fun _ _ _ h => h) (Or.inl ⟨by rfl, ?_⟩) ?_ ?_
    rotate_left
    · intro w'
      go_simp
      with_reducible rfl
    rotate_left
    · simp only [Act.put, List.setIfInBounds_toArray, List.set_cons_zero, List.set_cons_succ, i64_w, i32_w]
      rfl
    refine pure_ (i := 4) (N := some 13) (v := ?_) (a' := ?_) #[true, true, true, true, true, false, false, false, false, false, false] rfl rfl (any_of HT_.out (by kernel_rfl)) (fun _ _ _ h => h) (Or.inl ⟨by rfl, ?_⟩) ?_ ?_
    rotate_left
    · intro w'
      go_simp
      with_reducible rfl
    rotate_left
    · simp only [Act.put, List.setIfInBounds_toArray, List.set_cons_zero, List.set_cons_succ, i64_w, i32_w]
      rfl
    refine pure_ (i := 5) (N := some 14) (v := undef) (a' := ?_) #[true, true, true, true, true, true, false, false, false, false, false] rfl rfl (any_of HT_.out (by kernel_rfl)) (fun _ _ _ h => h) (Or.inr ⟨by rfl, rfl⟩) ?_ ?_
    rotate_left
    · simp only [Act.put, List.setIfInBounds_toArray, List.set_cons_zero, List.set_cons_succ, i64_w, i32_w]
      rfl
    refine pure_ (i := 6) (N := some 15) (v := undef) (a' := ?_) #[true, true, true, true, true, true, true, false, false, false, false] rfl rfl (any_of HT_.out (by kernel_rfl)) (fun _ _ _ h => h) (Or.inr ⟨by rfl, rfl⟩) ?_ ?_
    rotate_left
    · simp only [Act.put, List.setIfInBounds_toArray, List.set_cons_zero, List.set_cons_succ, i64_w, i32_w]
      rfl
    refine pure_ (i := 7) (N := some 16) (v := undef) (a' := ?_) #[true, true, true, true, true, true, true, true, false, false, false] rfl rfl (any_of HT_.out (by kernel_rfl)) (fun _ _ _ h => h) (Or.inr ⟨by rfl, rfl⟩) ?_ ?_
    rotate_left
    · simp only [Act.put, List.setIfInBounds_toArray, List.set_cons_zero, List.set_cons_succ, i64_w, i32_w]
      rfl
    refine pure_ (i := 8) (N := some 17) (v := undef) (a' := ?_) #[true, true, true, true, true, true, true, true, true, false, false] rfl rfl (any_of HT_.out (by kernel_rfl)) (fun _ _ _ h => h) (Or.inr ⟨by rfl, rfl⟩) ?_ ?_
    rotate_left
    · simp only [Act.put, List.setIfInBounds_toArray, List.set_cons_zero, List.set_cons_succ, i64_w, i32_w]
      rfl
    refine pure_ (i := 9) (N := some 18) (v := ?_) (a' := ?_) #[true, true, true, true, true, true, true, true, true, true, false] rfl rfl (any_of HT_.out (by kernel_rfl)) (fun _ _ _ h => h) (Or.inl ⟨by rfl, ?_⟩) ?_ ?_
    rotate_left
    · intro w'
      go_simp
      with_reducible rfl
    rotate_left
    · simp only [Act.put, List.setIfInBounds_toArray, List.set_cons_zero, List.set_cons_succ, i64_w, i32_w]
      rfl
    refine pure_ (i := 10) (N := some 8) (v := ?_) (a' := ?_) #[true, true, true, true, true, true, true, true, true, true, true] rfl rfl (any_of HT_.out (by kernel_rfl)) (fun _ _ _ h => h) (Or.inl ⟨by rfl, ?_⟩) ?_ ?_
    rotate_left
    · intro w'
      go_simp
      with_reducible rfl
    rotate_left
    · simp only [Act.put, List.setIfInBounds_toArray, List.set_cons_zero, List.set_cons_succ, i64_w, i32_w]
      rfl
    refine done_ (done_of HT_.out (by kernel_rfl)) ?_
    try go_wp2
    go_ret
    exact ⟨by first | rfl | (simp [errW_none, errW_some] <;> rfl) | (simp [*, errW_none, errW_some] <;> rfl), by repeat (first | (with_reducible first | exact HB.out | apply below_alloc | apply pw_below_drewN | apply below_drew1 | refine below_set ?_ GE330.out | refine below_set ?_ GE331.out) | exact HB.out)⟩

end Go.Proofs.Ytblooffiggciiaa.PPs
/- PsR -/
namespace Go.Proofs.Ytblooffiggciiaa.Ps
open Go.RowKit Go.Proofs.Ytblooffiggciiaa.PPs Go.Proofs.YtblooffiggciiaaW.PrintWords Go.Proofs.YtblooffiggciiaaW.PrintLast Go.Proofs.YtblooffiggciiaaW.PrintMore Go.Proofs.Ytblooffiggciiaa.Sh
def cv (x : S29) : S34 := ⟨⟨x.f0.f0, x.f0.f1, x.f0.f2, x.f0.f3⟩, ⟨x.f1.f0, x.f1.f1, x.f1.f2⟩, x.f2, x.f3, x.f4, x.f5⟩
def vc (x : S34) : S29 := ⟨⟨x.f0.f0, x.f0.f1, x.f0.f2, x.f0.f3⟩, ⟨x.f1.f0, x.f1.f1, x.f1.f2⟩, x.f2, x.f3, x.f4, x.f5⟩
theorem rd29 (l : List S29) (j : Nat) (h : j < l.length) : rd_T29 l (j : Int) = l[j] := by
  unfold rd_T29; rw [Int.toNat_natCast, List.getD_eq_getElem?_getD, List.getElem?_eq_getElem h]; rfl
theorem rd34 (l : List S34) (j : Nat) (h : j < l.length) : rd_T34 l (j : Int) = l[j] := by
  unfold rd_T34; rw [Int.toNat_natCast, List.getD_eq_getElem?_getD, List.getElem?_eq_getElem h]; rfl
theorem next_i (j : Nat) (h : j ≤ 1000) : wrap64 ((j : Int) + 1) = ((j + 1 : Nat) : Int) := by rw [w64 (by omega) (by omega)]; rfl
theorem prog_l (l : List S29) (p : Int) (hl : l.length ≤ 1000) : ∀ (n j k : Nat) (acc : List S34), j + n = l.length → n < k → acc.length = j → weftlinelaw14_Program.l0 k l (l.length : Int) (j : Int) acc p = some (acc ++ (l.drop j).map cv, p)
  | 0, j, k + 1, acc, h, _, _ => by
    have : j = l.length := by omega
    subst this
    simp [weftlinelaw14_Program.l0]
  | n + 1, j, k + 1, acc, h, hk, ha => by
    have hj : j < l.length := by omega
    rw [weftlinelaw14_Program.l0, if_pos (by omega), if_pos (by omega), if_pos (by omega)]
    simp only [weftlinelaw13_Program.f, Option.bind_some]
    rw [if_pos (by omega), next_i j (by omega), prog_l l p hl n (j + 1) k _ (by omega) (by omega) (by simp [ha]), rd29 l j hj]
    conv => rhs; rw [List.drop_eq_getElem_cons hj, List.map_cons]
    rw [List.append_assoc]
    rfl
theorem prog_f {l : List S29} {p : Int} {k : Nat} (hl : l.length ≤ 1000) (hk : l.length < k) : weftlinelaw14_Program.f k l p = some (l.map cv, p) := by
  have := prog_l l p hl l.length 0 k [] (by omega) hk rfl
  unfold weftlinelaw14_Program.f
  simpa using this
theorem doc_l (l : List S34) (p : Int) (hl : l.length ≤ 1000) : ∀ (n j k : Nat) (acc : List S29), j + n = l.length → n < k → acc.length = j → weftlinelaw14_Document.l0 k l (l.length : Int) (j : Int) acc p = some (acc ++ (l.drop j).map vc, p)
  | 0, j, k + 1, acc, h, _, _ => by
    have : j = l.length := by omega
    subst this
    simp [weftlinelaw14_Document.l0]
  | n + 1, j, k + 1, acc, h, hk, ha => by
    have hj : j < l.length := by omega
    rw [weftlinelaw14_Document.l0, if_pos (by omega), if_pos (by omega), if_pos (by omega)]
    simp only [weftlinelaw13_Document.f, Option.bind_some]
    rw [if_pos (by omega), next_i j (by omega), doc_l l p hl n (j + 1) k _ (by omega) (by omega) (by simp [ha]), rd34 l j hj]
    conv => rhs; rw [List.drop_eq_getElem_cons hj, List.map_cons]
    rw [List.append_assoc]
    rfl
theorem doc_f {l : List S34} {p : Int} {k : Nat} (hl : l.length ≤ 1000) (hk : l.length < k) : weftlinelaw14_Document.f k l p = some (l.map vc, p) := by
  have := doc_l l p hl l.length 0 k [] (by omega) hk rfl
  unfold weftlinelaw14_Document.f
  simpa using this
theorem find_l (l : List S29) (p a : Int) (hl : l.length ≤ 1000) : ∀ (n j k : Nat), j + n = l.length → n < k → weftlineref14_find.l0 k a (j : Int) l p = some (ixF (fun x => x.f2 == a) ((l.map cv).drop j) j)
  | 0, j, k + 1, h, _ => by
    have : j = l.length := by omega
    subst this
    rw [weftlineref14_find.l0, if_neg (by omega), List.drop_of_length_le (by simp)]; rfl
  | n + 1, j, k + 1, h, hk => by
    have hj : j < l.length := by omega
    rw [weftlineref14_find.l0, if_pos (by omega), if_pos (by omega), rd29 l j hj, List.drop_eq_getElem_cons (by simpa using hj)]
    have he : (l.map cv)[j]'(by simpa using hj) = cv l[j] := by simp
    rw [he]
    show _ = some (if ((cv l[j]).f2 == a) = true then (j : Int) else ixF (fun x => x.f2 == a) ((l.map cv).drop (j + 1)) ((j : Int) + 1))
    by_cases hc : l[j].f2 = a
    · rw [if_pos hc, if_pos (by simpa [cv] using hc)]
    · rw [if_neg hc, if_neg (by simpa [cv] using hc), next_i j (by omega), find_l l p a hl n (j + 1) k (by omega) (by omega)]
      rfl
theorem find_f {l : List S29} {p a : Int} {k : Nat} (hl : l.length ≤ 1000) (hk : l.length < k) : weftlineref14_find.f k l p a = some (plc (l.map cv) a) := by
  have := find_l l p a hl l.length 0 k (by omega) hk
  unfold weftlineref14_find.f
  simpa [plc] using this
theorem ixF_le (p : S34 → Bool) : ∀ (l : List S34) (k : Int) (j : Nat), j < l.length → p (l.getD j z34) = true → k ≤ ixF p l k ∧ ixF p l k ≤ k + j
  | [], _, _, h, _ => absurd h (by simp)
  | x :: l, k, 0, _, h => by
    show k ≤ (if p x = true then k else ixF p l (k + 1)) ∧ (if p x = true then k else ixF p l (k + 1)) ≤ _
    rw [if_pos (by simpa using h)]; simp
  | x :: l, k, j + 1, h, hp => by
    have ih := ixF_le p l (k + 1) j (by simpa using h) (by simpa using hp)
    show k ≤ (if p x = true then k else ixF p l (k + 1)) ∧ (if p x = true then k else ixF p l (k + 1)) ≤ _
    by_cases hx : p x = true
    · rw [if_pos hx]; simp; omega
    · rw [if_neg hx]; constructor <;> (have := ih.1; have := ih.2; omega)
theorem plc_le {l : List S34} {j : Nat} (h : j < l.length) : 0 ≤ plc l (l.getD j z34).f2 ∧ plc l (l.getD j z34).f2 ≤ j := by
  have := ixF_le (fun x => x.f2 == (l.getD j z34).f2) l 0 j h (by simp)
  unfold plc
  omega
def okj (l : List S34) (j : Nat) : Bool := decide (G (l.getD j z34)) && (plc l (l.getD j z34).f2 == (j : Int))
theorem cvD (l : List S29) (j : Nat) (h : j < l.length) : (l.map cv).getD j z34 = cv l[j] := by
  rw [List.getD_eq_getElem?_getD, List.getElem?_map, List.getElem?_eq_getElem h]; rfl
theorem good_l (l : List S29) (p : Int) (hl : l.length ≤ 1000) : ∀ (n j k : Nat), j + n = l.length → n + l.length + 1 < k → weftlineref14_Good.l0 k (j : Int) l p = some ((List.range' j n).all (okj (l.map cv)))
  | 0, j, k + 1, h, _ => by
    have : j = l.length := by omega
    subst this
    rw [weftlineref14_Good.l0, if_neg (by omega)]; rfl
  | n + 1, j, k + 1, h, hk => by
    have hj : j < l.length := by omega
    obtain ⟨k2, rfl⟩ : ∃ k2, k = k2 + 1 := ⟨k - 1, by omega⟩
    have hle := plc_le (l := l.map cv) (j := j) (by simpa using hj)
    rw [cvD l j hj] at hle
    rw [weftlineref14_Good.l0, if_pos (by omega), if_pos (by omega), rd29 l j hj, qrefgood, find_f hl (by omega)]
    simp only [Option.bind_some, List.range'_succ, List.all_cons]
    have ho : okj (l.map cv) j = (decide (G (cv l[j])) && (plc (l.map cv) (l[j]).f2 == (j : Int))) := by
      unfold okj; rw [cvD l j hj]; rfl
    rw [ho]
    by_cases hg : G (cv l[j])
    · rw [decide_eq_true hg, decide_eq_true (show goodQ l[j].f0.f0 l[j].f0.f1 l[j].f0.f2 l[j].f0.f3 l[j].f1.f0 l[j].f1.f1 l[j].f1.f2 l[j].f2 l[j].f3 l[j].f4 l[j].f5 from hg), if_pos rfl]
      by_cases hp : plc (l.map cv) (l[j]).f2 < j
      · rw [if_pos hp, beq_eq_false_iff_ne.mpr (by omega)]; rfl
      · rw [if_neg hp, show plc (l.map cv) (l[j]).f2 = (j : Int) from by have := hle.2; simp only [cv] at this; omega, next_i j (by omega), good_l l p hl n (j + 1) (k2 + 1) (by omega) (by omega)]
        simp
    · rw [decide_eq_false hg, decide_eq_false (show ¬ goodQ l[j].f0.f0 l[j].f0.f1 l[j].f0.f2 l[j].f0.f3 l[j].f1.f0 l[j].f1.f1 l[j].f1.f2 l[j].f2 l[j].f3 l[j].f4 l[j].f5 from hg), if_neg (by simp)]; rfl
theorem okj_all (l : List S34) : (List.range' 0 l.length).all (okj l) = (!tw l && !l.any fun x => !decide (G x)) := by
  rw [Bool.eq_iff_iff]
  simp only [List.all_eq_true, Bool.and_eq_true, Bool.not_eq_true', tw, List.any_eq_false, okj, decide_eq_true_eq, beq_iff_eq]
  constructor
  · intro h
    refine ⟨fun i hi => ?_, fun x hx => ?_⟩
    · have := (h i (by simpa using hi)).2
      rw [this]; simp
    · obtain ⟨i, hi, rfl⟩ := List.getElem_of_mem hx
      have := (h i (by simpa using hi)).1
      rw [List.getD_eq_getElem?_getD, List.getElem?_eq_getElem hi] at this
      simpa using this
  · rintro ⟨h1, h2⟩ i hi
    have hi2 : i < l.length := by simpa using hi
    refine ⟨?_, by simpa using h1 i (by simpa using hi)⟩
    have := h2 _ (List.getElem_mem hi2)
    rw [List.getD_eq_getElem?_getD, List.getElem?_eq_getElem hi2]
    simpa using this
theorem good_f {l : List S29} {p : Int} {k : Nat} (hl : l.length ≤ 1000) (hk : 2 * l.length + 3 < k) : weftlineref14_Good.f k l p = some (gdb (l.map cv) p) := by
  obtain ⟨k2, rfl⟩ : ∃ k2, k = k2 + 1 := ⟨k - 1, by omega⟩
  have hT : ∀ b, weftlineref14_Good.j0 (k2 + 1) b l p = some (!b && (!tw (l.map cv) && !(l.map cv).any fun x => !decide (G x))) := fun b => by
    rw [weftlineref14_Good.j0]
    cases b with
    | true => rfl
    | false =>
      have := good_l l p hl l.length 0 k2 (by omega) (by omega)
      rw [if_neg (by simp)]
      have e := okj_all (l.map cv)
      rw [List.length_map] at e
      rw [← e]
      simpa using this
  unfold weftlineref14_Good.f gdb
  simp only [hT, List.length_map]
  by_cases h1 : (l.length : Int) < 1
  · rw [if_pos h1, decide_eq_false (by omega)]; rfl
  · rw [if_neg h1]
    by_cases h2 : (l.length : Int) > 4
    · rw [if_pos h2, decide_eq_false (by omega)]; rfl
    · rw [if_neg h2]
      by_cases h3 : p < 0
      · rw [if_pos h3, decide_eq_false (by omega)]; rfl
      · rw [if_neg h3]
        by_cases h4 : p ≥ (l.length : Int)
        · rw [decide_eq_true h4, decide_eq_false (by omega)]; rfl
        · rw [decide_eq_false h4, decide_eq_true (by omega)]; simp
end Go.Proofs.Ytblooffiggciiaa.Ps
/- PPsx55 -/
namespace Go.Proofs.Ytblooffiggciiaa.PPs
open Go.RowKit Go.Proofs.YtblooffiggciiaaW.PrintWords Go.Proofs.YtblooffiggciiaaW.PrintLast Go.Proofs.YtblooffiggciiaaW.PrintMore
attribute [local go_sem] max2_int min2_int max_two min_two max_three min_three max_four min_four   -- for this text's walks alone
attribute [local go_sem] Go.Proofs.Ytblooffiggciiaa.Aid.isSome_setCell
attribute [local go_sem high] eqA34 eqA60
def path_Path_86.l0 : Nat → List (S34) → List (S34) → Int → Int → Option (Bool)
  | 0, _, _, _, _ => none
  | k + 1, x0, x1, x12, x13 => if x13 < x12 then (if 0 ≤ x13 then (if x13 < (x0.length : Int) then (if x13 < (x1.length : Int) then (if ((!(((rd_T34 x0 x13).f0.f0) == ((rd_T34 x1 x13).f0.f0)) || (!(((rd_T34 x0 x13).f0.f1) == ((rd_T34 x1 x13).f0.f1)) || (!(((rd_T34 x0 x13).f0.f2) == ((rd_T34 x1 x13).f0.f2)) || (!(((rd_T34 x0 x13).f0.f3) == ((rd_T34 x1 x13).f0.f3)))))) || ((!(((rd_T34 x0 x13).f1.f0) == ((rd_T34 x1 x13).f1.f0)) || (!(((rd_T34 x0 x13).f1.f1) == ((rd_T34 x1 x13).f1.f1)) || (!(((rd_T34 x0 x13).f1.f2) == ((rd_T34 x1 x13).f1.f2))))) || (!(((rd_T34 x0 x13).f2) == ((rd_T34 x1 x13).f2)) || (!(((rd_T34 x0 x13).f3) == ((rd_T34 x1 x13).f3)) || (!(((rd_T34 x0 x13).f4) == ((rd_T34 x1 x13).f4)) || (!(((rd_T34 x0 x13).f5) == ((rd_T34 x1 x13).f5)))))))) = true then (some false) else (path_Path_86.l0 k x0 x1 x12 (wrap64 (x13 + 1)))) else (none)) else (none)) else (none)) else (some true)
def path_Path_86.f (k : Nat) (l0 : List (S34)) (l1 : List (S34)) : Option (Bool) := if (l0.length : Int) = (l1.length : Int) then (path_Path_86.l0 k l0 l1 (l0.length : Int) 0) else (some false)
set_option maxHeartbeats 8000000 in
set_option maxRecDepth 100000 in
theorem path_Path_86.calls (k : Nat) (A0 : Option Addr) (c0 : Nat) (l0 : List (S34)) (A1 : Option Addr) (c1 : Nat) (l1 : List (S34)) (r : Bool) (w : World) (hr0 : Kd.C k34 w A0 l0.length l0) (hc0 : l0.length ≤ c0) (hr1 : Kd.C k34 w A1 l1.length l1) (hc1 : l1.length ≤ c1) (h : path_Path_86.f k l0 l1 = some r) :
    Calls Try.prog 86 #[.slice A0 l0.length c0, .slice A1 l1.length c1] w fun e w' => e = .returned (.bool r) ∧ Drawn0 w w' := by
  have hu34 := Try.underlying34
  have HR0 := Aside0.mk hr0
  have HC0 := Aside0.mk hc0
  clear hr0 hc0
  have HR1 := Aside0.mk hr1
  have HC1 := Aside0.mk hc1
  clear hr1 hc1
  have H : (if (l0.length : Int) = (l1.length : Int) then (path_Path_86.l0 k l0 l1 (l0.length : Int) 0) else (some false)) = some r := h
  clear h
  by_cases c3 : (l0.length : Int) = (l1.length : Int)
  · rw [if_pos c3] at H
    have c3b0 : ((l0.length : Int) == (l1.length : Int)) = true := beq_iff_eq.mpr c3
    have c3b1 : ((l0.length : Int) != (l1.length : Int)) = false := bne_eq_false_iff_eq.mpr c3
    have c3b2 : (l0.length == l1.length) = true := by first | simpa using c3 | (simp at c3 ⊢; omega)
    clear c3
    have H' := Aside0.mk H
    clear H
    go_enter Try.func86, Try.ntmps86
    go_wp2
    repeat (go_quiet (fail); try go_wp2)
    go_loopg [13] k (fun kq v13 w' => ∃ (x13_1 : Int), v13 = .int .i64 x13_1 ∧ Aside0 (path_Path_86.l0 kq l0 l1 (l0.length : Int) x13_1 = some r) ∧ Aside0 (kq ≤ k) ∧ Drawn0 w w')
    case atStart => exact ⟨(0), (by first | rfl | (simp; done) | (simp [*]; done)), H', ⟨Nat.le_refl _⟩, by repeat (first | exact Drawn0.refl _ | apply Drawn0.step)⟩
    case round =>
      clear H'
      try clear c1
      try clear p2
      try clear c3
      try clear c3b0
      try clear c3b1
      try clear c3b2
      obtain ⟨x13_1, rfl, HA, HK1, ⟨m1, rfl⟩⟩ := hrel
      cases gk with
      | zero => exact absurd HA.out (by simp [path_Path_86.l0])
      | succ k1 =>
        have H := HA.out
        clear HA
        simp only [path_Path_86.l0] at H
        by_cases c4 : x13_1 < (l0.length : Int)
        · rw [if_pos c4] at H
          have c4b0 : decide (x13_1 < (l0.length : Int)) = true := decide_eq_true c4
          clear c4
          by_cases c5 : 0 ≤ x13_1
          · rw [if_pos c5] at H
            have c5b0 : decide (0 ≤ x13_1) = true := decide_eq_true c5
            clear c5
            by_cases c6 : x13_1 < (l0.length : Int)
            · rw [if_pos c6] at H
              have c6b0 : decide (x13_1 < (l0.length : Int)) = true := decide_eq_true c6
              clear c6
              by_cases c7 : x13_1 < (l1.length : Int)
              · rw [if_pos c7] at H
                have c7b0 : decide (x13_1 < (l1.length : Int)) = true := decide_eq_true c7
                clear c7
                by_cases c8 : ((!(((rd_T34 l0 x13_1).f0.f0) == ((rd_T34 l1 x13_1).f0.f0)) || (!(((rd_T34 l0 x13_1).f0.f1) == ((rd_T34 l1 x13_1).f0.f1)) || (!(((rd_T34 l0 x13_1).f0.f2) == ((rd_T34 l1 x13_1).f0.f2)) || (!(((rd_T34 l0 x13_1).f0.f3) == ((rd_T34 l1 x13_1).f0.f3)))))) || ((!(((rd_T34 l0 x13_1).f1.f0) == ((rd_T34 l1 x13_1).f1.f0)) || (!(((rd_T34 l0 x13_1).f1.f1) == ((rd_T34 l1 x13_1).f1.f1)) || (!(((rd_T34 l0 x13_1).f1.f2) == ((rd_T34 l1 x13_1).f1.f2))))) || (!(((rd_T34 l0 x13_1).f2) == ((rd_T34 l1 x13_1).f2)) || (!(((rd_T34 l0 x13_1).f3) == ((rd_T34 l1 x13_1).f3)) || (!(((rd_T34 l0 x13_1).f4) == ((rd_T34 l1 x13_1).f4)) || (!(((rd_T34 l0 x13_1).f5) == ((rd_T34 l1 x13_1).f5)))))))) = true
                · rw [if_pos c8] at H
                  have c8b0 : ((!(((rd_T34 l0 x13_1).f0.f0) == ((rd_T34 l1 x13_1).f0.f0)) || (!(((rd_T34 l0 x13_1).f0.f1) == ((rd_T34 l1 x13_1).f0.f1)) || (!(((rd_T34 l0 x13_1).f0.f2) == ((rd_T34 l1 x13_1).f0.f2)) || (!(((rd_T34 l0 x13_1).f0.f3) == ((rd_T34 l1 x13_1).f0.f3)))))) || ((!(((rd_T34 l0 x13_1).f1.f0) == ((rd_T34 l1 x13_1).f1.f0)) || (!(((rd_T34 l0 x13_1).f1.f1) == ((rd_T34 l1 x13_1).f1.f1)) || (!(((rd_T34 l0 x13_1).f1.f2) == ((rd_T34 l1 x13_1).f1.f2))))) || (!(((rd_T34 l0 x13_1).f2) == ((rd_T34 l1 x13_1).f2)) || (!(((rd_T34 l0 x13_1).f3) == ((rd_T34 l1 x13_1).f3)) || (!(((rd_T34 l0 x13_1).f4) == ((rd_T34 l1 x13_1).f4)) || (!(((rd_T34 l0 x13_1).f5) == ((rd_T34 l1 x13_1).f5)))))))) = true := c8
                  clear c8
                  obtain rfl := Option.some.inj H
                  have p338 : 0 ≤ (x13_1 : Int) := of_decide_eq_true (by first | (with_reducible assumption) | assumption)
                  have q338 : x13_1 < (l0.length : Int) := of_decide_eq_true (by first | (with_reducible assumption) | assumption)
                  obtain ⟨ad338, e338, hx338_0, hx338_1, hx338_2, hx338_3, hx338_4, hx338_5, hx338_6, hx338_7, hx338_8, hx338_9, hx338_10⟩ := at_T34 HR0.out x13_1 p338 q338
                  cases e338
                  replace p338 := eq_true p338
                  replace q338 := eq_true q338
                  have p339 : 0 ≤ (x13_1 : Int) := of_decide_eq_true (by first | (with_reducible assumption) | assumption)
                  have q339 : x13_1 < (l1.length : Int) := of_decide_eq_true (by first | (with_reducible assumption) | assumption)
                  obtain ⟨ad339, e339, hx339_0, hx339_1, hx339_2, hx339_3, hx339_4, hx339_5, hx339_6, hx339_7, hx339_8, hx339_9, hx339_10⟩ := at_T34 HR1.out x13_1 p339 q339
                  cases e339
                  replace p339 := eq_true p339
                  replace q339 := eq_true q339
                  go_wp2
                  repeat (go_quiet (fail); try go_wp2)
                  go_ret
                  exact ⟨by first | rfl | (simp; done) | (simp [*]; done), by repeat (first | exact Drawn0.refl _ | apply Drawn0.step)⟩
                · rw [if_neg c8] at H
                  have c8b0 : ((!(((rd_T34 l0 x13_1).f0.f0) == ((rd_T34 l1 x13_1).f0.f0)) || (!(((rd_T34 l0 x13_1).f0.f1) == ((rd_T34 l1 x13_1).f0.f1)) || (!(((rd_T34 l0 x13_1).f0.f2) == ((rd_T34 l1 x13_1).f0.f2)) || (!(((rd_T34 l0 x13_1).f0.f3) == ((rd_T34 l1 x13_1).f0.f3)))))) || ((!(((rd_T34 l0 x13_1).f1.f0) == ((rd_T34 l1 x13_1).f1.f0)) || (!(((rd_T34 l0 x13_1).f1.f1) == ((rd_T34 l1 x13_1).f1.f1)) || (!(((rd_T34 l0 x13_1).f1.f2) == ((rd_T34 l1 x13_1).f1.f2))))) || (!(((rd_T34 l0 x13_1).f2) == ((rd_T34 l1 x13_1).f2)) || (!(((rd_T34 l0 x13_1).f3) == ((rd_T34 l1 x13_1).f3)) || (!(((rd_T34 l0 x13_1).f4) == ((rd_T34 l1 x13_1).f4)) || (!(((rd_T34 l0 x13_1).f5) == ((rd_T34 l1 x13_1).f5)))))))) = false := by simpa using c8
                  clear c8
                  have H' := Aside0.mk H
                  clear H
                  have p338 : 0 ≤ (x13_1 : Int) := of_decide_eq_true (by first | (with_reducible assumption) | assumption)
                  have q338 : x13_1 < (l0.length : Int) := of_decide_eq_true (by first | (with_reducible assumption) | assumption)
                  obtain ⟨ad338, e338, hx338_0, hx338_1, hx338_2, hx338_3, hx338_4, hx338_5, hx338_6, hx338_7, hx338_8, hx338_9, hx338_10⟩ := at_T34 HR0.out x13_1 p338 q338
                  cases e338
                  replace p338 := eq_true p338
                  replace q338 := eq_true q338
                  have p339 : 0 ≤ (x13_1 : Int) := of_decide_eq_true (by first | (with_reducible assumption) | assumption)
                  have q339 : x13_1 < (l1.length : Int) := of_decide_eq_true (by first | (with_reducible assumption) | assumption)
                  obtain ⟨ad339, e339, hx339_0, hx339_1, hx339_2, hx339_3, hx339_4, hx339_5, hx339_6, hx339_7, hx339_8, hx339_9, hx339_10⟩ := at_T34 HR1.out x13_1 p339 q339
                  cases e339
                  replace p339 := eq_true p339
                  replace q339 := eq_true q339
                  go_wp2
                  repeat (go_quiet (fail); try go_wp2)
                  go_roundg k1
                  case measure => have := HK1.out; omega
                  case rel => exact ⟨(wrap64 (x13_1 + 1)), (by first | rfl | (simp; done) | (simp [*]; done)), H', ⟨by have := HK1.out; omega⟩, by repeat (first | exact Drawn0.refl _ | apply Drawn0.step)⟩
              · rw [if_neg c7] at H
                exact absurd H (by simp)
            · rw [if_neg c6] at H
              exact absurd H (by simp)
          · rw [if_neg c5] at H
            exact absurd H (by simp)
        · rw [if_neg c4] at H
          have c4b0 : decide (x13_1 < (l0.length : Int)) = false := decide_eq_false c4
          clear c4
          obtain rfl := Option.some.inj H
          go_wp2
          repeat (go_quiet (fail); try go_wp2)
          go_ret
          exact ⟨by first | rfl | (simp; done) | (simp [*]; done), by repeat (first | exact Drawn0.refl _ | apply Drawn0.step)⟩
  · rw [if_neg c3] at H
    have c3b0 : ((l0.length : Int) == (l1.length : Int)) = false := beq_eq_false_iff_ne.mpr c3
    have c3b1 : ((l0.length : Int) != (l1.length : Int)) = true := bne_iff_ne.mpr c3
    have c3b2 : (l0.length == l1.length) = false := by first | simpa using c3 | (simp at c3 ⊢; omega)
    obtain rfl := Option.some.inj H
    go_enter Try.func86, Try.ntmps86
    go_wp2
    repeat (go_quiet (fail); try go_wp2)
    go_ret
    exact ⟨by first | rfl | (simp; done) | (simp [*]; done), by repeat (first | exact Drawn0.refl _ | apply Drawn0.step)⟩

end Go.Proofs.Ytblooffiggciiaa.PPs
/- PPsx56 -/
namespace Go.Proofs.Ytblooffiggciiaa.PPs
open Go.RowKit Go.Proofs.YtblooffiggciiaaW.PrintWords Go.Proofs.YtblooffiggciiaaW.PrintLast Go.Proofs.YtblooffiggciiaaW.PrintMore
attribute [local go_sem] max2_int min2_int max_two min_two max_three min_three max_four min_four   -- for this text's walks alone
attribute [local go_sem] Go.Proofs.Ytblooffiggciiaa.Aid.isSome_setCell
def paths_Same.f (k : Nat) (l0_0 : List (S34)) (a0_1 : Int) (l1_0 : List (S34)) (a1_1 : Int) : Option (Bool) := if a0_1 = a1_1 then ((path_Path_86.f k l0_0 l1_0).bind fun t342 => (some t342)) else (some false)
set_option maxHeartbeats 8000000 in
set_option maxRecDepth 100000 in
theorem paths_Same.calls (k : Nat) (A0_0 : Option Addr) (c0_0 : Nat) (l0_0 : List (S34)) (a0_1 : Int) (A1_0 : Option Addr) (c1_0 : Nat) (l1_0 : List (S34)) (a1_1 : Int) (r : Bool) (w : World) (hr0_0 : Kd.C k34 w A0_0 l0_0.length l0_0) (hc0_0 : l0_0.length ≤ c0_0) (hr1_0 : Kd.C k34 w A1_0 l1_0.length l1_0) (hc1_0 : l1_0.length ≤ c1_0) (h : paths_Same.f k l0_0 a0_1 l1_0 a1_1 = some r) :
    Calls Try.prog 44 #[.agg #[.slice A0_0 l0_0.length c0_0, .int .i64 a0_1], .agg #[.slice A1_0 l1_0.length c1_0, .int .i64 a1_1]] w fun e w' => e = .returned (.bool r) ∧ Below w.heap.size w w' := by
  have hu70 := Try.underlying70
  have HR0_0 := Aside0.mk hr0_0
  have HC0_0 := Aside0.mk hc0_0
  clear hr0_0 hc0_0
  have HR1_0 := Aside0.mk hr1_0
  have HC1_0 := Aside0.mk hc1_0
  clear hr1_0 hc1_0
  have HB := Aside0.mk (Below.refl w.heap.size w)
  have H : (if a0_1 = a1_1 then ((path_Path_86.f k l0_0 l1_0).bind fun t342 => (some t342)) else (some false)) = some r := h
  clear h
  by_cases c3 : a0_1 = a1_1
  · rw [if_pos c3] at H
    have c3b0 : (a0_1 == a1_1) = true := beq_iff_eq.mpr c3
    have c3b1 : (a0_1 != a1_1) = false := bne_eq_false_iff_eq.mpr c3
    clear c3
    replace H := Option.bind_eq_some_iff.mp H
    obtain ⟨t342, A40, H⟩ := H
    replace H : (some t342) = some r := H
    have A4 := Aside0.mk A40
    clear A40
    obtain rfl := Option.some.inj H
    go_enter Try.func44, Try.ntmps44
    go_wp2_with (first | ((with_reducible refine gate_dst (N := 2) rfl ?_); refine box_event ?hg (N := 2) ?hd (cs := #[.slice A0_0 l0_0.length c0_0, .int .i64 a0_1]) (t := 70) ?hr ?_; (case hd => rfl); (case hg => rfl); (case hr => first | (go_simp; done) | (go_simp; rfl)); intro gb340 hg w5 hbox hb; have n0_ := Aside0.mk (below_step (by repeat (first | (with_reducible first | exact HB.out | apply below_alloc | apply pw_below_drewN | apply below_drew1) | exact HB.out)) hb); have n1_ := Aside0.mk (hbox); have n2_ := Aside0.mk ((by rw [hg]; exact (below_size (by repeat (first | (with_reducible first | exact HB.out | apply below_alloc | apply pw_below_drewN | apply below_drew1) | exact HB.out))) : w.heap.size ≤ gb340)); have n3_ := Aside0.mk ((by rw [hg]; exact (below_size (by repeat (first | (with_reducible first | exact HB.out | apply below_alloc | apply pw_below_drewN | apply below_drew1) | exact HB.out))) : w.heap.size ≤ gb340)); clear HB; have HB := n0_; have BK340 := n1_; have GW340 := n2_; have GE340 := n3_; clear n0_ n1_ n2_ n3_; clear hb hbox hg) | ((with_reducible refine gate_dst (N := 3) rfl ?_); refine box_event ?hg (N := 3) ?hd (cs := #[.slice A1_0 l1_0.length c1_0, .int .i64 a1_1]) (t := 70) ?hr ?_; (case hd => rfl); (case hg => rfl); (case hr => first | (go_simp; done) | (go_simp; rfl)); intro gb341 hg w6 hbox hb; have n0_ := Aside0.mk (blk_below (g := gb340) (o := .cells #[.slice A0_0 l0_0.length c0_0, .int .i64 a0_1] 70 (0, 0)) (by (with_reducible repeat (first | refine blk_drewN ?_ _ | refine blk_drew ?_ | refine blk_alloc ?_ _)); exact BK340.out) hb); have n1_ := Aside0.mk (below_step (by repeat (first | (with_reducible first | exact HB.out | apply below_alloc | apply pw_below_drewN | apply below_drew1 | refine below_set ?_ GE340.out) | exact HB.out)) hb); have n2_ := Aside0.mk (hbox); have n3_ := Aside0.mk ((by rw [hg]; exact (below_size (by repeat (first | (with_reducible first | exact HB.out | apply below_alloc | apply pw_below_drewN | apply below_drew1 | refine below_set ?_ GE340.out) | exact HB.out))) : w.heap.size ≤ gb341)); have n4_ := Aside0.mk ((by rw [hg]; exact (below_size (by repeat (first | (with_reducible first | exact HB.out | apply below_alloc | apply pw_below_drewN | apply below_drew1 | refine below_set ?_ GE340.out) | exact HB.out))) : w.heap.size ≤ gb341)); have n5_ := Aside0.mk ((by rw [hg]; exact Nat.ne_of_lt (blk_lt (g := gb340) (o := .cells #[.slice A0_0 l0_0.length c0_0, .int .i64 a0_1] 70 (0, 0)) (by (with_reducible repeat (first | refine blk_drewN ?_ _ | refine blk_drew ?_ | refine blk_alloc ?_ _)); exact BK340.out)) : gb340 ≠ gb341)); have n6_ := Aside0.mk ((by rw [hg]; exact Nat.ne_of_gt (blk_lt (g := gb340) (o := .cells #[.slice A0_0 l0_0.length c0_0, .int .i64 a0_1] 70 (0, 0)) (by (with_reducible repeat (first | refine blk_drewN ?_ _ | refine blk_drew ?_ | refine blk_alloc ?_ _)); exact BK340.out)) : gb341 ≠ gb340)); clear BK340; clear HB; have BK340 := n0_; have HB := n1_; have BK341 := n2_; have GW341 := n3_; have GE341 := n4_; have NB340_341 := n5_; have NB341_340 := n6_; clear n0_ n1_ n2_ n3_ n4_ n5_ n6_; clear hb hbox hg; have hnb7 := NB340_341.out; have hnc7 := NB341_340.out; have hcz8_0 : w6.cell? ⟨gb340, 0, none⟩ = some (.slice A0_0 l0_0.length c0_0) := (blk_cell BK340.out 0).trans rfl; have hcz8_1 : w6.cell? ⟨gb340, 1, none⟩ = some (.int .i64 a0_1) := (blk_cell BK340.out 1).trans rfl; have hfz8_0 := blk_frozen BK340.out 0; have hfz8_1 := blk_frozen BK340.out 1; have hcz9_0 : w6.cell? ⟨gb341, 0, none⟩ = some (.slice A1_0 l1_0.length c1_0) := (blk_cell BK341.out 0).trans rfl; have hcz9_1 : w6.cell? ⟨gb341, 1, none⟩ = some (.int .i64 a1_1) := (blk_cell BK341.out 1).trans rfl; have hfz9_0 := blk_frozen BK341.out 0; have hfz9_1 := blk_frozen BK341.out 1) | (go_at_call 86; (with_reducible refine (path_Path_86.calls k _ _ l0_0 _ _ l1_0 t342 _ ?side1 ?side2 ?side3 ?side4 A4.out).mono ?_); (case side1 => repeat (first | exact (Kd.C_below HR0_0.out HB.out) | (with_reducible refine Kd.C_alloc ?_ _) | (with_reducible refine Kd.C_drewN ?_ _) | (with_reducible refine Kd.C_drew ?_))); (case side2 => exact HC0_0.out); (case side3 => repeat (first | exact (Kd.C_below HR1_0.out HB.out) | (with_reducible refine Kd.C_alloc ?_ _) | (with_reducible refine Kd.C_drewN ?_ _) | (with_reducible refine Kd.C_drew ?_))); (case side4 => exact HC1_0.out); rintro e w' ⟨rfl, ⟨nd, rfl⟩⟩))
    go_ret
    exact ⟨by first | rfl | (simp [errW_none, errW_some] <;> rfl) | (simp [*, errW_none, errW_some] <;> rfl), by repeat (first | (with_reducible first | exact HB.out | apply below_alloc | apply pw_below_drewN | apply below_drew1 | refine below_set ?_ GE340.out | refine below_set ?_ GE341.out) | exact HB.out)⟩
  · rw [if_neg c3] at H
    have c3b0 : (a0_1 == a1_1) = false := beq_eq_false_iff_ne.mpr c3
    have c3b1 : (a0_1 != a1_1) = true := bne_iff_ne.mpr c3
    obtain rfl := Option.some.inj H
    go_enter Try.func44, Try.ntmps44
    go_wp2_with (first | ((with_reducible refine gate_dst (N := 2) rfl ?_); refine box_event ?hg (N := 2) ?hd (cs := #[.slice A0_0 l0_0.length c0_0, .int .i64 a0_1]) (t := 70) ?hr ?_; (case hd => rfl); (case hg => rfl); (case hr => first | (go_simp; done) | (go_simp; rfl)); intro gb340 hg w10 hbox hb; have n0_ := Aside0.mk (below_step (by repeat (first | (with_reducible first | exact HB.out | apply below_alloc | apply pw_below_drewN | apply below_drew1) | exact HB.out)) hb); have n1_ := Aside0.mk (hbox); have n2_ := Aside0.mk ((by rw [hg]; exact (below_size (by repeat (first | (with_reducible first | exact HB.out | apply below_alloc | apply pw_below_drewN | apply below_drew1) | exact HB.out))) : w.heap.size ≤ gb340)); have n3_ := Aside0.mk ((by rw [hg]; exact (below_size (by repeat (first | (with_reducible first | exact HB.out | apply below_alloc | apply pw_below_drewN | apply below_drew1) | exact HB.out))) : w.heap.size ≤ gb340)); clear HB; have HB := n0_; have BK340 := n1_; have GW340 := n2_; have GE340 := n3_; clear n0_ n1_ n2_ n3_; clear hb hbox hg) | ((with_reducible refine gate_dst (N := 3) rfl ?_); refine box_event ?hg (N := 3) ?hd (cs := #[.slice A1_0 l1_0.length c1_0, .int .i64 a1_1]) (t := 70) ?hr ?_; (case hd => rfl); (case hg => rfl); (case hr => first | (go_simp; done) | (go_simp; rfl)); intro gb341 hg w11 hbox hb; have n0_ := Aside0.mk (blk_below (g := gb340) (o := .cells #[.slice A0_0 l0_0.length c0_0, .int .i64 a0_1] 70 (0, 0)) (by (with_reducible repeat (first | refine blk_drewN ?_ _ | refine blk_drew ?_ | refine blk_alloc ?_ _)); exact BK340.out) hb); have n1_ := Aside0.mk (below_step (by repeat (first | (with_reducible first | exact HB.out | apply below_alloc | apply pw_below_drewN | apply below_drew1 | refine below_set ?_ GE340.out) | exact HB.out)) hb); have n2_ := Aside0.mk (hbox); have n3_ := Aside0.mk ((by rw [hg]; exact (below_size (by repeat (first | (with_reducible first | exact HB.out | apply below_alloc | apply pw_below_drewN | apply below_drew1 | refine below_set ?_ GE340.out) | exact HB.out))) : w.heap.size ≤ gb341)); have n4_ := Aside0.mk ((by rw [hg]; exact (below_size (by repeat (first | (with_reducible first | exact HB.out | apply below_alloc | apply pw_below_drewN | apply below_drew1 | refine below_set ?_ GE340.out) | exact HB.out))) : w.heap.size ≤ gb341)); have n5_ := Aside0.mk ((by rw [hg]; exact Nat.ne_of_lt (blk_lt (g := gb340) (o := .cells #[.slice A0_0 l0_0.length c0_0, .int .i64 a0_1] 70 (0, 0)) (by (with_reducible repeat (first | refine blk_drewN ?_ _ | refine blk_drew ?_ | refine blk_alloc ?_ _)); exact BK340.out)) : gb340 ≠ gb341)); have n6_ := Aside0.mk ((by rw [hg]; exact Nat.ne_of_gt (blk_lt (g := gb340) (o := .cells #[.slice A0_0 l0_0.length c0_0, .int .i64 a0_1] 70 (0, 0)) (by (with_reducible repeat (first | refine blk_drewN ?_ _ | refine blk_drew ?_ | refine blk_alloc ?_ _)); exact BK340.out)) : gb341 ≠ gb340)); clear BK340; clear HB; have BK340 := n0_; have HB := n1_; have BK341 := n2_; have GW341 := n3_; have GE341 := n4_; have NB340_341 := n5_; have NB341_340 := n6_; clear n0_ n1_ n2_ n3_ n4_ n5_ n6_; clear hb hbox hg; have hnb12 := NB340_341.out; have hnc12 := NB341_340.out; have hcz13_0 : w11.cell? ⟨gb340, 0, none⟩ = some (.slice A0_0 l0_0.length c0_0) := (blk_cell BK340.out 0).trans rfl; have hcz13_1 : w11.cell? ⟨gb340, 1, none⟩ = some (.int .i64 a0_1) := (blk_cell BK340.out 1).trans rfl; have hfz13_0 := blk_frozen BK340.out 0; have hfz13_1 := blk_frozen BK340.out 1; have hcz14_0 : w11.cell? ⟨gb341, 0, none⟩ = some (.slice A1_0 l1_0.length c1_0) := (blk_cell BK341.out 0).trans rfl; have hcz14_1 : w11.cell? ⟨gb341, 1, none⟩ = some (.int .i64 a1_1) := (blk_cell BK341.out 1).trans rfl; have hfz14_0 := blk_frozen BK341.out 0; have hfz14_1 := blk_frozen BK341.out 1))
    go_ret
    exact ⟨by first | rfl | (simp [errW_none, errW_some] <;> rfl) | (simp [*, errW_none, errW_some] <;> rfl), by repeat (first | (with_reducible first | exact HB.out | apply below_alloc | apply pw_below_drewN | apply below_drew1 | refine below_set ?_ GE340.out | refine below_set ?_ GE341.out) | exact HB.out)⟩

end Go.Proofs.Ytblooffiggciiaa.PPs
/- PsS -/
namespace Go.Proofs.Ytblooffiggciiaa.Ps
open Go.RowKit Go.Proofs.Ytblooffiggciiaa.PPs Go.Proofs.YtblooffiggciiaaW.PrintWords Go.Proofs.YtblooffiggciiaaW.PrintLast Go.Proofs.YtblooffiggciiaaW.PrintMore Go.Proofs.Ytblooffiggciiaa.Sh
def df29 (x y : S29) : Bool := ((!((x.f0.f0) == (y.f0.f0)) || (!((x.f0.f1) == (y.f0.f1)) || (!((x.f0.f2) == (y.f0.f2)) || (!((x.f0.f3) == (y.f0.f3)))))) || ((!((x.f1.f0) == (y.f1.f0)) || (!((x.f1.f1) == (y.f1.f1)) || (!((x.f1.f2) == (y.f1.f2))))) || (!((x.f2) == (y.f2)) || (!((x.f3) == (y.f3)) || (!((x.f4) == (y.f4)) || (!((x.f5) == (y.f5))))))))
theorem df29_iff (x y : S29) : df29 x y = false ↔ x = y := by
  obtain ⟨⟨x0, x1, x2, x3⟩, ⟨x4, x5, x6⟩, x7, x8, x9, x10⟩ := x
  obtain ⟨⟨y0, y1, y2, y3⟩, ⟨y4, y5, y6⟩, y7, y8, y9, y10⟩ := y
  unfold df29
  simp only [Bool.or_eq_false_iff, Bool.not_eq_false', beq_iff_eq, S29.mk.injEq, S23.mk.injEq, S25.mk.injEq]
theorem same_l (l m : List S29) (p q : Int) (hlm : l.length = m.length) (hl : l.length ≤ 1000) : ∀ (n j k : Nat) (b : Bool), j + n = l.length → n < k → (b = true ↔ ∀ i, j ≤ i → i < l.length → l[i]? = m[i]?) → weftlineref14_Same.l0 k (j : Int) l p m q = some b
  | 0, j, k + 1, b, h, _, hb => by
    rw [weftlineref14_Same.l0, if_neg (by omega), hb.2 (fun i h1 h2 => absurd h1 (by omega))]
  | n + 1, j, k + 1, b, h, hk, hb => by
    have hj : j < l.length := by omega
    have hm : j < m.length := by omega
    rw [weftlineref14_Same.l0, if_pos (by omega), if_pos (by omega), if_pos (by omega), rd29 l j hj, rd29 m j hm]
    by_cases hd : l[j] = m[j]
    · rw [if_neg (by have := (df29_iff l[j] m[j]).2 hd; unfold df29 at this; rw [this]; simp), next_i j (by omega)]
      refine same_l l m p q hlm hl n (j + 1) k b (by omega) (by omega) (hb.trans ⟨fun h i h1 h2 => h i (by omega) h2, fun h i h1 h2 => ?_⟩)
      by_cases hij : i = j
      · subst hij; rw [List.getElem?_eq_getElem hj, List.getElem?_eq_getElem hm, hd]
      · exact h i (by omega) h2
    · rw [if_pos (by have : df29 l[j] m[j] = true := by { rw [← Bool.not_eq_false]; exact fun h => hd ((df29_iff _ _).1 h) }; unfold df29 at this; exact this)]
      congr 1
      symm
      rw [Bool.eq_false_iff]
      intro h
      have := hb.1 h j (Nat.le_refl _) hj
      rw [List.getElem?_eq_getElem hj, List.getElem?_eq_getElem hm] at this
      exact hd (Option.some.inj this)
theorem same_f {l m : List S29} {p q : Int} {k : Nat} (hl : l.length ≤ 1000) (hk : l.length + 1 < k) (b : Bool) (hb : b = true ↔ (l = m ∧ p = q)) : weftlineref14_Same.f k l p m q = some b := by
  obtain ⟨k2, rfl⟩ : ∃ k2, k = k2 + 1 := ⟨k - 1, by omega⟩
  unfold weftlineref14_Same.f
  by_cases hp : p = q
  · rw [if_pos hp]
    by_cases hn : l.length = m.length
    · have e : ((l.length : Int) != (m.length : Int)) = false := by rw [hn]; simp
      rw [e, weftlineref14_Same.j0, if_neg (by simp)]
      refine same_l l m p q hn hl l.length 0 k2 b (by omega) (by omega) (hb.trans ⟨?_, fun h => ⟨List.ext_getElem? fun i => ?_, hp⟩⟩)
      · rintro ⟨rfl, _⟩ i _ _; rfl
      · by_cases hi : i < l.length
        · exact h i (Nat.zero_le _) hi
        · rw [List.getElem?_eq_none (by omega), List.getElem?_eq_none (by omega)]
    · have e : ((l.length : Int) != (m.length : Int)) = true := by simp; omega
      rw [e, weftlineref14_Same.j0, if_pos rfl]
      congr 1
      symm
      rw [Bool.eq_false_iff]
      intro h
      exact hn (by rw [(hb.1 h).1])
  · rw [if_neg hp, weftlineref14_Same.j0, if_pos rfl]
    congr 1
    symm
    rw [Bool.eq_false_iff]
    intro h
    exact hp (hb.1 h).2
end Go.Proofs.Ytblooffiggciiaa.Ps
/- PPsx44 -/
namespace Go.Proofs.Ytblooffiggciiaa.PPs
open Go.RowKit Go.Proofs.YtblooffiggciiaaW.PrintWords Go.Proofs.YtblooffiggciiaaW.PrintLast Go.Proofs.YtblooffiggciiaaW.PrintMore
attribute [local go_sem] max2_int min2_int max_two min_two max_three min_three max_four min_four   -- for this text's walks alone
attribute [local go_sem] Go.Proofs.Ytblooffiggciiaa.Aid.isSome_setCell
def weftlineref14_set.f (l0_0 : List (S29)) (a0_1 : Int) (a1 : Int) (a2_0 : Int) (a2_1 : Int) (a2_2 : Int) (a2_3 : Bool) (a2_4 : Int) (a2_5 : Int) (a2_6 : Int) (a2_7 : Int) (a2_8 : Int) (a2_9 : Int) (a2_10 : Int) : Option ((List (S29)) × Int) := (some (([] : List (S29)) : List (S29))).bind fun y256 => (if y256.length + l0_0.length < 1599289640401 then ((some (y256 ++ l0_0 : List (S29))).bind fun y259 => (if 0 ≤ a1 then (if a1 < (y259.length : Int) then (some ((y259.set (a1 : Int).toNat (⟨(⟨a2_0, a2_1, a2_2, a2_3⟩ : S23), (⟨a2_4, a2_5, a2_6⟩ : S25), a2_7, a2_8, a2_9, a2_10⟩ : S29)), a0_1)) else (none)) else (none))) else (none))
set_option maxHeartbeats 8000000 in
set_option maxRecDepth 100000 in
theorem weftlineref14_set.calls (A0_0 : Option Addr) (c0_0 : Nat) (l0_0 : List (S29)) (a0_1 : Int) (a1 : Int) (a2_0 : Int) (a2_1 : Int) (a2_2 : Int) (a2_3 : Bool) (a2_4 : Int) (a2_5 : Int) (a2_6 : Int) (a2_7 : Int) (a2_8 : Int) (a2_9 : Int) (a2_10 : Int) (r1 : List (S29)) (r2 : Int) (w : World) (hr0_0 : Kd.C k29 w A0_0 l0_0.length l0_0) (hc0_0 : l0_0.length ≤ c0_0) (h : weftlineref14_set.f l0_0 a0_1 a1 a2_0 a2_1 a2_2 a2_3 a2_4 a2_5 a2_6 a2_7 a2_8 a2_9 a2_10 = some (r1, r2)) :
    Calls Try.prog 84 #[.agg #[.slice A0_0 l0_0.length c0_0, .int .i64 a0_1], .int .i64 a1, .agg #[.int .i64 a2_0, .int .i64 a2_1, .int .i64 a2_2, .bool a2_3, .int .i64 a2_4, .int .i64 a2_5, .int .i64 a2_6, .int .i64 a2_7, .int .i64 a2_8, .int .u32 a2_9, .int .i64 a2_10]] w fun e w' => ∃ v0_ : Value, e = .returned (.agg #[v0_, .int .i64 r2]) ∧ Kd.R k29 29 w' w.heap.size (fun _ => True) v0_ r1 ∧ Below w.heap.size w w' := by
  have hu66 := Try.underlying66
  have hu29 := Try.underlying29
  have HR0_0 := Aside0.mk hr0_0
  have HC0_0 := Aside0.mk hc0_0
  clear hr0_0 hc0_0
  have HB := Aside0.mk (Below.refl w.heap.size w)
  have H : ((some (([] : List (S29)) : List (S29))).bind fun y256 => (if y256.length + l0_0.length < 1599289640401 then ((some (y256 ++ l0_0 : List (S29))).bind fun y259 => (if 0 ≤ a1 then (if a1 < (y259.length : Int) then (some ((y259.set (a1 : Int).toNat (⟨(⟨a2_0, a2_1, a2_2, a2_3⟩ : S23), (⟨a2_4, a2_5, a2_6⟩ : S25), a2_7, a2_8, a2_9, a2_10⟩ : S29)), a0_1)) else (none)) else (none))) else (none))) = some (r1, r2) := h
  clear h
  obtain ⟨y256, hy256⟩ : ∃ y_ : List (S29), y_ = (([] : List (S29))) := ⟨_, rfl⟩
  replace H : (if y256.length + l0_0.length < 1599289640401 then ((some (y256 ++ l0_0 : List (S29))).bind fun y259 => (if 0 ≤ a1 then (if a1 < (y259.length : Int) then (some ((y259.set (a1 : Int).toNat (⟨(⟨a2_0, a2_1, a2_2, a2_3⟩ : S23), (⟨a2_4, a2_5, a2_6⟩ : S25), a2_7, a2_8, a2_9, a2_10⟩ : S29)), a0_1)) else (none)) else (none))) else (none)) = some (r1, r2) := by first | (rw [hy256]; with_reducible exact H) | (have H2_ := (Option.bind_some _ _).symm.trans H; rw [hy256]; with_reducible exact H2_) | (have H2_ := (Option.bind_some _ _).symm.trans H; with_reducible exact H2_) | with_reducible exact H | (rw [hy256]; exact H) | exact H
  have Ny256 := Aside0.mk hy256
  clear hy256
  by_cases c4 : y256.length + l0_0.length < 1599289640401
  · rw [if_pos c4] at H
    have LMc4 := Aside0.mk c4
    clear c4
    obtain ⟨y259, hy259⟩ : ∃ y_ : List (S29), y_ = (y256 ++ l0_0) := ⟨_, rfl⟩
    replace H : (if 0 ≤ a1 then (if a1 < (y259.length : Int) then (some ((y259.set (a1 : Int).toNat (⟨(⟨a2_0, a2_1, a2_2, a2_3⟩ : S23), (⟨a2_4, a2_5, a2_6⟩ : S25), a2_7, a2_8, a2_9, a2_10⟩ : S29)), a0_1)) else (none)) else (none)) = some (r1, r2) := by first | (rw [hy259]; with_reducible exact H) | (have H2_ := (Option.bind_some _ _).symm.trans H; rw [hy259]; with_reducible exact H2_) | (have H2_ := (Option.bind_some _ _).symm.trans H; with_reducible exact H2_) | with_reducible exact H | (rw [hy259]; exact H) | exact H
    have Ny259 := Aside0.mk hy259
    clear hy259
    by_cases c5 : 0 ≤ a1
    · rw [if_pos c5] at H
      have c5b0 : decide (0 ≤ a1) = true := decide_eq_true c5
      clear c5
      by_cases c6 : a1 < (y259.length : Int)
      · rw [if_pos c6] at H
        have c6b0 : decide (a1 < (y259.length : Int)) = true := decide_eq_true c6
        clear c6
        obtain ⟨y262, hy262⟩ : ∃ y_ : List (S29), y_ = (y259.set (a1 : Int).toNat (⟨(⟨a2_0, a2_1, a2_2, a2_3⟩ : S23), (⟨a2_4, a2_5, a2_6⟩ : S25), a2_7, a2_8, a2_9, a2_10⟩ : S29)) := ⟨_, rfl⟩
        replace H : (some (y262, a0_1)) = some (r1, r2) := by first | (rw [hy262]; with_reducible exact H) | (have H2_ := (Option.bind_some _ _).symm.trans H; rw [hy262]; with_reducible exact H2_) | (have H2_ := (Option.bind_some _ _).symm.trans H; with_reducible exact H2_) | with_reducible exact H | (rw [hy262]; exact H) | exact H
        have Ny262 := Aside0.mk hy262
        clear hy262
        simp only [Option.some.injEq, Prod.mk.injEq] at H
        obtain ⟨rfl, rfl⟩ := H
        go_enter Try.func84, Try.ntmps84
        go_wp2_with (first | ((with_reducible refine gate_dst (N := 3) rfl ?_); refine box_event ?hg (N := 3) ?hd (cs := #[.slice A0_0 l0_0.length c0_0, .int .i64 a0_1]) (t := 66) ?hr ?_; (case hd => rfl); (case hg => rfl); (case hr => first | (go_simp; done) | (go_simp; rfl)); intro gb253 hg w8 hbox hb; have n0_ := Aside0.mk (below_step (by repeat (first | (with_reducible first | exact HB.out | apply below_alloc | apply pw_below_drewN | apply below_drew1) | exact HB.out)) hb); have n1_ := Aside0.mk (hbox); have n2_ := Aside0.mk ((by rw [hg]; exact (below_size (by repeat (first | (with_reducible first | exact HB.out | apply below_alloc | apply pw_below_drewN | apply below_drew1) | exact HB.out))) : w.heap.size ≤ gb253)); have n3_ := Aside0.mk ((by rw [hg]; exact (below_size (by repeat (first | (with_reducible first | exact HB.out | apply below_alloc | apply pw_below_drewN | apply below_drew1) | exact HB.out))) : w.heap.size ≤ gb253)); clear HB; have HB := n0_; have BK253 := n1_; have GW253 := n2_; have GE253 := n3_; clear n0_ n1_ n2_ n3_; clear hb hbox hg) | ((with_reducible refine gate_dst (N := 5) rfl ?_); refine box_event ?hg (N := 5) ?hd (cs := #[.int .i64 a2_0, .int .i64 a2_1, .int .i64 a2_2, .bool a2_3, .int .i64 a2_4, .int .i64 a2_5, .int .i64 a2_6, .int .i64 a2_7, .int .i64 a2_8, .int .u32 a2_9, .int .i64 a2_10]) (t := 29) ?hr ?_; (case hd => rfl); (case hg => rfl); (case hr => first | (go_simp; done) | (go_simp; rfl)); intro gb254 hg w9 hbox hb; have n0_ := Aside0.mk (blk_below (g := gb253) (o := .cells #[.slice A0_0 l0_0.length c0_0, .int .i64 a0_1] 66 (0, 0)) (by (with_reducible repeat (first | refine blk_drewN ?_ _ | refine blk_drew ?_ | refine blk_alloc ?_ _)); exact BK253.out) hb); have n1_ := Aside0.mk (below_step (by repeat (first | (with_reducible first | exact HB.out | apply below_alloc | apply pw_below_drewN | apply below_drew1 | refine below_set ?_ GE253.out) | exact HB.out)) hb); have n2_ := Aside0.mk (hbox); have n3_ := Aside0.mk ((by rw [hg]; exact (below_size (by repeat (first | (with_reducible first | exact HB.out | apply below_alloc | apply pw_below_drewN | apply below_drew1 | refine below_set ?_ GE253.out) | exact HB.out))) : w.heap.size ≤ gb254)); have n4_ := Aside0.mk ((by rw [hg]; exact (below_size (by repeat (first | (with_reducible first | exact HB.out | apply below_alloc | apply pw_below_drewN | apply below_drew1 | refine below_set ?_ GE253.out) | exact HB.out))) : w.heap.size ≤ gb254)); have n5_ := Aside0.mk ((by rw [hg]; exact Nat.ne_of_lt (blk_lt (g := gb253) (o := .cells #[.slice A0_0 l0_0.length c0_0, .int .i64 a0_1] 66 (0, 0)) (by (with_reducible repeat (first | refine blk_drewN ?_ _ | refine blk_drew ?_ | refine blk_alloc ?_ _)); exact BK253.out)) : gb253 ≠ gb254)); have n6_ := Aside0.mk ((by rw [hg]; exact Nat.ne_of_gt (blk_lt (g := gb253) (o := .cells #[.slice A0_0 l0_0.length c0_0, .int .i64 a0_1] 66 (0, 0)) (by (with_reducible repeat (first | refine blk_drewN ?_ _ | refine blk_drew ?_ | refine blk_alloc ?_ _)); exact BK253.out)) : gb254 ≠ gb253)); clear BK253; clear HB; have BK253 := n0_; have HB := n1_; have BK254 := n2_; have GW254 := n3_; have GE254 := n4_; have NB253_254 := n5_; have NB254_253 := n6_; clear n0_ n1_ n2_ n3_ n4_ n5_ n6_; clear hb hbox hg) | ((with_reducible refine gate_dst (N := 6) rfl ?_); refine box_event ?hg (N := 6) ?hd (cs := #[.slice none 0 0, .int .i64 0]) (t := 66) ?hr ?_; (case hd => rfl); (case hg => rfl); (case hr => first | (go_simp; done) | (go_simp; rfl)); intro gb255 hg w10 hbox hb; have n0_ := Aside0.mk (blk_below (g := gb253) (o := .cells #[.slice A0_0 l0_0.length c0_0, .int .i64 a0_1] 66 (0, 0)) (by (with_reducible repeat (first | refine blk_drewN ?_ _ | refine blk_drew ?_ | refine blk_alloc ?_ _)); exact BK253.out) hb); have n1_ := Aside0.mk (blk_below (g := gb254) (o := .cells #[.int .i64 a2_0, .int .i64 a2_1, .int .i64 a2_2, .bool a2_3, .int .i64 a2_4, .int .i64 a2_5, .int .i64 a2_6, .int .i64 a2_7, .int .i64 a2_8, .int .u32 a2_9, .int .i64 a2_10] 29 (0, 0)) (by (with_reducible repeat (first | refine blk_drewN ?_ _ | refine blk_drew ?_ | refine blk_alloc ?_ _)); exact BK254.out) hb); have n2_ := Aside0.mk (below_step (by repeat (first | (with_reducible first | exact HB.out | apply below_alloc | apply pw_below_drewN | apply below_drew1 | refine below_set ?_ GE253.out | refine below_set ?_ GE254.out) | exact HB.out)) hb); have n3_ := Aside0.mk (hbox); have n4_ := Aside0.mk ((by rw [hg]; exact (below_size (by repeat (first | (with_reducible first | exact HB.out | apply below_alloc | apply pw_below_drewN | apply below_drew1 | refine below_set ?_ GE253.out | refine below_set ?_ GE254.out) | exact HB.out))) : w.heap.size ≤ gb255)); have n5_ := Aside0.mk ((by rw [hg]; exact (below_size (by repeat (first | (with_reducible first | exact HB.out | apply below_alloc | apply pw_below_drewN | apply below_drew1 | refine below_set ?_ GE253.out | refine below_set ?_ GE254.out) | exact HB.out))) : w.heap.size ≤ gb255)); have n6_ := Aside0.mk ((by rw [hg]; exact Nat.ne_of_lt (blk_lt (g := gb253) (o := .cells #[.slice A0_0 l0_0.length c0_0, .int .i64 a0_1] 66 (0, 0)) (by (with_reducible repeat (first | refine blk_drewN ?_ _ | refine blk_drew ?_ | refine blk_alloc ?_ _)); exact BK253.out)) : gb253 ≠ gb255)); have n7_ := Aside0.mk ((by rw [hg]; exact Nat.ne_of_gt (blk_lt (g := gb253) (o := .cells #[.slice A0_0 l0_0.length c0_0, .int .i64 a0_1] 66 (0, 0)) (by (with_reducible repeat (first | refine blk_drewN ?_ _ | refine blk_drew ?_ | refine blk_alloc ?_ _)); exact BK253.out)) : gb255 ≠ gb253)); have n8_ := Aside0.mk ((by rw [hg]; exact Nat.ne_of_lt (blk_lt (g := gb254) (o := .cells #[.int .i64 a2_0, .int .i64 a2_1, .int .i64 a2_2, .bool a2_3, .int .i64 a2_4, .int .i64 a2_5, .int .i64 a2_6, .int .i64 a2_7, .int .i64 a2_8, .int .u32 a2_9, .int .i64 a2_10] 29 (0, 0)) (by (with_reducible repeat (first | refine blk_drewN ?_ _ | refine blk_drew ?_ | refine blk_alloc ?_ _)); exact BK254.out)) : gb254 ≠ gb255)); have n9_ := Aside0.mk ((by rw [hg]; exact Nat.ne_of_gt (blk_lt (g := gb254) (o := .cells #[.int .i64 a2_0, .int .i64 a2_1, .int .i64 a2_2, .bool a2_3, .int .i64 a2_4, .int .i64 a2_5, .int .i64 a2_6, .int .i64 a2_7, .int .i64 a2_8, .int .u32 a2_9, .int .i64 a2_10] 29 (0, 0)) (by (with_reducible repeat (first | refine blk_drewN ?_ _ | refine blk_drew ?_ | refine blk_alloc ?_ _)); exact BK254.out)) : gb255 ≠ gb254)); clear BK253; clear BK254; clear HB; have BK253 := n0_; have BK254 := n1_; have HB := n2_; have BK255 := n3_; have GW255 := n4_; have GE255 := n5_; have NB253_255 := n6_; have NB255_253 := n7_; have NB254_255 := n8_; have NB255_254 := n9_; clear n0_ n1_ n2_ n3_ n4_ n5_ n6_ n7_ n8_ n9_; clear hb hbox hg) | ((with_reducible refine gate_dst (N := 7) rfl ?_); refine Kd.R_lit k29 _ 29 ?hg (N := 7) ?hd (xs := ([] : List (S29))) (inner := []) (ok := fun _ => True) (okp := fun _ => True) ?hr ?hp (fun _ hk => hk) trivial (Below.refl _ _) (Nat.le_refl _) (by simp) ?_; (case hd => rfl); (case hg => rfl); (case hr => first | (go_simp; done) | (go_simp; rfl)); (case hp => exact (Reps.none _ _)); intro v257 w11 ho12 hb hg_ hnew_; clear hg_ hnew_; (first | rw [← Ny256.out] at ho12 | (simp only [Int.reduceToNat] at ho12; rw [← Ny256.out] at ho12)); have n0_ := Aside0.mk (Kd.R_lower (Kd.R_newB ho12 (g := gb254) (o := .cells #[.int .i64 a2_0, .int .i64 a2_1, .int .i64 a2_2, .bool a2_3, .int .i64 a2_4, .int .i64 a2_5, .int .i64 a2_6, .int .i64 a2_7, .int .i64 a2_8, .int .u32 a2_9, .int .i64 a2_10] 29 (0, 0)) (by (with_reducible repeat (first | refine blk_drewN ?_ _ | refine blk_drew ?_ | refine blk_alloc ?_ _)); exact BK254.out)) (below_size (by repeat (first | (with_reducible first | exact HB.out | apply below_alloc | apply pw_below_drewN | apply below_drew1 | refine below_set ?_ GE253.out | refine below_set ?_ GE254.out | refine below_set ?_ GE255.out) | exact HB.out)))); have n1_ := Aside0.mk (blk_below (g := gb253) (o := .cells #[.slice A0_0 l0_0.length c0_0, .int .i64 a0_1] 66 (0, 0)) (by (with_reducible repeat (first | refine blk_drewN ?_ _ | refine blk_drew ?_ | refine blk_alloc ?_ _)); exact BK253.out) hb); have n2_ := Aside0.mk (blk_below (g := gb254) (o := .cells #[.int .i64 a2_0, .int .i64 a2_1, .int .i64 a2_2, .bool a2_3, .int .i64 a2_4, .int .i64 a2_5, .int .i64 a2_6, .int .i64 a2_7, .int .i64 a2_8, .int .u32 a2_9, .int .i64 a2_10] 29 (0, 0)) (by (with_reducible repeat (first | refine blk_drewN ?_ _ | refine blk_drew ?_ | refine blk_alloc ?_ _)); exact BK254.out) hb); have n3_ := Aside0.mk (blk_below (g := gb255) (o := .cells #[.slice none 0 0, .int .i64 0] 66 (0, 0)) (by (with_reducible repeat (first | refine blk_drewN ?_ _ | refine blk_drew ?_ | refine blk_alloc ?_ _)); exact BK255.out) hb); have n4_ := Aside0.mk (below_step (by repeat (first | (with_reducible first | exact HB.out | apply below_alloc | apply pw_below_drewN | apply below_drew1 | refine below_set ?_ GE253.out | refine below_set ?_ GE254.out | refine below_set ?_ GE255.out) | exact HB.out)) hb); clear BK253; clear BK254; clear BK255; clear HB; have HO258 := n0_; have BK253 := n1_; have BK254 := n2_; have BK255 := n3_; have HB := n4_; clear n0_ n1_ n2_ n3_ n4_; clear hb ho12; have hnb13 := NB253_254.out; have hnc13 := NB254_253.out; have hnb14 := NB253_255.out; have hnc14 := NB255_253.out; have hcz15_0 : w11.cell? ⟨gb253, 0, none⟩ = some (.slice A0_0 l0_0.length c0_0) := (blk_cell BK253.out 0).trans rfl; have hcz15_1 : w11.cell? ⟨gb253, 1, none⟩ = some (.int .i64 a0_1) := (blk_cell BK253.out 1).trans rfl; have hfz15_0 := blk_frozen BK253.out 0; have hfz15_1 := blk_frozen BK253.out 1) | ((with_reducible refine gate_builtin (b := .append) (xs := #[.tmp 7, .tmp 9]) rfl ?_); at_builtin; refine Kd.R_append_rows k29 (w0 := w) w.heap.size rfl (.tmp 7) (.tmp 9) 64 29 (.agg #[(.int .i64 0), (.int .i64 0), (.int .i64 0), (.bool false), (.int .i64 0), (.int .i64 0), (.int .i64 0), (.int .i64 0), (.int .i64 0), (.int .u32 0), (.int .i64 0)]) 88 rfl Try.underlying64 info29 rfl (by decide) (by omega) v257 y256 l0_0 _ _ _ (fun k_ => k_ ≠ gb254) (fun _ => False) rfl rfl ?aO ?aR (fun _ _ h => h) (fun _ h => h.elim) ?aF ?aB ?aS ?aL ?_; (case aR => repeat (first | exact (Kd.C_below HR0_0.out HB.out) | (with_reducible refine Kd.C_alloc ?_ _) | (with_reducible refine Kd.C_drewN ?_ _) | (with_reducible refine Kd.C_drew ?_))); (case aB => exact (by repeat (first | (with_reducible first | exact HB.out | apply below_alloc | apply pw_below_drewN | apply below_drew1 | refine below_set ?_ GE253.out | refine below_set ?_ GE254.out | refine below_set ?_ GE255.out) | exact HB.out))); (case aF => exact (fun k_ hk => Kd.freshB (g := gb254) (o := .cells #[.int .i64 a2_0, .int .i64 a2_1, .int .i64 a2_2, .bool a2_3, .int .i64 a2_4, .int .i64 a2_5, .int .i64 a2_6, .int .i64 a2_7, .int .i64 a2_8, .int .u32 a2_9, .int .i64 a2_10] 29 (0, 0)) (by (with_reducible repeat (first | refine blk_drewN ?_ _ | refine blk_drew ?_ | refine blk_alloc ?_ _)); exact BK254.out) k_ hk)); (case aO => exact (by (with_reducible repeat (first | apply Kd.R_alloc | apply Kd.R_drewN | apply Kd.R_drew)); exact Kd.R_mono HO258.out (fun _ hk => hk.2))); (case aS => exact (below_size (by repeat (first | (with_reducible first | exact HB.out | apply below_alloc | apply pw_below_drewN | apply below_drew1 | refine below_set ?_ GE253.out | refine below_set ?_ GE254.out | refine below_set ?_ GE255.out) | exact HB.out)))); (case aL => have := LMc4.out; omega); intro v260 w16 ho hb hg hat; rw [← Ny259.out] at ho; have n0_ := Aside0.mk (blk_grown (g := gb253) (o := .cells #[.slice A0_0 l0_0.length c0_0, .int .i64 a0_1] 66 (0, 0)) (by (with_reducible repeat (first | refine blk_drewN ?_ _ | refine blk_drew ?_ | refine blk_alloc ?_ _)); exact BK253.out) hg (Kd.R_ne HO258.out BK253.out (by decide))); have n1_ := Aside0.mk (blk_grown (g := gb254) (o := .cells #[.int .i64 a2_0, .int .i64 a2_1, .int .i64 a2_2, .bool a2_3, .int .i64 a2_4, .int .i64 a2_5, .int .i64 a2_6, .int .i64 a2_7, .int .i64 a2_8, .int .u32 a2_9, .int .i64 a2_10] 29 (0, 0)) (by (with_reducible repeat (first | refine blk_drewN ?_ _ | refine blk_drew ?_ | refine blk_alloc ?_ _)); exact BK254.out) hg (Kd.R_away HO258.out (fun _ hk => hk.2))); have n2_ := Aside0.mk (blk_grown (g := gb255) (o := .cells #[.slice none 0 0, .int .i64 0] 66 (0, 0)) (by (with_reducible repeat (first | refine blk_drewN ?_ _ | refine blk_drew ?_ | refine blk_alloc ?_ _)); exact BK255.out) hg (Kd.R_ne HO258.out BK255.out (by decide))); have n3_ := Aside0.mk (hb); have n4_ := Aside0.mk (ho); clear BK253; clear BK254; clear BK255; clear HB; clear HO258; have BK253 := n0_; have BK254 := n1_; have BK255 := n2_; have HB := n3_; have HO261 := n4_; clear n0_ n1_ n2_ n3_ n4_; clear ho hb hg hat; obtain ⟨Ao17, co17, eo17⟩ := Kd.R_slice HO261.out; subst eo17; have hcz18_0 : w16.cell? ⟨gb253, 0, none⟩ = some (.slice A0_0 l0_0.length c0_0) := (blk_cell BK253.out 0).trans rfl; have hcz18_1 : w16.cell? ⟨gb253, 1, none⟩ = some (.int .i64 a0_1) := (blk_cell BK253.out 1).trans rfl; have hfz18_0 := blk_frozen BK253.out 0; have hfz18_1 := blk_frozen BK253.out 1) | ((with_reducible refine gate_store (t := 64) (p := 11) rfl ?_); refine store_event (t := 64) (p := 11) (v := ?vo_w19) (w1 := (w16.setCell ⟨gb253, 0, none⟩ (.slice Ao17 y259.length co17))) ?hg ?ho ?hn ?hr ?_; (case ho => rfl); (case hg => rfl); (case hn => rfl); (case hr => first | (go_simp; done) | (go_simp; rfl)); intro w19 hw; have n0_ : Aside0 (Kd.R k29 29 w19 w.heap.size (fun k_ => k_ ≠ gb254) (.slice Ao17 y259.length co17) y259) := ⟨(by rw [hw]; exact (by (with_reducible repeat (first | apply Kd.R_alloc | apply Kd.R_drewN | apply Kd.R_drew)); exact Kd.R_mono (Kd.R_far (p := ⟨gb253, 0, none⟩) (Kd.R_types HO261.out BK253.out (by decide)) (fun _ hk => hk.2) (.slice Ao17 y259.length co17)) (fun _ hk => hk.1)))⟩; have n1_ : Aside0 (w19.heap[gb253]? = some (.cells #[.slice Ao17 y259.length co17, .int .i64 a0_1] 66 (0, 0))) := ⟨(by rw [hw]; exact (by (with_reducible repeat (first | refine blk_drewN ?_ _ | refine blk_drew ?_ | refine blk_alloc ?_ _)); refine blk_put (cs := #[.slice A0_0 l0_0.length c0_0, .int .i64 a0_1]) ?_ 0 _ rfl; (with_reducible repeat (first | refine blk_drewN ?_ _ | refine blk_drew ?_ | refine blk_alloc ?_ _)); exact BK253.out))⟩; have n2_ : Aside0 (w19.heap[gb254]? = some (.cells #[.int .i64 a2_0, .int .i64 a2_1, .int .i64 a2_2, .bool a2_3, .int .i64 a2_4, .int .i64 a2_5, .int .i64 a2_6, .int .i64 a2_7, .int .i64 a2_8, .int .u32 a2_9, .int .i64 a2_10] 29 (0, 0))) := ⟨(by rw [hw]; exact (by (with_reducible repeat (first | refine blk_drewN ?_ _ | refine blk_drew ?_ | refine blk_alloc ?_ _)); refine blk_far ?_ NB254_253.out _; (with_reducible repeat (first | refine blk_drewN ?_ _ | refine blk_drew ?_ | refine blk_alloc ?_ _)); exact BK254.out))⟩; have n3_ : Aside0 (w19.heap[gb255]? = some (.cells #[.slice none 0 0, .int .i64 0] 66 (0, 0))) := ⟨(by rw [hw]; exact (by (with_reducible repeat (first | refine blk_drewN ?_ _ | refine blk_drew ?_ | refine blk_alloc ?_ _)); refine blk_far ?_ NB255_253.out _; (with_reducible repeat (first | refine blk_drewN ?_ _ | refine blk_drew ?_ | refine blk_alloc ?_ _)); exact BK255.out))⟩; have n4_ : Aside0 (Below w.heap.size w w19) := ⟨(by rw [hw]; exact (by repeat (first | (with_reducible first | exact HB.out | apply below_alloc | apply pw_below_drewN | apply below_drew1 | refine below_set ?_ GE253.out | refine below_set ?_ GE254.out | refine below_set ?_ GE255.out) | exact HB.out)))⟩; clear hw; clear HO261; clear BK253; clear BK254; clear BK255; clear HB; have HO261 := n0_; have BK253 := n1_; have BK254 := n2_; have BK255 := n3_; have HB := n4_; clear n0_ n1_ n2_ n3_ n4_; have hcz20_0 : w19.cell? ⟨gb253, 0, none⟩ = some (.slice Ao17 y259.length co17) := (blk_cell BK253.out 0).trans rfl; have hcz20_1 : w19.cell? ⟨gb253, 1, none⟩ = some (.int .i64 a0_1) := (blk_cell BK253.out 1).trans rfl; have hfz20_0 := blk_frozen BK253.out 0; have hfz20_1 := blk_frozen BK253.out 1; have hnb21 := NB254_255.out; have hnc21 := NB255_254.out; have hcz22_0 : w19.cell? ⟨gb254, 0, none⟩ = some (.int .i64 a2_0) := (blk_cell BK254.out 0).trans rfl; have hcz22_1 : w19.cell? ⟨gb254, 1, none⟩ = some (.int .i64 a2_1) := (blk_cell BK254.out 1).trans rfl; have hcz22_2 : w19.cell? ⟨gb254, 2, none⟩ = some (.int .i64 a2_2) := (blk_cell BK254.out 2).trans rfl; have hcz22_3 : w19.cell? ⟨gb254, 3, none⟩ = some (.bool a2_3) := (blk_cell BK254.out 3).trans rfl; have hcz22_4 : w19.cell? ⟨gb254, 4, none⟩ = some (.int .i64 a2_4) := (blk_cell BK254.out 4).trans rfl; have hcz22_5 : w19.cell? ⟨gb254, 5, none⟩ = some (.int .i64 a2_5) := (blk_cell BK254.out 5).trans rfl; have hcz22_6 : w19.cell? ⟨gb254, 6, none⟩ = some (.int .i64 a2_6) := (blk_cell BK254.out 6).trans rfl; have hcz22_7 : w19.cell? ⟨gb254, 7, none⟩ = some (.int .i64 a2_7) := (blk_cell BK254.out 7).trans rfl; have hcz22_8 : w19.cell? ⟨gb254, 8, none⟩ = some (.int .i64 a2_8) := (blk_cell BK254.out 8).trans rfl; have hcz22_9 : w19.cell? ⟨gb254, 9, none⟩ = some (.int .u32 a2_9) := (blk_cell BK254.out 9).trans rfl; have hcz22_10 : w19.cell? ⟨gb254, 10, none⟩ = some (.int .i64 a2_10) := (blk_cell BK254.out 10).trans rfl; have hfz22_0 := blk_frozen BK254.out 0; have hfz22_1 := blk_frozen BK254.out 1; have hfz22_2 := blk_frozen BK254.out 2; have hfz22_3 := blk_frozen BK254.out 3; have hfz22_4 := blk_frozen BK254.out 4; have hfz22_5 := blk_frozen BK254.out 5; have hfz22_6 := blk_frozen BK254.out 6; have hfz22_7 := blk_frozen BK254.out 7; have hfz22_8 := blk_frozen BK254.out 8; have hfz22_9 := blk_frozen BK254.out 9; have hfz22_10 := blk_frozen BK254.out 10; have p7 : 0 ≤ (a1 : Int) := of_decide_eq_true (by first | (with_reducible assumption) | assumption); have q7 : (a1 : Int) < ((y259.length : Int) : Int) := of_decide_eq_true (by first | (with_reducible assumption) | assumption); obtain ⟨go7, co7, eo7, gb7, gl7, cl7, HG7⟩ := Kd.R_form HO261.out (by omega); (first | cases eo7 | (injection eo7 with ea_ en_ ec_; (first | subst ea_ | (injection ea_ with ea_; subst ea_)); subst ec_; clear en_)); have GB7 := Aside0.mk gb7; have GG7 := Aside0.mk HG7; clear gb7 gl7 HG7; obtain ⟨ce7, hcl7, hM7, hcc7, hfr7⟩ := Kd.R_elem HO261.out z29 (a1 : Int) p7 q7; obtain rfl := k29_openM hM7; have hx7_0 : w19.cell? ⟨go7, (a1 : Int).toNat * 11, none⟩ = some (.int .i64 ((rd_T29 y259 a1).f0.f0)) := hcc7 0 _ rfl; have hx7_1 : w19.cell? ⟨go7, (a1 : Int).toNat * 11 + 1, none⟩ = some (.int .i64 ((rd_T29 y259 a1).f0.f1)) := hcc7 1 _ rfl; have hx7_2 : w19.cell? ⟨go7, (a1 : Int).toNat * 11 + 2, none⟩ = some (.int .i64 ((rd_T29 y259 a1).f0.f2)) := hcc7 2 _ rfl; have hx7_3 : w19.cell? ⟨go7, (a1 : Int).toNat * 11 + 3, none⟩ = some (.bool ((rd_T29 y259 a1).f0.f3)) := hcc7 3 _ rfl; have hx7_4 : w19.cell? ⟨go7, (a1 : Int).toNat * 11 + 4, none⟩ = some (.int .i64 ((rd_T29 y259 a1).f1.f0)) := hcc7 4 _ rfl; have hx7_5 : w19.cell? ⟨go7, (a1 : Int).toNat * 11 + 5, none⟩ = some (.int .i64 ((rd_T29 y259 a1).f1.f1)) := hcc7 5 _ rfl; have hx7_6 : w19.cell? ⟨go7, (a1 : Int).toNat * 11 + 6, none⟩ = some (.int .i64 ((rd_T29 y259 a1).f1.f2)) := hcc7 6 _ rfl; have hx7_7 : w19.cell? ⟨go7, (a1 : Int).toNat * 11 + 7, none⟩ = some (.int .i64 ((rd_T29 y259 a1).f2)) := hcc7 7 _ rfl; have hx7_8 : w19.cell? ⟨go7, (a1 : Int).toNat * 11 + 8, none⟩ = some (.int .i64 ((rd_T29 y259 a1).f3)) := hcc7 8 _ rfl; have hx7_9 : w19.cell? ⟨go7, (a1 : Int).toNat * 11 + 9, none⟩ = some (.int .u32 ((rd_T29 y259 a1).f4)) := hcc7 9 _ rfl; have hx7_10 : w19.cell? ⟨go7, (a1 : Int).toNat * 11 + 10, none⟩ = some (.int .i64 ((rd_T29 y259 a1).f5)) := hcc7 10 _ rfl; have hf7_0 : w19.frozen? ⟨go7, (a1 : Int).toNat * 11, none⟩ = false := hfr7 0; have hf7_1 : w19.frozen? ⟨go7, (a1 : Int).toNat * 11 + 1, none⟩ = false := hfr7 1; have hf7_2 : w19.frozen? ⟨go7, (a1 : Int).toNat * 11 + 2, none⟩ = false := hfr7 2; have hf7_3 : w19.frozen? ⟨go7, (a1 : Int).toNat * 11 + 3, none⟩ = false := hfr7 3; have hf7_4 : w19.frozen? ⟨go7, (a1 : Int).toNat * 11 + 4, none⟩ = false := hfr7 4; have hf7_5 : w19.frozen? ⟨go7, (a1 : Int).toNat * 11 + 5, none⟩ = false := hfr7 5; have hf7_6 : w19.frozen? ⟨go7, (a1 : Int).toNat * 11 + 6, none⟩ = false := hfr7 6; have hf7_7 : w19.frozen? ⟨go7, (a1 : Int).toNat * 11 + 7, none⟩ = false := hfr7 7; have hf7_8 : w19.frozen? ⟨go7, (a1 : Int).toNat * 11 + 8, none⟩ = false := hfr7 8; have hf7_9 : w19.frozen? ⟨go7, (a1 : Int).toNat * 11 + 9, none⟩ = false := hfr7 9; have hf7_10 : w19.frozen? ⟨go7, (a1 : Int).toNat * 11 + 10, none⟩ = false := hfr7 10; clear hcl7 hcc7 hfr7 hM7; replace p7 := eq_true p7; replace q7 := eq_true q7; have HX23 := Aside0.mk (show Kd.R k29 29 w19 w.heap.size (fun k_ => k_ ≠ gb254) (.slice (some ⟨go7, 0, none⟩) y259.length co17) y259 from (by (with_reducible repeat (first | apply Kd.R_alloc | apply Kd.R_drewN | apply Kd.R_drew)); exact HO261.out)); obtain ⟨ce23, hcl23, hM23, hcc23, hfr23⟩ := Kd.R_elem HX23.out z29 (a1 : Int) (of_decide_eq_true (by first | (with_reducible assumption) | assumption)) (by have h_ : (a1 : Int) < ((y259.length : Int) : Int) := of_decide_eq_true (by first | (with_reducible assumption) | assumption); first | exact h_ | (have e_ := (Kd.R_reads' HO261.out).1; omega) | simpa using h_); obtain rfl := k29_openM hM23; have HP23 := Kd.R_seg HX23.out (a1 : Int) (of_decide_eq_true (by first | (with_reducible assumption) | assumption)) (by have h_ : (a1 : Int) < ((y259.length : Int) : Int) := of_decide_eq_true (by first | (with_reducible assumption) | assumption); first | exact h_ | (have e_ := (Kd.R_reads' HO261.out).1; omega) | simpa using h_) (seg := [.int .i64 a2_0, .int .i64 a2_1, .int .i64 a2_2, .bool a2_3, .int .i64 a2_4, .int .i64 a2_5, .int .i64 a2_6, .int .i64 a2_7, .int .i64 a2_8, .int .u32 a2_9, .int .i64 a2_10]) (j := 0) hcl23 hcc23 (show 11 ≤ 11 from by decide) (x' := (⟨(⟨a2_0, a2_1, a2_2, a2_3⟩ : S23), (⟨a2_4, a2_5, a2_6⟩ : S25), a2_7, a2_8, a2_9, a2_10⟩ : S29)) (k29_mkM _ _ _ (⟨(⟨a2_0, a2_1, a2_2, a2_3⟩ : S23), (⟨a2_4, a2_5, a2_6⟩ : S25), a2_7, a2_8, a2_9, a2_10⟩ : S29) ) (fun _ hk => hk); have hx23_0 := hcc23 0 _ rfl; (try simp only [show (k29).sz = 11 from rfl, Nat.mul_one, Nat.add_zero] at hx23_0); have hf23_0 := hfr23 0; (try simp only [show (k29).sz = 11 from rfl, Nat.mul_one, Nat.add_zero] at hf23_0); have hx23_1 := hcc23 1 _ rfl; (try simp only [show (k29).sz = 11 from rfl, Nat.mul_one, Nat.add_zero] at hx23_1); have hf23_1 := hfr23 1; (try simp only [show (k29).sz = 11 from rfl, Nat.mul_one, Nat.add_zero] at hf23_1); have hx23_2 := hcc23 2 _ rfl; (try simp only [show (k29).sz = 11 from rfl, Nat.mul_one, Nat.add_zero] at hx23_2); have hf23_2 := hfr23 2; (try simp only [show (k29).sz = 11 from rfl, Nat.mul_one, Nat.add_zero] at hf23_2); have hx23_3 := hcc23 3 _ rfl; (try simp only [show (k29).sz = 11 from rfl, Nat.mul_one, Nat.add_zero] at hx23_3); have hf23_3 := hfr23 3; (try simp only [show (k29).sz = 11 from rfl, Nat.mul_one, Nat.add_zero] at hf23_3); have hx23_4 := hcc23 4 _ rfl; (try simp only [show (k29).sz = 11 from rfl, Nat.mul_one, Nat.add_zero] at hx23_4); have hf23_4 := hfr23 4; (try simp only [show (k29).sz = 11 from rfl, Nat.mul_one, Nat.add_zero] at hf23_4); have hx23_5 := hcc23 5 _ rfl; (try simp only [show (k29).sz = 11 from rfl, Nat.mul_one, Nat.add_zero] at hx23_5); have hf23_5 := hfr23 5; (try simp only [show (k29).sz = 11 from rfl, Nat.mul_one, Nat.add_zero] at hf23_5); have hx23_6 := hcc23 6 _ rfl; (try simp only [show (k29).sz = 11 from rfl, Nat.mul_one, Nat.add_zero] at hx23_6); have hf23_6 := hfr23 6; (try simp only [show (k29).sz = 11 from rfl, Nat.mul_one, Nat.add_zero] at hf23_6); have hx23_7 := hcc23 7 _ rfl; (try simp only [show (k29).sz = 11 from rfl, Nat.mul_one, Nat.add_zero] at hx23_7); have hf23_7 := hfr23 7; (try simp only [show (k29).sz = 11 from rfl, Nat.mul_one, Nat.add_zero] at hf23_7); have hx23_8 := hcc23 8 _ rfl; (try simp only [show (k29).sz = 11 from rfl, Nat.mul_one, Nat.add_zero] at hx23_8); have hf23_8 := hfr23 8; (try simp only [show (k29).sz = 11 from rfl, Nat.mul_one, Nat.add_zero] at hf23_8); have hx23_9 := hcc23 9 _ rfl; (try simp only [show (k29).sz = 11 from rfl, Nat.mul_one, Nat.add_zero] at hx23_9); have hf23_9 := hfr23 9; (try simp only [show (k29).sz = 11 from rfl, Nat.mul_one, Nat.add_zero] at hf23_9); have hx23_10 := hcc23 10 _ rfl; (try simp only [show (k29).sz = 11 from rfl, Nat.mul_one, Nat.add_zero] at hx23_10); have hf23_10 := hfr23 10; (try simp only [show (k29).sz = 11 from rfl, Nat.mul_one, Nat.add_zero] at hf23_10); clear hcl23 hcc23 hfr23 hM23) | ((with_reducible refine gate_store (t := 29) (p := 16) rfl ?_); refine store_event (t := 29) (p := 16) (v := ?vo_w24) (w1 := (((((((((((w19.setCell ⟨go7, (a1 : Int).toNat * 11, none⟩ (.int .i64 a2_0)).setCell ⟨go7, (a1 : Int).toNat * 11 + 1, none⟩ (.int .i64 a2_1)).setCell ⟨go7, (a1 : Int).toNat * 11 + 2, none⟩ (.int .i64 a2_2)).setCell ⟨go7, (a1 : Int).toNat * 11 + 3, none⟩ (.bool a2_3)).setCell ⟨go7, (a1 : Int).toNat * 11 + 4, none⟩ (.int .i64 a2_4)).setCell ⟨go7, (a1 : Int).toNat * 11 + 5, none⟩ (.int .i64 a2_5)).setCell ⟨go7, (a1 : Int).toNat * 11 + 6, none⟩ (.int .i64 a2_6)).setCell ⟨go7, (a1 : Int).toNat * 11 + 7, none⟩ (.int .i64 a2_7)).setCell ⟨go7, (a1 : Int).toNat * 11 + 8, none⟩ (.int .i64 a2_8)).setCell ⟨go7, (a1 : Int).toNat * 11 + 9, none⟩ (.int .u32 a2_9)).setCell ⟨go7, (a1 : Int).toNat * 11 + 10, none⟩ (.int .i64 a2_10))) ?hg ?ho ?hn ?hr ?_; (case ho => rfl); (case hg => rfl); (case hn => rfl); (case hr => first | (go_simp; done) | (go_simp; rfl)); intro w24 hw; have hg : w19.grownBy w24 (some go7) := (by rw [hw]; exact HP23.2); have hp_ : Kd.R k29 29 w24 w.heap.size (fun k_ => k_ ≠ gb254) (.slice (some ⟨go7, 0, none⟩) y259.length co17) y262 := (by rw [hw, Ny262.out]; exact HP23.1); clear HP23; have n0_ := Aside0.mk (blk_grown (g := gb253) (o := .cells #[.slice (some ⟨go7, 0, none⟩) y259.length co17, .int .i64 a0_1] 66 (0, 0)) (by (with_reducible repeat (first | refine blk_drewN ?_ _ | refine blk_drew ?_ | refine blk_alloc ?_ _)); exact BK253.out) hg (Kd.R_ne HO261.out BK253.out (by decide))); have n1_ := Aside0.mk (blk_grown (g := gb254) (o := .cells #[.int .i64 a2_0, .int .i64 a2_1, .int .i64 a2_2, .bool a2_3, .int .i64 a2_4, .int .i64 a2_5, .int .i64 a2_6, .int .i64 a2_7, .int .i64 a2_8, .int .u32 a2_9, .int .i64 a2_10] 29 (0, 0)) (by (with_reducible repeat (first | refine blk_drewN ?_ _ | refine blk_drew ?_ | refine blk_alloc ?_ _)); exact BK254.out) hg (Kd.R_away HO261.out (fun _ hk => hk))); have n2_ := Aside0.mk (blk_grown (g := gb255) (o := .cells #[.slice none 0 0, .int .i64 0] 66 (0, 0)) (by (with_reducible repeat (first | refine blk_drewN ?_ _ | refine blk_drew ?_ | refine blk_alloc ?_ _)); exact BK255.out) hg (Kd.R_ne HO261.out BK255.out (by decide))); have n3_ := Aside0.mk (hp_); have n4_ := Aside0.mk ((by rw [hw]; exact below_set (below_set (below_set (below_set (below_set (below_set (below_set (below_set (below_set (below_set (below_set (HB.out) GB7.out) GB7.out) GB7.out) GB7.out) GB7.out) GB7.out) GB7.out) GB7.out) GB7.out) GB7.out) GB7.out : Below w.heap.size w w24)); clear BK253; clear BK254; clear BK255; clear HO261; clear HB; have BK253 := n0_; have BK254 := n1_; have BK255 := n2_; have HO261 := n3_; have HB := n4_; clear n0_ n1_ n2_ n3_ n4_; clear hg hw hp_; have hcz25_0 : w24.cell? ⟨gb253, 0, none⟩ = some (.slice (some ⟨go7, 0, none⟩) y259.length co17) := (blk_cell BK253.out 0).trans rfl; have hcz25_1 : w24.cell? ⟨gb253, 1, none⟩ = some (.int .i64 a0_1) := (blk_cell BK253.out 1).trans rfl; have hfz25_0 := blk_frozen BK253.out 0; have hfz25_1 := blk_frozen BK253.out 1; have hcz26_0 : w24.cell? ⟨gb255, 0, none⟩ = some (.slice none 0 0) := (blk_cell BK255.out 0).trans rfl; have hcz26_1 : w24.cell? ⟨gb255, 1, none⟩ = some (.int .i64 0) := (blk_cell BK255.out 1).trans rfl; have hfz26_0 := blk_frozen BK255.out 0; have hfz26_1 := blk_frozen BK255.out 1))
        refine bodyPost_ret (results_cell_row rfl _ _ gb255 66 #[.slice (some ⟨go7, 0, none⟩) y259.length co17, .int .i64 a0_1] (0, 0) _ rfl (by (with_reducible repeat (first | refine blk_drewN ?_ _ | refine blk_drew ?_ | refine blk_alloc ?_ _)); refine blk_put (cs := #[.slice (some ⟨go7, 0, none⟩) y259.length co17, .int .i64 0]) ?_ 1 _ rfl; (with_reducible repeat (first | refine blk_drewN ?_ _ | refine blk_drew ?_ | refine blk_alloc ?_ _)); refine blk_put (cs := #[.slice none 0 0, .int .i64 0]) ?_ 0 _ rfl; (with_reducible repeat (first | refine blk_drewN ?_ _ | refine blk_drew ?_ | refine blk_alloc ?_ _)); exact BK255.out) Try.underlying66 rfl (by kernel_rfl)) rfl ?_
        exact ⟨_, by first | rfl | (simp [errW_none, errW_some] <;> rfl) | (simp [*, errW_none, errW_some] <;> rfl), by (with_reducible repeat (first | apply Kd.R_alloc | apply Kd.R_drewN | apply Kd.R_drew)); exact Kd.R_mono (Kd.R_far (p := ⟨gb255, 1, none⟩) (Kd.R_far (p := ⟨gb255, 0, none⟩) (Kd.R_types HO261.out BK255.out (by decide)) (fun _ hk => hk.2) (.slice (some ⟨go7, 0, none⟩) y259.length co17)) (fun _ hk => hk.2) (.int .i64 a0_1)) (fun _ hk => trivial), by repeat (first | (with_reducible first | exact HB.out | apply below_alloc | apply pw_below_drewN | apply below_drew1 | refine below_set ?_ GE253.out | refine below_set ?_ GE254.out | refine below_set ?_ GE255.out) | exact HB.out)⟩
      · rw [if_neg c6] at H
        exact absurd H (by simp)
    · rw [if_neg c5] at H
      exact absurd H (by simp)
  · rw [if_neg c4] at H
    exact absurd H (by simp)

end Go.Proofs.Ytblooffiggciiaa.PPs
/- PPsx45 -/
namespace Go.Proofs.Ytblooffiggciiaa.PPs
open Go.RowKit Go.Proofs.YtblooffiggciiaaW.PrintWords Go.Proofs.YtblooffiggciiaaW.PrintLast Go.Proofs.YtblooffiggciiaaW.PrintMore
attribute [local go_sem] max2_int min2_int max_two min_two max_three min_three max_four min_four   -- for this text's walks alone
attribute [local go_sem] Go.Proofs.Ytblooffiggciiaa.Aid.isSome_setCell
def weftlineref14_Put.j0 : Nat → Bool → List (S29) → Int → Int → Int → Int → Bool → Int → Int → Int → Int → Int → Int → Int → Option ((List (S29)) × Int × Int)
  | 0, _, _, _, _, _, _, _, _, _, _, _, _, _, _ => none
  | k + 1, x14, x264000, x264001, x265000, x265001, x265002, x265003, x265004, x265005, x265006, x265007, x265008, x265009, x265010 => if x14 = true then (some (([] : List (S29)), 0, 1)) else ((weftlineref14_find.f k x264000 x264001 x265007).bind fun t268 => (if t268 < 0 then (some (([] : List (S29)), 0, 4)) else ((weftlineref14_set.f x264000 x264001 t268 x265000 x265001 x265002 x265003 x265004 x265005 x265006 x265007 x265008 x265009 x265010).bind fun bt269 => (some (bt269.1, bt269.2, 0)))))
end Go.Proofs.Ytblooffiggciiaa.PPs
/- PPsx49 -/
namespace Go.Proofs.Ytblooffiggciiaa.PPs
open Go.RowKit Go.Proofs.YtblooffiggciiaaW.PrintWords Go.Proofs.YtblooffiggciiaaW.PrintLast Go.Proofs.YtblooffiggciiaaW.PrintMore
attribute [local go_sem] max2_int min2_int max_two min_two max_three min_three max_four min_four   -- for this text's walks alone
attribute [local go_sem] Go.Proofs.Ytblooffiggciiaa.Aid.isSome_setCell
mutual
def weftlineref14_New.j0 : Nat → List Int → Bool → Option ((List (S29)) × Int × Int)
  | 0, _, _ => none
  | k + 1, x0, x14 => if x14 = true then (some (([] : List (S29)), 0, 1)) else (weftlineref14_New.l0 k x0 0 0)
def weftlineref14_New.l0 : Nat → List Int → Int → Int → Option ((List (S29)) × Int × Int)
  | 0, _, _, _ => none
  | k + 1, x0, x5, x285001 => if x5 < (x0.length : Int) then (if 0 ≤ x5 then ((weftlineref13_Addr.f (rd x0 x5)).bind fun t286 => (if t286 = true then (weftlineref14_New.l0 k x0 (wrap64 (x5 + 1)) x285001) else (some (([] : List (S29)), 0, 1)))) else (none)) else (weftlineref14_New.l1 k x0 0 ([] : List (S29)) x285001)
def weftlineref14_New.l1 : Nat → List Int → Int → List (S29) → Int → Option ((List (S29)) × Int × Int)
  | 0, _, _, _, _ => none
  | k + 1, x0, x6, x285000, x285001 => if x6 < (x0.length : Int) then (if 0 ≤ x6 then ((weftlineref14_find.f k x285000 x285001 (rd x0 x6)).bind fun t288 => (if t288 ≥ 0 then (some (([] : List (S29)), 0, 12)) else ((weftlineref13_New.f (rd x0 x6)).bind fun bt290 => (if x285000.length < 1599289640401 then (weftlineref14_New.l1 k x0 (wrap64 (x6 + 1)) (x285000 ++ [(⟨(⟨bt290.1, bt290.2.1, bt290.2.2.1, bt290.2.2.2.1⟩ : S23), (⟨bt290.2.2.2.2.1, bt290.2.2.2.2.2.1, bt290.2.2.2.2.2.2.1⟩ : S25), bt290.2.2.2.2.2.2.2.1, bt290.2.2.2.2.2.2.2.2.1, bt290.2.2.2.2.2.2.2.2.2.1, bt290.2.2.2.2.2.2.2.2.2.2⟩ : S29)]) x285001) else (none))))) else (none)) else (some (x285000, x285001, 0))
end
end Go.Proofs.Ytblooffiggciiaa.PPs
/- PsT -/
namespace Go.Proofs.Ytblooffiggciiaa.Ps
open Go.RowKit Go.Proofs.Ytblooffiggciiaa.PPs Go.Proofs.YtblooffiggciiaaW.PrintWords Go.Proofs.YtblooffiggciiaaW.PrintLast Go.Proofs.YtblooffiggciiaaW.PrintMore Go.Proofs.Ytblooffiggciiaa.Sh
def erN : Option Int → Int
  | none => 0
  | some e => e
theorem map_vc (l : List S29) : (l.map cv).map vc = l := by
  rw [List.map_map]
  have : vc ∘ cv = id := rfl
  rw [this, List.map_id]
theorem set_vc (l : List S29) (i : Nat) (x : S29) : ((l.map cv).set i (cv x)).map vc = l.set i x := by
  rw [← List.map_set, map_vc]
def ans (r : List S34 × Int × Option Int) : List S29 × Int × Int := (r.1.map vc, r.2.1, erN r.2.2)
end Go.Proofs.Ytblooffiggciiaa.Ps
/- PsAc -/
namespace Go.Proofs.Ytblooffiggciiaa.Ps
open Go.RowKit Go.Proofs.Ytblooffiggciiaa.PPs Go.Proofs.YtblooffiggciiaaW.PrintWords Go.Proofs.YtblooffiggciiaaW.PrintLast Go.Proofs.YtblooffiggciiaaW.PrintMore Go.Proofs.Ytblooffiggciiaa.Sh
abbrev PT : Type := (Int × Int × Int × Bool) × (Int × Int × Int) × Int × Int × Int × Int
abbrev PK : Kd PT := Kd.pair (Kd.pair (Kd.int .i64) (Kd.pair (Kd.int .i64) (Kd.pair (Kd.int .i64) Kd.bool))) (Kd.pair (Kd.pair (Kd.int .i64) (Kd.pair (Kd.int .i64) (Kd.int .i64))) (Kd.pair (Kd.int .i64) (Kd.pair (Kd.int .i64) (Kd.pair (Kd.int .u32) (Kd.int .i64)))))
def un (z : PT) : S29 := ⟨⟨z.1.1, z.1.2.1, z.1.2.2.1, z.1.2.2.2⟩, ⟨z.2.1.1, z.2.1.2.1, z.2.1.2.2⟩, z.2.2.1, z.2.2.2.1, z.2.2.2.2.1, z.2.2.2.2.2⟩
theorem C_un {w : World} {A : Option Addr} {l : List PT} (h : Kd.C PK w A l.length l) : Kd.C k29 w A (l.map un).length (l.map un) := by
  obtain ⟨h1, h2, h3⟩ := h
  refine ⟨rfl, by rw [List.length_map]; exact h2, fun h0 => ?_⟩
  obtain ⟨ad, e, hc⟩ := h3 (by rw [List.length_map] at h0; exact h0)
  refine ⟨ad, e, fun j p hp => ?_⟩
  rw [List.getElem?_map, Option.map_eq_some_iff] at hp
  obtain ⟨z, hz, rfl⟩ := hp
  obtain ⟨c, a1, a2, a3⟩ := hc j z hz
  exact ⟨c, a1, a2, a3⟩
def df34 (x y : S34) : Bool := ((!((x.f0.f0) == (y.f0.f0)) || (!((x.f0.f1) == (y.f0.f1)) || (!((x.f0.f2) == (y.f0.f2)) || (!((x.f0.f3) == (y.f0.f3)))))) || ((!((x.f1.f0) == (y.f1.f0)) || (!((x.f1.f1) == (y.f1.f1)) || (!((x.f1.f2) == (y.f1.f2))))) || (!((x.f2) == (y.f2)) || (!((x.f3) == (y.f3)) || (!((x.f4) == (y.f4)) || (!((x.f5) == (y.f5))))))))
theorem df34_iff (x y : S34) : df34 x y = false ↔ x = y := by
  obtain ⟨⟨x0, x1, x2, x3⟩, ⟨x4, x5, x6⟩, x7, x8, x9, x10⟩ := x
  obtain ⟨⟨y0, y1, y2, y3⟩, ⟨y4, y5, y6⟩, y7, y8, y9, y10⟩ := y
  unfold df34
  simp only [Bool.or_eq_false_iff, Bool.not_eq_false', beq_iff_eq, S34.mk.injEq, S31.mk.injEq, S32.mk.injEq]
theorem psame_l (l m : List S34) (hlm : l.length = m.length) (hl : l.length ≤ 1000) : ∀ (n j k : Nat) (b : Bool), j + n = l.length → n < k → (b = true ↔ ∀ i, j ≤ i → i < l.length → l[i]? = m[i]?) → path_Path_86.l0 k l m (l.length : Int) (j : Int) = some b
  | 0, j, k + 1, b, h, _, hb => by
    rw [path_Path_86.l0, if_neg (by omega), hb.2 (fun i h1 h2 => absurd h1 (by omega))]
  | n + 1, j, k + 1, b, h, hk, hb => by
    have hj : j < l.length := by omega
    have hm : j < m.length := by omega
    rw [path_Path_86.l0, if_pos (by omega), if_pos (by omega), if_pos (by omega), if_pos (by omega), rd34 l j hj, rd34 m j hm]
    by_cases hd : l[j] = m[j]
    · rw [if_neg (by have := (df34_iff l[j] m[j]).2 hd; unfold df34 at this; rw [this]; simp), next_i j (by omega)]
      refine psame_l l m hlm hl n (j + 1) k b (by omega) (by omega) (hb.trans ⟨fun h i h1 h2 => h i (by omega) h2, fun h i h1 h2 => ?_⟩)
      by_cases hij : i = j
      · subst hij; rw [List.getElem?_eq_getElem hj, List.getElem?_eq_getElem hm, hd]
      · exact h i (by omega) h2
    · rw [if_pos (by have : df34 l[j] m[j] = true := by { rw [← Bool.not_eq_false]; exact fun h => hd ((df34_iff _ _).1 h) }; unfold df34 at this; exact this)]
      congr 1
      symm
      rw [Bool.eq_false_iff]
      intro h
      have := hb.1 h j (Nat.le_refl _) hj
      rw [List.getElem?_eq_getElem hj, List.getElem?_eq_getElem hm] at this
      exact hd (Option.some.inj this)
theorem psame_f {l m : List S34} {p q : Int} {k : Nat} (hl : l.length ≤ 1000) (hk : l.length + 1 < k) (b : Bool) (hb : b = true ↔ (l = m ∧ p = q)) : paths_Same.f k l p m q = some b := by
  unfold paths_Same.f
  by_cases hp : p = q
  · rw [if_pos hp]
    unfold path_Path_86.f
    by_cases hn : l.length = m.length
    · rw [if_pos (by rw [hn])]
      have := psame_l l m hn hl l.length 0 k b (by omega) (by omega) (hb.trans ⟨?_, fun h => ⟨List.ext_getElem? fun i => ?_, hp⟩⟩)
      · rw [show (0 : Int) = ((0 : Nat) : Int) from rfl, this]; rfl
      · rintro ⟨rfl, _⟩ i _ _; rfl
      · by_cases hi : i < l.length
        · exact h i (Nat.zero_le _) hi
        · rw [List.getElem?_eq_none (by omega), List.getElem?_eq_none (by omega)]
    · rw [if_neg (by omega)]
      show some false = some b
      congr 1
      symm
      rw [Bool.eq_false_iff]
      intro h
      exact hn (by rw [(hb.1 h).1])
  · rw [if_neg hp]
    congr 1
    symm
    rw [Bool.eq_false_iff]
    intro h
    exact hp (hb.1 h).2
theorem num_f (er : Option Int) (h : er ≠ some 0) : weftlinenum_Num.f er = some (erN er) := by
  cases er with
  | none => rfl
  | some e => unfold weftlinenum_Num.f erN; rw [if_neg (by simp), if_neg (fun h2 => h (by rw [← show e = 0 from h2]))]; rfl
theorem told_f {l : List S34} {q : Int} {er : Option Int} {k : Nat} (hl : l.length ≤ 1000) (hk : l.length + 1 < k) (he : er ≠ some 0) : weftlinelaw14_told.f k l q er (l.map vc) q (erN er) = some true := by
  unfold weftlinelaw14_told.f
  rw [num_f er he]
  show (if erN er = erN er then _ else _) = _
  rw [if_pos rfl, doc_f hl (by omega)]
  show ((weftlineref14_Same.f k (l.map vc) q (l.map vc) q).bind fun t => some t) = _
  rw [same_f (by rw [List.length_map]; exact hl) (by rw [List.length_map]; exact hk) true (by simp)]
  rfl
section
variable {w : World} {A B : Option Addr} {c d : Nat}
theorem program_calls {l : List S29} (hC : Kd.C k29 w A l.length l) (hcc : l.length ≤ c) (hl : l.length ≤ 1000) (p : Int) :
    Calls Try.prog 36 #[.agg #[.slice A l.length c, .int .i64 p]] w fun e w' => ∃ v, e = .returned (.agg #[v, .int .i64 p]) ∧ Kd.R k34 34 w' w.heap.size (fun _ => True) v (l.map cv) ∧ Below w.heap.size w w' :=
  weftlinelaw14_Program.calls (l.length + 1) A c l p _ _ w hC hcc (prog_f hl (by omega))
theorem document_calls {l : List S34} (hC : Kd.C k34 w A l.length l) (hcc : l.length ≤ c) (hl : l.length ≤ 1000) (p : Int) :
    Calls Try.prog 43 #[.agg #[.slice A l.length c, .int .i64 p]] w fun e w' => ∃ v, e = .returned (.agg #[v, .int .i64 p]) ∧ Kd.R k29 29 w' w.heap.size (fun _ => True) v (l.map vc) ∧ Below w.heap.size w w' :=
  weftlinelaw14_Document.calls (l.length + 1) A c l p _ _ w hC hcc (doc_f hl (by omega))
theorem told_calls {l : List S34} {m : List S29} (hC : Kd.C k34 w A l.length l) (hcc : l.length ≤ c) (hl : l.length ≤ 1000) (hD : Kd.C k29 w B m.length m) (hdd : m.length ≤ d) (hm : m = l.map vc) (q : Int) (er : Option Int) (he : er ≠ some 0) :
    Calls Try.prog 41 #[.agg #[.slice A l.length c, .int .i64 q], errW er, .agg #[.slice B m.length d, .int .i64 q], .int .i64 (erN er)] w fun e w' => e = .returned (.bool true) ∧ Below w.heap.size w w' :=
  weftlinelaw14_told.calls (l.length + 2) A c l q er B d m q (erN er) true w hC hcc hD hdd (by rw [hm]; exact told_f hl (by omega) he)
theorem rsame_calls {l m : List S29} (hC : Kd.C k29 w A l.length l) (hcc : l.length ≤ c) (hl : l.length ≤ 1000) (hD : Kd.C k29 w B m.length m) (hdd : m.length ≤ d) (p q : Int) (b : Bool) (hb : b = true ↔ (l = m ∧ p = q)) :
    Calls Try.prog 42 #[.agg #[.slice A l.length c, .int .i64 p], .agg #[.slice B m.length d, .int .i64 q]] w fun e w' => e = .returned (.bool b) ∧ Below w.heap.size w w' :=
  weftlineref14_Same.calls (l.length + 2) A c l p B d m q b w hC hcc hD hdd (same_f hl (by omega) b hb)
theorem psame_calls {l m : List S34} (hC : Kd.C k34 w A l.length l) (hcc : l.length ≤ c) (hl : l.length ≤ 1000) (hD : Kd.C k34 w B m.length m) (hdd : m.length ≤ d) (p q : Int) (b : Bool) (hb : b = true ↔ (l = m ∧ p = q)) :
    Calls Try.prog 44 #[.agg #[.slice A l.length c, .int .i64 p], .agg #[.slice B m.length d, .int .i64 q]] w fun e w' => e = .returned (.bool b) ∧ Below w.heap.size w w' :=
  paths_Same.calls (l.length + 2) A c l p B d m q b w hC hcc hD hdd (psame_f hl (by omega) b hb)
end
end Go.Proofs.Ytblooffiggciiaa.Ps
/- PsAf -/
namespace Go.Proofs.Ytblooffiggciiaa.Ps
open Go.RowKit Go.Shelf Go.Proofs.Ytblooffiggciiaa.PPs Go.Proofs.YtblooffiggciiaaW.PrintWords Go.Proofs.YtblooffiggciiaaW.PrintLast Go.Proofs.YtblooffiggciiaaW.PrintMore Go.Proofs.Ytblooffiggciiaa.Sh
attribute [local go_sem] Oper.semAt_some wide_fn
def Kp2 (n₀ a b : Nat) (W W' : World) : Prop := Below n₀ W W' ∧ W'.heap[a]? = W.heap[a]? ∧ W'.heap[b]? = W.heap[b]?
theorem Kp2.trans {n₀ a b : Nat} {A B C : World} (h : Kp2 n₀ a b A B) (h' : Kp2 n₀ a b B C) : Kp2 n₀ a b A C := ⟨h.1.trans h'.1, h'.2.1.trans h.2.1, h'.2.2.trans h.2.2⟩
theorem Kp2.refl (n₀ a b : Nat) (W : World) : Kp2 n₀ a b W W := ⟨Below.refl _ _, rfl, rfl⟩
structure HeldP (W : World) (gb : Nat) (A : Option Addr) (xs : List S34) : Prop where
  row : Kd.C k34 W A xs.length xs
  at_ : ∀ ad, A = some ad → ad.block = gb
  blk : ∃ o, W.heap[gb]? = some o
theorem HeldP.kept {W W' : World} {gb : Nat} {A : Option Addr} {xs : List S34} (h : HeldP W gb A xs) (hg : W'.heap[gb]? = W.heap[gb]?) : HeldP W' gb A xs := by
  obtain ⟨⟨h1, h2, h3⟩, h4, o, h5⟩ := h
  refine ⟨⟨h1, h2, fun h0 => ?_⟩, h4, o, hg.trans h5⟩
  obtain ⟨ad, e, hc⟩ := h3 h0
  refine ⟨ad, e, fun j p hp => ?_⟩
  obtain ⟨c, a1, a2, a3⟩ := hc j p hp
  refine ⟨c, a1, ?_, fun i u hu => ?_⟩
  · obtain rfl := k34_open a2
    exact k34_mk W' p
  · have h := a3 i u hu
    have hb : (ad.add (j * k34.sz + i)).block = gb := by rw [← h4 ad e]; first | rfl | (unfold Addr.add; split <;> rfl)
    unfold World.cell? at h ⊢
    rw [hb] at h ⊢
    rw [hg]
    exact h
end Go.Proofs.Ytblooffiggciiaa.Ps
/- PPsx61 -/
namespace Go.Proofs.Ytblooffiggciiaa.PPs
open Go.RowKit Go.Proofs.YtblooffiggciiaaW.PrintWords Go.Proofs.YtblooffiggciiaaW.PrintLast Go.Proofs.YtblooffiggciiaaW.PrintMore
attribute [local go_sem] max2_int min2_int max_two min_two max_three min_three max_four min_four   -- for this text's walks alone
attribute [local go_sem] Go.Proofs.Ytblooffiggciiaa.Aid.isSome_setCell
mutual
def weftlineref14_behind.l0 : Nat → Int → Int → List (S29) → Int → Option (Int × Int × Int × Bool × Int × Int × Int × Int × Int × Int × Int)
  | 0, _, _, _, _ => none
  | k + 1, x1, x5, x351000, x351001 => if x5 < (x351000.length : Int) then (if 0 ≤ x5 then ((weftlineref13_Active.f k ((rd_T29 x351000 x5).f0.f0) ((rd_T29 x351000 x5).f0.f1) ((rd_T29 x351000 x5).f0.f2) ((rd_T29 x351000 x5).f0.f3) ((rd_T29 x351000 x5).f1.f0) ((rd_T29 x351000 x5).f1.f1) ((rd_T29 x351000 x5).f1.f2) ((rd_T29 x351000 x5).f2) ((rd_T29 x351000 x5).f3) ((rd_T29 x351000 x5).f4) ((rd_T29 x351000 x5).f5)).bind fun t353 => (if t353 = true then (some ((rd_T29 x351000 x5).f0.f0, (rd_T29 x351000 x5).f0.f1, (rd_T29 x351000 x5).f0.f2, (rd_T29 x351000 x5).f0.f3, (rd_T29 x351000 x5).f1.f0, (rd_T29 x351000 x5).f1.f1, (rd_T29 x351000 x5).f1.f2, (rd_T29 x351000 x5).f2, (rd_T29 x351000 x5).f3, (rd_T29 x351000 x5).f4, (rd_T29 x351000 x5).f5)) else (weftlineref14_behind.l0 k x1 (wrap64 (x5 + 1)) x351000 x351001))) else (none)) else (weftlineref14_behind.l1 k x1 0 x351000 x351001)
def weftlineref14_behind.l1 : Nat → Int → Int → List (S29) → Int → Option (Int × Int × Int × Bool × Int × Int × Int × Int × Int × Int × Int)
  | 0, _, _, _, _ => none
  | k + 1, x1, x6, x351000, x351001 => if x6 < x1 then (if 0 ≤ x6 then (if x6 < (x351000.length : Int) then ((weftlineref13_Active.f k ((rd_T29 x351000 x6).f0.f0) ((rd_T29 x351000 x6).f0.f1) ((rd_T29 x351000 x6).f0.f2) ((rd_T29 x351000 x6).f0.f3) ((rd_T29 x351000 x6).f1.f0) ((rd_T29 x351000 x6).f1.f1) ((rd_T29 x351000 x6).f1.f2) ((rd_T29 x351000 x6).f2) ((rd_T29 x351000 x6).f3) ((rd_T29 x351000 x6).f4) ((rd_T29 x351000 x6).f5)).bind fun t356 => (if t356 = true then (some ((rd_T29 x351000 x6).f0.f0, (rd_T29 x351000 x6).f0.f1, (rd_T29 x351000 x6).f0.f2, (rd_T29 x351000 x6).f0.f3, (rd_T29 x351000 x6).f1.f0, (rd_T29 x351000 x6).f1.f1, (rd_T29 x351000 x6).f1.f2, (rd_T29 x351000 x6).f2, (rd_T29 x351000 x6).f3, (rd_T29 x351000 x6).f4, (rd_T29 x351000 x6).f5)) else (weftlineref14_behind.l1 k x1 (wrap64 (x6 + 1)) x351000 x351001))) else (none)) else (none)) else (if 0 ≤ x1 then (if x1 < (x351000.length : Int) then (some ((rd_T29 x351000 x1).f0.f0, (rd_T29 x351000 x1).f0.f1, (rd_T29 x351000 x1).f0.f2, (rd_T29 x351000 x1).f0.f3, (rd_T29 x351000 x1).f1.f0, (rd_T29 x351000 x1).f1.f1, (rd_T29 x351000 x1).f1.f2, (rd_T29 x351000 x1).f2, (rd_T29 x351000 x1).f3, (rd_T29 x351000 x1).f4, (rd_T29 x351000 x1).f5)) else (none)) else (none))
end
def weftlineref14_behind.f (k : Nat) (l0_0 : List (S29)) (a0_1 : Int) (a1 : Int) : Option (Int × Int × Int × Bool × Int × Int × Int × Int × Int × Int × Int) := weftlineref14_behind.l0 k a1 (wrap64 (a1 + 1)) l0_0 a0_1
end Go.Proofs.Ytblooffiggciiaa.PPs
/- PPsx62 -/
namespace Go.Proofs.Ytblooffiggciiaa.PPs
open Go.RowKit Go.Proofs.YtblooffiggciiaaW.PrintWords Go.Proofs.YtblooffiggciiaaW.PrintLast Go.Proofs.YtblooffiggciiaaW.PrintMore
attribute [local go_sem] max2_int min2_int max_two min_two max_three min_three max_four min_four   -- for this text's walks alone
attribute [local go_sem] Go.Proofs.Ytblooffiggciiaa.Aid.isSome_setCell
def weftlineref14_Use.f (k : Nat) (l0_0 : List (S29)) (a0_1 : Int) : Option (Int × Int × Int × Bool × Int × Int × Int × Int × Int × Int × Int × Bool) := (weftlineref14_Good.f k l0_0 a0_1).bind fun t361 => (if t361 = true then (if 0 ≤ a0_1 then (if a0_1 < (l0_0.length : Int) then ((weftlineref13_Active.f k ((rd_T29 l0_0 a0_1).f0.f0) ((rd_T29 l0_0 a0_1).f0.f1) ((rd_T29 l0_0 a0_1).f0.f2) ((rd_T29 l0_0 a0_1).f0.f3) ((rd_T29 l0_0 a0_1).f1.f0) ((rd_T29 l0_0 a0_1).f1.f1) ((rd_T29 l0_0 a0_1).f1.f2) ((rd_T29 l0_0 a0_1).f2) ((rd_T29 l0_0 a0_1).f3) ((rd_T29 l0_0 a0_1).f4) ((rd_T29 l0_0 a0_1).f5)).bind fun t363 => (if t363 = true then (some ((rd_T29 l0_0 a0_1).f0.f0, (rd_T29 l0_0 a0_1).f0.f1, (rd_T29 l0_0 a0_1).f0.f2, (rd_T29 l0_0 a0_1).f0.f3, (rd_T29 l0_0 a0_1).f1.f0, (rd_T29 l0_0 a0_1).f1.f1, (rd_T29 l0_0 a0_1).f1.f2, (rd_T29 l0_0 a0_1).f2, (rd_T29 l0_0 a0_1).f3, (rd_T29 l0_0 a0_1).f4, (rd_T29 l0_0 a0_1).f5, true)) else ((weftlineref14_behind.f k l0_0 a0_1 a0_1).bind fun bt365 => (some (bt365.1, bt365.2.1, bt365.2.2.1, bt365.2.2.2.1, bt365.2.2.2.2.1, bt365.2.2.2.2.2.1, bt365.2.2.2.2.2.2.1, bt365.2.2.2.2.2.2.2.1, bt365.2.2.2.2.2.2.2.2.1, bt365.2.2.2.2.2.2.2.2.2.1, bt365.2.2.2.2.2.2.2.2.2.2, true))))) else (none)) else (none)) else (some (0, 0, 0, false, 0, 0, 0, 0, 0, 0, 0, false)))
end Go.Proofs.Ytblooffiggciiaa.PPs
/- PPsx63 -/
namespace Go.Proofs.Ytblooffiggciiaa.PPs
open Go.RowKit Go.Proofs.YtblooffiggciiaaW.PrintWords Go.Proofs.YtblooffiggciiaaW.PrintLast Go.Proofs.YtblooffiggciiaaW.PrintMore
attribute [local go_sem] max2_int min2_int max_two min_two max_three min_three max_four min_four   -- for this text's walks alone
attribute [local go_sem] Go.Proofs.Ytblooffiggciiaa.Aid.isSome_setCell
def weftlineref14_Again.j0 : Nat → Int → Bool → List (S29) → Int → Option (Int × Int × Int × Bool × Int × Int × Int × Int × Int × Int × Int × Bool)
  | 0, _, _, _, _ => none
  | k + 1, x6, x16, x377000, x377001 => if x16 = true then ((weftlineref14_Use.f k x377000 x377001).bind fun bt380 => (some (bt380.1, bt380.2.1, bt380.2.2.1, bt380.2.2.2.1, bt380.2.2.2.2.1, bt380.2.2.2.2.2.1, bt380.2.2.2.2.2.2.1, bt380.2.2.2.2.2.2.2.1, bt380.2.2.2.2.2.2.2.2.1, bt380.2.2.2.2.2.2.2.2.2.1, bt380.2.2.2.2.2.2.2.2.2.2.1, bt380.2.2.2.2.2.2.2.2.2.2.2))) else ((weftlineref14_behind.f k x377000 x377001 x6).bind fun bt392 => (some (bt392.1, bt392.2.1, bt392.2.2.1, bt392.2.2.2.1, bt392.2.2.2.2.1, bt392.2.2.2.2.2.1, bt392.2.2.2.2.2.2.1, bt392.2.2.2.2.2.2.2.1, bt392.2.2.2.2.2.2.2.2.1, bt392.2.2.2.2.2.2.2.2.2.1, bt392.2.2.2.2.2.2.2.2.2.2, true)))
end Go.Proofs.Ytblooffiggciiaa.PPs
/- PsAh -/
namespace Go.Proofs.Ytblooffiggciiaa.Ps
open Go.RowKit Go.Proofs.Ytblooffiggciiaa.PPs Go.Proofs.YtblooffiggciiaaW.PrintWords Go.Proofs.YtblooffiggciiaaW.PrintLast Go.Proofs.YtblooffiggciiaaW.PrintMore Go.Proofs.Ytblooffiggciiaa.Sh
def tp (x : S34) : Int × Int × Int × Bool × Int × Int × Int × Int × Int × Int × Int := (x.f0.f0, x.f0.f1, x.f0.f2, x.f0.f3, x.f1.f0, x.f1.f1, x.f1.f2, x.f2, x.f3, x.f4, x.f5)
theorem gdb_in {l : List S34} {p : Int} (h : gdb l p = true) : 0 ≤ p ∧ p < l.length := by
  unfold gdb at h
  simp only [Bool.and_eq_true, decide_eq_true_eq] at h
  exact ⟨h.1.1.2.1, h.1.1.2.2⟩
section
variable {w : World} {A : Option Addr} {c : Nat}
theorem rgood_calls {l : List S29} (hC : Kd.C k29 w A l.length l) (hcc : l.length ≤ c) (hl : l.length ≤ 1000) (p : Int) :
    Calls Try.prog 53 #[.agg #[.slice A l.length c, .int .i64 p]] w fun e w' => e = .returned (.bool (gdb (l.map cv) p)) ∧ Below w.heap.size w w' :=
  weftlineref14_Good.calls (2 * l.length + 4) A c l p _ w hC hcc (good_f hl (by omega))
end
end Go.Proofs.Ytblooffiggciiaa.Ps
/- PsAi -/
namespace Go.Proofs.Ytblooffiggciiaa.Ps
open Go.RowKit Go.Shelf Go.Sort Go.Proofs.Ytblooffiggciiaa.PPs Go.Proofs.YtblooffiggciiaaW.PrintWords Go.Proofs.YtblooffiggciiaaW.PrintLast Go.Proofs.YtblooffiggciiaaW.PrintMore Go.Proofs.Ytblooffiggciiaa.Sh
attribute [local go_sem] Go.Proofs.Ytblooffiggciiaa.Aid.isSome_setCell
attribute [local go_sem] Oper.semAt_some wide_fn
def BL (L : List (Nat × Obj)) (W : World) : Prop := ∀ q ∈ L, W.heap[q.1]? = some q.2
theorem BL.get {L : List (Nat × Obj)} {W : World} (h : BL L W) (n : Nat) {g : Nat} {o : Obj} (hq : L[n]? = some (g, o)) : W.heap[g]? = some o := h (g, o) (List.mem_of_getElem? hq)
theorem BL.below {L : List (Nat × Obj)} {W W' : World} (h : BL L W) (hb : Below W.heap.size W W') : BL L W' := fun q hq => blk_below (h q hq) hb
theorem BL.nil (W : World) : BL [] W := fun q hq => absurd hq (by simp)
theorem BL.new {L : List (Nat × Obj)} {W : World} (h : BL L W) (o : Obj) : BL (L ++ [(W.heap.size, o)]) (W.alloc o) := fun q hq => by
  rcases List.mem_append.1 hq with hq | hq
  · exact blk_alloc (h q hq) o
  · rw [List.mem_singleton] at hq; subst hq; exact blk_new W o
theorem C_cv {w : World} {A : Option Addr} {n : Nat} {l : List S29} (h : Kd.C k29 w A n l) : Kd.C k34 w A n (l.map cv) := by
  obtain ⟨h1, h2, h3⟩ := h
  refine ⟨by rw [List.length_map]; exact h1, h2, fun h0 => ?_⟩
  obtain ⟨ad, e, hc⟩ := h3 h0
  refine ⟨ad, e, fun j p hp => ?_⟩
  rw [List.getElem?_map, Option.map_eq_some_iff] at hp
  obtain ⟨z, hz, rfl⟩ := hp
  obtain ⟨c, a1, a2, a3⟩ := hc j z hz
  exact ⟨c, a1, a2, a3⟩
def eqb (x y : S34) : Bool := !(df34 x y)
theorem eqC29 (d : Nat) (w : World) (x y : S34) :
    (Op.equalIn (d + 3) 29 (.agg #[.int .i64 x.f0.f0, .int .i64 x.f0.f1, .int .i64 x.f0.f2, .bool x.f0.f3, .int .i64 x.f1.f0, .int .i64 x.f1.f1, .int .i64 x.f1.f2, .int .i64 x.f2, .int .i64 x.f3, .int .u32 x.f4, .int .i64 x.f5]) (.agg #[.int .i64 y.f0.f0, .int .i64 y.f0.f1, .int .i64 y.f0.f2, .bool y.f0.f3, .int .i64 y.f1.f0, .int .i64 y.f1.f1, .int .i64 y.f1.f2, .int .i64 y.f2, .int .i64 y.f3, .int .u32 y.f4, .int .i64 y.f5])).run Try.prog w = .ok (eqb x y) w := by
  rw [eqA29]
  congr 1
  unfold eqb df34
  simp only [Bool.not_or, Bool.not_not]
attribute [local go_sem high] eqC29
end Go.Proofs.Ytblooffiggciiaa.Ps
/- PsAl -/
namespace Go.Proofs.Ytblooffiggciiaa.Ps
open Go.RowKit Go.Proofs.Ytblooffiggciiaa.PPs Go.Proofs.YtblooffiggciiaaW.PrintWords Go.Proofs.YtblooffiggciiaaW.PrintLast Go.Proofs.YtblooffiggciiaaW.PrintMore Go.Proofs.Ytblooffiggciiaa.Sh
attribute [local go_sem] Go.Proofs.Ytblooffiggciiaa.Aid.isSome_setCell
def addL (l : List S34) (p a : Int) : List S34 × Int × Option Int :=
  if addrP a ∧ gdb l p = true then (if 0 ≤ plc l a then ([], 0, some 12) else if 4 ≤ l.length then ([], 0, some 3) else (l ++ [newS a], p, none)) else ([], 0, some 1)
theorem one_row {W : World} {k : Nat} {y : S34} (h : W.heap[k]? = some (.cells (cs34 y).toArray 34 (0, 0))) : ReadsRow (fun (x : S34) (cs : List Value) => cs = cs34 x) 11 W (some ⟨k, 0, none⟩) 1 [y] := by
  refine ⟨rfl, by decide, fun _ => ⟨_, rfl, fun j p hp => ?_⟩⟩
  cases j with
  | zero =>
    obtain rfl := Option.some.inj hp
    refine ⟨cs34 y, rfl, rfl, fun i u hu => ?_⟩
    have e : (⟨k, 0, none⟩ : Addr).add (0 * 11 + i) = ⟨k, i, none⟩ := by
      unfold Addr.add
      split
      · rename_i h0
        have : i = 0 := by omega
        subst this; rfl
      · simp
    rw [e, blk_cell h]
    simpa using hu
  | succ j => simp at hp
theorem rr1 {W : World} {B g : Nat} {l : List S34} {x y u v : Value} (hR : Kd.R k34 34 W B (fun _ => True) u l) (h : W.heap[g]? = some (.cells #[x, y] 70 (0, 0))) : Kd.R k34 34 (W.setCell ⟨g, 0, none⟩ v) B (fun _ => True) u l :=
  Kd.R_mono (Kd.R_far (p := ⟨g, 0, none⟩) (Kd.R_types hR h (by decide)) (fun _ hk => hk.2) v) (fun _ _ => trivial)
set_option maxHeartbeats 4000000 in
set_option maxRecDepth 100000 in
theorem add_bad {w : World} {A : Option Addr} {c : Nat} {l : List S34} (p a : Int) (ha : ¬ addrP a) :
    Calls Try.prog 56 #[.agg #[.slice A l.length c, .int .i64 p], .int .i64 a] w (SetR w [] 0 (some 1)) := by
  have hB := b1 (b1 (Below.refl w.heap.size w) (.cells #[.slice A l.length c, .int .i64 p] 70)) (.cells #[.slice none 0 0, .int .i64 0] 70)
  have hL := ((BL.nil w).new (.cells #[.slice A l.length c, .int .i64 p] 70)).new (.cells #[.slice none 0 0, .int .i64 0] 70)
  rw [sz1] at hL
  have HN := Aside0.mk (new_bad a ha ((w.alloc (.cells #[.slice A l.length c, .int .i64 p] 70)).alloc (.cells #[.slice none 0 0, .int .i64 0] 70)))
  have HB := Aside0.mk hB
  have HL := Aside0.mk hL
  clear hB hL ha
  go_enter Try.func56, Try.ntmps56
  go_wp2_with fail
  refine HN.out.mono ?_
  rintro e w1 ⟨rfl, hb⟩
  have HL1 := Aside0.mk ((HL.out.below hb).new (.cells (cs34 z34).toArray 34))
  have HB1 := Aside0.mk (b1 (below_step HB.out hb) (.cells (cs34 z34).toArray 34))
  clear hb
  have hz := cc2 (HL1.out.get 1 rfl)
  unfold cs34 z34 at hz
  unfold cs34 z34
  have he : errW (some 1) = Value.iface 42 (.int .i64 1) := rfl
  simp only [he]
  clear he
  go_wp2_with fail
  have hs : w.heap.size ≤ w.heap.size + 1 := by omega
  refine bodyPost_ret (results_ct rfl _ _ (w.heap.size + 1) 70 #[.slice none 0 0, .int .i64 0] (0, 0) _ rfl (put2 (HL1.out.get 1 rfl)) Try.underlying70 rfl (by kernel_rfl)) rfl ?_
  exact ⟨_, rfl, Kd.R_nil _ _ _ _ _, bel2 HB1.out hs⟩
set_option maxHeartbeats 8000000 in
set_option maxRecDepth 100000 in
theorem add_good {w : World} {A : Option Addr} {c : Nat} {l : List S34} (hC : Kd.C k34 w A l.length l) (hcc : l.length ≤ c) (hl : l.length ≤ 1000) (p a : Int) (ha : addrP a) :
    Calls Try.prog 56 #[.agg #[.slice A l.length c, .int .i64 p], .int .i64 a] w (SetR w (addL l p a).1 (addL l p a).2.1 (addL l p a).2.2) := by
  have hB := b1 (b1 (Below.refl w.heap.size w) (.cells #[.slice A l.length c, .int .i64 p] 70)) (.cells #[.slice none 0 0, .int .i64 0] 70)
  have hL := ((BL.nil w).new (.cells #[.slice A l.length c, .int .i64 p] 70)).new (.cells #[.slice none 0 0, .int .i64 0] 70)
  rw [sz1] at hL
  have HN := Aside0.mk (new_calls a ha ((w.alloc (.cells #[.slice A l.length c, .int .i64 p] 70)).alloc (.cells #[.slice none 0 0, .int .i64 0] 70)))
  have HB := Aside0.mk hB
  have HL := Aside0.mk hL
  have HC := Aside0.mk hC
  have HAL := Aside0.mk (show addL l p a = if gdb l p = true then (if 0 ≤ plc l a then ([], 0, some 12) else if 4 ≤ l.length then ([], 0, some 3) else (l ++ [newS a], p, none)) else ([], 0, some 1) by
    unfold addL
    by_cases h : gdb l p = true
    · rw [if_pos ⟨ha, h⟩, if_pos h]
    · rw [if_neg (fun h2 => h h2.2), if_neg h])
  obtain ⟨y, hy⟩ : ∃ y, y = newS a := ⟨_, rfl⟩
  rw [← hy] at HN HAL
  obtain ⟨r, hr⟩ : ∃ r, r = addL l p a := ⟨_, rfl⟩
  rw [← hr] at HAL ⊢
  clear hB hL ha hC hr hy
  go_enter Try.func56, Try.ntmps56
  go_wp2_with fail
  refine HN.out.mono ?_
  rintro e w1 ⟨rfl, hb⟩
  have HL1 := Aside0.mk ((HL.out.below hb).new (.cells (cs34 y).toArray 34))
  have HB1 := Aside0.mk (b1 (below_step HB.out hb) (.cells (cs34 y).toArray 34))
  clear hb
  have HG := Aside0.mk (setgood_calls (c := c) (Kd.C_below HC.out HB1.out) p)
  have hx := ck2 (HL1.out.get 0 rfl)
  unfold cs34 at hx HG
  unfold cs34
  have he : errW none = Value.nilIface := rfl
  simp only [he]
  clear he
  have hs : w.heap.size ≤ w.heap.size + 1 := by omega
  go_wp2_with fail
  refine HG.out.mono ?_
  rintro e w2 ⟨rfl, hb⟩
  have HL2 := Aside0.mk (HL1.out.below hb)
  have HB2 := Aside0.mk (below_step HB1.out hb)
  clear hb hx HG
  have hz := cc2 (HL2.out.get 1 rfl)
  have hx := ck2 (HL2.out.get 0 rfl)
  cases hg : gdb l p with
  | false =>
    rw [hg, if_neg (by simp)] at HAL
    clear hg
    go_wp2_with fail
    refine bodyPost_ret (results_ct rfl _ _ (w.heap.size + 1) 70 #[.slice none 0 0, .int .i64 0] (0, 0) _ rfl (put2 (HL2.out.get 1 rfl)) Try.underlying70 rfl (by kernel_rfl)) rfl ?_
    rw [HAL.out]
    exact ⟨_, rfl, Kd.R_nil _ _ _ _ _, bel2 HB2.out hs⟩
  | true =>
    rw [hg, if_pos rfl] at HAL
    clear hg
    have HP := Aside0.mk (place_calls (c := c) (Kd.C_below HC.out HB2.out) p a)
    go_wp2_with fail
    refine HP.out.mono ?_
    rintro e w3 ⟨rfl, hb⟩
    have HL3 := Aside0.mk (HL2.out.below hb)
    have HB3 := Aside0.mk (below_step HB2.out hb)
    clear hb hx hz HP
    have hz := cc2 (HL3.out.get 1 rfl)
    have hx := cc2 (HL3.out.get 0 rfl)
    obtain ⟨q, hq⟩ : ∃ q, q = plc l a := ⟨_, rfl⟩
    rw [← hq] at HAL ⊢
    clear hq
    by_cases h0 : 0 ≤ q
    · rw [if_pos h0] at HAL
      go_wp2_with fail
      refine bodyPost_ret (results_ct rfl _ _ (w.heap.size + 1) 70 #[.slice none 0 0, .int .i64 0] (0, 0) _ rfl (put2 (HL3.out.get 1 rfl)) Try.underlying70 rfl (by kernel_rfl)) rfl ?_
      rw [HAL.out]
      exact ⟨_, rfl, Kd.R_nil _ _ _ _ _, bel2 HB3.out hs⟩
    · rw [if_neg h0] at HAL
      by_cases h4 : 4 ≤ l.length
      · rw [if_pos h4] at HAL
        have h4' : (4 : Int) ≤ (l.length : Int) := by omega
        go_wp2_with fail
        refine bodyPost_ret (results_ct rfl _ _ (w.heap.size + 1) 70 #[.slice none 0 0, .int .i64 0] (0, 0) _ rfl (put2 (HL3.out.get 1 rfl)) Try.underlying70 rfl (by kernel_rfl)) rfl ?_
        rw [HAL.out]
        exact ⟨_, rfl, Kd.R_nil _ _ _ _ _, bel2 HB3.out hs⟩
      · rw [if_neg h4] at HAL
        have h4' : ¬ ((4 : Int) ≤ (l.length : Int)) := by omega
        go_wp2_with fail
        have HC3 := Aside0.mk (Kd.C_below HC.out HB3.out)
        have hne : w.heap.size + 1 ≠ w.heap.size := by omega
        have hls : (l.length + 1) * 88 ≤ 140737488355328 := by omega
        have hg3 := blk_lt (HL3.out.get 0 rfl)
        clear hx hz
        refine start_ (n := 8) (S := fun w' => Below w3.heap.size w3 w' ∧ (w'.cell? ⟨w.heap.size, 0, none⟩ = some (.slice A l.length c) ∧ w'.cell? ⟨w.heap.size, 1, none⟩ = some (.int .i64 p) ∧ w'.frozen? ⟨w.heap.size, 0, none⟩ = false ∧ w'.frozen? ⟨w.heap.size, 1, none⟩ = false) ∧ (w'.cell? ⟨w1.heap.size, 0, none⟩ = some (.int .i64 y.f0.f0) ∧ w'.cell? ⟨w1.heap.size, 1, none⟩ = some (.int .i64 y.f0.f1) ∧ w'.cell? ⟨w1.heap.size, 2, none⟩ = some (.int .i64 y.f0.f2) ∧ w'.cell? ⟨w1.heap.size, 3, none⟩ = some (.bool y.f0.f3) ∧ w'.cell? ⟨w1.heap.size, 4, none⟩ = some (.int .i64 y.f1.f0) ∧ w'.cell? ⟨w1.heap.size, 5, none⟩ = some (.int .i64 y.f1.f1) ∧ w'.cell? ⟨w1.heap.size, 6, none⟩ = some (.int .i64 y.f1.f2) ∧ w'.cell? ⟨w1.heap.size, 7, none⟩ = some (.int .i64 y.f2) ∧ w'.cell? ⟨w1.heap.size, 8, none⟩ = some (.int .i64 y.f3) ∧ w'.cell? ⟨w1.heap.size, 9, none⟩ = some (.int .u32 y.f4) ∧ w'.cell? ⟨w1.heap.size, 10, none⟩ = some (.int .i64 y.f5))) (ds := [7]) #[false, false, false, false, false, false, false, false] (by kernel_rfl) rfl rfl ⟨below_drew1 (Below.refl _ _), cc2 (blk_below (HL3.out.get 0 rfl) (below_drew1 (Below.refl _ _))), ck11 (blk_below (HL3.out.get 2 rfl) (below_drew1 (Below.refl _ _)))⟩ (fun hHeld => ?_)
        generalize w3.drew = wd at hHeld ⊢
        refine pure_ (i := 0) (N := some 37) (v := ?_) (a' := ?_) #[true, false, false, false, false, false, false, false] rfl rfl (by kernel_rfl) (fun _ _ _ h => h) (Or.inl ⟨by rfl, ?_⟩) ?_ ?_
        rotate_left
        · intro w'
          go_simp
          with_reducible rfl
        rotate_left
        · simp only [Act.put, List.setIfInBounds_toArray, List.set_cons_zero, List.set_cons_succ, i64_w, i32_w]
          rfl
        refine take_ (i := 1) (N := some 38) (v := ?_) (a' := ?_) #[true, true, false, false, false, false, false, false] rfl rfl (by kernel_rfl) (fun _ _ _ h => h) (Or.inl ⟨by rfl, ?_⟩) hHeld ?_ ?_
        rotate_left
        · rintro w' ⟨s0, s1, s2⟩
          go_simp
          with_reducible rfl
        rotate_left
        · simp only [Act.put, List.setIfInBounds_toArray, List.set_cons_zero, List.set_cons_succ, i64_w, i32_w]
          rfl
        refine take_ (i := 3) (N := some 40) (v := ?_) (a' := ?_) #[true, true, false, true, false, false, false, false] rfl rfl (by kernel_rfl) (fun _ _ _ h => h) (Or.inl ⟨by rfl, ?_⟩) hHeld ?_ ?_
        rotate_left
        · rintro w' ⟨s0, s1, s2⟩
          go_simp
          with_reducible rfl
        rotate_left
        · simp only [Act.put, List.setIfInBounds_toArray, List.set_cons_zero, List.set_cons_succ, i64_w, i32_w]
          rfl
        refine join_ (σ := Nat × Option Addr × Nat) 3 #[true, true, true, true, true, false, false, false] (fun s => [(39, .slice s.2.1 l.length s.2.2), (41, .slice (some ⟨s.1, 0, none⟩) 1 1)]) (fun s w' => Below w3.heap.size w3 w' ∧ w'.heap[s.1]? = some (.cells #[.int .i64 y.f0.f0, .int .i64 y.f0.f1, .int .i64 y.f0.f2, .bool y.f0.f3, .int .i64 y.f1.f0, .int .i64 y.f1.f1, .int .i64 y.f1.f2, .int .i64 y.f2, .int .i64 y.f3, .int .u32 y.f4, .int .i64 y.f5] 34 (0, 0)) ∧ w3.heap.size ≤ s.1 ∧ Kd.R k34 34 w' w3.heap.size (fun _ => True) (.slice s.2.1 l.length s.2.2) l) ?_ ?_
        rotate_left
        · intro hCont
          refine two_ (i := 2) (j := 4) (Ni := some 39) (Nj := some 41) #[true, true, true, true, false, false, false, false] #[true, true, false, true, true, false, false, false] rfl rfl rfl rfl (by kernel_rfl) (by decide) (by decide) (fun K hK => ?_) (fun K hK => ?_)
          · skip
            refine goes_ Try.func90 (by kernel_rfl) rfl #[.slice A l.length c] (by rfl) rfl rfl (by simp only [List.map_toArray, List.map_cons, List.map_nil]; rfl) ?_
            with_reducible refine (clone_calls _ A c l hcc (Kd.C_below HC3.out hHeld.1) (by omega)).mono ?_
            rintro e w5 ⟨A3, c3, rfl, hR, hb⟩
            have hR2 := Kd.R_lower hR (below_size hHeld.1)
            refine ⟨_, rfl, ?_⟩
            refine hK.out _ _ ⟨below_step hHeld.1 hb, cc2 (blk_below (HL3.out.get 0 rfl) (below_step hHeld.1 hb)), ck11 (blk_below (HL3.out.get 2 rfl) (below_step hHeld.1 hb))⟩ (fun hHeld => ?_)
            clear hK K
            refine norm_ (a' := ?_) ?_ ?_
            rotate_left
            · show Act.put _ (some 39) _ = _
              simp only [Act.put, List.setIfInBounds_toArray, List.set_cons_zero, List.set_cons_succ, i64_w, i32_w]
              rfl
            refine one_ (i := 4) (N := some 41) #[true, true, true, true, true, false, false, false] rfl rfl (by kernel_rfl) (by decide) (fun K hK => ?_)
            refine value_ (w1 := ?_) (v := ?_) (by rfl) rfl ?_ ?_
            rotate_left 2
            · go_simp
              constructor
              · rfl
              · rfl
            have hk := blk_new w5 (.cells #[.int .i64 y.f0.f0, .int .i64 y.f0.f1, .int .i64 y.f0.f2, .bool y.f0.f3, .int .i64 y.f1.f0, .int .i64 y.f1.f1, .int .i64 y.f1.f2, .int .i64 y.f2, .int .i64 y.f3, .int .u32 y.f4, .int .i64 y.f5] 34)
            have hkg := below_size hHeld.1
            have hR2 := Kd.R_below hR2 (b1 (Below.refl _ _) (.cells #[.int .i64 y.f0.f0, .int .i64 y.f0.f1, .int .i64 y.f0.f2, .bool y.f0.f3, .int .i64 y.f1.f0, .int .i64 y.f1.f1, .int .i64 y.f1.f2, .int .i64 y.f2, .int .i64 y.f3, .int .u32 y.f4, .int .i64 y.f5] 34))
            refine hK.out _ _ ⟨b1 hHeld.1 (.cells #[.int .i64 y.f0.f0, .int .i64 y.f0.f1, .int .i64 y.f0.f2, .bool y.f0.f3, .int .i64 y.f1.f0, .int .i64 y.f1.f1, .int .i64 y.f1.f2, .int .i64 y.f2, .int .i64 y.f3, .int .u32 y.f4, .int .i64 y.f5] 34), cc2 (blk_below (HL3.out.get 0 rfl) (b1 hHeld.1 (.cells #[.int .i64 y.f0.f0, .int .i64 y.f0.f1, .int .i64 y.f0.f2, .bool y.f0.f3, .int .i64 y.f1.f0, .int .i64 y.f1.f1, .int .i64 y.f1.f2, .int .i64 y.f2, .int .i64 y.f3, .int .u32 y.f4, .int .i64 y.f5] 34))), ck11 (blk_below (HL3.out.get 2 rfl) (b1 hHeld.1 (.cells #[.int .i64 y.f0.f0, .int .i64 y.f0.f1, .int .i64 y.f0.f2, .bool y.f0.f3, .int .i64 y.f1.f0, .int .i64 y.f1.f1, .int .i64 y.f1.f2, .int .i64 y.f2, .int .i64 y.f3, .int .u32 y.f4, .int .i64 y.f5] 34)))⟩ (fun hHeld => ?_)
            clear hK K
            refine norm_ (a' := ?_) ?_ ?_
            rotate_left
            · show Act.put _ (some 41) _ = _
              simp only [Act.put, List.setIfInBounds_toArray, List.set_cons_zero, List.set_cons_succ, i64_w, i32_w]
              rfl
            exact norm_ (by simp only [putAll, Act.put, List.setIfInBounds_toArray, List.set_cons_zero, List.set_cons_succ]) (hCont (w5.heap.size, A3, c3) _ ⟨hHeld.1, hk, hkg, hR2⟩)
          · skip
            refine value_ (w1 := ?_) (v := ?_) (by rfl) rfl ?_ ?_
            rotate_left 2
            · go_simp
              constructor
              · rfl
              · rfl
            have hk := blk_new wd (.cells #[.int .i64 y.f0.f0, .int .i64 y.f0.f1, .int .i64 y.f0.f2, .bool y.f0.f3, .int .i64 y.f1.f0, .int .i64 y.f1.f1, .int .i64 y.f1.f2, .int .i64 y.f2, .int .i64 y.f3, .int .u32 y.f4, .int .i64 y.f5] 34)
            have hkg := below_size hHeld.1
            refine hK.out _ _ ⟨b1 hHeld.1 (.cells #[.int .i64 y.f0.f0, .int .i64 y.f0.f1, .int .i64 y.f0.f2, .bool y.f0.f3, .int .i64 y.f1.f0, .int .i64 y.f1.f1, .int .i64 y.f1.f2, .int .i64 y.f2, .int .i64 y.f3, .int .u32 y.f4, .int .i64 y.f5] 34), cc2 (blk_below (HL3.out.get 0 rfl) (b1 hHeld.1 (.cells #[.int .i64 y.f0.f0, .int .i64 y.f0.f1, .int .i64 y.f0.f2, .bool y.f0.f3, .int .i64 y.f1.f0, .int .i64 y.f1.f1, .int .i64 y.f1.f2, .int .i64 y.f2, .int .i64 y.f3, .int .u32 y.f4, .int .i64 y.f5] 34))), ck11 (blk_below (HL3.out.get 2 rfl) (b1 hHeld.1 (.cells #[.int .i64 y.f0.f0, .int .i64 y.f0.f1, .int .i64 y.f0.f2, .bool y.f0.f3, .int .i64 y.f1.f0, .int .i64 y.f1.f1, .int .i64 y.f1.f2, .int .i64 y.f2, .int .i64 y.f3, .int .u32 y.f4, .int .i64 y.f5] 34)))⟩ (fun hHeld => ?_)
            clear hK K
            refine norm_ (a' := ?_) ?_ ?_
            rotate_left
            · show Act.put _ (some 41) _ = _
              simp only [Act.put, List.setIfInBounds_toArray, List.set_cons_zero, List.set_cons_succ, i64_w, i32_w]
              rfl
            refine one_ (i := 2) (N := some 39) #[true, true, true, true, true, false, false, false] rfl rfl (by kernel_rfl) (by decide) (fun K hK => ?_)
            refine goes_ Try.func90 (by kernel_rfl) rfl #[.slice A l.length c] (by rfl) rfl rfl (by simp only [List.map_toArray, List.map_cons, List.map_nil]; rfl) ?_
            with_reducible refine (clone_calls _ A c l hcc (Kd.C_below HC3.out hHeld.1) (by omega)).mono ?_
            rintro e w5 ⟨A3, c3, rfl, hR, hb⟩
            have hR2 := Kd.R_lower hR (below_size hHeld.1)
            have hk := blk_below hk hb
            refine ⟨_, rfl, ?_⟩
            refine hK.out _ _ ⟨below_step hHeld.1 hb, cc2 (blk_below (HL3.out.get 0 rfl) (below_step hHeld.1 hb)), ck11 (blk_below (HL3.out.get 2 rfl) (below_step hHeld.1 hb))⟩ (fun hHeld => ?_)
            clear hK K
            refine norm_ (a' := ?_) ?_ ?_
            rotate_left
            · show Act.put _ (some 39) _ = _
              simp only [Act.put, List.setIfInBounds_toArray, List.set_cons_zero, List.set_cons_succ, i64_w, i32_w]
              rfl
            exact norm_ (by simp only [putAll, Act.put, List.setIfInBounds_toArray, List.set_cons_zero, List.set_cons_succ]) (hCont (wd.heap.size, A3, c3) _ ⟨hHeld.1, hk, hkg, hR2⟩)
        rintro ⟨k, A3, c3⟩ w9 ⟨hq, hk, hkg, hR⟩
        have hHeld : Below w3.heap.size w3 w9 ∧ (w9.cell? ⟨w.heap.size, 0, none⟩ = some (.slice A l.length c) ∧ w9.cell? ⟨w.heap.size, 1, none⟩ = some (.int .i64 p) ∧ w9.frozen? ⟨w.heap.size, 0, none⟩ = false ∧ w9.frozen? ⟨w.heap.size, 1, none⟩ = false) ∧ (w9.cell? ⟨w1.heap.size, 0, none⟩ = some (.int .i64 y.f0.f0) ∧ w9.cell? ⟨w1.heap.size, 1, none⟩ = some (.int .i64 y.f0.f1) ∧ w9.cell? ⟨w1.heap.size, 2, none⟩ = some (.int .i64 y.f0.f2) ∧ w9.cell? ⟨w1.heap.size, 3, none⟩ = some (.bool y.f0.f3) ∧ w9.cell? ⟨w1.heap.size, 4, none⟩ = some (.int .i64 y.f1.f0) ∧ w9.cell? ⟨w1.heap.size, 5, none⟩ = some (.int .i64 y.f1.f1) ∧ w9.cell? ⟨w1.heap.size, 6, none⟩ = some (.int .i64 y.f1.f2) ∧ w9.cell? ⟨w1.heap.size, 7, none⟩ = some (.int .i64 y.f2) ∧ w9.cell? ⟨w1.heap.size, 8, none⟩ = some (.int .i64 y.f3) ∧ w9.cell? ⟨w1.heap.size, 9, none⟩ = some (.int .u32 y.f4) ∧ w9.cell? ⟨w1.heap.size, 10, none⟩ = some (.int .i64 y.f5)) := ⟨hq, cc2 (blk_below (HL3.out.get 0 rfl) (hq)), ck11 (blk_below (HL3.out.get 2 rfl) (hq))⟩
        refine norm_ (a' := ?_) ?_ ?_
        rotate_left
        · simp only [putAll, Act.put, List.setIfInBounds_toArray, List.set_cons_zero, List.set_cons_succ]
          rfl
        refine one_ (i := 5) (N := some 42) #[true, true, true, true, true, true, false, false] rfl rfl (by kernel_rfl) (by decide) (fun K hK => ?_)
        refine Kd.R_append_rows_step k34 (Rr := fun (x : S34) (cs : List Value) => cs = cs34 x) (w0 := w3) (W := w9) w3.heap.size ?hw (.tmp 39) (.tmp 41) 68 34 (.agg (cs34 z34).toArray) 88 ?ho Try.underlying68 info34 rfl (by decide) (by decide) (.slice A3 l.length c3) l [y] (some ⟨k, 0, none⟩) 1 1 (fun _ => True) (fun _ => False) ?aC ?aD hR (one_row hk) ?aK (fun _ h => h.elim) (fun _ _ => trivial) hq hq.size hls ?_
        case hw => rfl
        case ho => rfl
        case aC => rfl
        case aD => rfl
        case aK => rintro x cs rfl; exact k34_mkM _ _ _ x
        intro v1 w10 hR1 hb1 hg1 hat1
        obtain ⟨A4, c4, rfl⟩ := Kd.R_slice hR1
        rw [show (l ++ [y]).length = l.length + 1 by simp] at hR1
        refine hK.out _ _ ⟨hb1, cc2 (blk_below (HL3.out.get 0 rfl) (hb1)), ck11 (blk_below (HL3.out.get 2 rfl) (hb1))⟩ (fun hHeld => ?_)
        clear hK K
        refine norm_ (a' := ?_) ?_ ?_
        rotate_left
        · show Act.put _ (some 42) _ = _
          simp only [Act.put, List.setIfInBounds_toArray, List.set_cons_zero, List.set_cons_succ, i64_w, i32_w]
          rfl
        refine pure_ (i := 6) (N := some 43) (v := ?_) (a' := ?_) #[true, true, true, true, true, true, true, false] rfl rfl (by kernel_rfl) (fun _ _ _ h => h) (Or.inl ⟨by rfl, ?_⟩) ?_ ?_
        rotate_left
        · intro w'
          go_simp
          with_reducible rfl
        rotate_left
        · simp only [Act.put, List.setIfInBounds_toArray, List.set_cons_zero, List.set_cons_succ, i64_w, i32_w]
          rfl
        refine last_ (i := 7) (N := none) #[true, true, true, true, true, true, true, true] rfl rfl (by kernel_rfl) (by decide) (fun K hK => ?_)
        refine skip_ (w1 := ?_) (by rfl) rfl ?_ ?_
        rotate_left
        · go_simp
          rfl
        refine hK.out _ _ ?_
        clear hK K
        refine done_ (by kernel_rfl) ?_
        have hL0 := blk_put (blk_below (HL3.out.get 0 rfl) hb1) 0 (.slice A4 (l.length + 1) c4) rfl
        have hL1 := (Below.heap_setCell w10 ⟨w.heap.size, 0, none⟩ (.slice A4 (l.length + 1) c4) (w.heap.size + 1) hne).trans (blk_below (HL3.out.get 1 rfl) hb1)
        have hR2 := rr1 (v := .slice A4 (l.length + 1) c4) hR1 (blk_below (HL3.out.get 0 rfl) hb1)
        have hB2 : Below w.heap.size w (w10.setCell ⟨w.heap.size, 0, none⟩ (.slice A4 (l.length + 1) c4)) := below_set (below_step HB3.out hb1) (Nat.le_refl _)
        obtain ⟨w11, hw11⟩ : ∃ w11, w11 = w10.setCell ⟨w.heap.size, 0, none⟩ (.slice A4 (l.length + 1) c4) := ⟨_, rfl⟩
        rw [← hw11] at hL0 hL1 hR2 hB2 ⊢
        have hx := ck2 hL0
        have hz := cc2 hL1
        have HR2 := Aside0.mk hR2
        have HL10 := Aside0.mk hL1
        have HB10 := Aside0.mk hB2
        have hlb := below_size HB3.out
        clear hw11 hL0 hL1 hR2 hR1 hB2 hHeld hk hkg hR hg1 hat1 hb1 hq
        go_wp2_with fail
        refine bodyPost_ret (results_ct rfl _ _ (w.heap.size + 1) 70 #[.slice A4 (l.length + 1) c4, .int .i64 p] (0, 0) _ rfl (put2 HL10.out) Try.underlying70 rfl (by kernel_rfl)) rfl ?_
        rw [HAL.out]
        exact ⟨_, rfl, Kd.R_lower (rr2 HR2.out HL10.out) hlb, bel2 HB10.out hs⟩
theorem add_calls {w : World} {A : Option Addr} {c : Nat} {l : List S34} (hC : Kd.C k34 w A l.length l) (hcc : l.length ≤ c) (hl : l.length ≤ 1000) (p a : Int) :
    Calls Try.prog 56 #[.agg #[.slice A l.length c, .int .i64 p], .int .i64 a] w (SetR w (addL l p a).1 (addL l p a).2.1 (addL l p a).2.2) := by
  by_cases ha : addrP a
  · exact add_good hC hcc hl p a ha
  · have e : addL l p a = ([], 0, some 1) := by unfold addL; rw [if_neg (fun h => ha h.1)]
    rw [e]
    exact add_bad p a ha
end Go.Proofs.Ytblooffiggciiaa.Ps
/- PsAm -/
namespace Go.Proofs.Ytblooffiggciiaa.Ps
open Go.RowKit Go.Proofs.Ytblooffiggciiaa.PPs Go.Proofs.YtblooffiggciiaaW.PrintWords Go.Proofs.YtblooffiggciiaaW.PrintLast Go.Proofs.YtblooffiggciiaaW.PrintMore Go.Proofs.Ytblooffiggciiaa.Sh
attribute [local go_sem] Go.Proofs.Ytblooffiggciiaa.Aid.isSome_setCell
def fl34 (l : List S34) : List Value := l.flatMap cs34
theorem fl_cons (x : S34) (l : List S34) : fl34 (x :: l) = cs34 x ++ fl34 l := rfl
theorem fl_len : ∀ l : List S34, (fl34 l).length = l.length * 11
  | [] => rfl
  | x :: l => by rw [fl_cons, List.length_append, fl_len l, List.length_cons]; show 11 + _ = _; omega
theorem fl_app (l m : List S34) : fl34 (l ++ m) = fl34 l ++ fl34 m := by unfold fl34; rw [List.flatMap_append]
theorem fl_take (l : List S34) (i : Nat) (h : i ≤ l.length) : (fl34 l).take (i * 11) = fl34 (l.take i) := by
  conv => lhs; rw [← List.take_append_drop i l, fl_app]
  rw [List.take_append_of_le_length (by rw [fl_len, List.length_take]; omega), List.take_of_length_le (by rw [fl_len, List.length_take]; omega)]
theorem fl_drop (l : List S34) (i : Nat) (h : i ≤ l.length) : (fl34 l).drop (i * 11) = fl34 (l.drop i) := by
  conv => lhs; rw [← List.take_append_drop i l, fl_app]
  rw [List.drop_append_of_le_length (by rw [fl_len, List.length_take]; omega), List.drop_eq_nil_of_le (by rw [fl_len, List.length_take]; omega), List.nil_append]
theorem fl_at (l : List S34) (j : Nat) (p : S34) (h : l[j]? = some p) : ((fl34 l).drop (j * 11)).take 11 = cs34 p := by
  have hj : j < l.length := (List.getElem?_eq_some_iff.1 h).1
  have e : l.drop j = p :: l.drop (j + 1) := by
    rw [List.drop_eq_getElem_cons hj, (List.getElem?_eq_some_iff.1 h).2]
  rw [fl_drop l j (by omega), e, fl_cons, List.take_append_of_le_length (Nat.le_refl 11), List.take_of_length_le (Nat.le_refl 11)]
theorem fl_one {l : List S34} {v : Value} (h : v ∈ fl34 l) : v.oneCell' = true := by
  unfold fl34 at h
  obtain ⟨x, _, hx⟩ := List.mem_flatMap.1 h
  unfold cs34 at hx
  simp only [List.mem_cons, List.not_mem_nil, or_false] at hx
  rcases hx with rfl | rfl | rfl | rfl | rfl | rfl | rfl | rfl | rfl | rfl | rfl <;> rfl
theorem flat_eq : ∀ (l : List S34) (cs : List Value), cs.length = l.length * 11 → (∀ j p, l[j]? = some p → (cs.drop (j * 11)).take 11 = cs34 p) → cs = fl34 l
  | [], cs, h, _ => List.eq_nil_of_length_eq_zero (by simpa using h)
  | x :: l, cs, h, hp => by
    have h0 := hp 0 x rfl
    rw [Nat.zero_mul, List.drop_zero] at h0
    have h1 := flat_eq l (cs.drop 11) (by rw [List.length_drop, h, List.length_cons]; omega) (fun j p hj => by
      have := hp (j + 1) p hj
      rw [List.drop_drop, show 11 + j * 11 = (j + 1) * 11 by omega]
      exact this)
    rw [fl_cons, ← h0, ← h1, List.take_append_drop]
structure RowP (W : World) (g n cap : Nat) (l : List S34) (cur : Array Value) : Prop where
  blk : W.heap[g]? = some (.cells cur 34 (0, 0))
  len : n = l.length
  le : n ≤ cap
  max : cap ≤ maxLen
  size : cur.size = cap * 11
  cells : cur.toList.take (n * 11) = fl34 l
theorem rowp_of {W : World} {B n c : Nat} {A : Option Addr} {l : List S34} (h : Kd.R k34 34 W B (fun _ => True) (.slice A n c) l) (hn : 0 < n) : ∃ g cur, A = some ⟨g, 0, none⟩ ∧ B ≤ g ∧ RowP W g n c l cur := by
  have hl := (Kd.R_reads' h).1
  obtain ⟨_, inner, ho, hr⟩ := h
  rcases ho.2 with ⟨he, h0⟩ | ⟨g, cap, cur, he, hB, hh, h1, h2, h3, h4⟩
  · omega
  · injection he with e1 e2 e3
    subst e1 e2 e3
    refine ⟨g, cur, rfl, hB, hh, hl, h1, h2, h3, h4.trans (flat_eq l inner hr.1 fun j p hj => ?_)⟩
    exact k34_openM (hr.2 j p hj)
theorem rowp_R {W : World} {B g n cap : Nat} {l : List S34} {cur : Array Value} (h : RowP W g n cap l cur) (hB : B ≤ g) : Kd.R k34 34 W B (fun _ => True) (.slice (some ⟨g, 0, none⟩) n cap) l := by
  obtain ⟨h1, h2, h3, h4, h5, h6⟩ := h
  subst h2
  refine ⟨fun _ _ => trivial, fl34 l, ⟨fl_len l, .inr ⟨g, cap, cur, rfl, hB, h1, h3, h4, h5, h6⟩⟩, fl_len l, fun j p hj => ?_⟩
  show k34.M _ _ _ _ (((fl34 l).drop (j * 11)).take 11)
  rw [fl_at l j p hj]
  exact k34_mkM _ _ _ p
theorem zero34 : ∀ w : World, (zeroValue 34).run Try.prog w = .ok (.agg (cs34 z34).toArray) w := by
  intro w
  obtain ⟨i, hi, he⟩ := Option.map_eq_some_iff.1 info34
  simp only [Prod.mk.injEq] at he
  simp [zeroValue, typeInfo, hi, he.1]
theorem step_app {P : Program} {ops : Array Oper} {o : Oper} {a : Act} {w w1 : World} {K : Act → World → Prop} {Q : Exit → Act → World → Prop} {E : Prop} {v vs vx : Value} (hg : o.guard = none) (s x : Operand) (t : TypeId) (hop : o.op = Op.call { callee := Callee.builtin Builtin.append, args := #[s, x], argTypes := #[t, t] })
    (hs : a.eval s = vs) (hx : a.eval x = vx) (hrun : (Builtin.append_ #[t, t] o.type #[vs, vx]).run P w = .ok v w1) (hK : K (a.put o.dst v) w1) : if Region.wanted o (yielded ops a.tmps) = true then Oper.wp P o a w K Q else E := by
  have hw : Region.wanted o (yielded ops a.tmps) = true := by simp [Region.wanted, hg]
  rw [if_pos hw]
  unfold Oper.wp
  simp [execOp, hop, resolve, invoke, builtin, hs, hx, hrun, Result.andThen]
  exact hK
theorem zc34 : Builtin.zeroCells (cs34 z34).toArray (0 + 1) = (cs34 z34).toArray := by kernel_rfl
theorem run_clear34 (w : World) (ty : TypeId) (g o c : Nat) (cur : Array Value) (hg : w.heap[g]? = some (.cells cur 34 (0, 0))) (hfit : o + 11 ≤ cur.size) :
    (Builtin.clear_ #[68] ty #[.slice (some ⟨g, o, none⟩) (0 + 1) c]).run Try.prog w = .ok (.tuple #[]) (w.setRow g (cur.toList.take o ++ cs34 z34 ++ cur.toList.drop (o + 11)).toArray) := by
  have hst := run_storeCells_at Try.prog g o 34 (cs34 z34) 0 cur w hg (by show o + 0 + 11 ≤ _; omega) (fun v hv => fl_one (l := [z34]) (by simpa [fl34] using hv))
  have e11 : (cs34 z34).length = 11 := rfl
  simp only [Nat.add_zero, e11] at hst
  have hz : (Value.agg (cs34 z34).toArray).cells = (cs34 z34).toArray := rfl
  simp [Builtin.clear_, run_underlying Try.underlying68, zero34, hz, zc34, hst]
  have h2 : ∀ L : List Value, L = cs34 z34 → ((Sem.run Try.prog (storeCells { block := g, off := o } L) w).andThen fun a w' => Result.ok (Value.tuple #[]) w') = Result.ok (Value.tuple #[]) (w.setRow g (List.take o cur.toList ++ (cs34 z34 ++ List.drop (o + 11) cur.toList)).toArray) := by
    intro L hL
    rw [hL, hst, List.append_assoc]
    rfl
  exact h2 _ (by kernel_rfl)
set_option maxHeartbeats 4000000 in
set_option maxRecDepth 100000 in
theorem sdelete_row {W : World} {g cap : Nat} {l : List S34} {cur : Array Value} (hr : RowP W g l.length cap l cur) (i : Nat) (hi : i < l.length) (hl : l.length ≤ 1000) :
    Calls Try.prog 94 #[.slice (some ⟨g, 0, none⟩) l.length cap, .int .i64 i, .int .i64 ((i : Int) + 1)] W fun e w' => e = .returned (.slice (some ⟨g, 0, none⟩) (l.length - 1) cap) ∧ (∃ cur', RowP w' g (l.length - 1) cap (l.eraseIdx i) cur') ∧ ∀ B, B ≤ g → B ≤ W.heap.size → Below B W w' := by
  obtain ⟨n, hn⟩ : ∃ n, n = l.length := ⟨_, rfl⟩
  rw [← hn] at hr hi hl ⊢
  obtain ⟨m, hm⟩ : ∃ m, m = n - (i + 1) := ⟨_, rfl⟩
  have hc := hr.le
  have hmx := hr.max
  have hcs := hr.size
  have hnews : (fl34 (l.drop (i + 1))).length = m * 11 := by rw [fl_len, List.length_drop]; omega
  have hg1 : W.drew.heap[g]? = some (.cells cur 34 (0, 0)) := blk_drew hr.blk
  obtain ⟨row1, hrow1⟩ : ∃ r : Array Value, r = (cur.toList.take (i * 11) ++ fl34 (l.drop (i + 1)) ++ cur.toList.drop (i * 11 + (fl34 (l.drop (i + 1))).length)).toArray := ⟨_, rfl⟩
  have hap0 : ∀ (ad : Addr), (0 < m → ad = ⟨g, (i + 1) * 11, none⟩) → ∀ ty, (Builtin.append_ #[68, 68] ty #[.slice (some ⟨g, 0, none⟩) i cap, .slice (some ad) m (cap - (i + 1))]).run Try.prog W.drew = .ok (.slice (some ⟨g, 0, none⟩) (i + m) cap) (W.drew.setRow g row1) := by
    intro ad had ty
    obtain ⟨ti, hti, he⟩ := Option.map_eq_some_iff.1 info34
    simp only [Prod.mk.injEq] at he
    have := run_append_room (P := Try.prog) W.drew 68 ty 34 ti Try.underlying68 hti g i cap cur hg1 ad m (cap - (i + 1)) (fl34 (l.drop (i + 1))) (by rw [he.2.1]; exact hnews) (fun j u hu => ?_) (fun u hu => fl_one hu) (by omega) (by rw [he.2.1, hnews]; omega)
    · rw [this, he.2.1, hrow1]
    · have hju : j < (fl34 (l.drop (i + 1))).length := (List.getElem?_eq_some_iff.1 hu).1
      rw [hnews] at hju
      rw [had (by omega), Addr.add_lit]
      refine (blk_cell hg1 _).trans ?_
      have h5 : (cur.toList.take (n * 11))[(i + 1) * 11 + j]? = some u := by
        rw [hr.cells, ← hu, ← fl_drop l (i + 1) (by omega), List.getElem?_drop]
      rw [List.getElem?_take_of_lt (by omega)] at h5
      simpa using h5
  have hap : ∀ ty, (Builtin.append_ #[68, 68] ty #[.slice (some ⟨g, 0, none⟩) i cap, .slice (if cap = i + 1 then some ⟨g, 0, none⟩ else some ⟨g, (i + 1) * 11, none⟩) m (cap - (i + 1))]).run Try.prog W.drew = .ok (.slice (some ⟨g, 0, none⟩) (i + m) cap) (W.drew.setRow g row1) := by
    intro ty
    split
    · exact hap0 _ (fun h => by omega) ty
    · exact hap0 _ (fun _ => rfl) ty
  clear hap0
  obtain ⟨k, rfl⟩ : ∃ k, n = k + 1 := ⟨n - 1, by omega⟩
  have hik : i + m = k := by omega
  rw [hik] at hap
  have hr1s : row1.size = cur.size := by
    rw [hrow1]
    simp only [List.size_toArray, List.length_append, List.length_take, List.length_drop, Array.length_toList, hnews]
    omega
  have hg2 : (W.drew.setRow g row1).heap[g]? = some (.cells row1 34 (0, 0)) := setRow_heap _ _ _ _ _ _ hg1
  obtain ⟨W1, hW1⟩ : ∃ W1, W1 = W.drew.setRow g row1 := ⟨_, rfl⟩
  have hB1 : ∀ B, B ≤ g → Below B W W1 := fun B hB => by rw [hW1]; exact below_setRow (b3 (Below.refl B W)) hB row1
  rw [← hW1] at hap hg2
  clear hW1
  obtain ⟨row2, hrow2⟩ : ∃ r : Array Value, r = (row1.toList.take (k * 11) ++ cs34 z34 ++ row1.toList.drop (k * 11 + 11)).toArray := ⟨_, rfl⟩
  have hcl : ∀ ty, (Builtin.clear_ #[68] ty #[.slice (some ⟨g, k * 11, none⟩) 1 (cap - k)]).run Try.prog W1 = .ok (.tuple #[]) (W1.setRow g row2) := fun ty => by
    rw [hrow2]
    exact run_clear34 W1 ty g (k * 11) (cap - k) row1 hg2 (by omega)
  have hr2s : row2.size = cur.size := by
    rw [hrow2]
    simp only [List.size_toArray, List.length_append, List.length_take, List.length_drop, Array.length_toList]
    show min (k * 11) row1.size + 11 + (row1.size - (k * 11 + 11)) = cur.size
    omega
  have hP2 : RowP (W1.setRow g row2) g k cap (l.eraseIdx i) row2 := by
    refine ⟨setRow_heap _ _ _ _ _ _ hg2, by rw [List.length_eraseIdx_of_lt (by omega)]; omega, by omega, hmx, by rw [hr2s, hcs], ?_⟩
    have e1 : (cur.toList.take (i * 11)).length = i * 11 := by rw [List.length_take, Array.length_toList]; omega
    have e2 : cur.toList.take (i * 11) = fl34 (l.take i) := by
      rw [← fl_take l i (by omega), ← hr.cells, List.take_take, Nat.min_eq_left (by omega)]
    have e3 : row1.toList.take (k * 11) = fl34 (l.eraseIdx i) := by
      rw [hrow1, List.toList_toArray, List.take_append_of_le_length (by rw [List.length_append, e1, hnews]; omega), List.take_of_length_le (by rw [List.length_append, e1, hnews]; omega), e2, List.eraseIdx_eq_take_drop_succ, fl_app]
    have e4 : (row1.toList.take (k * 11)).length = k * 11 := by rw [List.length_take, Array.length_toList]; omega
    rw [hrow2, List.toList_toArray, List.append_assoc, List.take_append_of_le_length (Nat.le_of_eq e4.symm), List.take_of_length_le (Nat.le_of_eq e4), e3]
  have HP2 := Aside0.mk hP2
  have HB2 := Aside0.mk (fun (B : Nat) (hB : B ≤ g) => below_setRow (hB1 B hB) hB row2)
  have hkn : k + 1 - 1 = k := rfl
  rw [hkn]
  have i0 : (0 : Int) ≤ (i : Int) := by omega
  have i1 : (i : Int) + 1 ≤ ((k + 1 : Nat) : Int) := by omega
  have i2 : ((i : Int) == (i : Int) + 1) = false := beq_eq_false_iff_ne.mpr (by omega)
  have i3 : i ≤ cap := by omega
  have i4 : k ≤ cap := by omega
  have i5 : i ≤ i + 1 := by omega
  have i6 : i + 1 ≤ k + 1 := by omega
  have i7 : k + 1 ≤ cap := hc
  have hm2 : k + 1 - (i + 1) = m := hm.symm
  have hm3 : k - i = m := by omega
  have i8 : i ≤ k := by omega
  have i9 : (i : Int) ≤ (k : Int) := by omega
  have i10 : ((i : Int) + 1).toNat = i + 1 := by omega
  have i12 : ¬ cap = k := by omega
  have i13 : (0 : Int) ≤ (i : Int) + 1 := by omega
  have i11 : (k : Int) + 1 ≤ (cap : Int) := by omega
  clear hr hg1 hg2 hrow1 hrow2 hr1s hr2s hP2 hB1 hnews hn hi hl hm hik hmx hcs hc hkn
  go_enter Try.func94, Try.ntmps94
  go_wp2_with fail
  refine start_ (n := 8) (S := fun w' => True) (ds := []) #[false, false, false, false, false, false, false, false] (by kernel_rfl) rfl rfl trivial (fun hHeld => ?_)
  refine pure_ (i := 0) (N := some 20) (v := ?_) (a' := ?_) #[true, false, false, false, false, false, false, false] rfl rfl (by kernel_rfl) (fun _ _ _ h => h) (Or.inl ⟨by rfl, ?_⟩) ?_ ?_
  rotate_left
  · intro w'
    go_simp
    with_reducible rfl
  rotate_left
  · simp only [Act.put, List.setIfInBounds_toArray, List.set_cons_zero, List.set_cons_succ, i64_w, i32_w]
    rfl
  refine pure_ (i := 1) (N := some 21) (v := ?_) (a' := ?_) #[true, true, false, false, false, false, false, false] rfl rfl (by kernel_rfl) (fun _ _ _ h => h) (Or.inl ⟨by rfl, ?_⟩) ?_ ?_
  rotate_left
  · intro w'
    go_simp
    with_reducible rfl
  rotate_left
  · simp only [Act.put, List.setIfInBounds_toArray, List.set_cons_zero, List.set_cons_succ, i64_w, i32_w]
    rfl
  refine pure_ (i := 2) (N := some 22) (v := ?_) (a' := ?_) #[true, true, true, false, false, false, false, false] rfl rfl (by kernel_rfl) (fun _ _ _ h => h) (Or.inl ⟨by rfl, ?_⟩) ?_ ?_
  rotate_left
  · intro w'
    go_simp
    with_reducible rfl
  rotate_left
  · simp only [Act.put, List.setIfInBounds_toArray, List.set_cons_zero, List.set_cons_succ, i64_w, i32_w]
    rfl
  refine pure_ (i := 3) (N := some 23) (v := ?_) (a' := ?_) #[true, true, true, true, false, false, false, false] rfl rfl (by kernel_rfl) (fun _ _ _ h => h) (Or.inl ⟨by rfl, ?_⟩) ?_ ?_
  rotate_left
  · intro w'
    go_simp
    with_reducible rfl
  rotate_left
  · simp only [Act.put, List.setIfInBounds_toArray, List.set_cons_zero, List.set_cons_succ, i64_w, i32_w]
    rfl
  refine pure_ (i := 4) (N := some 24) (v := ?_) (a' := ?_) #[true, true, true, true, true, false, false, false] rfl rfl (by kernel_rfl) (fun _ _ _ h => h) (Or.inl ⟨by rfl, ?_⟩) ?_ ?_
  rotate_left
  · intro w'
    go_simp
    with_reducible rfl
  rotate_left
  · simp only [Act.put, List.setIfInBounds_toArray, List.set_cons_zero, List.set_cons_succ, i64_w, i32_w]
    rfl
  refine pure_ (i := 5) (N := some 25) (v := ?_) (a' := ?_) #[true, true, true, true, true, true, false, false] rfl rfl (by kernel_rfl) (fun _ _ _ h => h) (Or.inl ⟨by rfl, ?_⟩) ?_ ?_
  rotate_left
  · intro w'
    go_simp
    with_reducible rfl
  rotate_left
  · simp only [Act.put, List.setIfInBounds_toArray, List.set_cons_zero, List.set_cons_succ, i64_w, i32_w]
    rfl
  refine one_ (i := 6) (N := some 26) #[true, true, true, true, true, true, true, false] rfl rfl (by kernel_rfl) (by decide) (fun K hK => ?_)
  refine step_app rfl (.tmp 22) (.tmp 25) 68 rfl ?hs ?hx (hap _) ?_
  case hs => rfl
  case hx => rfl
  refine hK.out _ _ trivial (fun hHeld => ?_)
  clear hK K
  refine norm_ (a' := ?_) ?_ ?_
  rotate_left
  · show Act.put _ (some 26) _ = _
    simp only [Act.put, List.setIfInBounds_toArray, List.set_cons_zero, List.set_cons_succ, i64_w, i32_w]
    rfl
  refine pure_ (i := 7) (N := some 0) (v := ?_) (a' := ?_) #[true, true, true, true, true, true, true, true] rfl rfl (by kernel_rfl) (fun _ _ _ h => h) (Or.inl ⟨by rfl, ?_⟩) ?_ ?_
  rotate_left
  · intro w'
    go_simp
    with_reducible rfl
  rotate_left
  · simp only [Act.put, List.setIfInBounds_toArray, List.set_cons_zero, List.set_cons_succ, i64_w, i32_w]
    rfl
  refine done_ (by kernel_rfl) ?_
  clear hap
  generalize (if cap = i + 1 then (some (⟨g, 0, none⟩ : Addr)) else some ⟨g, (i + 1) * 11, none⟩) = ad25
  go_wp2_with fail
  go_ret
  exact ⟨rfl, ⟨_, HP2.out⟩, fun B h1 _ => HB2.out B h1⟩
end Go.Proofs.Ytblooffiggciiaa.Ps
