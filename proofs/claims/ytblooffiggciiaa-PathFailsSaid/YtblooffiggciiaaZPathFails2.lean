/- PathFails: part 2 of its proof: printed functions and their contracts, plain laws. -/
import Derived.Test.YtblooffiggciiaaZPathFails1
import Derived.WalkKit
/- PAllx41 -/
namespace Go.Proofs.Ytblooffiggciiaa.PAll
open Go.RowKit Go.Proofs.YtblooffiggciiaaW.PrintWords Go.Proofs.YtblooffiggciiaaW.PrintLast Go.Proofs.YtblooffiggciiaaW.PrintMore Go.Proofs.Ytblooffiggciiaa.Sh
attribute [local go_sem] max2_int min2_int max_two min_two max_three min_three max_four min_four   -- for this text's walks alone
attribute [local go_sem] Go.Proofs.Ytblooffiggciiaa.Aid.isSome_setCell
set_option linter.unusedVariables false
set_option linter.unusedSimpArgs false
def weftlineref13_Missed.f (k : Nat) (a0_0 : Int) (a0_1 : Int) (a0_2 : Int) (a0_3 : Bool) (a0_4 : Int) (a0_5 : Int) (a0_6 : Int) (a0_7 : Int) (a0_8 : Int) (a0_9 : Int) (a0_10 : Int) : Option (Int × Int × Int × Bool × Int × Int × Int × Int × Int × Int × Int) := (weftlineref13_Good.f k a0_0 a0_1 a0_2 a0_3 a0_4 a0_5 a0_6 a0_7 a0_8 a0_9 a0_10).bind fun t318 => (if t318 = true then (if a0_9 = 0 then (some (a0_0, a0_1, a0_2, a0_3, a0_4, a0_5, a0_6, a0_7, a0_8, a0_9, a0_10)) else ((weftlineref13_worse.f a0_0 a0_1 a0_2 a0_3 a0_4 a0_5 a0_6 a0_7 a0_8 0 0).bind fun bt319 => (some (bt319.1, bt319.2.1, bt319.2.2.1, bt319.2.2.2.1, bt319.2.2.2.2.1, bt319.2.2.2.2.2.1, bt319.2.2.2.2.2.2.1, bt319.2.2.2.2.2.2.2.1, bt319.2.2.2.2.2.2.2.2.1, bt319.2.2.2.2.2.2.2.2.2.1, bt319.2.2.2.2.2.2.2.2.2.2)))) else (some (a0_0, a0_1, a0_2, a0_3, a0_4, a0_5, a0_6, a0_7, a0_8, a0_9, a0_10)))
set_option maxHeartbeats 8000000 in
set_option maxRecDepth 100000 in
theorem weftlineref13_Missed.calls (k : Nat) (a0_0 : Int) (a0_1 : Int) (a0_2 : Int) (a0_3 : Bool) (a0_4 : Int) (a0_5 : Int) (a0_6 : Int) (a0_7 : Int) (a0_8 : Int) (a0_9 : Int) (a0_10 : Int) (r1 : Int) (r2 : Int) (r3 : Int) (r4 : Bool) (r5 : Int) (r6 : Int) (r7 : Int) (r8 : Int) (r9 : Int) (r10 : Int) (r11 : Int) (w : World) (h : weftlineref13_Missed.f k a0_0 a0_1 a0_2 a0_3 a0_4 a0_5 a0_6 a0_7 a0_8 a0_9 a0_10 = some (r1, r2, r3, r4, r5, r6, r7, r8, r9, r10, r11)) :
    Calls Try.prog 28 #[.agg #[.int .i64 a0_0, .int .i64 a0_1, .int .i64 a0_2, .bool a0_3, .int .i64 a0_4, .int .i64 a0_5, .int .i64 a0_6, .int .i64 a0_7, .int .i64 a0_8, .int .u32 a0_9, .int .i64 a0_10]] w fun e w' => e = .returned (.agg #[.int .i64 r1, .int .i64 r2, .int .i64 r3, .bool r4, .int .i64 r5, .int .i64 r6, .int .i64 r7, .int .i64 r8, .int .i64 r9, .int .u32 r10, .int .i64 r11]) ∧ Below w.heap.size w w' := by
  have hu29 := Try.underlying29
  have HB := A0 (Below.refl w.heap.size w)
  have H : ((weftlineref13_Good.f k a0_0 a0_1 a0_2 a0_3 a0_4 a0_5 a0_6 a0_7 a0_8 a0_9 a0_10).bind fun t318 => (if t318 = true then (if a0_9 = 0 then (some (a0_0, a0_1, a0_2, a0_3, a0_4, a0_5, a0_6, a0_7, a0_8, a0_9, a0_10)) else ((weftlineref13_worse.f a0_0 a0_1 a0_2 a0_3 a0_4 a0_5 a0_6 a0_7 a0_8 0 0).bind fun bt319 => (some (bt319.1, bt319.2.1, bt319.2.2.1, bt319.2.2.2.1, bt319.2.2.2.2.1, bt319.2.2.2.2.2.1, bt319.2.2.2.2.2.2.1, bt319.2.2.2.2.2.2.2.1, bt319.2.2.2.2.2.2.2.2.1, bt319.2.2.2.2.2.2.2.2.2.1, bt319.2.2.2.2.2.2.2.2.2.2)))) else (some (a0_0, a0_1, a0_2, a0_3, a0_4, a0_5, a0_6, a0_7, a0_8, a0_9, a0_10)))) = some (r1, r2, r3, r4, r5, r6, r7, r8, r9, r10, r11) := h
  clear h
  replace H := Option.bind_eq_some_iff.mp H
  obtain ⟨t318, A20, H⟩ := H
  replace H : (if t318 = true then (if a0_9 = 0 then (some (a0_0, a0_1, a0_2, a0_3, a0_4, a0_5, a0_6, a0_7, a0_8, a0_9, a0_10)) else ((weftlineref13_worse.f a0_0 a0_1 a0_2 a0_3 a0_4 a0_5 a0_6 a0_7 a0_8 0 0).bind fun bt319 => (some (bt319.1, bt319.2.1, bt319.2.2.1, bt319.2.2.2.1, bt319.2.2.2.2.1, bt319.2.2.2.2.2.1, bt319.2.2.2.2.2.2.1, bt319.2.2.2.2.2.2.2.1, bt319.2.2.2.2.2.2.2.2.1, bt319.2.2.2.2.2.2.2.2.2.1, bt319.2.2.2.2.2.2.2.2.2.2)))) else (some (a0_0, a0_1, a0_2, a0_3, a0_4, a0_5, a0_6, a0_7, a0_8, a0_9, a0_10))) = some (r1, r2, r3, r4, r5, r6, r7, r8, r9, r10, r11) := H
  have A2 := Aside0.mk A20
  clear A20
  by_cases c3 : t318 = true
  · subst c3
    have H1 : (if a0_9 = 0 then (some (a0_0, a0_1, a0_2, a0_3, a0_4, a0_5, a0_6, a0_7, a0_8, a0_9, a0_10)) else ((weftlineref13_worse.f a0_0 a0_1 a0_2 a0_3 a0_4 a0_5 a0_6 a0_7 a0_8 0 0).bind fun bt319 => (some (bt319.1, bt319.2.1, bt319.2.2.1, bt319.2.2.2.1, bt319.2.2.2.2.1, bt319.2.2.2.2.2.1, bt319.2.2.2.2.2.2.1, bt319.2.2.2.2.2.2.2.1, bt319.2.2.2.2.2.2.2.2.1, bt319.2.2.2.2.2.2.2.2.2.1, bt319.2.2.2.2.2.2.2.2.2.2)))) = some (r1, r2, r3, r4, r5, r6, r7, r8, r9, r10, r11) := by rw [if_pos rfl] at H; exact H
    clear H
    have H := H1
    clear H1
    by_cases c4 : a0_9 = 0
    · rw [if_pos c4] at H
      have c4b0 : (a0_9 == 0) = true := beq_iff_eq.mpr c4
      have c4b1 : (a0_9 != 0) = false := bne_eq_false_iff_eq.mpr c4
      clear c4
      simp only [Option.some.injEq, Prod.mk.injEq] at H
      obtain ⟨rfl, rfl, rfl, rfl, rfl, rfl, rfl, rfl, rfl, rfl, rfl⟩ := H
      go_enter Try.func28, Try.ntmps28
      go_wp2_with (first | ((with_reducible refine gate_dst (N := 1) rfl ?_); refine box_event ?hg (N := 1) ?hd (cs := #[.int .i64 a0_0, .int .i64 a0_1, .int .i64 a0_2, .bool a0_3, .int .i64 a0_4, .int .i64 a0_5, .int .i64 a0_6, .int .i64 a0_7, .int .i64 a0_8, .int .u32 a0_9, .int .i64 a0_10]) (t := 29) ?hr ?_; (case hd => rfl); (case hg => rfl); (case hr => first | (go_simp; done) | (go_simp; rfl)); intro gb316 hg w5 hbox hb; have n0_ := A0 (below_step (by repeat (first | (with_reducible first | exact HB.out | apply b1 | apply b2 | apply b3) | exact HB.out)) hb); have n1_ := A0 (hbox); have n2_ := A0 ((by rw [hg]; exact (below_size (by repeat (first | (with_reducible first | exact HB.out | apply b1 | apply b2 | apply b3) | exact HB.out))) : w.heap.size ≤ gb316)); have n3_ := n2_; clear HB; have HB := n0_; have BK316 := n1_; have GW316 := n2_; have GE316 := n3_; clear n0_ n1_ n2_ n3_; clear hb hbox hg) | ((with_reducible refine gate_dst (N := 2) rfl ?_); refine box_event ?hg (N := 2) ?hd (cs := #[.int .i64 0, .int .i64 0, .int .i64 0, .bool false, .int .i64 0, .int .i64 0, .int .i64 0, .int .i64 0, .int .i64 0, .int .u32 0, .int .i64 0]) (t := 29) ?hr ?_; (case hd => rfl); (case hg => rfl); (case hr => first | (go_simp; done) | (go_simp; rfl)); intro gb317 hg w6 hbox hb; have n0_ := A0 (blk_below (by (with_reducible repeat (first | refine q1 ?_ _ | refine q2 ?_ | refine q3 ?_ _)); exact BK316.out) hb); have n1_ := A0 (below_step (by repeat (first | (with_reducible first | exact HB.out | apply b1 | apply b2 | apply b3 | refine below_set ?_ GE316.out) | exact HB.out)) hb); have n2_ := A0 (hbox); have n3_ := A0 ((by rw [hg]; exact (below_size (by repeat (first | (with_reducible first | exact HB.out | apply b1 | apply b2 | apply b3 | refine below_set ?_ GE316.out) | exact HB.out))) : w.heap.size ≤ gb317)); have n4_ := n3_; have n5_ := A0 ((by rw [hg]; exact Nat.ne_of_lt (blk_lt (g := gb316) (o := .cells #[.int .i64 a0_0, .int .i64 a0_1, .int .i64 a0_2, .bool a0_3, .int .i64 a0_4, .int .i64 a0_5, .int .i64 a0_6, .int .i64 a0_7, .int .i64 a0_8, .int .u32 a0_9, .int .i64 a0_10] 29 (0, 0)) (by (with_reducible repeat (first | refine q1 ?_ _ | refine q2 ?_ | refine q3 ?_ _)); exact BK316.out)) : gb316 ≠ gb317)); have n6_ := A0 ((by rw [hg]; exact Nat.ne_of_gt (blk_lt (g := gb316) (o := .cells #[.int .i64 a0_0, .int .i64 a0_1, .int .i64 a0_2, .bool a0_3, .int .i64 a0_4, .int .i64 a0_5, .int .i64 a0_6, .int .i64 a0_7, .int .i64 a0_8, .int .u32 a0_9, .int .i64 a0_10] 29 (0, 0)) (by (with_reducible repeat (first | refine q1 ?_ _ | refine q2 ?_ | refine q3 ?_ _)); exact BK316.out)) : gb317 ≠ gb316)); clear BK316; clear HB; have BK316 := n0_; have HB := n1_; have BK317 := n2_; have GW317 := n3_; have GE317 := n4_; have NB316_317 := n5_; have NB317_316 := n6_; clear n0_ n1_ n2_ n3_ n4_ n5_ n6_; clear hb hbox hg; have hnb7 := NB316_317.out; have hnc7 := NB317_316.out; have hcz8 := cc11 BK316.out) | ((with_reducible refine gate_callee (f := 19) rfl ?_); refine goesL_ (some 4) rfl rfl Try.func19 (by kernel_rfl) rfl #[.agg #[.int .i64 a0_0, .int .i64 a0_1, .int .i64 a0_2, .bool a0_3, .int .i64 a0_4, .int .i64 a0_5, .int .i64 a0_6, .int .i64 a0_7, .int .i64 a0_8, .int .u32 a0_9, .int .i64 a0_10]] rfl (by (try simp only [List.map_toArray, List.map_cons, List.map_nil]); first | done | rfl | (simp only [List.length_drop, List.length_take]; rfl)) ?_; (with_reducible refine (weftlineref13_Good.calls k a0_0 a0_1 a0_2 a0_3 a0_4 a0_5 a0_6 a0_7 a0_8 a0_9 a0_10 true _ A2.out).mono ?_); rintro e w9 ⟨rfl, hb⟩; refine ⟨_, rfl, ?_⟩; have n0_ := A0 (blk_below (by (with_reducible repeat (first | refine q1 ?_ _ | refine q2 ?_ | refine q3 ?_ _)); exact BK316.out) hb); have n1_ := A0 (blk_below (by (with_reducible repeat (first | refine q1 ?_ _ | refine q2 ?_ | refine q3 ?_ _)); exact BK317.out) hb); have n2_ := A0 (below_step (by repeat (first | (with_reducible first | exact HB.out | apply b1 | apply b2 | apply b3 | refine below_set ?_ GE316.out | refine below_set ?_ GE317.out) | exact HB.out)) hb); clear BK316; clear BK317; clear HB; have BK316 := n0_; have BK317 := n1_; have HB := n2_; clear n0_ n1_ n2_; (try clear hb); (try clear hb2); (try clear hk); (try clear hi); have hcz10 := cc11 BK316.out; have hcz11 := cc11 BK317.out))
      refine bodyPost_ret (results_cell_row rfl _ _ gb317 29 #[.int .i64 a0_0, .int .i64 a0_1, .int .i64 a0_2, .bool a0_3, .int .i64 a0_4, .int .i64 a0_5, .int .i64 a0_6, .int .i64 a0_7, .int .i64 a0_8, .int .u32 a0_9, .int .i64 a0_10] (0, 0) _ rfl (by (with_reducible repeat (first | refine q1 ?_ _ | refine q2 ?_ | refine q3 ?_ _)); refine blk_put (cs := #[.int .i64 a0_0, .int .i64 a0_1, .int .i64 a0_2, .bool a0_3, .int .i64 a0_4, .int .i64 a0_5, .int .i64 a0_6, .int .i64 a0_7, .int .i64 a0_8, .int .u32 a0_9, .int .i64 0]) ?_ 10 _ rfl; (with_reducible repeat (first | refine q1 ?_ _ | refine q2 ?_ | refine q3 ?_ _)); refine blk_put (cs := #[.int .i64 a0_0, .int .i64 a0_1, .int .i64 a0_2, .bool a0_3, .int .i64 a0_4, .int .i64 a0_5, .int .i64 a0_6, .int .i64 a0_7, .int .i64 a0_8, .int .u32 0, .int .i64 0]) ?_ 9 _ rfl; (with_reducible repeat (first | refine q1 ?_ _ | refine q2 ?_ | refine q3 ?_ _)); refine blk_put (cs := #[.int .i64 a0_0, .int .i64 a0_1, .int .i64 a0_2, .bool a0_3, .int .i64 a0_4, .int .i64 a0_5, .int .i64 a0_6, .int .i64 a0_7, .int .i64 0, .int .u32 0, .int .i64 0]) ?_ 8 _ rfl; (with_reducible repeat (first | refine q1 ?_ _ | refine q2 ?_ | refine q3 ?_ _)); refine blk_put (cs := #[.int .i64 a0_0, .int .i64 a0_1, .int .i64 a0_2, .bool a0_3, .int .i64 a0_4, .int .i64 a0_5, .int .i64 a0_6, .int .i64 0, .int .i64 0, .int .u32 0, .int .i64 0]) ?_ 7 _ rfl; (with_reducible repeat (first | refine q1 ?_ _ | refine q2 ?_ | refine q3 ?_ _)); refine blk_put (cs := #[.int .i64 a0_0, .int .i64 a0_1, .int .i64 a0_2, .bool a0_3, .int .i64 a0_4, .int .i64 a0_5, .int .i64 0, .int .i64 0, .int .i64 0, .int .u32 0, .int .i64 0]) ?_ 6 _ rfl; (with_reducible repeat (first | refine q1 ?_ _ | refine q2 ?_ | refine q3 ?_ _)); refine blk_put (cs := #[.int .i64 a0_0, .int .i64 a0_1, .int .i64 a0_2, .bool a0_3, .int .i64 a0_4, .int .i64 0, .int .i64 0, .int .i64 0, .int .i64 0, .int .u32 0, .int .i64 0]) ?_ 5 _ rfl; (with_reducible repeat (first | refine q1 ?_ _ | refine q2 ?_ | refine q3 ?_ _)); refine blk_put (cs := #[.int .i64 a0_0, .int .i64 a0_1, .int .i64 a0_2, .bool a0_3, .int .i64 0, .int .i64 0, .int .i64 0, .int .i64 0, .int .i64 0, .int .u32 0, .int .i64 0]) ?_ 4 _ rfl; (with_reducible repeat (first | refine q1 ?_ _ | refine q2 ?_ | refine q3 ?_ _)); refine blk_put (cs := #[.int .i64 a0_0, .int .i64 a0_1, .int .i64 a0_2, .bool false, .int .i64 0, .int .i64 0, .int .i64 0, .int .i64 0, .int .i64 0, .int .u32 0, .int .i64 0]) ?_ 3 _ rfl; (with_reducible repeat (first | refine q1 ?_ _ | refine q2 ?_ | refine q3 ?_ _)); refine blk_put (cs := #[.int .i64 a0_0, .int .i64 a0_1, .int .i64 0, .bool false, .int .i64 0, .int .i64 0, .int .i64 0, .int .i64 0, .int .i64 0, .int .u32 0, .int .i64 0]) ?_ 2 _ rfl; (with_reducible repeat (first | refine q1 ?_ _ | refine q2 ?_ | refine q3 ?_ _)); refine blk_put (cs := #[.int .i64 a0_0, .int .i64 0, .int .i64 0, .bool false, .int .i64 0, .int .i64 0, .int .i64 0, .int .i64 0, .int .i64 0, .int .u32 0, .int .i64 0]) ?_ 1 _ rfl; (with_reducible repeat (first | refine q1 ?_ _ | refine q2 ?_ | refine q3 ?_ _)); refine blk_put (cs := #[.int .i64 0, .int .i64 0, .int .i64 0, .bool false, .int .i64 0, .int .i64 0, .int .i64 0, .int .i64 0, .int .i64 0, .int .u32 0, .int .i64 0]) ?_ 0 _ rfl; (with_reducible repeat (first | refine q1 ?_ _ | refine q2 ?_ | refine q3 ?_ _)); exact BK317.out) Try.underlying29 rfl (by kernel_rfl)) rfl ?_
      exact ⟨by first | rfl | (simp [errW_none, errW_some] <;> rfl) | (simp [*, errW_none, errW_some] <;> rfl), by repeat (first | (with_reducible first | exact HB.out | apply b1 | apply b2 | apply b3 | refine below_set ?_ GE316.out | refine below_set ?_ GE317.out) | exact HB.out)⟩
    · rw [if_neg c4] at H
      have c4b0 : (a0_9 == 0) = false := beq_eq_false_iff_ne.mpr c4
      have c4b1 : (a0_9 != 0) = true := bne_iff_ne.mpr c4
      replace H := Option.bind_eq_some_iff.mp H
      obtain ⟨⟨t319, t320, t321, t322, t323, t324, t325, t326, t327, t328, t329⟩, A120, H⟩ := H
      replace H : (some (t319, t320, t321, t322, t323, t324, t325, t326, t327, t328, t329)) = some (r1, r2, r3, r4, r5, r6, r7, r8, r9, r10, r11) := H
      have A12 := Aside0.mk A120
      clear A120
      simp only [Option.some.injEq, Prod.mk.injEq] at H
      obtain ⟨rfl, rfl, rfl, rfl, rfl, rfl, rfl, rfl, rfl, rfl, rfl⟩ := H
      go_enter Try.func28, Try.ntmps28
      go_wp2_with (first | ((with_reducible refine gate_dst (N := 1) rfl ?_); refine box_event ?hg (N := 1) ?hd (cs := #[.int .i64 a0_0, .int .i64 a0_1, .int .i64 a0_2, .bool a0_3, .int .i64 a0_4, .int .i64 a0_5, .int .i64 a0_6, .int .i64 a0_7, .int .i64 a0_8, .int .u32 a0_9, .int .i64 a0_10]) (t := 29) ?hr ?_; (case hd => rfl); (case hg => rfl); (case hr => first | (go_simp; done) | (go_simp; rfl)); intro gb316 hg w13 hbox hb; have n0_ := A0 (below_step (by repeat (first | (with_reducible first | exact HB.out | apply b1 | apply b2 | apply b3) | exact HB.out)) hb); have n1_ := A0 (hbox); have n2_ := A0 ((by rw [hg]; exact (below_size (by repeat (first | (with_reducible first | exact HB.out | apply b1 | apply b2 | apply b3) | exact HB.out))) : w.heap.size ≤ gb316)); have n3_ := n2_; clear HB; have HB := n0_; have BK316 := n1_; have GW316 := n2_; have GE316 := n3_; clear n0_ n1_ n2_ n3_; clear hb hbox hg) | ((with_reducible refine gate_dst (N := 2) rfl ?_); refine box_event ?hg (N := 2) ?hd (cs := #[.int .i64 0, .int .i64 0, .int .i64 0, .bool false, .int .i64 0, .int .i64 0, .int .i64 0, .int .i64 0, .int .i64 0, .int .u32 0, .int .i64 0]) (t := 29) ?hr ?_; (case hd => rfl); (case hg => rfl); (case hr => first | (go_simp; done) | (go_simp; rfl)); intro gb317 hg w14 hbox hb; have n0_ := A0 (blk_below (by (with_reducible repeat (first | refine q1 ?_ _ | refine q2 ?_ | refine q3 ?_ _)); exact BK316.out) hb); have n1_ := A0 (below_step (by repeat (first | (with_reducible first | exact HB.out | apply b1 | apply b2 | apply b3 | refine below_set ?_ GE316.out) | exact HB.out)) hb); have n2_ := A0 (hbox); have n3_ := A0 ((by rw [hg]; exact (below_size (by repeat (first | (with_reducible first | exact HB.out | apply b1 | apply b2 | apply b3 | refine below_set ?_ GE316.out) | exact HB.out))) : w.heap.size ≤ gb317)); have n4_ := n3_; have n5_ := A0 ((by rw [hg]; exact Nat.ne_of_lt (blk_lt (g := gb316) (o := .cells #[.int .i64 a0_0, .int .i64 a0_1, .int .i64 a0_2, .bool a0_3, .int .i64 a0_4, .int .i64 a0_5, .int .i64 a0_6, .int .i64 a0_7, .int .i64 a0_8, .int .u32 a0_9, .int .i64 a0_10] 29 (0, 0)) (by (with_reducible repeat (first | refine q1 ?_ _ | refine q2 ?_ | refine q3 ?_ _)); exact BK316.out)) : gb316 ≠ gb317)); have n6_ := A0 ((by rw [hg]; exact Nat.ne_of_gt (blk_lt (g := gb316) (o := .cells #[.int .i64 a0_0, .int .i64 a0_1, .int .i64 a0_2, .bool a0_3, .int .i64 a0_4, .int .i64 a0_5, .int .i64 a0_6, .int .i64 a0_7, .int .i64 a0_8, .int .u32 a0_9, .int .i64 a0_10] 29 (0, 0)) (by (with_reducible repeat (first | refine q1 ?_ _ | refine q2 ?_ | refine q3 ?_ _)); exact BK316.out)) : gb317 ≠ gb316)); clear BK316; clear HB; have BK316 := n0_; have HB := n1_; have BK317 := n2_; have GW317 := n3_; have GE317 := n4_; have NB316_317 := n5_; have NB317_316 := n6_; clear n0_ n1_ n2_ n3_ n4_ n5_ n6_; clear hb hbox hg; have hnb15 := NB316_317.out; have hnc15 := NB317_316.out; have hcz16 := cc11 BK316.out) | ((with_reducible refine gate_callee (f := 19) rfl ?_); refine goesL_ (some 4) rfl rfl Try.func19 (by kernel_rfl) rfl #[.agg #[.int .i64 a0_0, .int .i64 a0_1, .int .i64 a0_2, .bool a0_3, .int .i64 a0_4, .int .i64 a0_5, .int .i64 a0_6, .int .i64 a0_7, .int .i64 a0_8, .int .u32 a0_9, .int .i64 a0_10]] rfl (by (try simp only [List.map_toArray, List.map_cons, List.map_nil]); first | done | rfl | (simp only [List.length_drop, List.length_take]; rfl)) ?_; (with_reducible refine (weftlineref13_Good.calls k a0_0 a0_1 a0_2 a0_3 a0_4 a0_5 a0_6 a0_7 a0_8 a0_9 a0_10 true _ A2.out).mono ?_); rintro e w17 ⟨rfl, hb⟩; refine ⟨_, rfl, ?_⟩; have n0_ := A0 (blk_below (by (with_reducible repeat (first | refine q1 ?_ _ | refine q2 ?_ | refine q3 ?_ _)); exact BK316.out) hb); have n1_ := A0 (blk_below (by (with_reducible repeat (first | refine q1 ?_ _ | refine q2 ?_ | refine q3 ?_ _)); exact BK317.out) hb); have n2_ := A0 (below_step (by repeat (first | (with_reducible first | exact HB.out | apply b1 | apply b2 | apply b3 | refine below_set ?_ GE316.out | refine below_set ?_ GE317.out) | exact HB.out)) hb); clear BK316; clear BK317; clear HB; have BK316 := n0_; have BK317 := n1_; have HB := n2_; clear n0_ n1_ n2_; (try clear hb); (try clear hb2); (try clear hk); (try clear hi); have hcz18 := cc11 BK316.out) | ((with_reducible refine gate_callee (f := 77) rfl ?_); refine goesL_ (some 15) rfl rfl Try.func77 (by kernel_rfl) rfl #[.agg #[.int .i64 a0_0, .int .i64 a0_1, .int .i64 a0_2, .bool a0_3, .int .i64 a0_4, .int .i64 a0_5, .int .i64 a0_6, .int .i64 a0_7, .int .i64 a0_8, .int .u32 0, .int .i64 0]] rfl (by (try simp only [List.map_toArray, List.map_cons, List.map_nil]); first | done | rfl | (simp only [List.length_drop, List.length_take]; rfl)) ?_; (with_reducible refine (weftlineref13_worse.calls a0_0 a0_1 a0_2 a0_3 a0_4 a0_5 a0_6 a0_7 a0_8 0 0 t319 t320 t321 t322 t323 t324 t325 t326 t327 t328 t329 _ A12.out).mono ?_); rintro e w19 ⟨rfl, hb⟩; refine ⟨_, rfl, ?_⟩; have n0_ := A0 (blk_below (g := gb316) (o := .cells #[.int .i64 a0_0, .int .i64 a0_1, .int .i64 a0_2, .bool a0_3, .int .i64 a0_4, .int .i64 a0_5, .int .i64 a0_6, .int .i64 a0_7, .int .i64 a0_8, .int .u32 0, .int .i64 0] 29 (0, 0)) (by (with_reducible repeat (first | refine q1 ?_ _ | refine q2 ?_ | refine q3 ?_ _)); refine blk_put (cs := #[.int .i64 a0_0, .int .i64 a0_1, .int .i64 a0_2, .bool a0_3, .int .i64 a0_4, .int .i64 a0_5, .int .i64 a0_6, .int .i64 a0_7, .int .i64 a0_8, .int .u32 0, .int .i64 a0_10]) ?_ 10 _ rfl; (with_reducible repeat (first | refine q1 ?_ _ | refine q2 ?_ | refine q3 ?_ _)); refine blk_put (cs := #[.int .i64 a0_0, .int .i64 a0_1, .int .i64 a0_2, .bool a0_3, .int .i64 a0_4, .int .i64 a0_5, .int .i64 a0_6, .int .i64 a0_7, .int .i64 a0_8, .int .u32 a0_9, .int .i64 a0_10]) ?_ 9 _ rfl; (with_reducible repeat (first | refine q1 ?_ _ | refine q2 ?_ | refine q3 ?_ _)); exact BK316.out) hb); have n1_ := A0 (blk_below (g := gb317) (o := .cells #[.int .i64 0, .int .i64 0, .int .i64 0, .bool false, .int .i64 0, .int .i64 0, .int .i64 0, .int .i64 0, .int .i64 0, .int .u32 0, .int .i64 0] 29 (0, 0)) (by (with_reducible repeat (first | refine q1 ?_ _ | refine q2 ?_ | refine q3 ?_ _)); refine blk_far ?_ NB317_316.out _; (with_reducible repeat (first | refine q1 ?_ _ | refine q2 ?_ | refine q3 ?_ _)); refine blk_far ?_ NB317_316.out _; (with_reducible repeat (first | refine q1 ?_ _ | refine q2 ?_ | refine q3 ?_ _)); exact BK317.out) hb); have n2_ := A0 (below_step (by repeat (first | (with_reducible first | exact HB.out | apply b1 | apply b2 | apply b3 | refine below_set ?_ GE316.out | refine below_set ?_ GE317.out) | exact HB.out)) hb); clear BK316; clear BK317; clear HB; have BK316 := n0_; have BK317 := n1_; have HB := n2_; clear n0_ n1_ n2_; (try clear hb); (try clear hb2); (try clear hk); (try clear hi); have hcz20 := cc11 BK317.out))
      refine bodyPost_ret (results_cell_row rfl _ _ gb317 29 #[.int .i64 t319, .int .i64 t320, .int .i64 t321, .bool t322, .int .i64 t323, .int .i64 t324, .int .i64 t325, .int .i64 t326, .int .i64 t327, .int .u32 t328, .int .i64 t329] (0, 0) _ rfl (by (with_reducible repeat (first | refine q1 ?_ _ | refine q2 ?_ | refine q3 ?_ _)); refine blk_put (cs := #[.int .i64 t319, .int .i64 t320, .int .i64 t321, .bool t322, .int .i64 t323, .int .i64 t324, .int .i64 t325, .int .i64 t326, .int .i64 t327, .int .u32 t328, .int .i64 0]) ?_ 10 _ rfl; (with_reducible repeat (first | refine q1 ?_ _ | refine q2 ?_ | refine q3 ?_ _)); refine blk_put (cs := #[.int .i64 t319, .int .i64 t320, .int .i64 t321, .bool t322, .int .i64 t323, .int .i64 t324, .int .i64 t325, .int .i64 t326, .int .i64 t327, .int .u32 0, .int .i64 0]) ?_ 9 _ rfl; (with_reducible repeat (first | refine q1 ?_ _ | refine q2 ?_ | refine q3 ?_ _)); refine blk_put (cs := #[.int .i64 t319, .int .i64 t320, .int .i64 t321, .bool t322, .int .i64 t323, .int .i64 t324, .int .i64 t325, .int .i64 t326, .int .i64 0, .int .u32 0, .int .i64 0]) ?_ 8 _ rfl; (with_reducible repeat (first | refine q1 ?_ _ | refine q2 ?_ | refine q3 ?_ _)); refine blk_put (cs := #[.int .i64 t319, .int .i64 t320, .int .i64 t321, .bool t322, .int .i64 t323, .int .i64 t324, .int .i64 t325, .int .i64 0, .int .i64 0, .int .u32 0, .int .i64 0]) ?_ 7 _ rfl; (with_reducible repeat (first | refine q1 ?_ _ | refine q2 ?_ | refine q3 ?_ _)); refine blk_put (cs := #[.int .i64 t319, .int .i64 t320, .int .i64 t321, .bool t322, .int .i64 t323, .int .i64 t324, .int .i64 0, .int .i64 0, .int .i64 0, .int .u32 0, .int .i64 0]) ?_ 6 _ rfl; (with_reducible repeat (first | refine q1 ?_ _ | refine q2 ?_ | refine q3 ?_ _)); refine blk_put (cs := #[.int .i64 t319, .int .i64 t320, .int .i64 t321, .bool t322, .int .i64 t323, .int .i64 0, .int .i64 0, .int .i64 0, .int .i64 0, .int .u32 0, .int .i64 0]) ?_ 5 _ rfl; (with_reducible repeat (first | refine q1 ?_ _ | refine q2 ?_ | refine q3 ?_ _)); refine blk_put (cs := #[.int .i64 t319, .int .i64 t320, .int .i64 t321, .bool t322, .int .i64 0, .int .i64 0, .int .i64 0, .int .i64 0, .int .i64 0, .int .u32 0, .int .i64 0]) ?_ 4 _ rfl; (with_reducible repeat (first | refine q1 ?_ _ | refine q2 ?_ | refine q3 ?_ _)); refine blk_put (cs := #[.int .i64 t319, .int .i64 t320, .int .i64 t321, .bool false, .int .i64 0, .int .i64 0, .int .i64 0, .int .i64 0, .int .i64 0, .int .u32 0, .int .i64 0]) ?_ 3 _ rfl; (with_reducible repeat (first | refine q1 ?_ _ | refine q2 ?_ | refine q3 ?_ _)); refine blk_put (cs := #[.int .i64 t319, .int .i64 t320, .int .i64 0, .bool false, .int .i64 0, .int .i64 0, .int .i64 0, .int .i64 0, .int .i64 0, .int .u32 0, .int .i64 0]) ?_ 2 _ rfl; (with_reducible repeat (first | refine q1 ?_ _ | refine q2 ?_ | refine q3 ?_ _)); refine blk_put (cs := #[.int .i64 t319, .int .i64 0, .int .i64 0, .bool false, .int .i64 0, .int .i64 0, .int .i64 0, .int .i64 0, .int .i64 0, .int .u32 0, .int .i64 0]) ?_ 1 _ rfl; (with_reducible repeat (first | refine q1 ?_ _ | refine q2 ?_ | refine q3 ?_ _)); refine blk_put (cs := #[.int .i64 0, .int .i64 0, .int .i64 0, .bool false, .int .i64 0, .int .i64 0, .int .i64 0, .int .i64 0, .int .i64 0, .int .u32 0, .int .i64 0]) ?_ 0 _ rfl; (with_reducible repeat (first | refine q1 ?_ _ | refine q2 ?_ | refine q3 ?_ _)); exact BK317.out) Try.underlying29 rfl (by kernel_rfl)) rfl ?_
      exact ⟨by first | rfl | (simp [errW_none, errW_some] <;> rfl) | (simp [*, errW_none, errW_some] <;> rfl), by repeat (first | (with_reducible first | exact HB.out | apply b1 | apply b2 | apply b3 | refine below_set ?_ GE316.out | refine below_set ?_ GE317.out) | exact HB.out)⟩
  · replace c3 := Bool.eq_false_iff.mpr c3
    subst c3
    have H1 : (some (a0_0, a0_1, a0_2, a0_3, a0_4, a0_5, a0_6, a0_7, a0_8, a0_9, a0_10)) = some (r1, r2, r3, r4, r5, r6, r7, r8, r9, r10, r11) := by rw [if_neg (show ¬ (false = true) by decide)] at H; exact H
    clear H
    have H := H1
    clear H1
    simp only [Option.some.injEq, Prod.mk.injEq] at H
    obtain ⟨rfl, rfl, rfl, rfl, rfl, rfl, rfl, rfl, rfl, rfl, rfl⟩ := H
    go_enter Try.func28, Try.ntmps28
    go_wp2_with (first | ((with_reducible refine gate_dst (N := 1) rfl ?_); refine box_event ?hg (N := 1) ?hd (cs := #[.int .i64 a0_0, .int .i64 a0_1, .int .i64 a0_2, .bool a0_3, .int .i64 a0_4, .int .i64 a0_5, .int .i64 a0_6, .int .i64 a0_7, .int .i64 a0_8, .int .u32 a0_9, .int .i64 a0_10]) (t := 29) ?hr ?_; (case hd => rfl); (case hg => rfl); (case hr => first | (go_simp; done) | (go_simp; rfl)); intro gb316 hg w21 hbox hb; have n0_ := A0 (below_step (by repeat (first | (with_reducible first | exact HB.out | apply b1 | apply b2 | apply b3) | exact HB.out)) hb); have n1_ := A0 (hbox); have n2_ := A0 ((by rw [hg]; exact (below_size (by repeat (first | (with_reducible first | exact HB.out | apply b1 | apply b2 | apply b3) | exact HB.out))) : w.heap.size ≤ gb316)); have n3_ := n2_; clear HB; have HB := n0_; have BK316 := n1_; have GW316 := n2_; have GE316 := n3_; clear n0_ n1_ n2_ n3_; clear hb hbox hg) | ((with_reducible refine gate_dst (N := 2) rfl ?_); refine box_event ?hg (N := 2) ?hd (cs := #[.int .i64 0, .int .i64 0, .int .i64 0, .bool false, .int .i64 0, .int .i64 0, .int .i64 0, .int .i64 0, .int .i64 0, .int .u32 0, .int .i64 0]) (t := 29) ?hr ?_; (case hd => rfl); (case hg => rfl); (case hr => first | (go_simp; done) | (go_simp; rfl)); intro gb317 hg w22 hbox hb; have n0_ := A0 (blk_below (by (with_reducible repeat (first | refine q1 ?_ _ | refine q2 ?_ | refine q3 ?_ _)); exact BK316.out) hb); have n1_ := A0 (below_step (by repeat (first | (with_reducible first | exact HB.out | apply b1 | apply b2 | apply b3 | refine below_set ?_ GE316.out) | exact HB.out)) hb); have n2_ := A0 (hbox); have n3_ := A0 ((by rw [hg]; exact (below_size (by repeat (first | (with_reducible first | exact HB.out | apply b1 | apply b2 | apply b3 | refine below_set ?_ GE316.out) | exact HB.out))) : w.heap.size ≤ gb317)); have n4_ := n3_; have n5_ := A0 ((by rw [hg]; exact Nat.ne_of_lt (blk_lt (g := gb316) (o := .cells #[.int .i64 a0_0, .int .i64 a0_1, .int .i64 a0_2, .bool a0_3, .int .i64 a0_4, .int .i64 a0_5, .int .i64 a0_6, .int .i64 a0_7, .int .i64 a0_8, .int .u32 a0_9, .int .i64 a0_10] 29 (0, 0)) (by (with_reducible repeat (first | refine q1 ?_ _ | refine q2 ?_ | refine q3 ?_ _)); exact BK316.out)) : gb316 ≠ gb317)); have n6_ := A0 ((by rw [hg]; exact Nat.ne_of_gt (blk_lt (g := gb316) (o := .cells #[.int .i64 a0_0, .int .i64 a0_1, .int .i64 a0_2, .bool a0_3, .int .i64 a0_4, .int .i64 a0_5, .int .i64 a0_6, .int .i64 a0_7, .int .i64 a0_8, .int .u32 a0_9, .int .i64 a0_10] 29 (0, 0)) (by (with_reducible repeat (first | refine q1 ?_ _ | refine q2 ?_ | refine q3 ?_ _)); exact BK316.out)) : gb317 ≠ gb316)); clear BK316; clear HB; have BK316 := n0_; have HB := n1_; have BK317 := n2_; have GW317 := n3_; have GE317 := n4_; have NB316_317 := n5_; have NB317_316 := n6_; clear n0_ n1_ n2_ n3_ n4_ n5_ n6_; clear hb hbox hg; have hnb23 := NB316_317.out; have hnc23 := NB317_316.out; have hcz24 := cc11 BK316.out) | ((with_reducible refine gate_callee (f := 19) rfl ?_); refine goesL_ (some 4) rfl rfl Try.func19 (by kernel_rfl) rfl #[.agg #[.int .i64 a0_0, .int .i64 a0_1, .int .i64 a0_2, .bool a0_3, .int .i64 a0_4, .int .i64 a0_5, .int .i64 a0_6, .int .i64 a0_7, .int .i64 a0_8, .int .u32 a0_9, .int .i64 a0_10]] rfl (by (try simp only [List.map_toArray, List.map_cons, List.map_nil]); first | done | rfl | (simp only [List.length_drop, List.length_take]; rfl)) ?_; (with_reducible refine (weftlineref13_Good.calls k a0_0 a0_1 a0_2 a0_3 a0_4 a0_5 a0_6 a0_7 a0_8 a0_9 a0_10 false _ A2.out).mono ?_); rintro e w25 ⟨rfl, hb⟩; refine ⟨_, rfl, ?_⟩; have n0_ := A0 (blk_below (by (with_reducible repeat (first | refine q1 ?_ _ | refine q2 ?_ | refine q3 ?_ _)); exact BK316.out) hb); have n1_ := A0 (blk_below (by (with_reducible repeat (first | refine q1 ?_ _ | refine q2 ?_ | refine q3 ?_ _)); exact BK317.out) hb); have n2_ := A0 (below_step (by repeat (first | (with_reducible first | exact HB.out | apply b1 | apply b2 | apply b3 | refine below_set ?_ GE316.out | refine below_set ?_ GE317.out) | exact HB.out)) hb); clear BK316; clear BK317; clear HB; have BK316 := n0_; have BK317 := n1_; have HB := n2_; clear n0_ n1_ n2_; (try clear hb); (try clear hb2); (try clear hk); (try clear hi); have hcz26 := cc11 BK316.out; have hcz27 := cc11 BK317.out))
    refine bodyPost_ret (results_cell_row rfl _ _ gb317 29 #[.int .i64 a0_0, .int .i64 a0_1, .int .i64 a0_2, .bool a0_3, .int .i64 a0_4, .int .i64 a0_5, .int .i64 a0_6, .int .i64 a0_7, .int .i64 a0_8, .int .u32 a0_9, .int .i64 a0_10] (0, 0) _ rfl (by (with_reducible repeat (first | refine q1 ?_ _ | refine q2 ?_ | refine q3 ?_ _)); refine blk_put (cs := #[.int .i64 a0_0, .int .i64 a0_1, .int .i64 a0_2, .bool a0_3, .int .i64 a0_4, .int .i64 a0_5, .int .i64 a0_6, .int .i64 a0_7, .int .i64 a0_8, .int .u32 a0_9, .int .i64 0]) ?_ 10 _ rfl; (with_reducible repeat (first | refine q1 ?_ _ | refine q2 ?_ | refine q3 ?_ _)); refine blk_put (cs := #[.int .i64 a0_0, .int .i64 a0_1, .int .i64 a0_2, .bool a0_3, .int .i64 a0_4, .int .i64 a0_5, .int .i64 a0_6, .int .i64 a0_7, .int .i64 a0_8, .int .u32 0, .int .i64 0]) ?_ 9 _ rfl; (with_reducible repeat (first | refine q1 ?_ _ | refine q2 ?_ | refine q3 ?_ _)); refine blk_put (cs := #[.int .i64 a0_0, .int .i64 a0_1, .int .i64 a0_2, .bool a0_3, .int .i64 a0_4, .int .i64 a0_5, .int .i64 a0_6, .int .i64 a0_7, .int .i64 0, .int .u32 0, .int .i64 0]) ?_ 8 _ rfl; (with_reducible repeat (first | refine q1 ?_ _ | refine q2 ?_ | refine q3 ?_ _)); refine blk_put (cs := #[.int .i64 a0_0, .int .i64 a0_1, .int .i64 a0_2, .bool a0_3, .int .i64 a0_4, .int .i64 a0_5, .int .i64 a0_6, .int .i64 0, .int .i64 0, .int .u32 0, .int .i64 0]) ?_ 7 _ rfl; (with_reducible repeat (first | refine q1 ?_ _ | refine q2 ?_ | refine q3 ?_ _)); refine blk_put (cs := #[.int .i64 a0_0, .int .i64 a0_1, .int .i64 a0_2, .bool a0_3, .int .i64 a0_4, .int .i64 a0_5, .int .i64 0, .int .i64 0, .int .i64 0, .int .u32 0, .int .i64 0]) ?_ 6 _ rfl; (with_reducible repeat (first | refine q1 ?_ _ | refine q2 ?_ | refine q3 ?_ _)); refine blk_put (cs := #[.int .i64 a0_0, .int .i64 a0_1, .int .i64 a0_2, .bool a0_3, .int .i64 a0_4, .int .i64 0, .int .i64 0, .int .i64 0, .int .i64 0, .int .u32 0, .int .i64 0]) ?_ 5 _ rfl; (with_reducible repeat (first | refine q1 ?_ _ | refine q2 ?_ | refine q3 ?_ _)); refine blk_put (cs := #[.int .i64 a0_0, .int .i64 a0_1, .int .i64 a0_2, .bool a0_3, .int .i64 0, .int .i64 0, .int .i64 0, .int .i64 0, .int .i64 0, .int .u32 0, .int .i64 0]) ?_ 4 _ rfl; (with_reducible repeat (first | refine q1 ?_ _ | refine q2 ?_ | refine q3 ?_ _)); refine blk_put (cs := #[.int .i64 a0_0, .int .i64 a0_1, .int .i64 a0_2, .bool false, .int .i64 0, .int .i64 0, .int .i64 0, .int .i64 0, .int .i64 0, .int .u32 0, .int .i64 0]) ?_ 3 _ rfl; (with_reducible repeat (first | refine q1 ?_ _ | refine q2 ?_ | refine q3 ?_ _)); refine blk_put (cs := #[.int .i64 a0_0, .int .i64 a0_1, .int .i64 0, .bool false, .int .i64 0, .int .i64 0, .int .i64 0, .int .i64 0, .int .i64 0, .int .u32 0, .int .i64 0]) ?_ 2 _ rfl; (with_reducible repeat (first | refine q1 ?_ _ | refine q2 ?_ | refine q3 ?_ _)); refine blk_put (cs := #[.int .i64 a0_0, .int .i64 0, .int .i64 0, .bool false, .int .i64 0, .int .i64 0, .int .i64 0, .int .i64 0, .int .i64 0, .int .u32 0, .int .i64 0]) ?_ 1 _ rfl; (with_reducible repeat (first | refine q1 ?_ _ | refine q2 ?_ | refine q3 ?_ _)); refine blk_put (cs := #[.int .i64 0, .int .i64 0, .int .i64 0, .bool false, .int .i64 0, .int .i64 0, .int .i64 0, .int .i64 0, .int .i64 0, .int .u32 0, .int .i64 0]) ?_ 0 _ rfl; (with_reducible repeat (first | refine q1 ?_ _ | refine q2 ?_ | refine q3 ?_ _)); exact BK317.out) Try.underlying29 rfl (by kernel_rfl)) rfl ?_
    exact ⟨by first | rfl | (simp [errW_none, errW_some] <;> rfl) | (simp [*, errW_none, errW_some] <;> rfl), by repeat (first | (with_reducible first | exact HB.out | apply b1 | apply b2 | apply b3 | refine below_set ?_ GE316.out | refine below_set ?_ GE317.out) | exact HB.out)⟩

end Go.Proofs.Ytblooffiggciiaa.PAll
/- Num -/
namespace Go.Proofs.Ytblooffiggciiaa.Pl
open Go.RowKit
theorem w64 {x : Int} (h : -9223372036854775808 ≤ x) (h' : x ≤ 9223372036854775807) : wrap64 x = x := by
  unfold wrap64; omega
theorem td (x : Int) (h : 0 ≤ x) (n : Int) : Int.tdiv x n = x / n := Int.tdiv_eq_ediv_of_nonneg h
theorem ite_some_false {c : Prop} [Decidable c] {a : Option Bool} (h : c → a = some false) : (if c then a else some false) = some false := by
  by_cases hc : c
  · rw [if_pos hc, h hc]
  · rw [if_neg hc]
end Go.Proofs.Ytblooffiggciiaa.Pl
/- Rto -/
namespace Go.Proofs.Ytblooffiggciiaa.Pl
open Go.RowKit Go.Proofs.Ytblooffiggciiaa.PAll Go.Proofs.YtblooffiggciiaaW.PrintWords Go.Proofs.YtblooffiggciiaaW.PrintLast Go.Proofs.YtblooffiggciiaaW.PrintMore
set_option linter.unusedVariables false
def goodP (s d w : Int) (m : Bool) : Prop := 10 ≤ w ∧ w ≤ 600 ∧ 0 ≤ s ∧ 0 ≤ d ∧ (m = true → s ≤ 524280 ∧ d ≤ 262140) ∧ (m = false → s = 0 ∧ d = 0)
instance (s d w : Int) (m : Bool) : Decidable (goodP s d w m) := by unfold goodP; infer_instance

theorem good_yes {s d w : Int} {m : Bool} (k : Nat) (h : goodP s d w m) : rto_Good.f (k + 1) s d w m = some true := by
  obtain ⟨h1, h2, h3, h4, h5, h6⟩ := h
  unfold rto_Good.f
  rw [if_neg (by omega), if_neg (by omega), if_neg (by omega)]
  simp only [rto_Good.j0]
  have : decide (d < 0) = false := by simp; omega
  rw [this, if_neg (by simp)]
  cases m with
  | true => obtain ⟨a, b⟩ := h5 rfl; rw [if_pos rfl, if_pos a]; simp [b]
  | false => obtain ⟨a, b⟩ := h6 rfl; rw [if_neg (by simp), if_pos a]; simp [b]

theorem good_no {s d w : Int} {m : Bool} (k : Nat) (h : ¬ goodP s d w m) : rto_Good.f (k + 1) s d w m = some false := by
  unfold goodP at h
  unfold rto_Good.f
  by_cases h1 : w < 10
  · rw [if_pos h1]; simp [rto_Good.j0]
  rw [if_neg h1]
  by_cases h2 : w > 600
  · rw [if_pos h2]; simp [rto_Good.j0]
  rw [if_neg h2]
  by_cases h3 : s < 0
  · rw [if_pos h3]; simp [rto_Good.j0]
  rw [if_neg h3]
  by_cases h4 : d < 0
  · simp [rto_Good.j0, h4]
  have : decide (d < 0) = false := by simp; omega
  rw [this]
  simp only [rto_Good.j0]
  rw [if_neg (by simp)]
  cases m with
  | true =>
    rw [if_pos rfl]
    by_cases h5 : s ≤ 524280
    · rw [if_pos h5]; simp only [Option.some.injEq, decide_eq_false_iff_not]
      intro h6
      exact h ⟨by omega, by omega, by omega, by omega, fun _ => ⟨h5, h6⟩, fun h => by cases h⟩
    · rw [if_neg h5]
  | false =>
    rw [if_neg (by simp)]
    by_cases h5 : s = 0
    · rw [if_pos h5]; simp only [Option.some.injEq, beq_eq_false_iff_ne]
      intro h6
      exact h ⟨by omega, by omega, by omega, by omega, fun h => by (cases h), fun _ => ⟨h5, h6⟩⟩
    · rw [if_neg h5]

theorem good_eq (s d w : Int) (m : Bool) (k : Nat) : rto_Good.f (k + 1) s d w m = some (decide (goodP s d w m)) := by
  by_cases h : goodP s d w m
  · rw [good_yes k h]; simp [h]
  · rw [good_no k h]; simp [h]

def twiceW (w : Int) : Int := mn (2 * w) 600
theorem twice_yes {s d w : Int} {m : Bool} (k : Nat) (h : goodP s d w m) : rto_Estimate_Twice.f (k + 1) s d w m = some (s, d, twiceW w, m) := by
  have hg := h
  obtain ⟨h1, h2, _⟩ := h
  unfold rto_Estimate_Twice.f
  rw [good_yes k hg]
  simp only [Option.bind_some, if_true]
  rw [w64 (by omega) (by omega)]; rfl
theorem refgood (s d w : Int) (m : Bool) : weftlineref11_Good.f s d w m = some (decide (goodP s d w m)) := by
  unfold weftlineref11_Good.f
  by_cases h : goodP s d w m
  · rw [decide_eq_true h]
    obtain ⟨h1, h2, h3, h4, h5, h6⟩ := h
    cases m with
    | true =>
      obtain ⟨a, b⟩ := h5 rfl
      rw [if_pos rfl, if_pos h1, if_pos h2, if_pos h3, if_pos a, if_pos h4, decide_eq_true b]
    | false =>
      obtain ⟨a, b⟩ := h6 rfl
      rw [if_neg (by simp), if_pos a, if_pos b, if_pos h1, if_pos h2, if_pos h3, if_pos (by omega), if_pos h4, decide_eq_true (by omega)]
  · rw [decide_eq_false h]
    unfold goodP at h
    cases m with
    | true =>
      simp only [true_implies, reduceCtorEq, false_implies, and_true] at h
      rw [if_pos rfl]
      repeat' (first | (refine ite_some_false ?_ ; intro _))
      simp only [Option.some.injEq, decide_eq_false_iff_not]; omega
    | false =>
      simp only [true_implies, reduceCtorEq, false_implies, true_and] at h
      rw [if_neg (by simp)]
      repeat' (first | (refine ite_some_false ?_ ; intro _))
      simp only [Option.some.injEq, decide_eq_false_iff_not]; omega

theorem reftwice_yes {s d w : Int} {m : Bool} (h : goodP s d w m) : weftlineref11_Twice.f s d w m = some (s, d, twiceW w, m) := by
  unfold weftlineref11_Twice.f
  rw [refgood]
  have h1 := h.1
  have h2 := h.2.1
  simp only [Option.bind_some]
  rw [if_pos (by simp [h]), w64 (by omega) (by omega)]
  unfold twiceW mn
  rw [show 2 * w = w + w from by omega]
  by_cases h3 : w + w > 600
  · rw [if_pos h3, if_pos (by omega)]
  · rw [if_neg h3, if_neg (by omega)]
end Go.Proofs.Ytblooffiggciiaa.Pl
/- Cwnd -/
namespace Go.Proofs.Ytblooffiggciiaa.Pl
open Go.RowKit Go.Proofs.Ytblooffiggciiaa.PAll Go.Proofs.YtblooffiggciiaaW.PrintWords Go.Proofs.YtblooffiggciiaaW.PrintLast Go.Proofs.YtblooffiggciiaaW.PrintMore
set_option linter.unusedVariables false
def goodW (s t c : Int) : Prop := 128 ≤ s ∧ s ≤ 8192 ∧ 128 ≤ t ∧ t ≤ 8192 ∧ 0 ≤ c ∧ c ≤ 2147483648
instance (s t c : Int) : Decidable (goodW s t c) := by unfold goodW; infer_instance

theorem wgood (s t c : Int) : cwnd_Good.f s t c = some (decide (goodW s t c)) := by
  unfold cwnd_Good.f cwnd_sized.f
  by_cases h : goodW s t c
  · rw [decide_eq_true h]
    obtain ⟨h1, h2, h3, h4, h5, h6⟩ := h
    rw [if_pos h1, if_pos h3, if_pos h5, decide_eq_true h2, decide_eq_true h4, decide_eq_true h6]; rfl
  · rw [decide_eq_false h]
    unfold goodW at h
    by_cases h1 : s ≥ 128
    · rw [if_pos h1]
      by_cases h2 : s ≤ 8192
      · rw [decide_eq_true h2]
        by_cases h3 : t ≥ 128
        · rw [if_pos h3]
          by_cases h4 : t ≤ 8192
          · rw [decide_eq_true h4]
            by_cases h5 : c ≥ 0
            · rw [if_pos h5, decide_eq_false (by omega)]; rfl
            · rw [if_neg h5]; rfl
          · rw [decide_eq_false h4]; rfl
        · rw [if_neg h3]; rfl
      · rw [decide_eq_false h2]; rfl
    · rw [if_neg h1]; rfl

theorem wrefgood (s t c : Int) : weftlineref12_Good.f s t c = some (decide (goodW s t c)) := by
  unfold weftlineref12_Good.f
  by_cases h : goodW s t c
  · rw [decide_eq_true h]
    obtain ⟨h1, h2, h3, h4, h5, h6⟩ := h
    rw [if_pos h1, if_pos h2, if_pos h3, if_pos h4, if_pos h5, decide_eq_true h6]
  · rw [decide_eq_false h]
    unfold goodW at h
    by_cases h1 : s ≥ 128
    · rw [if_pos h1]
      by_cases h2 : s ≤ 8192
      · rw [if_pos h2]
        by_cases h3 : t ≥ 128
        · rw [if_pos h3]
          by_cases h4 : t ≤ 8192
          · rw [if_pos h4]
            by_cases h5 : c ≥ 0
            · rw [if_pos h5]; congr 1; rw [decide_eq_false_iff_not]; omega
            · rw [if_neg h5]
          · rw [if_neg h4]
        · rw [if_neg h3]
      · rw [if_neg h2]
    · rw [if_neg h1]

theorem wown_yes {s t c : Int} (h : goodW s t c) : cwnd_Window_own.f s t c = some (s, t, c) := by
  unfold cwnd_Window_own.f; rw [wgood]; simp [h]
def halfW (s : Int) : Int := if s / 2 < 512 then 512 else s / 2
theorem half_mx {s : Int} (h0 : 0 ≤ s) (h1 : s ≤ 8192) : mx (wrap64 (Int.tdiv s 2)) 512 = halfW s := by
  rw [td s h0, w64 (by omega) (by omega)]; rfl
theorem late_yes {s t c : Int} (h : goodW s t c) : cwnd_Window_Late.f s t c = some (128, halfW s, 0) := by
  unfold cwnd_Window_Late.f cwnd_Window_halved.f
  rw [wown_yes h]; simp only [Option.bind_some]; rw [half_mx (by have := h.1; omega) h.2.1]
theorem reflost_yes {s t c : Int} (h : goodW s t c) (k : Nat) (b : Bool) : weftlineref12_Lost.f (k + 1) s t c b = some (if b = true then 128 else halfW s, halfW s, 0) := by
  unfold weftlineref12_Lost.f
  rw [wrefgood, decide_eq_true h]
  simp only [Option.bind_some, if_true, weftlineref12_Lost.j0]
  have h1 := h.1
  have h2 := h.2.1
  rw [td s (by omega), w64 (by omega) (by omega)]
  unfold halfW
  by_cases h3 : s / 2 < 512
  · simp only [if_pos h3]; cases b <;> rfl
  · simp only [if_neg h3]; cases b <;> rfl
end Go.Proofs.Ytblooffiggciiaa.Pl
/- Path -/
namespace Go.Proofs.Ytblooffiggciiaa.Pl
open Go.RowKit Go.Proofs.Ytblooffiggciiaa.PAll Go.Proofs.YtblooffiggciiaaW.PrintWords Go.Proofs.YtblooffiggciiaaW.PrintLast Go.Proofs.YtblooffiggciiaaW.PrintMore
set_option linter.unusedVariables false
def addrP (a : Int) : Prop := 1 ≤ a ∧ a ≤ 2147483647
instance (a : Int) : Decidable (addrP a) := by unfold addrP; infer_instance
theorem addr_eq (a : Int) : path_addressed.f a = some (decide (addrP a)) := by
  unfold path_addressed.f
  by_cases h : a ≥ 1
  · rw [if_pos h]; congr 1; rw [decide_eq_decide]; unfold addrP; omega
  · rw [if_neg h]; congr 1; symm; rw [decide_eq_false_iff_not]; intro h'; exact h h'.1
theorem refaddr_eq (a : Int) : weftlineref13_Addr.f a = some (decide (addrP a)) := addr_eq a
def tickP (a : Int) : Prop := 0 ≤ a ∧ a ≤ 4611686018427387904
instance (a : Int) : Decidable (tickP a) := by unfold tickP; infer_instance
theorem tick_eq (a : Int) : path_ticked.f a = some (decide (tickP a)) := by
  unfold path_ticked.f
  by_cases h : a ≥ 0
  · rw [if_pos h]; congr 1; rw [decide_eq_decide]; unfold tickP; omega
  · rw [if_neg h]; congr 1; symm; rw [decide_eq_false_iff_not]; intro h'; exact h h'.1
theorem reftick_eq (a : Int) : weftlineref13_tick.f a = some (decide (tickP a)) := tick_eq a

def goodQ (s d w : Int) (m : Bool) (z t c a er no se : Int) : Prop :=
  (no = 0 → se = 0) ∧ tickP se ∧ addrP a ∧ goodP s d w m ∧ goodW z t c ∧ 0 ≤ er ∧ er ≤ 100
instance (s d w : Int) (m : Bool) (z t c a er no se : Int) : Decidable (goodQ s d w m z t c a er no se) := by unfold goodQ; infer_instance

theorem tail_good (s d w : Int) (m : Bool) (z t c a er : Int) (k : Nat) :
    ((path_addressed.f a).bind fun t144 => (if t144 = true then ((rto_Good.f (k + 1) s d w m).bind fun t145 => (if t145 = true then ((cwnd_Good.f z t c).bind fun t146 => (if t146 = true then (if er ≥ 0 then (some (decide (er ≤ 100))) else (some false)) else (some false))) else (some false))) else (some false))) =
      some (decide (addrP a ∧ goodP s d w m ∧ goodW z t c ∧ 0 ≤ er ∧ er ≤ 100)) := by
  rw [addr_eq, good_eq, wgood]
  simp only [Option.bind_some]
  by_cases h1 : addrP a
  · by_cases h2 : goodP s d w m
    · by_cases h3 : goodW z t c
      · by_cases h4 : er ≥ 0
        · simp only [h1, h2, h3, h4, decide_true, if_true, true_and]
        · simp only [h1, h2, h3, h4, decide_true, if_true, if_false, true_and, false_and, decide_false]
      · simp [h1, h2, h3]
    · simp [h1, h2]
  · simp [h1]
theorem qgood (s d w : Int) (m : Bool) (z t c a er no se : Int) (k : Nat) : path_Good.f (k + 1) s d w m z t c a er no se = some (decide (goodQ s d w m z t c a er no se)) := by
  unfold path_Good.f
  rw [tail_good]
  by_cases h : no = 0
  · rw [if_pos h]
    by_cases h2 : se = 0
    · rw [if_pos h2]; congr 1; rw [decide_eq_decide]
      subst h2
      constructor
      · intro h'; exact ⟨fun _ => rfl, by decide, h'⟩
      · intro h'; exact h'.2.2
    · rw [if_neg h2]; congr 1; symm; rw [decide_eq_false_iff_not]; intro h'; exact h2 (h'.1 h)
  · rw [if_neg h, tick_eq]
    simp only [Option.bind_some]
    by_cases h2 : tickP se
    · rw [decide_eq_true h2]; simp only [if_true]; congr 1; rw [decide_eq_decide]
      constructor
      · intro h'; exact ⟨fun h0 => absurd h0 h, h2, h'⟩
      · intro h'; exact h'.2.2
    · rw [decide_eq_false h2]; simp only [Bool.false_eq_true, if_false]; congr 1; symm; rw [decide_eq_false_iff_not]; intro h'; exact h2 h'.2.1
theorem qrefgood (s d w : Int) (m : Bool) (z t c a er no se : Int) (k : Nat) : weftlineref13_Good.f (k + 1) s d w m z t c a er no se = some (decide (goodQ s d w m z t c a er no se)) := by
  have hj : ∀ b, weftlineref13_Good.j0 (k + 1) b s d w m z t c a er no se = some (if b = true then false else decide (addrP a ∧ goodP s d w m ∧ goodW z t c ∧ 0 ≤ er ∧ er ≤ 100)) := fun b => by
    have := tail_good s d w m z t c a er 0
    rw [addr_eq, good_eq, wgood] at this
    simp only [weftlineref13_Good.j0]
    rw [refaddr_eq, refgood, wrefgood]
    cases b with
    | true => rfl
    | false => simp only [Bool.false_eq_true, if_false]; exact this
  unfold weftlineref13_Good.f
  rw [hj, reftick_eq]
  simp only [Option.bind_some, if_true]
  rw [hj]
  by_cases h : no = 0
  · rw [if_pos h]
    by_cases h2 : se = 0
    · rw [if_pos h2]; subst h2
      have : tickP 0 := by decide
      rw [decide_eq_true this]
      simp only [Bool.not_true, Bool.false_eq_true, if_false]; congr 1; rw [decide_eq_decide]
      constructor
      · intro h'; exact ⟨fun _ => rfl, by decide, h'⟩
      · intro h'; exact h'.2.2
    · rw [if_neg h2]; congr 1; symm; rw [decide_eq_false_iff_not]; intro h'; exact h2 (h'.1 h)
  · rw [if_neg h]
    by_cases h2 : tickP se
    · rw [decide_eq_true h2]; simp only [Bool.not_true, Bool.false_eq_true, if_false]; congr 1; rw [decide_eq_decide]
      constructor
      · intro h'; exact ⟨fun h0 => absurd h0 h, h2, h'⟩
      · intro h'; exact h'.2.2
    · rw [decide_eq_false h2]; simp only [Bool.not_false, if_true]; congr 1; symm; rw [decide_eq_false_iff_not]; intro h'; exact h2 h'.2.1

section
variable {s d w : Int} {m : Bool} {z t c a er no se : Int}
theorem qfailed (h : goodQ s d w m z t c a er no se) (k : Nat) : path_Path_Failed.f (k + 1) s d w m z t c a er no se = some (s, d, twiceW w, m, 128, halfW z, 0, a, mn (er + 1) 100, no, se) := by
  unfold path_Path_Failed.f path_Path_worse.f
  rw [qgood, decide_eq_true h]
  obtain ⟨_, _, _, hp, hw, h5, h6⟩ := h
  simp only [Option.bind_some, if_true]
  rw [late_yes hw]
  simp only [Option.bind_some]
  rw [twice_yes k hp, w64 (x := er + 1) (by omega) (by omega)]
  rfl
theorem qrefworse (hp : goodP s d w m) (h5 : 0 ≤ er) (h6 : er ≤ 100) : weftlineref13_worse.f s d w m z t c a er no se = some (s, d, twiceW w, m, z, t, c, a, mn (er + 1) 100, no, se) := by
  unfold weftlineref13_worse.f
  rw [reftwice_yes hp]
  simp only [Option.bind_some]
  unfold mn
  by_cases h : er < 100
  · rw [if_pos h, if_neg (by omega), w64 (x := er + 1) (by omega) (by omega)]
  · rw [if_neg h, if_pos (by omega), show er = 100 from by omega]
theorem qworse (hp : goodP s d w m) (h5 : 0 ≤ er) (h6 : er ≤ 100) (k : Nat) : path_Path_worse.f (k + 1) s d w m z t c a er no se = some (s, d, twiceW w, m, z, t, c, a, mn (er + 1) 100, no, se) := by
  unfold path_Path_worse.f
  rw [twice_yes k hp, w64 (x := er + 1) (by omega) (by omega)]
  rfl
theorem qreffailed (h : goodQ s d w m z t c a er no se) (k : Nat) : weftlineref13_Failed.f (k + 1) s d w m z t c a er no se = some (s, d, twiceW w, m, 128, halfW z, 0, a, mn (er + 1) 100, no, se) := by
  unfold weftlineref13_Failed.f
  rw [qrefgood, decide_eq_true h]
  obtain ⟨_, _, _, hp, hw, h5, h6⟩ := h
  simp only [Option.bind_some, if_true]
  rw [qrefworse hp h5 h6]
  simp only [Option.bind_some]
  rw [reflost_yes hw k true]
  rfl
theorem qmissed (h : goodQ s d w m z t c a er no se) (k : Nat) : path_Path_Missed.f (k + 1) s d w m z t c a er no se = some (if no = 0 then (s, d, w, m, z, t, c, a, er, no, se) else (s, d, twiceW w, m, z, t, c, a, mn (er + 1) 100, 0, 0)) := by
  unfold path_Path_Missed.f
  rw [qgood, decide_eq_true h]
  obtain ⟨_, _, _, hp, hw, h5, h6⟩ := h
  simp only [Option.bind_some, if_true]
  rw [qworse hp h5 h6]
  by_cases h0 : no = 0
  · rw [if_pos h0, if_pos h0]
  · rw [if_neg h0, if_neg h0]; rfl
theorem qrefmissed (h : goodQ s d w m z t c a er no se) (k : Nat) : weftlineref13_Missed.f (k + 1) s d w m z t c a er no se = some (if no = 0 then (s, d, w, m, z, t, c, a, er, no, se) else (s, d, twiceW w, m, z, t, c, a, mn (er + 1) 100, 0, 0)) := by
  unfold weftlineref13_Missed.f
  rw [qrefgood, decide_eq_true h]
  obtain ⟨_, _, _, hp, hw, h5, h6⟩ := h
  simp only [Option.bind_some, if_true]
  rw [qrefworse hp h5 h6]
  by_cases h0 : no = 0
  · rw [if_pos h0, if_pos h0]
  · rw [if_neg h0, if_neg h0]; rfl
theorem qheard (s d w : Int) (m : Bool) (z t c a er no se : Int) (k : Nat) : path_Path_Heard.f (k + 1) s d w m z t c a er no se = some (s, d, w, m, z, t, c, a, if goodQ s d w m z t c a er no se then 0 else er, no, se) := by
  unfold path_Path_Heard.f
  rw [qgood]
  by_cases h : goodQ s d w m z t c a er no se
  · rw [decide_eq_true h, if_pos h]; rfl
  · rw [decide_eq_false h, if_neg h]; rfl
theorem qrefheard (s d w : Int) (m : Bool) (z t c a er no se : Int) (k : Nat) : weftlineref13_Heard.f (k + 1) s d w m z t c a er no se = some (s, d, w, m, z, t, c, a, if goodQ s d w m z t c a er no se then 0 else er, no, se) := by
  unfold weftlineref13_Heard.f
  rw [qrefgood]
  by_cases h : goodQ s d w m z t c a er no se
  · rw [decide_eq_true h, if_pos h]; rfl
  · rw [decide_eq_false h, if_neg h]; rfl
theorem qbad (h : ¬ goodQ s d w m z t c a er no se) (k : Nat) : path_Path_Failed.f (k + 1) s d w m z t c a er no se = some (s, d, w, m, z, t, c, a, er, no, se) ∧
    weftlineref13_Failed.f (k + 1) s d w m z t c a er no se = some (s, d, w, m, z, t, c, a, er, no, se) ∧ path_Path_Missed.f (k + 1) s d w m z t c a er no se = some (s, d, w, m, z, t, c, a, er, no, se) ∧
    weftlineref13_Missed.f (k + 1) s d w m z t c a er no se = some (s, d, w, m, z, t, c, a, er, no, se) := by
  unfold path_Path_Failed.f weftlineref13_Failed.f path_Path_Missed.f weftlineref13_Missed.f
  rw [qgood, qrefgood, decide_eq_false h]
  exact ⟨rfl, rfl, rfl, rfl⟩
theorem qactive (s d w : Int) (m : Bool) (z t c a er no se : Int) (k : Nat) : path_Path_Active.f (k + 1) s d w m z t c a er no se = some (decide (goodQ s d w m z t c a er no se ∧ er ≤ 5)) := by
  unfold path_Path_Active.f
  rw [qgood]
  by_cases h : goodQ s d w m z t c a er no se
  · simp [h]
  · simp [h]
theorem qrefactive (s d w : Int) (m : Bool) (z t c a er no se : Int) (k : Nat) : weftlineref13_Active.f (k + 1) s d w m z t c a er no se = some (decide (goodQ s d w m z t c a er no se ∧ er ≤ 5)) := by
  unfold weftlineref13_Active.f
  rw [qrefgood]
  by_cases h : goodQ s d w m z t c a er no se
  · simp [h]; omega
  · simp [h]
end
theorem alive13 (k : Nat) : weftlinelaw13_alive.f (k + 20) = some true :=
  at_rounds weftlinelaw13_alive.mono (by omega) (show weftlinelaw13_alive.f 20 = some true by decide +kernel)
end Go.Proofs.Ytblooffiggciiaa.Pl
/- PAllxe -/
namespace Go.Proofs.Ytblooffiggciiaa.PAll
open Go.RowKit Go.Proofs.YtblooffiggciiaaW.PrintWords Go.Proofs.YtblooffiggciiaaW.PrintLast Go.Proofs.YtblooffiggciiaaW.PrintMore
set_option linter.unusedVariables false
set_option linter.unusedSimpArgs false
theorem eqA23 (d : Nat) (w : World) (x0 y0 : Int) (x1 y1 : Int) (x2 y2 : Int) (x3 y3 : Bool) :
    (Op.equalIn (d + 2) 23 (.agg #[.int .i64 x0, .int .i64 x1, .int .i64 x2, .bool x3]) (.agg #[.int .i64 y0, .int .i64 y1, .int .i64 y2, .bool y3])).run Try.prog w = .ok (x0 == y0 && (x1 == y1 && (x2 == y2 && (x3 == y3)))) w := by
  refine eqA_of Try.underlying23 (by kernel_rfl) ?_
  refine eqf_cons (by rfl) (by go_simp; rfl) (by go_simp; rfl) (by go_simp) ?_
  refine eqf_cons (by rfl) (by go_simp; rfl) (by go_simp; rfl) (by go_simp) ?_
  refine eqf_cons (by rfl) (by go_simp; rfl) (by go_simp; rfl) (by go_simp) ?_
  exact eqf_last (by rfl) (by go_simp; rfl) (by go_simp; rfl) (by go_simp)
theorem eqA25 (d : Nat) (w : World) (x0 y0 : Int) (x1 y1 : Int) (x2 y2 : Int) :
    (Op.equalIn (d + 2) 25 (.agg #[.int .i64 x0, .int .i64 x1, .int .i64 x2]) (.agg #[.int .i64 y0, .int .i64 y1, .int .i64 y2])).run Try.prog w = .ok (x0 == y0 && (x1 == y1 && (x2 == y2))) w := by
  refine eqA_of Try.underlying25 (by kernel_rfl) ?_
  refine eqf_cons (by rfl) (by go_simp; rfl) (by go_simp; rfl) (by go_simp) ?_
  refine eqf_cons (by rfl) (by go_simp; rfl) (by go_simp; rfl) (by go_simp) ?_
  exact eqf_last (by rfl) (by go_simp; rfl) (by go_simp; rfl) (by go_simp)
theorem eqA29 (d : Nat) (w : World) (x0 y0 : Int) (x1 y1 : Int) (x2 y2 : Int) (x3 y3 : Bool) (x4 y4 : Int) (x5 y5 : Int) (x6 y6 : Int) (x7 y7 : Int) (x8 y8 : Int) (x9 y9 : Int) (x10 y10 : Int) :
    (Op.equalIn (d + 3) 29 (.agg #[.int .i64 x0, .int .i64 x1, .int .i64 x2, .bool x3, .int .i64 x4, .int .i64 x5, .int .i64 x6, .int .i64 x7, .int .i64 x8, .int .u32 x9, .int .i64 x10]) (.agg #[.int .i64 y0, .int .i64 y1, .int .i64 y2, .bool y3, .int .i64 y4, .int .i64 y5, .int .i64 y6, .int .i64 y7, .int .i64 y8, .int .u32 y9, .int .i64 y10])).run Try.prog w = .ok ((x0 == y0 && (x1 == y1 && (x2 == y2 && (x3 == y3)))) && ((x4 == y4 && (x5 == y5 && (x6 == y6))) && (x7 == y7 && (x8 == y8 && (x9 == y9 && (x10 == y10)))))) w := by
  refine eqA_of Try.underlying29 (by kernel_rfl) ?_
  refine eqf_cons (by rfl) (by go_simp) (by go_simp) (eqA23 (d + 0) w _ _ _ _ _ _ _ _) ?_
  refine eqf_cons (by rfl) (by go_simp) (by go_simp) (eqA25 (d + 0) w _ _ _ _ _ _) ?_
  refine eqf_cons (by rfl) (by go_simp; rfl) (by go_simp; rfl) (by go_simp) ?_
  refine eqf_cons (by rfl) (by go_simp; rfl) (by go_simp; rfl) (by go_simp) ?_
  refine eqf_cons (by rfl) (by go_simp; rfl) (by go_simp; rfl) (by go_simp) ?_
  exact eqf_last (by rfl) (by go_simp; rfl) (by go_simp; rfl) (by go_simp)
theorem eqA31 (d : Nat) (w : World) (x0 y0 : Int) (x1 y1 : Int) (x2 y2 : Int) (x3 y3 : Bool) :
    (Op.equalIn (d + 2) 31 (.agg #[.int .i64 x0, .int .i64 x1, .int .i64 x2, .bool x3]) (.agg #[.int .i64 y0, .int .i64 y1, .int .i64 y2, .bool y3])).run Try.prog w = .ok (x0 == y0 && (x1 == y1 && (x2 == y2 && (x3 == y3)))) w := by
  refine eqA_of Try.underlying31 (by kernel_rfl) ?_
  refine eqf_cons (by rfl) (by go_simp; rfl) (by go_simp; rfl) (by go_simp) ?_
  refine eqf_cons (by rfl) (by go_simp; rfl) (by go_simp; rfl) (by go_simp) ?_
  refine eqf_cons (by rfl) (by go_simp; rfl) (by go_simp; rfl) (by go_simp) ?_
  exact eqf_last (by rfl) (by go_simp; rfl) (by go_simp; rfl) (by go_simp)
theorem eqA32 (d : Nat) (w : World) (x0 y0 : Int) (x1 y1 : Int) (x2 y2 : Int) :
    (Op.equalIn (d + 2) 32 (.agg #[.int .i64 x0, .int .i64 x1, .int .i64 x2]) (.agg #[.int .i64 y0, .int .i64 y1, .int .i64 y2])).run Try.prog w = .ok (x0 == y0 && (x1 == y1 && (x2 == y2))) w := by
  refine eqA_of Try.underlying32 (by kernel_rfl) ?_
  refine eqf_cons (by rfl) (by go_simp; rfl) (by go_simp; rfl) (by go_simp) ?_
  refine eqf_cons (by rfl) (by go_simp; rfl) (by go_simp; rfl) (by go_simp) ?_
  exact eqf_last (by rfl) (by go_simp; rfl) (by go_simp; rfl) (by go_simp)
theorem eqA34 (d : Nat) (w : World) (x0 y0 : Int) (x1 y1 : Int) (x2 y2 : Int) (x3 y3 : Bool) (x4 y4 : Int) (x5 y5 : Int) (x6 y6 : Int) (x7 y7 : Int) (x8 y8 : Int) (x9 y9 : Int) (x10 y10 : Int) :
    (Op.equalIn (d + 3) 34 (.agg #[.int .i64 x0, .int .i64 x1, .int .i64 x2, .bool x3, .int .i64 x4, .int .i64 x5, .int .i64 x6, .int .i64 x7, .int .i64 x8, .int .u32 x9, .int .i64 x10]) (.agg #[.int .i64 y0, .int .i64 y1, .int .i64 y2, .bool y3, .int .i64 y4, .int .i64 y5, .int .i64 y6, .int .i64 y7, .int .i64 y8, .int .u32 y9, .int .i64 y10])).run Try.prog w = .ok ((x0 == y0 && (x1 == y1 && (x2 == y2 && (x3 == y3)))) && ((x4 == y4 && (x5 == y5 && (x6 == y6))) && (x7 == y7 && (x8 == y8 && (x9 == y9 && (x10 == y10)))))) w := by
  refine eqA_of Try.underlying34 (by kernel_rfl) ?_
  refine eqf_cons (by rfl) (by go_simp) (by go_simp) (eqA31 (d + 0) w _ _ _ _ _ _ _ _) ?_
  refine eqf_cons (by rfl) (by go_simp) (by go_simp) (eqA32 (d + 0) w _ _ _ _ _ _) ?_
  refine eqf_cons (by rfl) (by go_simp; rfl) (by go_simp; rfl) (by go_simp) ?_
  refine eqf_cons (by rfl) (by go_simp; rfl) (by go_simp; rfl) (by go_simp) ?_
  refine eqf_cons (by rfl) (by go_simp; rfl) (by go_simp; rfl) (by go_simp) ?_
  exact eqf_last (by rfl) (by go_simp; rfl) (by go_simp; rfl) (by go_simp)
theorem eqA60 (d : Nat) (w : World) (x0 y0 : Int) (x1 y1 : Int) (x2 y2 : Int) (x3 y3 : Int) :
    (Op.equalIn (d + 2) 60 (.agg #[.int .i64 x0, .int .i64 x1, .int .i64 x2, .int .i64 x3]) (.agg #[.int .i64 y0, .int .i64 y1, .int .i64 y2, .int .i64 y3])).run Try.prog w = .ok (x0 == y0 && (x1 == y1 && (x2 == y2 && (x3 == y3)))) w := by
  refine eqA_of Try.underlying60 (by kernel_rfl) ?_
  refine eqf_cons (by rfl) (by go_simp; rfl) (by go_simp; rfl) (by go_simp) ?_
  refine eqf_cons (by rfl) (by go_simp; rfl) (by go_simp; rfl) (by go_simp) ?_
  refine eqf_cons (by rfl) (by go_simp; rfl) (by go_simp; rfl) (by go_simp) ?_
  exact eqf_last (by rfl) (by go_simp; rfl) (by go_simp; rfl) (by go_simp)
end Go.Proofs.Ytblooffiggciiaa.PAll
