/- PathKeeps: for every input the law returns true, and its arguments read as before: the row, out of the walk; no condition. -/
import Derived.Test.YtblooffiggciiaaZPathKeeps0
import Derived.WalkKit
import Derived.Test.YtblooffiggciiaaWArr
import Derived.LoopTactic
import Derived.Deep.QuietTactic
import Derived.BigQuiet
import Derived.Test.YtblooffiggciiaaWWords
import Derived.ProofKit
import Derived.OpenShut
import Derived.Deep.Slices
import Derived.ChangeArms
import Derived.Test.YtblooffiggciiaaRows
import Derived.ShutString
import Derived.ChangeOld
import Derived.Below
import Derived.SizedLaws
import Derived.Carry
/- PAllx11 -/
namespace Go.Proofs.Ytblooffiggciiaa.PAll
open Go.RowKit Go.Proofs.YtblooffiggciiaaW.PrintWords Go.Proofs.YtblooffiggciiaaW.PrintLast Go.Proofs.YtblooffiggciiaaW.PrintMore Go.Proofs.Ytblooffiggciiaa.Sh
attribute [local go_sem] max2_int min2_int max_two min_two max_three min_three max_four min_four   -- for this text's walks alone
attribute [local go_sem] Go.Proofs.Ytblooffiggciiaa.Aid.isSome_setCell
set_option linter.unusedVariables false
set_option linter.unusedSimpArgs false
def cwnd_Window_Late.f (a0_0 : Int) (a0_1 : Int) (a0_2 : Int) : Option (Int × Int × Int) := (cwnd_Window_halved.f a0_0 a0_1 a0_2).bind fun bt131 => (some (128, bt131.2.1, bt131.2.2))
set_option maxHeartbeats 8000000 in
set_option maxRecDepth 100000 in
theorem cwnd_Window_Late.calls (a0_0 : Int) (a0_1 : Int) (a0_2 : Int) (r1 : Int) (r2 : Int) (r3 : Int) (w : World) (h : cwnd_Window_Late.f a0_0 a0_1 a0_2 = some (r1, r2, r3)) :
    Calls Try.prog 75 #[.agg #[.int .i64 a0_0, .int .i64 a0_1, .int .i64 a0_2]] w fun e w' => e = .returned (.agg #[.int .i64 r1, .int .i64 r2, .int .i64 r3]) ∧ Below w.heap.size w w' := by
  have hu32 := Try.underlying32
  have HB := A0 (Below.refl w.heap.size w)
  have H : ((cwnd_Window_halved.f a0_0 a0_1 a0_2).bind fun bt131 => (some (128, bt131.2.1, bt131.2.2))) = some (r1, r2, r3) := h
  clear h
  replace H := Option.bind_eq_some_iff.mp H
  obtain ⟨⟨t131, t132, t133⟩, A20, H⟩ := H
  replace H : (some (128, t132, t133)) = some (r1, r2, r3) := H
  have A2 := Aside0.mk A20
  clear A20
  simp only [Option.some.injEq, Prod.mk.injEq] at H
  obtain ⟨rfl, rfl, rfl⟩ := H
  go_enter Try.func75, Try.ntmps75
  go_wp2_with (first | ((with_reducible refine gate_dst (N := 1) rfl ?_); refine box_event ?hg (N := 1) ?hd (cs := #[.int .i64 a0_0, .int .i64 a0_1, .int .i64 a0_2]) (t := 32) ?hr ?_; (case hd => rfl); (case hg => rfl); (case hr => first | (go_simp; done) | (go_simp; rfl)); intro gb129 hg w3 hbox hb; have n0_ := A0 (below_step (by repeat (first | (with_reducible first | exact HB.out | apply b1 | apply b2 | apply b3) | exact HB.out)) hb); have n1_ := A0 (hbox); have n2_ := A0 ((by rw [hg]; exact (below_size (by repeat (first | (with_reducible first | exact HB.out | apply b1 | apply b2 | apply b3) | exact HB.out))) : w.heap.size ≤ gb129)); have n3_ := n2_; clear HB; have HB := n0_; have BK129 := n1_; have GW129 := n2_; have GE129 := n3_; clear n0_ n1_ n2_ n3_; clear hb hbox hg) | ((with_reducible refine gate_dst (N := 2) rfl ?_); refine box_event ?hg (N := 2) ?hd (cs := #[.int .i64 0, .int .i64 0, .int .i64 0]) (t := 32) ?hr ?_; (case hd => rfl); (case hg => rfl); (case hr => first | (go_simp; done) | (go_simp; rfl)); intro gb130 hg w4 hbox hb; have n0_ := A0 (blk_below (by (with_reducible repeat (first | refine q1 ?_ _ | refine q2 ?_ | refine q3 ?_ _)); exact BK129.out) hb); have n1_ := A0 (below_step (by repeat (first | (with_reducible first | exact HB.out | apply b1 | apply b2 | apply b3 | refine below_set ?_ GE129.out) | exact HB.out)) hb); have n2_ := A0 (hbox); have n3_ := A0 ((by rw [hg]; exact (below_size (by repeat (first | (with_reducible first | exact HB.out | apply b1 | apply b2 | apply b3 | refine below_set ?_ GE129.out) | exact HB.out))) : w.heap.size ≤ gb130)); have n4_ := n3_; have n5_ := A0 ((by rw [hg]; exact Nat.ne_of_lt (blk_lt (g := gb129) (o := .cells #[.int .i64 a0_0, .int .i64 a0_1, .int .i64 a0_2] 32 (0, 0)) (by (with_reducible repeat (first | refine q1 ?_ _ | refine q2 ?_ | refine q3 ?_ _)); exact BK129.out)) : gb129 ≠ gb130)); have n6_ := A0 ((by rw [hg]; exact Nat.ne_of_gt (blk_lt (g := gb129) (o := .cells #[.int .i64 a0_0, .int .i64 a0_1, .int .i64 a0_2] 32 (0, 0)) (by (with_reducible repeat (first | refine q1 ?_ _ | refine q2 ?_ | refine q3 ?_ _)); exact BK129.out)) : gb130 ≠ gb129)); clear BK129; clear HB; have BK129 := n0_; have HB := n1_; have BK130 := n2_; have GW130 := n3_; have GE130 := n4_; have NB129_130 := n5_; have NB130_129 := n6_; clear n0_ n1_ n2_ n3_ n4_ n5_ n6_; clear hb hbox hg; have hnb5 := NB129_130.out; have hnc5 := NB130_129.out; have hcz6 := cc3 BK129.out) | ((with_reducible refine gate_callee (f := 96) rfl ?_); refine goesL_ (some 4) rfl rfl Try.func96 (by kernel_rfl) rfl #[.agg #[.int .i64 a0_0, .int .i64 a0_1, .int .i64 a0_2]] rfl (by (try simp only [List.map_toArray, List.map_cons, List.map_nil]); first | done | rfl | (simp only [List.length_drop, List.length_take]; rfl)) ?_; (with_reducible refine (cwnd_Window_halved.calls a0_0 a0_1 a0_2 t131 t132 t133 _ A2.out).mono ?_); rintro e w7 ⟨rfl, hb⟩; refine ⟨_, rfl, ?_⟩; have n0_ := A0 (blk_below (by (with_reducible repeat (first | refine q1 ?_ _ | refine q2 ?_ | refine q3 ?_ _)); exact BK129.out) hb); have n1_ := A0 (blk_below (by (with_reducible repeat (first | refine q1 ?_ _ | refine q2 ?_ | refine q3 ?_ _)); exact BK130.out) hb); have n2_ := A0 (below_step (by repeat (first | (with_reducible first | exact HB.out | apply b1 | apply b2 | apply b3 | refine below_set ?_ GE129.out | refine below_set ?_ GE130.out) | exact HB.out)) hb); clear BK129; clear BK130; clear HB; have BK129 := n0_; have BK130 := n1_; have HB := n2_; clear n0_ n1_ n2_; (try clear hb); (try clear hb2); (try clear hk); (try clear hi); have hcz8 := cc3 BK129.out; have hcz9 := cc3 BK130.out))
  refine bodyPost_ret (results_cell_row rfl _ _ gb130 32 #[.int .i64 128, .int .i64 t132, .int .i64 t133] (0, 0) _ rfl (by (with_reducible repeat (first | refine q1 ?_ _ | refine q2 ?_ | refine q3 ?_ _)); refine blk_put (cs := #[.int .i64 128, .int .i64 t132, .int .i64 0]) ?_ 2 _ rfl; (with_reducible repeat (first | refine q1 ?_ _ | refine q2 ?_ | refine q3 ?_ _)); refine blk_put (cs := #[.int .i64 128, .int .i64 0, .int .i64 0]) ?_ 1 _ rfl; (with_reducible repeat (first | refine q1 ?_ _ | refine q2 ?_ | refine q3 ?_ _)); refine blk_put (cs := #[.int .i64 0, .int .i64 0, .int .i64 0]) ?_ 0 _ rfl; (with_reducible repeat (first | refine q1 ?_ _ | refine q2 ?_ | refine q3 ?_ _)); refine blk_far ?_ NB130_129.out _; (with_reducible repeat (first | refine q1 ?_ _ | refine q2 ?_ | refine q3 ?_ _)); refine blk_far ?_ NB130_129.out _; (with_reducible repeat (first | refine q1 ?_ _ | refine q2 ?_ | refine q3 ?_ _)); refine blk_far ?_ NB130_129.out _; (with_reducible repeat (first | refine q1 ?_ _ | refine q2 ?_ | refine q3 ?_ _)); refine blk_far ?_ NB130_129.out _; (with_reducible repeat (first | refine q1 ?_ _ | refine q2 ?_ | refine q3 ?_ _)); exact BK130.out) Try.underlying32 rfl (by kernel_rfl)) rfl ?_
  exact ⟨by first | rfl | (simp [errW_none, errW_some] <;> rfl) | (simp [*, errW_none, errW_some] <;> rfl), by repeat (first | (with_reducible first | exact HB.out | apply b1 | apply b2 | apply b3 | refine below_set ?_ GE129.out | refine below_set ?_ GE130.out) | exact HB.out)⟩

end Go.Proofs.Ytblooffiggciiaa.PAll
/- PAllx18 -/
namespace Go.Proofs.Ytblooffiggciiaa.PAll
open Go.RowKit Go.Proofs.YtblooffiggciiaaW.PrintWords Go.Proofs.YtblooffiggciiaaW.PrintLast Go.Proofs.YtblooffiggciiaaW.PrintMore Go.Proofs.Ytblooffiggciiaa.Sh
attribute [local go_sem] max2_int min2_int max_two min_two max_three min_three max_four min_four   -- for this text's walks alone
attribute [local go_sem] Go.Proofs.Ytblooffiggciiaa.Aid.isSome_setCell
set_option linter.unusedVariables false
set_option linter.unusedSimpArgs false
def path_Path_Failed.f (k : Nat) (a0_0 : Int) (a0_1 : Int) (a0_2 : Int) (a0_3 : Bool) (a0_4 : Int) (a0_5 : Int) (a0_6 : Int) (a0_7 : Int) (a0_8 : Int) (a0_9 : Int) (a0_10 : Int) : Option (Int × Int × Int × Bool × Int × Int × Int × Int × Int × Int × Int) := (path_Good.f k a0_0 a0_1 a0_2 a0_3 a0_4 a0_5 a0_6 a0_7 a0_8 a0_9 a0_10).bind fun t161 => (if t161 = true then ((cwnd_Window_Late.f a0_4 a0_5 a0_6).bind fun bt162 => ((path_Path_worse.f k a0_0 a0_1 a0_2 a0_3 bt162.1 bt162.2.1 bt162.2.2 a0_7 a0_8 a0_9 a0_10).bind fun bt165 => (some (bt165.1, bt165.2.1, bt165.2.2.1, bt165.2.2.2.1, bt165.2.2.2.2.1, bt165.2.2.2.2.2.1, bt165.2.2.2.2.2.2.1, bt165.2.2.2.2.2.2.2.1, bt165.2.2.2.2.2.2.2.2.1, bt165.2.2.2.2.2.2.2.2.2.1, bt165.2.2.2.2.2.2.2.2.2.2)))) else (some (a0_0, a0_1, a0_2, a0_3, a0_4, a0_5, a0_6, a0_7, a0_8, a0_9, a0_10)))
theorem path_Path_Failed.mono : ∀ a0 a1 a2 a3 a4 a5 a6 a7 a8 a9 a10 k, LeO (path_Path_Failed.f k a0 a1 a2 a3 a4 a5 a6 a7 a8 a9 a10) (path_Path_Failed.f (k + 1) a0 a1 a2 a3 a4 a5 a6 a7 a8 a9 a10) := by
  intro a0 a1 a2 a3 a4 a5 a6 a7 a8 a9 a10 k
  unfold path_Path_Failed.f
  repeat' first
      | (with_reducible exact path_Good.mono _ _ _ _ _ _ _ _ _ _ _ _)
      | (with_reducible exact path_Path_worse.mono _ _ _ _ _ _ _ _ _ _ _ _)
      | (with_reducible exact LeO.refl _)
      | (with_reducible exact LeO.none _)
      | (with_reducible refine LeO.ite ?_ ?_)
      | (with_reducible refine LeO.bind ?_ (fun _ => ?_))
      | exact path_Good.mono _ _ _ _ _ _ _ _ _ _ _ _
      | exact path_Path_worse.mono _ _ _ _ _ _ _ _ _ _ _ _
      | exact LeO.none _
      | refine LeO.ite ?_ ?_
      | refine LeO.bind ?_ (fun _ => ?_)
set_option maxHeartbeats 8000000 in
set_option maxRecDepth 100000 in
theorem path_Path_Failed.calls (k : Nat) (a0_0 : Int) (a0_1 : Int) (a0_2 : Int) (a0_3 : Bool) (a0_4 : Int) (a0_5 : Int) (a0_6 : Int) (a0_7 : Int) (a0_8 : Int) (a0_9 : Int) (a0_10 : Int) (r1 : Int) (r2 : Int) (r3 : Int) (r4 : Bool) (r5 : Int) (r6 : Int) (r7 : Int) (r8 : Int) (r9 : Int) (r10 : Int) (r11 : Int) (w : World) (h : path_Path_Failed.f k a0_0 a0_1 a0_2 a0_3 a0_4 a0_5 a0_6 a0_7 a0_8 a0_9 a0_10 = some (r1, r2, r3, r4, r5, r6, r7, r8, r9, r10, r11)) :
    Calls Try.prog 23 #[.agg #[.int .i64 a0_0, .int .i64 a0_1, .int .i64 a0_2, .bool a0_3, .int .i64 a0_4, .int .i64 a0_5, .int .i64 a0_6, .int .i64 a0_7, .int .i64 a0_8, .int .u32 a0_9, .int .i64 a0_10]] w fun e w' => e = .returned (.agg #[.int .i64 r1, .int .i64 r2, .int .i64 r3, .bool r4, .int .i64 r5, .int .i64 r6, .int .i64 r7, .int .i64 r8, .int .i64 r9, .int .u32 r10, .int .i64 r11]) ∧ Below w.heap.size w w' := by
  have hu34 := Try.underlying34
  have hu32 := Try.underlying32
  have HB := A0 (Below.refl w.heap.size w)
  have H : ((path_Good.f k a0_0 a0_1 a0_2 a0_3 a0_4 a0_5 a0_6 a0_7 a0_8 a0_9 a0_10).bind fun t161 => (if t161 = true then ((cwnd_Window_Late.f a0_4 a0_5 a0_6).bind fun bt162 => ((path_Path_worse.f k a0_0 a0_1 a0_2 a0_3 bt162.1 bt162.2.1 bt162.2.2 a0_7 a0_8 a0_9 a0_10).bind fun bt165 => (some (bt165.1, bt165.2.1, bt165.2.2.1, bt165.2.2.2.1, bt165.2.2.2.2.1, bt165.2.2.2.2.2.1, bt165.2.2.2.2.2.2.1, bt165.2.2.2.2.2.2.2.1, bt165.2.2.2.2.2.2.2.2.1, bt165.2.2.2.2.2.2.2.2.2.1, bt165.2.2.2.2.2.2.2.2.2.2)))) else (some (a0_0, a0_1, a0_2, a0_3, a0_4, a0_5, a0_6, a0_7, a0_8, a0_9, a0_10)))) = some (r1, r2, r3, r4, r5, r6, r7, r8, r9, r10, r11) := h
  clear h
  replace H := Option.bind_eq_some_iff.mp H
  obtain ⟨t161, A20, H⟩ := H
  replace H : (if t161 = true then ((cwnd_Window_Late.f a0_4 a0_5 a0_6).bind fun bt162 => ((path_Path_worse.f k a0_0 a0_1 a0_2 a0_3 bt162.1 bt162.2.1 bt162.2.2 a0_7 a0_8 a0_9 a0_10).bind fun bt165 => (some (bt165.1, bt165.2.1, bt165.2.2.1, bt165.2.2.2.1, bt165.2.2.2.2.1, bt165.2.2.2.2.2.1, bt165.2.2.2.2.2.2.1, bt165.2.2.2.2.2.2.2.1, bt165.2.2.2.2.2.2.2.2.1, bt165.2.2.2.2.2.2.2.2.2.1, bt165.2.2.2.2.2.2.2.2.2.2)))) else (some (a0_0, a0_1, a0_2, a0_3, a0_4, a0_5, a0_6, a0_7, a0_8, a0_9, a0_10))) = some (r1, r2, r3, r4, r5, r6, r7, r8, r9, r10, r11) := H
  have A2 := Aside0.mk A20
  clear A20
  by_cases c3 : t161 = true
  · subst c3
    have H1 : ((cwnd_Window_Late.f a0_4 a0_5 a0_6).bind fun bt162 => ((path_Path_worse.f k a0_0 a0_1 a0_2 a0_3 bt162.1 bt162.2.1 bt162.2.2 a0_7 a0_8 a0_9 a0_10).bind fun bt165 => (some (bt165.1, bt165.2.1, bt165.2.2.1, bt165.2.2.2.1, bt165.2.2.2.2.1, bt165.2.2.2.2.2.1, bt165.2.2.2.2.2.2.1, bt165.2.2.2.2.2.2.2.1, bt165.2.2.2.2.2.2.2.2.1, bt165.2.2.2.2.2.2.2.2.2.1, bt165.2.2.2.2.2.2.2.2.2.2)))) = some (r1, r2, r3, r4, r5, r6, r7, r8, r9, r10, r11) := by rw [if_pos rfl] at H; exact H
    clear H
    have H := H1
    clear H1
    replace H := Option.bind_eq_some_iff.mp H
    obtain ⟨⟨t162, t163, t164⟩, A40, H⟩ := H
    replace H : ((path_Path_worse.f k a0_0 a0_1 a0_2 a0_3 t162 t163 t164 a0_7 a0_8 a0_9 a0_10).bind fun bt165 => (some (bt165.1, bt165.2.1, bt165.2.2.1, bt165.2.2.2.1, bt165.2.2.2.2.1, bt165.2.2.2.2.2.1, bt165.2.2.2.2.2.2.1, bt165.2.2.2.2.2.2.2.1, bt165.2.2.2.2.2.2.2.2.1, bt165.2.2.2.2.2.2.2.2.2.1, bt165.2.2.2.2.2.2.2.2.2.2))) = some (r1, r2, r3, r4, r5, r6, r7, r8, r9, r10, r11) := H
    have A4 := Aside0.mk A40
    clear A40
    replace H := Option.bind_eq_some_iff.mp H
    obtain ⟨⟨t165, t166, t167, t168, t169, t170, t171, t172, t173, t174, t175⟩, A50, H⟩ := H
    replace H : (some (t165, t166, t167, t168, t169, t170, t171, t172, t173, t174, t175)) = some (r1, r2, r3, r4, r5, r6, r7, r8, r9, r10, r11) := H
    have A5 := Aside0.mk A50
    clear A50
    simp only [Option.some.injEq, Prod.mk.injEq] at H
    obtain ⟨rfl, rfl, rfl, rfl, rfl, rfl, rfl, rfl, rfl, rfl, rfl⟩ := H
    go_enter Try.func23, Try.ntmps23
    go_wp2_with (first | ((with_reducible refine gate_dst (N := 1) rfl ?_); refine box_event ?hg (N := 1) ?hd (cs := #[.int .i64 a0_0, .int .i64 a0_1, .int .i64 a0_2, .bool a0_3, .int .i64 a0_4, .int .i64 a0_5, .int .i64 a0_6, .int .i64 a0_7, .int .i64 a0_8, .int .u32 a0_9, .int .i64 a0_10]) (t := 34) ?hr ?_; (case hd => rfl); (case hg => rfl); (case hr => first | (go_simp; done) | (go_simp; rfl)); intro gb159 hg w6 hbox hb; have n0_ := A0 (below_step (by repeat (first | (with_reducible first | exact HB.out | apply b1 | apply b2 | apply b3) | exact HB.out)) hb); have n1_ := A0 (hbox); have n2_ := A0 ((by rw [hg]; exact (below_size (by repeat (first | (with_reducible first | exact HB.out | apply b1 | apply b2 | apply b3) | exact HB.out))) : w.heap.size ≤ gb159)); have n3_ := n2_; clear HB; have HB := n0_; have BK159 := n1_; have GW159 := n2_; have GE159 := n3_; clear n0_ n1_ n2_ n3_; clear hb hbox hg) | ((with_reducible refine gate_dst (N := 2) rfl ?_); refine box_event ?hg (N := 2) ?hd (cs := #[.int .i64 0, .int .i64 0, .int .i64 0, .bool false, .int .i64 0, .int .i64 0, .int .i64 0, .int .i64 0, .int .i64 0, .int .u32 0, .int .i64 0]) (t := 34) ?hr ?_; (case hd => rfl); (case hg => rfl); (case hr => first | (go_simp; done) | (go_simp; rfl)); intro gb160 hg w7 hbox hb; have n0_ := A0 (blk_below (by (with_reducible repeat (first | refine q1 ?_ _ | refine q2 ?_ | refine q3 ?_ _)); exact BK159.out) hb); have n1_ := A0 (below_step (by repeat (first | (with_reducible first | exact HB.out | apply b1 | apply b2 | apply b3 | refine below_set ?_ GE159.out) | exact HB.out)) hb); have n2_ := A0 (hbox); have n3_ := A0 ((by rw [hg]; exact (below_size (by repeat (first | (with_reducible first | exact HB.out | apply b1 | apply b2 | apply b3 | refine below_set ?_ GE159.out) | exact HB.out))) : w.heap.size ≤ gb160)); have n4_ := n3_; have n5_ := A0 ((by rw [hg]; exact Nat.ne_of_lt (blk_lt (g := gb159) (o := .cells #[.int .i64 a0_0, .int .i64 a0_1, .int .i64 a0_2, .bool a0_3, .int .i64 a0_4, .int .i64 a0_5, .int .i64 a0_6, .int .i64 a0_7, .int .i64 a0_8, .int .u32 a0_9, .int .i64 a0_10] 34 (0, 0)) (by (with_reducible repeat (first | refine q1 ?_ _ | refine q2 ?_ | refine q3 ?_ _)); exact BK159.out)) : gb159 ≠ gb160)); have n6_ := A0 ((by rw [hg]; exact Nat.ne_of_gt (blk_lt (g := gb159) (o := .cells #[.int .i64 a0_0, .int .i64 a0_1, .int .i64 a0_2, .bool a0_3, .int .i64 a0_4, .int .i64 a0_5, .int .i64 a0_6, .int .i64 a0_7, .int .i64 a0_8, .int .u32 a0_9, .int .i64 a0_10] 34 (0, 0)) (by (with_reducible repeat (first | refine q1 ?_ _ | refine q2 ?_ | refine q3 ?_ _)); exact BK159.out)) : gb160 ≠ gb159)); clear BK159; clear HB; have BK159 := n0_; have HB := n1_; have BK160 := n2_; have GW160 := n3_; have GE160 := n4_; have NB159_160 := n5_; have NB160_159 := n6_; clear n0_ n1_ n2_ n3_ n4_ n5_ n6_; clear hb hbox hg; have hnb8 := NB159_160.out; have hnc8 := NB160_159.out; have hcz9 := cc11 BK159.out) | ((with_reducible refine gate_callee (f := 20) rfl ?_); refine goesL_ (some 4) rfl rfl Try.func20 (by kernel_rfl) rfl #[.agg #[.int .i64 a0_0, .int .i64 a0_1, .int .i64 a0_2, .bool a0_3, .int .i64 a0_4, .int .i64 a0_5, .int .i64 a0_6, .int .i64 a0_7, .int .i64 a0_8, .int .u32 a0_9, .int .i64 a0_10]] rfl (by (try simp only [List.map_toArray, List.map_cons, List.map_nil]); first | done | rfl | (simp only [List.length_drop, List.length_take]; rfl)) ?_; (with_reducible refine (path_Good.calls k a0_0 a0_1 a0_2 a0_3 a0_4 a0_5 a0_6 a0_7 a0_8 a0_9 a0_10 true _ A2.out).mono ?_); rintro e w10 ⟨rfl, hb⟩; refine ⟨_, rfl, ?_⟩; have n0_ := A0 (blk_below (by (with_reducible repeat (first | refine q1 ?_ _ | refine q2 ?_ | refine q3 ?_ _)); exact BK159.out) hb); have n1_ := A0 (blk_below (by (with_reducible repeat (first | refine q1 ?_ _ | refine q2 ?_ | refine q3 ?_ _)); exact BK160.out) hb); have n2_ := A0 (below_step (by repeat (first | (with_reducible first | exact HB.out | apply b1 | apply b2 | apply b3 | refine below_set ?_ GE159.out | refine below_set ?_ GE160.out) | exact HB.out)) hb); clear BK159; clear BK160; clear HB; have BK159 := n0_; have BK160 := n1_; have HB := n2_; clear n0_ n1_ n2_; (try clear hb); (try clear hb2); (try clear hk); (try clear hi); have hcz11 := cc11 BK159.out) | ((with_reducible refine gate_callee (f := 75) rfl ?_); refine goesL_ (some 9) rfl rfl Try.func75 (by kernel_rfl) rfl #[.agg #[.int .i64 a0_4, .int .i64 a0_5, .int .i64 a0_6]] rfl (by (try simp only [List.map_toArray, List.map_cons, List.map_nil]); first | done | rfl | (simp only [List.length_drop, List.length_take]; rfl)) ?_; (with_reducible refine (cwnd_Window_Late.calls a0_4 a0_5 a0_6 t162 t163 t164 _ A4.out).mono ?_); rintro e w12 ⟨rfl, hb⟩; refine ⟨_, rfl, ?_⟩; have n0_ := A0 (blk_below (by (with_reducible repeat (first | refine q1 ?_ _ | refine q2 ?_ | refine q3 ?_ _)); exact BK159.out) hb); have n1_ := A0 (blk_below (by (with_reducible repeat (first | refine q1 ?_ _ | refine q2 ?_ | refine q3 ?_ _)); exact BK160.out) hb); have n2_ := A0 (below_step (by repeat (first | (with_reducible first | exact HB.out | apply b1 | apply b2 | apply b3 | refine below_set ?_ GE159.out | refine below_set ?_ GE160.out) | exact HB.out)) hb); clear BK159; clear BK160; clear HB; have BK159 := n0_; have BK160 := n1_; have HB := n2_; clear n0_ n1_ n2_; (try clear hb); (try clear hb2); (try clear hk); (try clear hi); have hcz13 := cc11 BK159.out) | ((with_reducible refine gate_callee (f := 76) rfl ?_); refine goesL_ (some 12) rfl rfl Try.func76 (by kernel_rfl) rfl #[.agg #[.int .i64 a0_0, .int .i64 a0_1, .int .i64 a0_2, .bool a0_3, .int .i64 t162, .int .i64 t163, .int .i64 t164, .int .i64 a0_7, .int .i64 a0_8, .int .u32 a0_9, .int .i64 a0_10]] rfl (by (try simp only [List.map_toArray, List.map_cons, List.map_nil]); first | done | rfl | (simp only [List.length_drop, List.length_take]; rfl)) ?_; (with_reducible refine (path_Path_worse.calls k a0_0 a0_1 a0_2 a0_3 t162 t163 t164 a0_7 a0_8 a0_9 a0_10 t165 t166 t167 t168 t169 t170 t171 t172 t173 t174 t175 _ A5.out).mono ?_); rintro e w14 ⟨rfl, hb⟩; refine ⟨_, rfl, ?_⟩; have n0_ := A0 (blk_below (g := gb159) (o := .cells #[.int .i64 a0_0, .int .i64 a0_1, .int .i64 a0_2, .bool a0_3, .int .i64 t162, .int .i64 t163, .int .i64 t164, .int .i64 a0_7, .int .i64 a0_8, .int .u32 a0_9, .int .i64 a0_10] 34 (0, 0)) (by (with_reducible repeat (first | refine q1 ?_ _ | refine q2 ?_ | refine q3 ?_ _)); refine blk_put (cs := #[.int .i64 a0_0, .int .i64 a0_1, .int .i64 a0_2, .bool a0_3, .int .i64 t162, .int .i64 t163, .int .i64 a0_6, .int .i64 a0_7, .int .i64 a0_8, .int .u32 a0_9, .int .i64 a0_10]) ?_ 6 _ rfl; (with_reducible repeat (first | refine q1 ?_ _ | refine q2 ?_ | refine q3 ?_ _)); refine blk_put (cs := #[.int .i64 a0_0, .int .i64 a0_1, .int .i64 a0_2, .bool a0_3, .int .i64 t162, .int .i64 a0_5, .int .i64 a0_6, .int .i64 a0_7, .int .i64 a0_8, .int .u32 a0_9, .int .i64 a0_10]) ?_ 5 _ rfl; (with_reducible repeat (first | refine q1 ?_ _ | refine q2 ?_ | refine q3 ?_ _)); refine blk_put (cs := #[.int .i64 a0_0, .int .i64 a0_1, .int .i64 a0_2, .bool a0_3, .int .i64 a0_4, .int .i64 a0_5, .int .i64 a0_6, .int .i64 a0_7, .int .i64 a0_8, .int .u32 a0_9, .int .i64 a0_10]) ?_ 4 _ rfl; (with_reducible repeat (first | refine q1 ?_ _ | refine q2 ?_ | refine q3 ?_ _)); exact BK159.out) hb); have n1_ := A0 (blk_below (g := gb160) (o := .cells #[.int .i64 0, .int .i64 0, .int .i64 0, .bool false, .int .i64 0, .int .i64 0, .int .i64 0, .int .i64 0, .int .i64 0, .int .u32 0, .int .i64 0] 34 (0, 0)) (by (with_reducible repeat (first | refine q1 ?_ _ | refine q2 ?_ | refine q3 ?_ _)); refine blk_far ?_ NB160_159.out _; (with_reducible repeat (first | refine q1 ?_ _ | refine q2 ?_ | refine q3 ?_ _)); refine blk_far ?_ NB160_159.out _; (with_reducible repeat (first | refine q1 ?_ _ | refine q2 ?_ | refine q3 ?_ _)); refine blk_far ?_ NB160_159.out _; (with_reducible repeat (first | refine q1 ?_ _ | refine q2 ?_ | refine q3 ?_ _)); exact BK160.out) hb); have n2_ := A0 (below_step (by repeat (first | (with_reducible first | exact HB.out | apply b1 | apply b2 | apply b3 | refine below_set ?_ GE159.out | refine below_set ?_ GE160.out) | exact HB.out)) hb); clear BK159; clear BK160; clear HB; have BK159 := n0_; have BK160 := n1_; have HB := n2_; clear n0_ n1_ n2_; (try clear hb); (try clear hb2); (try clear hk); (try clear hi); have hcz15 := cc11 BK160.out))
    refine bodyPost_ret (results_cell_row rfl _ _ gb160 34 #[.int .i64 t165, .int .i64 t166, .int .i64 t167, .bool t168, .int .i64 t169, .int .i64 t170, .int .i64 t171, .int .i64 t172, .int .i64 t173, .int .u32 t174, .int .i64 t175] (0, 0) _ rfl (by (with_reducible repeat (first | refine q1 ?_ _ | refine q2 ?_ | refine q3 ?_ _)); refine blk_put (cs := #[.int .i64 t165, .int .i64 t166, .int .i64 t167, .bool t168, .int .i64 t169, .int .i64 t170, .int .i64 t171, .int .i64 t172, .int .i64 t173, .int .u32 t174, .int .i64 0]) ?_ 10 _ rfl; (with_reducible repeat (first | refine q1 ?_ _ | refine q2 ?_ | refine q3 ?_ _)); refine blk_put (cs := #[.int .i64 t165, .int .i64 t166, .int .i64 t167, .bool t168, .int .i64 t169, .int .i64 t170, .int .i64 t171, .int .i64 t172, .int .i64 t173, .int .u32 0, .int .i64 0]) ?_ 9 _ rfl; (with_reducible repeat (first | refine q1 ?_ _ | refine q2 ?_ | refine q3 ?_ _)); refine blk_put (cs := #[.int .i64 t165, .int .i64 t166, .int .i64 t167, .bool t168, .int .i64 t169, .int .i64 t170, .int .i64 t171, .int .i64 t172, .int .i64 0, .int .u32 0, .int .i64 0]) ?_ 8 _ rfl; (with_reducible repeat (first | refine q1 ?_ _ | refine q2 ?_ | refine q3 ?_ _)); refine blk_put (cs := #[.int .i64 t165, .int .i64 t166, .int .i64 t167, .bool t168, .int .i64 t169, .int .i64 t170, .int .i64 t171, .int .i64 0, .int .i64 0, .int .u32 0, .int .i64 0]) ?_ 7 _ rfl; (with_reducible repeat (first | refine q1 ?_ _ | refine q2 ?_ | refine q3 ?_ _)); refine blk_put (cs := #[.int .i64 t165, .int .i64 t166, .int .i64 t167, .bool t168, .int .i64 t169, .int .i64 t170, .int .i64 0, .int .i64 0, .int .i64 0, .int .u32 0, .int .i64 0]) ?_ 6 _ rfl; (with_reducible repeat (first | refine q1 ?_ _ | refine q2 ?_ | refine q3 ?_ _)); refine blk_put (cs := #[.int .i64 t165, .int .i64 t166, .int .i64 t167, .bool t168, .int .i64 t169, .int .i64 0, .int .i64 0, .int .i64 0, .int .i64 0, .int .u32 0, .int .i64 0]) ?_ 5 _ rfl; (with_reducible repeat (first | refine q1 ?_ _ | refine q2 ?_ | refine q3 ?_ _)); refine blk_put (cs := #[.int .i64 t165, .int .i64 t166, .int .i64 t167, .bool t168, .int .i64 0, .int .i64 0, .int .i64 0, .int .i64 0, .int .i64 0, .int .u32 0, .int .i64 0]) ?_ 4 _ rfl; (with_reducible repeat (first | refine q1 ?_ _ | refine q2 ?_ | refine q3 ?_ _)); refine blk_put (cs := #[.int .i64 t165, .int .i64 t166, .int .i64 t167, .bool false, .int .i64 0, .int .i64 0, .int .i64 0, .int .i64 0, .int .i64 0, .int .u32 0, .int .i64 0]) ?_ 3 _ rfl; (with_reducible repeat (first | refine q1 ?_ _ | refine q2 ?_ | refine q3 ?_ _)); refine blk_put (cs := #[.int .i64 t165, .int .i64 t166, .int .i64 0, .bool false, .int .i64 0, .int .i64 0, .int .i64 0, .int .i64 0, .int .i64 0, .int .u32 0, .int .i64 0]) ?_ 2 _ rfl; (with_reducible repeat (first | refine q1 ?_ _ | refine q2 ?_ | refine q3 ?_ _)); refine blk_put (cs := #[.int .i64 t165, .int .i64 0, .int .i64 0, .bool false, .int .i64 0, .int .i64 0, .int .i64 0, .int .i64 0, .int .i64 0, .int .u32 0, .int .i64 0]) ?_ 1 _ rfl; (with_reducible repeat (first | refine q1 ?_ _ | refine q2 ?_ | refine q3 ?_ _)); refine blk_put (cs := #[.int .i64 0, .int .i64 0, .int .i64 0, .bool false, .int .i64 0, .int .i64 0, .int .i64 0, .int .i64 0, .int .i64 0, .int .u32 0, .int .i64 0]) ?_ 0 _ rfl; (with_reducible repeat (first | refine q1 ?_ _ | refine q2 ?_ | refine q3 ?_ _)); exact BK160.out) Try.underlying34 rfl (by kernel_rfl)) rfl ?_
    exact ⟨by first | rfl | (simp [errW_none, errW_some] <;> rfl) | (simp [*, errW_none, errW_some] <;> rfl), by repeat (first | (with_reducible first | exact HB.out | apply b1 | apply b2 | apply b3 | refine below_set ?_ GE159.out | refine below_set ?_ GE160.out) | exact HB.out)⟩
  · replace c3 := Bool.eq_false_iff.mpr c3
    subst c3
    have H1 : (some (a0_0, a0_1, a0_2, a0_3, a0_4, a0_5, a0_6, a0_7, a0_8, a0_9, a0_10)) = some (r1, r2, r3, r4, r5, r6, r7, r8, r9, r10, r11) := by rw [if_neg (show ¬ (false = true) by decide)] at H; exact H
    clear H
    have H := H1
    clear H1
    simp only [Option.some.injEq, Prod.mk.injEq] at H
    obtain ⟨rfl, rfl, rfl, rfl, rfl, rfl, rfl, rfl, rfl, rfl, rfl⟩ := H
    go_enter Try.func23, Try.ntmps23
    go_wp2_with (first | ((with_reducible refine gate_dst (N := 1) rfl ?_); refine box_event ?hg (N := 1) ?hd (cs := #[.int .i64 a0_0, .int .i64 a0_1, .int .i64 a0_2, .bool a0_3, .int .i64 a0_4, .int .i64 a0_5, .int .i64 a0_6, .int .i64 a0_7, .int .i64 a0_8, .int .u32 a0_9, .int .i64 a0_10]) (t := 34) ?hr ?_; (case hd => rfl); (case hg => rfl); (case hr => first | (go_simp; done) | (go_simp; rfl)); intro gb159 hg w16 hbox hb; have n0_ := A0 (below_step (by repeat (first | (with_reducible first | exact HB.out | apply b1 | apply b2 | apply b3) | exact HB.out)) hb); have n1_ := A0 (hbox); have n2_ := A0 ((by rw [hg]; exact (below_size (by repeat (first | (with_reducible first | exact HB.out | apply b1 | apply b2 | apply b3) | exact HB.out))) : w.heap.size ≤ gb159)); have n3_ := n2_; clear HB; have HB := n0_; have BK159 := n1_; have GW159 := n2_; have GE159 := n3_; clear n0_ n1_ n2_ n3_; clear hb hbox hg) | ((with_reducible refine gate_dst (N := 2) rfl ?_); refine box_event ?hg (N := 2) ?hd (cs := #[.int .i64 0, .int .i64 0, .int .i64 0, .bool false, .int .i64 0, .int .i64 0, .int .i64 0, .int .i64 0, .int .i64 0, .int .u32 0, .int .i64 0]) (t := 34) ?hr ?_; (case hd => rfl); (case hg => rfl); (case hr => first | (go_simp; done) | (go_simp; rfl)); intro gb160 hg w17 hbox hb; have n0_ := A0 (blk_below (by (with_reducible repeat (first | refine q1 ?_ _ | refine q2 ?_ | refine q3 ?_ _)); exact BK159.out) hb); have n1_ := A0 (below_step (by repeat (first | (with_reducible first | exact HB.out | apply b1 | apply b2 | apply b3 | refine below_set ?_ GE159.out) | exact HB.out)) hb); have n2_ := A0 (hbox); have n3_ := A0 ((by rw [hg]; exact (below_size (by repeat (first | (with_reducible first | exact HB.out | apply b1 | apply b2 | apply b3 | refine below_set ?_ GE159.out) | exact HB.out))) : w.heap.size ≤ gb160)); have n4_ := n3_; have n5_ := A0 ((by rw [hg]; exact Nat.ne_of_lt (blk_lt (g := gb159) (o := .cells #[.int .i64 a0_0, .int .i64 a0_1, .int .i64 a0_2, .bool a0_3, .int .i64 a0_4, .int .i64 a0_5, .int .i64 a0_6, .int .i64 a0_7, .int .i64 a0_8, .int .u32 a0_9, .int .i64 a0_10] 34 (0, 0)) (by (with_reducible repeat (first | refine q1 ?_ _ | refine q2 ?_ | refine q3 ?_ _)); exact BK159.out)) : gb159 ≠ gb160)); have n6_ := A0 ((by rw [hg]; exact Nat.ne_of_gt (blk_lt (g := gb159) (o := .cells #[.int .i64 a0_0, .int .i64 a0_1, .int .i64 a0_2, .bool a0_3, .int .i64 a0_4, .int .i64 a0_5, .int .i64 a0_6, .int .i64 a0_7, .int .i64 a0_8, .int .u32 a0_9, .int .i64 a0_10] 34 (0, 0)) (by (with_reducible repeat (first | refine q1 ?_ _ | refine q2 ?_ | refine q3 ?_ _)); exact BK159.out)) : gb160 ≠ gb159)); clear BK159; clear HB; have BK159 := n0_; have HB := n1_; have BK160 := n2_; have GW160 := n3_; have GE160 := n4_; have NB159_160 := n5_; have NB160_159 := n6_; clear n0_ n1_ n2_ n3_ n4_ n5_ n6_; clear hb hbox hg; have hnb18 := NB159_160.out; have hnc18 := NB160_159.out; have hcz19 := cc11 BK159.out) | ((with_reducible refine gate_callee (f := 20) rfl ?_); refine goesL_ (some 4) rfl rfl Try.func20 (by kernel_rfl) rfl #[.agg #[.int .i64 a0_0, .int .i64 a0_1, .int .i64 a0_2, .bool a0_3, .int .i64 a0_4, .int .i64 a0_5, .int .i64 a0_6, .int .i64 a0_7, .int .i64 a0_8, .int .u32 a0_9, .int .i64 a0_10]] rfl (by (try simp only [List.map_toArray, List.map_cons, List.map_nil]); first | done | rfl | (simp only [List.length_drop, List.length_take]; rfl)) ?_; (with_reducible refine (path_Good.calls k a0_0 a0_1 a0_2 a0_3 a0_4 a0_5 a0_6 a0_7 a0_8 a0_9 a0_10 false _ A2.out).mono ?_); rintro e w20 ⟨rfl, hb⟩; refine ⟨_, rfl, ?_⟩; have n0_ := A0 (blk_below (by (with_reducible repeat (first | refine q1 ?_ _ | refine q2 ?_ | refine q3 ?_ _)); exact BK159.out) hb); have n1_ := A0 (blk_below (by (with_reducible repeat (first | refine q1 ?_ _ | refine q2 ?_ | refine q3 ?_ _)); exact BK160.out) hb); have n2_ := A0 (below_step (by repeat (first | (with_reducible first | exact HB.out | apply b1 | apply b2 | apply b3 | refine below_set ?_ GE159.out | refine below_set ?_ GE160.out) | exact HB.out)) hb); clear BK159; clear BK160; clear HB; have BK159 := n0_; have BK160 := n1_; have HB := n2_; clear n0_ n1_ n2_; (try clear hb); (try clear hb2); (try clear hk); (try clear hi); have hcz21 := cc11 BK159.out; have hcz22 := cc11 BK160.out))
    refine bodyPost_ret (results_cell_row rfl _ _ gb160 34 #[.int .i64 a0_0, .int .i64 a0_1, .int .i64 a0_2, .bool a0_3, .int .i64 a0_4, .int .i64 a0_5, .int .i64 a0_6, .int .i64 a0_7, .int .i64 a0_8, .int .u32 a0_9, .int .i64 a0_10] (0, 0) _ rfl (by (with_reducible repeat (first | refine q1 ?_ _ | refine q2 ?_ | refine q3 ?_ _)); refine blk_put (cs := #[.int .i64 a0_0, .int .i64 a0_1, .int .i64 a0_2, .bool a0_3, .int .i64 a0_4, .int .i64 a0_5, .int .i64 a0_6, .int .i64 a0_7, .int .i64 a0_8, .int .u32 a0_9, .int .i64 0]) ?_ 10 _ rfl; (with_reducible repeat (first | refine q1 ?_ _ | refine q2 ?_ | refine q3 ?_ _)); refine blk_put (cs := #[.int .i64 a0_0, .int .i64 a0_1, .int .i64 a0_2, .bool a0_3, .int .i64 a0_4, .int .i64 a0_5, .int .i64 a0_6, .int .i64 a0_7, .int .i64 a0_8, .int .u32 0, .int .i64 0]) ?_ 9 _ rfl; (with_reducible repeat (first | refine q1 ?_ _ | refine q2 ?_ | refine q3 ?_ _)); refine blk_put (cs := #[.int .i64 a0_0, .int .i64 a0_1, .int .i64 a0_2, .bool a0_3, .int .i64 a0_4, .int .i64 a0_5, .int .i64 a0_6, .int .i64 a0_7, .int .i64 0, .int .u32 0, .int .i64 0]) ?_ 8 _ rfl; (with_reducible repeat (first | refine q1 ?_ _ | refine q2 ?_ | refine q3 ?_ _)); refine blk_put (cs := #[.int .i64 a0_0, .int .i64 a0_1, .int .i64 a0_2, .bool a0_3, .int .i64 a0_4, .int .i64 a0_5, .int .i64 a0_6, .int .i64 0, .int .i64 0, .int .u32 0, .int .i64 0]) ?_ 7 _ rfl; (with_reducible repeat (first | refine q1 ?_ _ | refine q2 ?_ | refine q3 ?_ _)); refine blk_put (cs := #[.int .i64 a0_0, .int .i64 a0_1, .int .i64 a0_2, .bool a0_3, .int .i64 a0_4, .int .i64 a0_5, .int .i64 0, .int .i64 0, .int .i64 0, .int .u32 0, .int .i64 0]) ?_ 6 _ rfl; (with_reducible repeat (first | refine q1 ?_ _ | refine q2 ?_ | refine q3 ?_ _)); refine blk_put (cs := #[.int .i64 a0_0, .int .i64 a0_1, .int .i64 a0_2, .bool a0_3, .int .i64 a0_4, .int .i64 0, .int .i64 0, .int .i64 0, .int .i64 0, .int .u32 0, .int .i64 0]) ?_ 5 _ rfl; (with_reducible repeat (first | refine q1 ?_ _ | refine q2 ?_ | refine q3 ?_ _)); refine blk_put (cs := #[.int .i64 a0_0, .int .i64 a0_1, .int .i64 a0_2, .bool a0_3, .int .i64 0, .int .i64 0, .int .i64 0, .int .i64 0, .int .i64 0, .int .u32 0, .int .i64 0]) ?_ 4 _ rfl; (with_reducible repeat (first | refine q1 ?_ _ | refine q2 ?_ | refine q3 ?_ _)); refine blk_put (cs := #[.int .i64 a0_0, .int .i64 a0_1, .int .i64 a0_2, .bool false, .int .i64 0, .int .i64 0, .int .i64 0, .int .i64 0, .int .i64 0, .int .u32 0, .int .i64 0]) ?_ 3 _ rfl; (with_reducible repeat (first | refine q1 ?_ _ | refine q2 ?_ | refine q3 ?_ _)); refine blk_put (cs := #[.int .i64 a0_0, .int .i64 a0_1, .int .i64 0, .bool false, .int .i64 0, .int .i64 0, .int .i64 0, .int .i64 0, .int .i64 0, .int .u32 0, .int .i64 0]) ?_ 2 _ rfl; (with_reducible repeat (first | refine q1 ?_ _ | refine q2 ?_ | refine q3 ?_ _)); refine blk_put (cs := #[.int .i64 a0_0, .int .i64 0, .int .i64 0, .bool false, .int .i64 0, .int .i64 0, .int .i64 0, .int .i64 0, .int .i64 0, .int .u32 0, .int .i64 0]) ?_ 1 _ rfl; (with_reducible repeat (first | refine q1 ?_ _ | refine q2 ?_ | refine q3 ?_ _)); refine blk_put (cs := #[.int .i64 0, .int .i64 0, .int .i64 0, .bool false, .int .i64 0, .int .i64 0, .int .i64 0, .int .i64 0, .int .i64 0, .int .u32 0, .int .i64 0]) ?_ 0 _ rfl; (with_reducible repeat (first | refine q1 ?_ _ | refine q2 ?_ | refine q3 ?_ _)); exact BK160.out) Try.underlying34 rfl (by kernel_rfl)) rfl ?_
    exact ⟨by first | rfl | (simp [errW_none, errW_some] <;> rfl) | (simp [*, errW_none, errW_some] <;> rfl), by repeat (first | (with_reducible first | exact HB.out | apply b1 | apply b2 | apply b3 | refine below_set ?_ GE159.out | refine below_set ?_ GE160.out) | exact HB.out)⟩

end Go.Proofs.Ytblooffiggciiaa.PAll
/- PAllx19 -/
namespace Go.Proofs.Ytblooffiggciiaa.PAll
open Go.RowKit Go.Proofs.YtblooffiggciiaaW.PrintWords Go.Proofs.YtblooffiggciiaaW.PrintLast Go.Proofs.YtblooffiggciiaaW.PrintMore Go.Proofs.Ytblooffiggciiaa.Sh
attribute [local go_sem] max2_int min2_int max_two min_two max_three min_three max_four min_four   -- for this text's walks alone
attribute [local go_sem] Go.Proofs.Ytblooffiggciiaa.Aid.isSome_setCell
set_option linter.unusedVariables false
set_option linter.unusedSimpArgs false
def path_Path_Heard.f (k : Nat) (a0_0 : Int) (a0_1 : Int) (a0_2 : Int) (a0_3 : Bool) (a0_4 : Int) (a0_5 : Int) (a0_6 : Int) (a0_7 : Int) (a0_8 : Int) (a0_9 : Int) (a0_10 : Int) : Option (Int × Int × Int × Bool × Int × Int × Int × Int × Int × Int × Int) := (path_Good.f k a0_0 a0_1 a0_2 a0_3 a0_4 a0_5 a0_6 a0_7 a0_8 a0_9 a0_10).bind fun t178 => (if t178 = true then (some (a0_0, a0_1, a0_2, a0_3, a0_4, a0_5, a0_6, a0_7, 0, a0_9, a0_10)) else (some (a0_0, a0_1, a0_2, a0_3, a0_4, a0_5, a0_6, a0_7, a0_8, a0_9, a0_10)))
theorem path_Path_Heard.mono : ∀ a0 a1 a2 a3 a4 a5 a6 a7 a8 a9 a10 k, LeO (path_Path_Heard.f k a0 a1 a2 a3 a4 a5 a6 a7 a8 a9 a10) (path_Path_Heard.f (k + 1) a0 a1 a2 a3 a4 a5 a6 a7 a8 a9 a10) := by
  intro a0 a1 a2 a3 a4 a5 a6 a7 a8 a9 a10 k
  unfold path_Path_Heard.f
  repeat' first
      | (with_reducible exact path_Good.mono _ _ _ _ _ _ _ _ _ _ _ _)
      | (with_reducible exact LeO.refl _)
      | (with_reducible exact LeO.none _)
      | (with_reducible refine LeO.ite ?_ ?_)
      | (with_reducible refine LeO.bind ?_ (fun _ => ?_))
      | exact path_Good.mono _ _ _ _ _ _ _ _ _ _ _ _
      | exact LeO.none _
      | refine LeO.ite ?_ ?_
      | refine LeO.bind ?_ (fun _ => ?_)
set_option maxHeartbeats 8000000 in
set_option maxRecDepth 100000 in
theorem path_Path_Heard.calls (k : Nat) (a0_0 : Int) (a0_1 : Int) (a0_2 : Int) (a0_3 : Bool) (a0_4 : Int) (a0_5 : Int) (a0_6 : Int) (a0_7 : Int) (a0_8 : Int) (a0_9 : Int) (a0_10 : Int) (r1 : Int) (r2 : Int) (r3 : Int) (r4 : Bool) (r5 : Int) (r6 : Int) (r7 : Int) (r8 : Int) (r9 : Int) (r10 : Int) (r11 : Int) (w : World) (h : path_Path_Heard.f k a0_0 a0_1 a0_2 a0_3 a0_4 a0_5 a0_6 a0_7 a0_8 a0_9 a0_10 = some (r1, r2, r3, r4, r5, r6, r7, r8, r9, r10, r11)) :
    Calls Try.prog 25 #[.agg #[.int .i64 a0_0, .int .i64 a0_1, .int .i64 a0_2, .bool a0_3, .int .i64 a0_4, .int .i64 a0_5, .int .i64 a0_6, .int .i64 a0_7, .int .i64 a0_8, .int .u32 a0_9, .int .i64 a0_10]] w fun e w' => e = .returned (.agg #[.int .i64 r1, .int .i64 r2, .int .i64 r3, .bool r4, .int .i64 r5, .int .i64 r6, .int .i64 r7, .int .i64 r8, .int .i64 r9, .int .u32 r10, .int .i64 r11]) ∧ Below w.heap.size w w' := by
  have hu34 := Try.underlying34
  have HB := A0 (Below.refl w.heap.size w)
  have H : ((path_Good.f k a0_0 a0_1 a0_2 a0_3 a0_4 a0_5 a0_6 a0_7 a0_8 a0_9 a0_10).bind fun t178 => (if t178 = true then (some (a0_0, a0_1, a0_2, a0_3, a0_4, a0_5, a0_6, a0_7, 0, a0_9, a0_10)) else (some (a0_0, a0_1, a0_2, a0_3, a0_4, a0_5, a0_6, a0_7, a0_8, a0_9, a0_10)))) = some (r1, r2, r3, r4, r5, r6, r7, r8, r9, r10, r11) := h
  clear h
  replace H := Option.bind_eq_some_iff.mp H
  obtain ⟨t178, A20, H⟩ := H
  replace H : (if t178 = true then (some (a0_0, a0_1, a0_2, a0_3, a0_4, a0_5, a0_6, a0_7, 0, a0_9, a0_10)) else (some (a0_0, a0_1, a0_2, a0_3, a0_4, a0_5, a0_6, a0_7, a0_8, a0_9, a0_10))) = some (r1, r2, r3, r4, r5, r6, r7, r8, r9, r10, r11) := H
  have A2 := Aside0.mk A20
  clear A20
  by_cases c3 : t178 = true
  · subst c3
    have H1 : (some (a0_0, a0_1, a0_2, a0_3, a0_4, a0_5, a0_6, a0_7, 0, a0_9, a0_10)) = some (r1, r2, r3, r4, r5, r6, r7, r8, r9, r10, r11) := by rw [if_pos rfl] at H; exact H
    clear H
    have H := H1
    clear H1
    simp only [Option.some.injEq, Prod.mk.injEq] at H
    obtain ⟨rfl, rfl, rfl, rfl, rfl, rfl, rfl, rfl, rfl, rfl, rfl⟩ := H
    go_enter Try.func25, Try.ntmps25
    go_wp2_with (first | ((with_reducible refine gate_dst (N := 1) rfl ?_); refine box_event ?hg (N := 1) ?hd (cs := #[.int .i64 a0_0, .int .i64 a0_1, .int .i64 a0_2, .bool a0_3, .int .i64 a0_4, .int .i64 a0_5, .int .i64 a0_6, .int .i64 a0_7, .int .i64 a0_8, .int .u32 a0_9, .int .i64 a0_10]) (t := 34) ?hr ?_; (case hd => rfl); (case hg => rfl); (case hr => first | (go_simp; done) | (go_simp; rfl)); intro gb176 hg w4 hbox hb; have n0_ := A0 (below_step (by repeat (first | (with_reducible first | exact HB.out | apply b1 | apply b2 | apply b3) | exact HB.out)) hb); have n1_ := A0 (hbox); have n2_ := A0 ((by rw [hg]; exact (below_size (by repeat (first | (with_reducible first | exact HB.out | apply b1 | apply b2 | apply b3) | exact HB.out))) : w.heap.size ≤ gb176)); have n3_ := n2_; clear HB; have HB := n0_; have BK176 := n1_; have GW176 := n2_; have GE176 := n3_; clear n0_ n1_ n2_ n3_; clear hb hbox hg) | ((with_reducible refine gate_dst (N := 2) rfl ?_); refine box_event ?hg (N := 2) ?hd (cs := #[.int .i64 0, .int .i64 0, .int .i64 0, .bool false, .int .i64 0, .int .i64 0, .int .i64 0, .int .i64 0, .int .i64 0, .int .u32 0, .int .i64 0]) (t := 34) ?hr ?_; (case hd => rfl); (case hg => rfl); (case hr => first | (go_simp; done) | (go_simp; rfl)); intro gb177 hg w5 hbox hb; have n0_ := A0 (blk_below (by (with_reducible repeat (first | refine q1 ?_ _ | refine q2 ?_ | refine q3 ?_ _)); exact BK176.out) hb); have n1_ := A0 (below_step (by repeat (first | (with_reducible first | exact HB.out | apply b1 | apply b2 | apply b3 | refine below_set ?_ GE176.out) | exact HB.out)) hb); have n2_ := A0 (hbox); have n3_ := A0 ((by rw [hg]; exact (below_size (by repeat (first | (with_reducible first | exact HB.out | apply b1 | apply b2 | apply b3 | refine below_set ?_ GE176.out) | exact HB.out))) : w.heap.size ≤ gb177)); have n4_ := n3_; have n5_ := A0 ((by rw [hg]; exact Nat.ne_of_lt (blk_lt (g := gb176) (o := .cells #[.int .i64 a0_0, .int .i64 a0_1, .int .i64 a0_2, .bool a0_3, .int .i64 a0_4, .int .i64 a0_5, .int .i64 a0_6, .int .i64 a0_7, .int .i64 a0_8, .int .u32 a0_9, .int .i64 a0_10] 34 (0, 0)) (by (with_reducible repeat (first | refine q1 ?_ _ | refine q2 ?_ | refine q3 ?_ _)); exact BK176.out)) : gb176 ≠ gb177)); have n6_ := A0 ((by rw [hg]; exact Nat.ne_of_gt (blk_lt (g := gb176) (o := .cells #[.int .i64 a0_0, .int .i64 a0_1, .int .i64 a0_2, .bool a0_3, .int .i64 a0_4, .int .i64 a0_5, .int .i64 a0_6, .int .i64 a0_7, .int .i64 a0_8, .int .u32 a0_9, .int .i64 a0_10] 34 (0, 0)) (by (with_reducible repeat (first | refine q1 ?_ _ | refine q2 ?_ | refine q3 ?_ _)); exact BK176.out)) : gb177 ≠ gb176)); clear BK176; clear HB; have BK176 := n0_; have HB := n1_; have BK177 := n2_; have GW177 := n3_; have GE177 := n4_; have NB176_177 := n5_; have NB177_176 := n6_; clear n0_ n1_ n2_ n3_ n4_ n5_ n6_; clear hb hbox hg; have hnb6 := NB176_177.out; have hnc6 := NB177_176.out; have hcz7 := cc11 BK176.out) | ((with_reducible refine gate_callee (f := 20) rfl ?_); refine goesL_ (some 4) rfl rfl Try.func20 (by kernel_rfl) rfl #[.agg #[.int .i64 a0_0, .int .i64 a0_1, .int .i64 a0_2, .bool a0_3, .int .i64 a0_4, .int .i64 a0_5, .int .i64 a0_6, .int .i64 a0_7, .int .i64 a0_8, .int .u32 a0_9, .int .i64 a0_10]] rfl (by (try simp only [List.map_toArray, List.map_cons, List.map_nil]); first | done | rfl | (simp only [List.length_drop, List.length_take]; rfl)) ?_; (with_reducible refine (path_Good.calls k a0_0 a0_1 a0_2 a0_3 a0_4 a0_5 a0_6 a0_7 a0_8 a0_9 a0_10 true _ A2.out).mono ?_); rintro e w8 ⟨rfl, hb⟩; refine ⟨_, rfl, ?_⟩; have n0_ := A0 (blk_below (by (with_reducible repeat (first | refine q1 ?_ _ | refine q2 ?_ | refine q3 ?_ _)); exact BK176.out) hb); have n1_ := A0 (blk_below (by (with_reducible repeat (first | refine q1 ?_ _ | refine q2 ?_ | refine q3 ?_ _)); exact BK177.out) hb); have n2_ := A0 (below_step (by repeat (first | (with_reducible first | exact HB.out | apply b1 | apply b2 | apply b3 | refine below_set ?_ GE176.out | refine below_set ?_ GE177.out) | exact HB.out)) hb); clear BK176; clear BK177; clear HB; have BK176 := n0_; have BK177 := n1_; have HB := n2_; clear n0_ n1_ n2_; (try clear hb); (try clear hb2); (try clear hk); (try clear hi); have hcz9 := cc11 BK176.out; have hcz10 := cc11 BK177.out))
    refine bodyPost_ret (results_cell_row rfl _ _ gb177 34 #[.int .i64 a0_0, .int .i64 a0_1, .int .i64 a0_2, .bool a0_3, .int .i64 a0_4, .int .i64 a0_5, .int .i64 a0_6, .int .i64 a0_7, .int .i64 0, .int .u32 a0_9, .int .i64 a0_10] (0, 0) _ rfl (by (with_reducible repeat (first | refine q1 ?_ _ | refine q2 ?_ | refine q3 ?_ _)); refine blk_put (cs := #[.int .i64 a0_0, .int .i64 a0_1, .int .i64 a0_2, .bool a0_3, .int .i64 a0_4, .int .i64 a0_5, .int .i64 a0_6, .int .i64 a0_7, .int .i64 0, .int .u32 a0_9, .int .i64 0]) ?_ 10 _ rfl; (with_reducible repeat (first | refine q1 ?_ _ | refine q2 ?_ | refine q3 ?_ _)); refine blk_put (cs := #[.int .i64 a0_0, .int .i64 a0_1, .int .i64 a0_2, .bool a0_3, .int .i64 a0_4, .int .i64 a0_5, .int .i64 a0_6, .int .i64 a0_7, .int .i64 0, .int .u32 0, .int .i64 0]) ?_ 9 _ rfl; (with_reducible repeat (first | refine q1 ?_ _ | refine q2 ?_ | refine q3 ?_ _)); refine blk_put (cs := #[.int .i64 a0_0, .int .i64 a0_1, .int .i64 a0_2, .bool a0_3, .int .i64 a0_4, .int .i64 a0_5, .int .i64 a0_6, .int .i64 a0_7, .int .i64 0, .int .u32 0, .int .i64 0]) ?_ 8 _ rfl; (with_reducible repeat (first | refine q1 ?_ _ | refine q2 ?_ | refine q3 ?_ _)); refine blk_put (cs := #[.int .i64 a0_0, .int .i64 a0_1, .int .i64 a0_2, .bool a0_3, .int .i64 a0_4, .int .i64 a0_5, .int .i64 a0_6, .int .i64 0, .int .i64 0, .int .u32 0, .int .i64 0]) ?_ 7 _ rfl; (with_reducible repeat (first | refine q1 ?_ _ | refine q2 ?_ | refine q3 ?_ _)); refine blk_put (cs := #[.int .i64 a0_0, .int .i64 a0_1, .int .i64 a0_2, .bool a0_3, .int .i64 a0_4, .int .i64 a0_5, .int .i64 0, .int .i64 0, .int .i64 0, .int .u32 0, .int .i64 0]) ?_ 6 _ rfl; (with_reducible repeat (first | refine q1 ?_ _ | refine q2 ?_ | refine q3 ?_ _)); refine blk_put (cs := #[.int .i64 a0_0, .int .i64 a0_1, .int .i64 a0_2, .bool a0_3, .int .i64 a0_4, .int .i64 0, .int .i64 0, .int .i64 0, .int .i64 0, .int .u32 0, .int .i64 0]) ?_ 5 _ rfl; (with_reducible repeat (first | refine q1 ?_ _ | refine q2 ?_ | refine q3 ?_ _)); refine blk_put (cs := #[.int .i64 a0_0, .int .i64 a0_1, .int .i64 a0_2, .bool a0_3, .int .i64 0, .int .i64 0, .int .i64 0, .int .i64 0, .int .i64 0, .int .u32 0, .int .i64 0]) ?_ 4 _ rfl; (with_reducible repeat (first | refine q1 ?_ _ | refine q2 ?_ | refine q3 ?_ _)); refine blk_put (cs := #[.int .i64 a0_0, .int .i64 a0_1, .int .i64 a0_2, .bool false, .int .i64 0, .int .i64 0, .int .i64 0, .int .i64 0, .int .i64 0, .int .u32 0, .int .i64 0]) ?_ 3 _ rfl; (with_reducible repeat (first | refine q1 ?_ _ | refine q2 ?_ | refine q3 ?_ _)); refine blk_put (cs := #[.int .i64 a0_0, .int .i64 a0_1, .int .i64 0, .bool false, .int .i64 0, .int .i64 0, .int .i64 0, .int .i64 0, .int .i64 0, .int .u32 0, .int .i64 0]) ?_ 2 _ rfl; (with_reducible repeat (first | refine q1 ?_ _ | refine q2 ?_ | refine q3 ?_ _)); refine blk_put (cs := #[.int .i64 a0_0, .int .i64 0, .int .i64 0, .bool false, .int .i64 0, .int .i64 0, .int .i64 0, .int .i64 0, .int .i64 0, .int .u32 0, .int .i64 0]) ?_ 1 _ rfl; (with_reducible repeat (first | refine q1 ?_ _ | refine q2 ?_ | refine q3 ?_ _)); refine blk_put (cs := #[.int .i64 0, .int .i64 0, .int .i64 0, .bool false, .int .i64 0, .int .i64 0, .int .i64 0, .int .i64 0, .int .i64 0, .int .u32 0, .int .i64 0]) ?_ 0 _ rfl; (with_reducible repeat (first | refine q1 ?_ _ | refine q2 ?_ | refine q3 ?_ _)); refine blk_far ?_ NB177_176.out _; (with_reducible repeat (first | refine q1 ?_ _ | refine q2 ?_ | refine q3 ?_ _)); exact BK177.out) Try.underlying34 rfl (by kernel_rfl)) rfl ?_
    exact ⟨by first | rfl | (simp [errW_none, errW_some] <;> rfl) | (simp [*, errW_none, errW_some] <;> rfl), by repeat (first | (with_reducible first | exact HB.out | apply b1 | apply b2 | apply b3 | refine below_set ?_ GE176.out | refine below_set ?_ GE177.out) | exact HB.out)⟩
  · replace c3 := Bool.eq_false_iff.mpr c3
    subst c3
    have H1 : (some (a0_0, a0_1, a0_2, a0_3, a0_4, a0_5, a0_6, a0_7, a0_8, a0_9, a0_10)) = some (r1, r2, r3, r4, r5, r6, r7, r8, r9, r10, r11) := by rw [if_neg (show ¬ (false = true) by decide)] at H; exact H
    clear H
    have H := H1
    clear H1
    simp only [Option.some.injEq, Prod.mk.injEq] at H
    obtain ⟨rfl, rfl, rfl, rfl, rfl, rfl, rfl, rfl, rfl, rfl, rfl⟩ := H
    go_enter Try.func25, Try.ntmps25
    go_wp2_with (first | ((with_reducible refine gate_dst (N := 1) rfl ?_); refine box_event ?hg (N := 1) ?hd (cs := #[.int .i64 a0_0, .int .i64 a0_1, .int .i64 a0_2, .bool a0_3, .int .i64 a0_4, .int .i64 a0_5, .int .i64 a0_6, .int .i64 a0_7, .int .i64 a0_8, .int .u32 a0_9, .int .i64 a0_10]) (t := 34) ?hr ?_; (case hd => rfl); (case hg => rfl); (case hr => first | (go_simp; done) | (go_simp; rfl)); intro gb176 hg w11 hbox hb; have n0_ := A0 (below_step (by repeat (first | (with_reducible first | exact HB.out | apply b1 | apply b2 | apply b3) | exact HB.out)) hb); have n1_ := A0 (hbox); have n2_ := A0 ((by rw [hg]; exact (below_size (by repeat (first | (with_reducible first | exact HB.out | apply b1 | apply b2 | apply b3) | exact HB.out))) : w.heap.size ≤ gb176)); have n3_ := n2_; clear HB; have HB := n0_; have BK176 := n1_; have GW176 := n2_; have GE176 := n3_; clear n0_ n1_ n2_ n3_; clear hb hbox hg) | ((with_reducible refine gate_dst (N := 2) rfl ?_); refine box_event ?hg (N := 2) ?hd (cs := #[.int .i64 0, .int .i64 0, .int .i64 0, .bool false, .int .i64 0, .int .i64 0, .int .i64 0, .int .i64 0, .int .i64 0, .int .u32 0, .int .i64 0]) (t := 34) ?hr ?_; (case hd => rfl); (case hg => rfl); (case hr => first | (go_simp; done) | (go_simp; rfl)); intro gb177 hg w12 hbox hb; have n0_ := A0 (blk_below (by (with_reducible repeat (first | refine q1 ?_ _ | refine q2 ?_ | refine q3 ?_ _)); exact BK176.out) hb); have n1_ := A0 (below_step (by repeat (first | (with_reducible first | exact HB.out | apply b1 | apply b2 | apply b3 | refine below_set ?_ GE176.out) | exact HB.out)) hb); have n2_ := A0 (hbox); have n3_ := A0 ((by rw [hg]; exact (below_size (by repeat (first | (with_reducible first | exact HB.out | apply b1 | apply b2 | apply b3 | refine below_set ?_ GE176.out) | exact HB.out))) : w.heap.size ≤ gb177)); have n4_ := n3_; have n5_ := A0 ((by rw [hg]; exact Nat.ne_of_lt (blk_lt (g := gb176) (o := .cells #[.int .i64 a0_0, .int .i64 a0_1, .int .i64 a0_2, .bool a0_3, .int .i64 a0_4, .int .i64 a0_5, .int .i64 a0_6, .int .i64 a0_7, .int .i64 a0_8, .int .u32 a0_9, .int .i64 a0_10] 34 (0, 0)) (by (with_reducible repeat (first | refine q1 ?_ _ | refine q2 ?_ | refine q3 ?_ _)); exact BK176.out)) : gb176 ≠ gb177)); have n6_ := A0 ((by rw [hg]; exact Nat.ne_of_gt (blk_lt (g := gb176) (o := .cells #[.int .i64 a0_0, .int .i64 a0_1, .int .i64 a0_2, .bool a0_3, .int .i64 a0_4, .int .i64 a0_5, .int .i64 a0_6, .int .i64 a0_7, .int .i64 a0_8, .int .u32 a0_9, .int .i64 a0_10] 34 (0, 0)) (by (with_reducible repeat (first | refine q1 ?_ _ | refine q2 ?_ | refine q3 ?_ _)); exact BK176.out)) : gb177 ≠ gb176)); clear BK176; clear HB; have BK176 := n0_; have HB := n1_; have BK177 := n2_; have GW177 := n3_; have GE177 := n4_; have NB176_177 := n5_; have NB177_176 := n6_; clear n0_ n1_ n2_ n3_ n4_ n5_ n6_; clear hb hbox hg; have hnb13 := NB176_177.out; have hnc13 := NB177_176.out; have hcz14 := cc11 BK176.out) | ((with_reducible refine gate_callee (f := 20) rfl ?_); refine goesL_ (some 4) rfl rfl Try.func20 (by kernel_rfl) rfl #[.agg #[.int .i64 a0_0, .int .i64 a0_1, .int .i64 a0_2, .bool a0_3, .int .i64 a0_4, .int .i64 a0_5, .int .i64 a0_6, .int .i64 a0_7, .int .i64 a0_8, .int .u32 a0_9, .int .i64 a0_10]] rfl (by (try simp only [List.map_toArray, List.map_cons, List.map_nil]); first | done | rfl | (simp only [List.length_drop, List.length_take]; rfl)) ?_; (with_reducible refine (path_Good.calls k a0_0 a0_1 a0_2 a0_3 a0_4 a0_5 a0_6 a0_7 a0_8 a0_9 a0_10 false _ A2.out).mono ?_); rintro e w15 ⟨rfl, hb⟩; refine ⟨_, rfl, ?_⟩; have n0_ := A0 (blk_below (by (with_reducible repeat (first | refine q1 ?_ _ | refine q2 ?_ | refine q3 ?_ _)); exact BK176.out) hb); have n1_ := A0 (blk_below (by (with_reducible repeat (first | refine q1 ?_ _ | refine q2 ?_ | refine q3 ?_ _)); exact BK177.out) hb); have n2_ := A0 (below_step (by repeat (first | (with_reducible first | exact HB.out | apply b1 | apply b2 | apply b3 | refine below_set ?_ GE176.out | refine below_set ?_ GE177.out) | exact HB.out)) hb); clear BK176; clear BK177; clear HB; have BK176 := n0_; have BK177 := n1_; have HB := n2_; clear n0_ n1_ n2_; (try clear hb); (try clear hb2); (try clear hk); (try clear hi); have hcz16 := cc11 BK176.out; have hcz17 := cc11 BK177.out))
    refine bodyPost_ret (results_cell_row rfl _ _ gb177 34 #[.int .i64 a0_0, .int .i64 a0_1, .int .i64 a0_2, .bool a0_3, .int .i64 a0_4, .int .i64 a0_5, .int .i64 a0_6, .int .i64 a0_7, .int .i64 a0_8, .int .u32 a0_9, .int .i64 a0_10] (0, 0) _ rfl (by (with_reducible repeat (first | refine q1 ?_ _ | refine q2 ?_ | refine q3 ?_ _)); refine blk_put (cs := #[.int .i64 a0_0, .int .i64 a0_1, .int .i64 a0_2, .bool a0_3, .int .i64 a0_4, .int .i64 a0_5, .int .i64 a0_6, .int .i64 a0_7, .int .i64 a0_8, .int .u32 a0_9, .int .i64 0]) ?_ 10 _ rfl; (with_reducible repeat (first | refine q1 ?_ _ | refine q2 ?_ | refine q3 ?_ _)); refine blk_put (cs := #[.int .i64 a0_0, .int .i64 a0_1, .int .i64 a0_2, .bool a0_3, .int .i64 a0_4, .int .i64 a0_5, .int .i64 a0_6, .int .i64 a0_7, .int .i64 a0_8, .int .u32 0, .int .i64 0]) ?_ 9 _ rfl; (with_reducible repeat (first | refine q1 ?_ _ | refine q2 ?_ | refine q3 ?_ _)); refine blk_put (cs := #[.int .i64 a0_0, .int .i64 a0_1, .int .i64 a0_2, .bool a0_3, .int .i64 a0_4, .int .i64 a0_5, .int .i64 a0_6, .int .i64 a0_7, .int .i64 0, .int .u32 0, .int .i64 0]) ?_ 8 _ rfl; (with_reducible repeat (first | refine q1 ?_ _ | refine q2 ?_ | refine q3 ?_ _)); refine blk_put (cs := #[.int .i64 a0_0, .int .i64 a0_1, .int .i64 a0_2, .bool a0_3, .int .i64 a0_4, .int .i64 a0_5, .int .i64 a0_6, .int .i64 0, .int .i64 0, .int .u32 0, .int .i64 0]) ?_ 7 _ rfl; (with_reducible repeat (first | refine q1 ?_ _ | refine q2 ?_ | refine q3 ?_ _)); refine blk_put (cs := #[.int .i64 a0_0, .int .i64 a0_1, .int .i64 a0_2, .bool a0_3, .int .i64 a0_4, .int .i64 a0_5, .int .i64 0, .int .i64 0, .int .i64 0, .int .u32 0, .int .i64 0]) ?_ 6 _ rfl; (with_reducible repeat (first | refine q1 ?_ _ | refine q2 ?_ | refine q3 ?_ _)); refine blk_put (cs := #[.int .i64 a0_0, .int .i64 a0_1, .int .i64 a0_2, .bool a0_3, .int .i64 a0_4, .int .i64 0, .int .i64 0, .int .i64 0, .int .i64 0, .int .u32 0, .int .i64 0]) ?_ 5 _ rfl; (with_reducible repeat (first | refine q1 ?_ _ | refine q2 ?_ | refine q3 ?_ _)); refine blk_put (cs := #[.int .i64 a0_0, .int .i64 a0_1, .int .i64 a0_2, .bool a0_3, .int .i64 0, .int .i64 0, .int .i64 0, .int .i64 0, .int .i64 0, .int .u32 0, .int .i64 0]) ?_ 4 _ rfl; (with_reducible repeat (first | refine q1 ?_ _ | refine q2 ?_ | refine q3 ?_ _)); refine blk_put (cs := #[.int .i64 a0_0, .int .i64 a0_1, .int .i64 a0_2, .bool false, .int .i64 0, .int .i64 0, .int .i64 0, .int .i64 0, .int .i64 0, .int .u32 0, .int .i64 0]) ?_ 3 _ rfl; (with_reducible repeat (first | refine q1 ?_ _ | refine q2 ?_ | refine q3 ?_ _)); refine blk_put (cs := #[.int .i64 a0_0, .int .i64 a0_1, .int .i64 0, .bool false, .int .i64 0, .int .i64 0, .int .i64 0, .int .i64 0, .int .i64 0, .int .u32 0, .int .i64 0]) ?_ 2 _ rfl; (with_reducible repeat (first | refine q1 ?_ _ | refine q2 ?_ | refine q3 ?_ _)); refine blk_put (cs := #[.int .i64 a0_0, .int .i64 0, .int .i64 0, .bool false, .int .i64 0, .int .i64 0, .int .i64 0, .int .i64 0, .int .i64 0, .int .u32 0, .int .i64 0]) ?_ 1 _ rfl; (with_reducible repeat (first | refine q1 ?_ _ | refine q2 ?_ | refine q3 ?_ _)); refine blk_put (cs := #[.int .i64 0, .int .i64 0, .int .i64 0, .bool false, .int .i64 0, .int .i64 0, .int .i64 0, .int .i64 0, .int .i64 0, .int .u32 0, .int .i64 0]) ?_ 0 _ rfl; (with_reducible repeat (first | refine q1 ?_ _ | refine q2 ?_ | refine q3 ?_ _)); exact BK177.out) Try.underlying34 rfl (by kernel_rfl)) rfl ?_
    exact ⟨by first | rfl | (simp [errW_none, errW_some] <;> rfl) | (simp [*, errW_none, errW_some] <;> rfl), by repeat (first | (with_reducible first | exact HB.out | apply b1 | apply b2 | apply b3 | refine below_set ?_ GE176.out | refine below_set ?_ GE177.out) | exact HB.out)⟩

end Go.Proofs.Ytblooffiggciiaa.PAll
/- PAllx20 -/
namespace Go.Proofs.Ytblooffiggciiaa.PAll
open Go.RowKit Go.Proofs.YtblooffiggciiaaW.PrintWords Go.Proofs.YtblooffiggciiaaW.PrintLast Go.Proofs.YtblooffiggciiaaW.PrintMore Go.Proofs.Ytblooffiggciiaa.Sh
attribute [local go_sem] max2_int min2_int max_two min_two max_three min_three max_four min_four   -- for this text's walks alone
attribute [local go_sem] Go.Proofs.Ytblooffiggciiaa.Aid.isSome_setCell
set_option linter.unusedVariables false
set_option linter.unusedSimpArgs false
def weftlinelaw13_alive.l0 : Nat → Int → Int → Int → Int → Bool → Int → Int → Int → Int → Int → Int → Int → Option (Bool)
  | 0, _, _, _, _, _, _, _, _, _, _, _, _ => none
  | k + 1, x10, x192000, x192001, x192002, x192003, x192004, x192005, x192006, x192007, x192008, x192009, x192010 => if x10 < 5 then ((path_Path_Failed.f k x192000 x192001 x192002 x192003 x192004 x192005 x192006 x192007 x192008 x192009 x192010).bind fun bt193 => (weftlinelaw13_alive.l0 k (wrap64 (x10 + 1)) bt193.1 bt193.2.1 bt193.2.2.1 bt193.2.2.2.1 bt193.2.2.2.2.1 bt193.2.2.2.2.2.1 bt193.2.2.2.2.2.2.1 bt193.2.2.2.2.2.2.2.1 bt193.2.2.2.2.2.2.2.2.1 bt193.2.2.2.2.2.2.2.2.2.1 bt193.2.2.2.2.2.2.2.2.2.2)) else ((path_Path_Active.f k x192000 x192001 x192002 x192003 x192004 x192005 x192006 x192007 x192008 x192009 x192010).bind fun t204 => ((path_Path_Failed.f k x192000 x192001 x192002 x192003 x192004 x192005 x192006 x192007 x192008 x192009 x192010).bind fun bt205 => (if t204 = true then ((path_Path_Active.f k bt205.1 bt205.2.1 bt205.2.2.1 bt205.2.2.2.1 bt205.2.2.2.2.1 bt205.2.2.2.2.2.1 bt205.2.2.2.2.2.2.1 bt205.2.2.2.2.2.2.2.1 bt205.2.2.2.2.2.2.2.2.1 bt205.2.2.2.2.2.2.2.2.2.1 bt205.2.2.2.2.2.2.2.2.2.2).bind fun t216 => (if t216 = true then (some false) else ((path_Path_Heard.f k bt205.1 bt205.2.1 bt205.2.2.1 bt205.2.2.2.1 bt205.2.2.2.2.1 bt205.2.2.2.2.2.1 bt205.2.2.2.2.2.2.1 bt205.2.2.2.2.2.2.2.1 bt205.2.2.2.2.2.2.2.2.1 bt205.2.2.2.2.2.2.2.2.2.1 bt205.2.2.2.2.2.2.2.2.2.2).bind fun bt217 => ((path_Path_Active.f k bt217.1 bt217.2.1 bt217.2.2.1 bt217.2.2.2.1 bt217.2.2.2.2.1 bt217.2.2.2.2.2.1 bt217.2.2.2.2.2.2.1 bt217.2.2.2.2.2.2.2.1 bt217.2.2.2.2.2.2.2.2.1 bt217.2.2.2.2.2.2.2.2.2.1 bt217.2.2.2.2.2.2.2.2.2.2).bind fun t228 => (some t228))))) else (some false))))
def weftlinelaw13_alive.f (k : Nat)  : Option (Bool) := (path_New.f 7).bind fun bt179 => (if bt179.2.2.2.2.2.2.2.2.2.2.2.isNone = true then (weftlinelaw13_alive.l0 k 0 bt179.1 bt179.2.1 bt179.2.2.1 bt179.2.2.2.1 bt179.2.2.2.2.1 bt179.2.2.2.2.2.1 bt179.2.2.2.2.2.2.1 bt179.2.2.2.2.2.2.2.1 bt179.2.2.2.2.2.2.2.2.1 bt179.2.2.2.2.2.2.2.2.2.1 bt179.2.2.2.2.2.2.2.2.2.2.1) else (some false))
theorem weftlinelaw13_alive.mono_l : ∀ k, (∀ y0 y1 y2 y3 y4 y5 y6 y7 y8 y9 y10 y11, LeO (weftlinelaw13_alive.l0 k y0 y1 y2 y3 y4 y5 y6 y7 y8 y9 y10 y11) (weftlinelaw13_alive.l0 (k + 1) y0 y1 y2 y3 y4 y5 y6 y7 y8 y9 y10 y11))
  | 0 => fun _ _ _ _ _ _ _ _ _ _ _ _ r h => by simp [weftlinelaw13_alive.l0] at h
  | k + 1 => by
    have ih0 := weftlinelaw13_alive.mono_l k
    · intro y0 y1 y2 y3 y4 y5 y6 y7 y8 y9 y10 y11
      unfold weftlinelaw13_alive.l0
      repeat' first
      | (with_reducible exact ih0 _ _ _ _ _ _ _ _ _ _ _ _)
      | (with_reducible exact path_Path_Active.mono _ _ _ _ _ _ _ _ _ _ _ _)
      | (with_reducible exact path_Path_Failed.mono _ _ _ _ _ _ _ _ _ _ _ _)
      | (with_reducible exact path_Path_Heard.mono _ _ _ _ _ _ _ _ _ _ _ _)
      | (with_reducible exact LeO.refl _)
      | (with_reducible exact LeO.none _)
      | (with_reducible refine LeO.ite ?_ ?_)
      | (with_reducible refine LeO.bind ?_ (fun _ => ?_))
      | exact ih0 _ _ _ _ _ _ _ _ _ _ _ _
      | exact path_Path_Active.mono _ _ _ _ _ _ _ _ _ _ _ _
      | exact path_Path_Failed.mono _ _ _ _ _ _ _ _ _ _ _ _
      | exact path_Path_Heard.mono _ _ _ _ _ _ _ _ _ _ _ _
      | exact LeO.none _
      | refine LeO.ite ?_ ?_
      | refine LeO.bind ?_ (fun _ => ?_)
theorem weftlinelaw13_alive.mono : ∀ k, LeO (weftlinelaw13_alive.f k ) (weftlinelaw13_alive.f (k + 1) ) := by
  intro  k
  have ih0 := weftlinelaw13_alive.mono_l k
  unfold weftlinelaw13_alive.f
  repeat' first
      | (with_reducible exact ih0 _ _ _ _ _ _ _ _ _ _ _ _)
      | (with_reducible exact path_Path_Active.mono _ _ _ _ _ _ _ _ _ _ _ _)
      | (with_reducible exact path_Path_Failed.mono _ _ _ _ _ _ _ _ _ _ _ _)
      | (with_reducible exact path_Path_Heard.mono _ _ _ _ _ _ _ _ _ _ _ _)
      | (with_reducible exact LeO.refl _)
      | (with_reducible exact LeO.none _)
      | (with_reducible refine LeO.ite ?_ ?_)
      | (with_reducible refine LeO.bind ?_ (fun _ => ?_))
      | exact ih0 _ _ _ _ _ _ _ _ _ _ _ _
      | exact path_Path_Active.mono _ _ _ _ _ _ _ _ _ _ _ _
      | exact path_Path_Failed.mono _ _ _ _ _ _ _ _ _ _ _ _
      | exact path_Path_Heard.mono _ _ _ _ _ _ _ _ _ _ _ _
      | exact LeO.none _
      | refine LeO.ite ?_ ?_
      | refine LeO.bind ?_ (fun _ => ?_)
set_option maxHeartbeats 8000000 in
set_option maxRecDepth 100000 in
theorem weftlinelaw13_alive.calls (k : Nat)  (r : Bool) (w : World) (h : weftlinelaw13_alive.f k  = some r) :
    Calls Try.prog 11 #[] w fun e w' => e = .returned (.bool r) ∧ Below w.heap.size w w' := by
  have hu34 := Try.underlying34
  have hu37 := Try.underlying37
  have hu42 := Try.underlying42
  have HB := A0 (Below.refl w.heap.size w)
  have H : ((path_New.f 7).bind fun bt179 => (if bt179.2.2.2.2.2.2.2.2.2.2.2.isNone = true then (weftlinelaw13_alive.l0 k 0 bt179.1 bt179.2.1 bt179.2.2.1 bt179.2.2.2.1 bt179.2.2.2.2.1 bt179.2.2.2.2.2.1 bt179.2.2.2.2.2.2.1 bt179.2.2.2.2.2.2.2.1 bt179.2.2.2.2.2.2.2.2.1 bt179.2.2.2.2.2.2.2.2.2.1 bt179.2.2.2.2.2.2.2.2.2.2.1) else (some false))) = some r := h
  clear h
  replace H := Option.bind_eq_some_iff.mp H
  obtain ⟨⟨t179, t180, t181, t182, t183, t184, t185, t186, t187, t188, t189, t190⟩, A10, H⟩ := H
  replace H : (if t190.isNone = true then (weftlinelaw13_alive.l0 k 0 t179 t180 t181 t182 t183 t184 t185 t186 t187 t188 t189) else (some false)) = some r := H
  have A1 := Aside0.mk A10
  clear A10
  rcases t190 with _ | q192
  · have H1 : (weftlinelaw13_alive.l0 k 0 t179 t180 t181 t182 t183 t184 t185 t186 t187 t188 t189) = some r := by rw [if_pos (show (none : Option Int).isNone = true by rfl)] at H; exact H
    clear H
    have H := H1
    clear H1
    try simp only [errW_none, errW_some]
    have H' := Aside0.mk H
    clear H
    go_enter Try.func11, Try.ntmps11
    go_wp2_with (first | ((with_reducible refine gate_callee (f := 13) rfl ?_); refine goesL_ (some 5) rfl rfl Try.func13 (by kernel_rfl) rfl #[.int .i64 7] rfl (by (try simp only [List.map_toArray, List.map_cons, List.map_nil]); first | done | rfl | (simp only [List.length_drop, List.length_take]; rfl)) ?_; (with_reducible refine (path_New.calls 7 t179 t180 t181 t182 t183 t184 t185 t186 t187 t188 t189 none _ A1.out).mono ?_); rintro e w2 ⟨rfl, hb⟩; refine ⟨_, rfl, ?_⟩; have n0_ := A0 (below_step (by repeat (first | (with_reducible first | exact HB.out | apply b1 | apply b2 | apply b3) | exact HB.out)) hb); clear HB; have HB := n0_; clear n0_; (try clear hb); (try clear hb2); (try clear hk); (try clear hi); (try simp only [errW_none, errW_some])) | ((with_reducible refine gate_dst (N := 1) rfl ?_); refine box_event ?hg (N := 1) ?hd (cs := #[.int .i64 0, .int .i64 0, .int .i64 0, .bool false, .int .i64 0, .int .i64 0, .int .i64 0, .int .i64 0, .int .i64 0, .int .u32 0, .int .i64 0]) (t := 34) ?hr ?_; (case hd => rfl); (case hg => rfl); (case hr => first | (go_simp; done) | (go_simp; rfl)); intro gb191 hg w3 hbox hb; have n0_ := A0 (below_step (by repeat (first | (with_reducible first | exact HB.out | apply b1 | apply b2 | apply b3) | exact HB.out)) hb); have n1_ := A0 (hbox); have n2_ := A0 ((by rw [hg]; exact (below_size (by repeat (first | (with_reducible first | exact HB.out | apply b1 | apply b2 | apply b3) | exact HB.out))) : w.heap.size ≤ gb191)); have n3_ := n2_; clear HB; have HB := n0_; have BK191 := n1_; have GW191 := n2_; have GE191 := n3_; clear n0_ n1_ n2_ n3_; clear hb hbox hg; have hcz4 := cc11 BK191.out))
    go_loopg [10] k (fun kq v10 w' => ∃ (x10_1 : Int) (x192000_1 : Int) (x192001_1 : Int) (x192002_1 : Int) (x192003_1 : Bool) (x192004_1 : Int) (x192005_1 : Int) (x192006_1 : Int) (x192007_1 : Int) (x192008_1 : Int) (x192009_1 : Int) (x192010_1 : Int), v10 = .int .i64 x10_1 ∧ Aside0 (weftlinelaw13_alive.l0 kq x10_1 x192000_1 x192001_1 x192002_1 x192003_1 x192004_1 x192005_1 x192006_1 x192007_1 x192008_1 x192009_1 x192010_1 = some r) ∧ Aside0 (kq ≤ k) ∧ Aside0 (w'.heap[gb191]? = some (.cells #[.int .i64 x192000_1, .int .i64 x192001_1, .int .i64 x192002_1, .bool x192003_1, .int .i64 x192004_1, .int .i64 x192005_1, .int .i64 x192006_1, .int .i64 x192007_1, .int .i64 x192008_1, .int .u32 x192009_1, .int .i64 x192010_1] 34 (0, 0))) ∧ Aside0 (Below w.heap.size w w'))
    case atStart => exact ⟨(0), (t179), (t180), (t181), (t182), (t183), (t184), (t185), (t186), (t187), (t188), (t189), (by first | rfl | (simp; done) | (simp [*]; done)), H', ⟨Nat.le_refl _⟩, ⟨by (with_reducible repeat (first | refine q1 ?_ _ | refine q2 ?_ | refine q3 ?_ _)); refine blk_put (cs := #[.int .i64 t179, .int .i64 t180, .int .i64 t181, .bool t182, .int .i64 t183, .int .i64 t184, .int .i64 t185, .int .i64 t186, .int .i64 t187, .int .u32 t188, .int .i64 0]) ?_ 10 _ rfl; (with_reducible repeat (first | refine q1 ?_ _ | refine q2 ?_ | refine q3 ?_ _)); refine blk_put (cs := #[.int .i64 t179, .int .i64 t180, .int .i64 t181, .bool t182, .int .i64 t183, .int .i64 t184, .int .i64 t185, .int .i64 t186, .int .i64 t187, .int .u32 0, .int .i64 0]) ?_ 9 _ rfl; (with_reducible repeat (first | refine q1 ?_ _ | refine q2 ?_ | refine q3 ?_ _)); refine blk_put (cs := #[.int .i64 t179, .int .i64 t180, .int .i64 t181, .bool t182, .int .i64 t183, .int .i64 t184, .int .i64 t185, .int .i64 t186, .int .i64 0, .int .u32 0, .int .i64 0]) ?_ 8 _ rfl; (with_reducible repeat (first | refine q1 ?_ _ | refine q2 ?_ | refine q3 ?_ _)); refine blk_put (cs := #[.int .i64 t179, .int .i64 t180, .int .i64 t181, .bool t182, .int .i64 t183, .int .i64 t184, .int .i64 t185, .int .i64 0, .int .i64 0, .int .u32 0, .int .i64 0]) ?_ 7 _ rfl; (with_reducible repeat (first | refine q1 ?_ _ | refine q2 ?_ | refine q3 ?_ _)); refine blk_put (cs := #[.int .i64 t179, .int .i64 t180, .int .i64 t181, .bool t182, .int .i64 t183, .int .i64 t184, .int .i64 0, .int .i64 0, .int .i64 0, .int .u32 0, .int .i64 0]) ?_ 6 _ rfl; (with_reducible repeat (first | refine q1 ?_ _ | refine q2 ?_ | refine q3 ?_ _)); refine blk_put (cs := #[.int .i64 t179, .int .i64 t180, .int .i64 t181, .bool t182, .int .i64 t183, .int .i64 0, .int .i64 0, .int .i64 0, .int .i64 0, .int .u32 0, .int .i64 0]) ?_ 5 _ rfl; (with_reducible repeat (first | refine q1 ?_ _ | refine q2 ?_ | refine q3 ?_ _)); refine blk_put (cs := #[.int .i64 t179, .int .i64 t180, .int .i64 t181, .bool t182, .int .i64 0, .int .i64 0, .int .i64 0, .int .i64 0, .int .i64 0, .int .u32 0, .int .i64 0]) ?_ 4 _ rfl; (with_reducible repeat (first | refine q1 ?_ _ | refine q2 ?_ | refine q3 ?_ _)); refine blk_put (cs := #[.int .i64 t179, .int .i64 t180, .int .i64 t181, .bool false, .int .i64 0, .int .i64 0, .int .i64 0, .int .i64 0, .int .i64 0, .int .u32 0, .int .i64 0]) ?_ 3 _ rfl; (with_reducible repeat (first | refine q1 ?_ _ | refine q2 ?_ | refine q3 ?_ _)); refine blk_put (cs := #[.int .i64 t179, .int .i64 t180, .int .i64 0, .bool false, .int .i64 0, .int .i64 0, .int .i64 0, .int .i64 0, .int .i64 0, .int .u32 0, .int .i64 0]) ?_ 2 _ rfl; (with_reducible repeat (first | refine q1 ?_ _ | refine q2 ?_ | refine q3 ?_ _)); refine blk_put (cs := #[.int .i64 t179, .int .i64 0, .int .i64 0, .bool false, .int .i64 0, .int .i64 0, .int .i64 0, .int .i64 0, .int .i64 0, .int .u32 0, .int .i64 0]) ?_ 1 _ rfl; (with_reducible repeat (first | refine q1 ?_ _ | refine q2 ?_ | refine q3 ?_ _)); refine blk_put (cs := #[.int .i64 0, .int .i64 0, .int .i64 0, .bool false, .int .i64 0, .int .i64 0, .int .i64 0, .int .i64 0, .int .i64 0, .int .u32 0, .int .i64 0]) ?_ 0 _ rfl; (with_reducible repeat (first | refine q1 ?_ _ | refine q2 ?_ | refine q3 ?_ _)); exact BK191.out⟩, ⟨by repeat (first | (with_reducible first | exact HB.out | apply b1 | apply b2 | apply b3 | refine below_set ?_ GE191.out) | exact HB.out)⟩⟩
    case round =>
      clear H'
      try clear c1
      try clear q1
      try clear p2
      try clear hcz4_0
      try clear hcz4_1
      try clear hcz4_10
      try clear hcz4_2
      try clear hcz4_3
      try clear hcz4_4
      try clear hcz4_5
      try clear hcz4_6
      try clear hcz4_7
      try clear hcz4_8
      try clear hcz4_9
      try clear hfz4_0
      try clear hfz4_1
      try clear hfz4_10
      try clear hfz4_2
      try clear hfz4_3
      try clear hfz4_4
      try clear hfz4_5
      try clear hfz4_6
      try clear hfz4_7
      try clear hfz4_8
      try clear hfz4_9
      try clear q192
      obtain ⟨x10_1, x192000_1, x192001_1, x192002_1, x192003_1, x192004_1, x192005_1, x192006_1, x192007_1, x192008_1, x192009_1, x192010_1, rfl, HA, HK1, BK191, HB⟩ := hrel
      cases gk with
      | zero => exact absurd HA.out (by simp [weftlinelaw13_alive.l0])
      | succ k1 =>
        have H := HA.out
        clear HA
        simp only [weftlinelaw13_alive.l0] at H
        by_cases c5 : x10_1 < 5
        · rw [if_pos c5] at H
          have c5b0 : decide (x10_1 < 5) = true := decide_eq_true c5
          clear c5
          replace H := Option.bind_eq_some_iff.mp H
          obtain ⟨⟨t193, t194, t195, t196, t197, t198, t199, t200, t201, t202, t203⟩, A60, H⟩ := H
          replace H : (weftlinelaw13_alive.l0 k1 (wrap64 (x10_1 + 1)) t193 t194 t195 t196 t197 t198 t199 t200 t201 t202 t203) = some r := H
          have A6 := Aside0.mk A60
          clear A60
          have H' := Aside0.mk H
          clear H
          have hcz7 := cc11 BK191.out
          go_wp2_with (first | ((with_reducible refine gate_callee (f := 23) rfl ?_); refine goesL_ (some 13) rfl rfl Try.func23 (by kernel_rfl) rfl #[.agg #[.int .i64 x192000_1, .int .i64 x192001_1, .int .i64 x192002_1, .bool x192003_1, .int .i64 x192004_1, .int .i64 x192005_1, .int .i64 x192006_1, .int .i64 x192007_1, .int .i64 x192008_1, .int .u32 x192009_1, .int .i64 x192010_1]] rfl (by (try simp only [List.map_toArray, List.map_cons, List.map_nil]); first | done | rfl | (simp only [List.length_drop, List.length_take]; rfl)) ?_; (with_reducible refine (path_Path_Failed.calls k1 x192000_1 x192001_1 x192002_1 x192003_1 x192004_1 x192005_1 x192006_1 x192007_1 x192008_1 x192009_1 x192010_1 t193 t194 t195 t196 t197 t198 t199 t200 t201 t202 t203 _ A6.out).mono ?_); rintro e w8 ⟨rfl, hb⟩; refine ⟨_, rfl, ?_⟩; have n0_ := A0 (blk_below (by (with_reducible repeat (first | refine q1 ?_ _ | refine q2 ?_ | refine q3 ?_ _)); exact BK191.out) hb); have n1_ := A0 (below_step (by repeat (first | (with_reducible first | exact HB.out | apply b1 | apply b2 | apply b3 | refine below_set ?_ GE191.out) | exact HB.out)) hb); clear BK191; clear HB; have BK191 := n0_; have HB := n1_; clear n0_ n1_; (try clear hb); (try clear hb2); (try clear hk); (try clear hi); have hcz9 := cc11 BK191.out))
          go_roundg k1
          case measure => have := HK1.out; omega
          case rel => exact ⟨(wrap64 (x10_1 + 1)), (t193), (t194), (t195), (t196), (t197), (t198), (t199), (t200), (t201), (t202), (t203), (by first | rfl | (simp; done) | (simp [*]; done)), H', ⟨by have := HK1.out; omega⟩, ⟨by (with_reducible repeat (first | refine q1 ?_ _ | refine q2 ?_ | refine q3 ?_ _)); refine blk_put (cs := #[.int .i64 t193, .int .i64 t194, .int .i64 t195, .bool t196, .int .i64 t197, .int .i64 t198, .int .i64 t199, .int .i64 t200, .int .i64 t201, .int .u32 t202, .int .i64 x192010_1]) ?_ 10 _ rfl; (with_reducible repeat (first | refine q1 ?_ _ | refine q2 ?_ | refine q3 ?_ _)); refine blk_put (cs := #[.int .i64 t193, .int .i64 t194, .int .i64 t195, .bool t196, .int .i64 t197, .int .i64 t198, .int .i64 t199, .int .i64 t200, .int .i64 t201, .int .u32 x192009_1, .int .i64 x192010_1]) ?_ 9 _ rfl; (with_reducible repeat (first | refine q1 ?_ _ | refine q2 ?_ | refine q3 ?_ _)); refine blk_put (cs := #[.int .i64 t193, .int .i64 t194, .int .i64 t195, .bool t196, .int .i64 t197, .int .i64 t198, .int .i64 t199, .int .i64 t200, .int .i64 x192008_1, .int .u32 x192009_1, .int .i64 x192010_1]) ?_ 8 _ rfl; (with_reducible repeat (first | refine q1 ?_ _ | refine q2 ?_ | refine q3 ?_ _)); refine blk_put (cs := #[.int .i64 t193, .int .i64 t194, .int .i64 t195, .bool t196, .int .i64 t197, .int .i64 t198, .int .i64 t199, .int .i64 x192007_1, .int .i64 x192008_1, .int .u32 x192009_1, .int .i64 x192010_1]) ?_ 7 _ rfl; (with_reducible repeat (first | refine q1 ?_ _ | refine q2 ?_ | refine q3 ?_ _)); refine blk_put (cs := #[.int .i64 t193, .int .i64 t194, .int .i64 t195, .bool t196, .int .i64 t197, .int .i64 t198, .int .i64 x192006_1, .int .i64 x192007_1, .int .i64 x192008_1, .int .u32 x192009_1, .int .i64 x192010_1]) ?_ 6 _ rfl; (with_reducible repeat (first | refine q1 ?_ _ | refine q2 ?_ | refine q3 ?_ _)); refine blk_put (cs := #[.int .i64 t193, .int .i64 t194, .int .i64 t195, .bool t196, .int .i64 t197, .int .i64 x192005_1, .int .i64 x192006_1, .int .i64 x192007_1, .int .i64 x192008_1, .int .u32 x192009_1, .int .i64 x192010_1]) ?_ 5 _ rfl; (with_reducible repeat (first | refine q1 ?_ _ | refine q2 ?_ | refine q3 ?_ _)); refine blk_put (cs := #[.int .i64 t193, .int .i64 t194, .int .i64 t195, .bool t196, .int .i64 x192004_1, .int .i64 x192005_1, .int .i64 x192006_1, .int .i64 x192007_1, .int .i64 x192008_1, .int .u32 x192009_1, .int .i64 x192010_1]) ?_ 4 _ rfl; (with_reducible repeat (first | refine q1 ?_ _ | refine q2 ?_ | refine q3 ?_ _)); refine blk_put (cs := #[.int .i64 t193, .int .i64 t194, .int .i64 t195, .bool x192003_1, .int .i64 x192004_1, .int .i64 x192005_1, .int .i64 x192006_1, .int .i64 x192007_1, .int .i64 x192008_1, .int .u32 x192009_1, .int .i64 x192010_1]) ?_ 3 _ rfl; (with_reducible repeat (first | refine q1 ?_ _ | refine q2 ?_ | refine q3 ?_ _)); refine blk_put (cs := #[.int .i64 t193, .int .i64 t194, .int .i64 x192002_1, .bool x192003_1, .int .i64 x192004_1, .int .i64 x192005_1, .int .i64 x192006_1, .int .i64 x192007_1, .int .i64 x192008_1, .int .u32 x192009_1, .int .i64 x192010_1]) ?_ 2 _ rfl; (with_reducible repeat (first | refine q1 ?_ _ | refine q2 ?_ | refine q3 ?_ _)); refine blk_put (cs := #[.int .i64 t193, .int .i64 x192001_1, .int .i64 x192002_1, .bool x192003_1, .int .i64 x192004_1, .int .i64 x192005_1, .int .i64 x192006_1, .int .i64 x192007_1, .int .i64 x192008_1, .int .u32 x192009_1, .int .i64 x192010_1]) ?_ 1 _ rfl; (with_reducible repeat (first | refine q1 ?_ _ | refine q2 ?_ | refine q3 ?_ _)); refine blk_put (cs := #[.int .i64 x192000_1, .int .i64 x192001_1, .int .i64 x192002_1, .bool x192003_1, .int .i64 x192004_1, .int .i64 x192005_1, .int .i64 x192006_1, .int .i64 x192007_1, .int .i64 x192008_1, .int .u32 x192009_1, .int .i64 x192010_1]) ?_ 0 _ rfl; (with_reducible repeat (first | refine q1 ?_ _ | refine q2 ?_ | refine q3 ?_ _)); exact BK191.out⟩, ⟨by repeat (first | (with_reducible first | exact HB.out | apply b1 | apply b2 | apply b3 | refine below_set ?_ GE191.out) | exact HB.out)⟩⟩
        · rw [if_neg c5] at H
          have c5b0 : decide (x10_1 < 5) = false := decide_eq_false c5
          clear c5
          replace H := Option.bind_eq_some_iff.mp H
          obtain ⟨t204, A100, H⟩ := H
          replace H : ((path_Path_Failed.f k1 x192000_1 x192001_1 x192002_1 x192003_1 x192004_1 x192005_1 x192006_1 x192007_1 x192008_1 x192009_1 x192010_1).bind fun bt205 => (if t204 = true then ((path_Path_Active.f k1 bt205.1 bt205.2.1 bt205.2.2.1 bt205.2.2.2.1 bt205.2.2.2.2.1 bt205.2.2.2.2.2.1 bt205.2.2.2.2.2.2.1 bt205.2.2.2.2.2.2.2.1 bt205.2.2.2.2.2.2.2.2.1 bt205.2.2.2.2.2.2.2.2.2.1 bt205.2.2.2.2.2.2.2.2.2.2).bind fun t216 => (if t216 = true then (some false) else ((path_Path_Heard.f k1 bt205.1 bt205.2.1 bt205.2.2.1 bt205.2.2.2.1 bt205.2.2.2.2.1 bt205.2.2.2.2.2.1 bt205.2.2.2.2.2.2.1 bt205.2.2.2.2.2.2.2.1 bt205.2.2.2.2.2.2.2.2.1 bt205.2.2.2.2.2.2.2.2.2.1 bt205.2.2.2.2.2.2.2.2.2.2).bind fun bt217 => ((path_Path_Active.f k1 bt217.1 bt217.2.1 bt217.2.2.1 bt217.2.2.2.1 bt217.2.2.2.2.1 bt217.2.2.2.2.2.1 bt217.2.2.2.2.2.2.1 bt217.2.2.2.2.2.2.2.1 bt217.2.2.2.2.2.2.2.2.1 bt217.2.2.2.2.2.2.2.2.2.1 bt217.2.2.2.2.2.2.2.2.2.2).bind fun t228 => (some t228))))) else (some false))) = some r := H
          have A10 := Aside0.mk A100
          clear A100
          replace H := Option.bind_eq_some_iff.mp H
          obtain ⟨⟨t205, t206, t207, t208, t209, t210, t211, t212, t213, t214, t215⟩, A110, H⟩ := H
          replace H : (if t204 = true then ((path_Path_Active.f k1 t205 t206 t207 t208 t209 t210 t211 t212 t213 t214 t215).bind fun t216 => (if t216 = true then (some false) else ((path_Path_Heard.f k1 t205 t206 t207 t208 t209 t210 t211 t212 t213 t214 t215).bind fun bt217 => ((path_Path_Active.f k1 bt217.1 bt217.2.1 bt217.2.2.1 bt217.2.2.2.1 bt217.2.2.2.2.1 bt217.2.2.2.2.2.1 bt217.2.2.2.2.2.2.1 bt217.2.2.2.2.2.2.2.1 bt217.2.2.2.2.2.2.2.2.1 bt217.2.2.2.2.2.2.2.2.2.1 bt217.2.2.2.2.2.2.2.2.2.2).bind fun t228 => (some t228))))) else (some false)) = some r := H
          have A11 := Aside0.mk A110
          clear A110
          by_cases c12 : t204 = true
          · subst c12
            have H1 : ((path_Path_Active.f k1 t205 t206 t207 t208 t209 t210 t211 t212 t213 t214 t215).bind fun t216 => (if t216 = true then (some false) else ((path_Path_Heard.f k1 t205 t206 t207 t208 t209 t210 t211 t212 t213 t214 t215).bind fun bt217 => ((path_Path_Active.f k1 bt217.1 bt217.2.1 bt217.2.2.1 bt217.2.2.2.1 bt217.2.2.2.2.1 bt217.2.2.2.2.2.1 bt217.2.2.2.2.2.2.1 bt217.2.2.2.2.2.2.2.1 bt217.2.2.2.2.2.2.2.2.1 bt217.2.2.2.2.2.2.2.2.2.1 bt217.2.2.2.2.2.2.2.2.2.2).bind fun t228 => (some t228))))) = some r := by rw [if_pos rfl] at H; exact H
            clear H
            have H := H1
            clear H1
            replace H := Option.bind_eq_some_iff.mp H
            obtain ⟨t216, A130, H⟩ := H
            replace H : (if t216 = true then (some false) else ((path_Path_Heard.f k1 t205 t206 t207 t208 t209 t210 t211 t212 t213 t214 t215).bind fun bt217 => ((path_Path_Active.f k1 bt217.1 bt217.2.1 bt217.2.2.1 bt217.2.2.2.1 bt217.2.2.2.2.1 bt217.2.2.2.2.2.1 bt217.2.2.2.2.2.2.1 bt217.2.2.2.2.2.2.2.1 bt217.2.2.2.2.2.2.2.2.1 bt217.2.2.2.2.2.2.2.2.2.1 bt217.2.2.2.2.2.2.2.2.2.2).bind fun t228 => (some t228)))) = some r := H
            have A13 := Aside0.mk A130
            clear A130
            by_cases c14 : t216 = true
            · subst c14
              have H1 : (some false) = some r := by rw [if_pos rfl] at H; exact H
              clear H
              have H := H1
              clear H1
              obtain rfl := Option.some.inj H
              have hcz15 := cc11 BK191.out
              go_wp2_with (first | ((with_reducible refine gate_callee (f := 21) rfl ?_); refine goesL_ (some 16) rfl rfl Try.func21 (by kernel_rfl) rfl #[.agg #[.int .i64 x192000_1, .int .i64 x192001_1, .int .i64 x192002_1, .bool x192003_1, .int .i64 x192004_1, .int .i64 x192005_1, .int .i64 x192006_1, .int .i64 x192007_1, .int .i64 x192008_1, .int .u32 x192009_1, .int .i64 x192010_1]] rfl (by (try simp only [List.map_toArray, List.map_cons, List.map_nil]); first | done | rfl | (simp only [List.length_drop, List.length_take]; rfl)) ?_; (with_reducible refine (path_Path_Active.calls k1 x192000_1 x192001_1 x192002_1 x192003_1 x192004_1 x192005_1 x192006_1 x192007_1 x192008_1 x192009_1 x192010_1 true _ A10.out).mono ?_); rintro e w16 ⟨rfl, hb⟩; refine ⟨_, rfl, ?_⟩; have n0_ := A0 (blk_below (by (with_reducible repeat (first | refine q1 ?_ _ | refine q2 ?_ | refine q3 ?_ _)); exact BK191.out) hb); have n1_ := A0 (below_step (by repeat (first | (with_reducible first | exact HB.out | apply b1 | apply b2 | apply b3 | refine below_set ?_ GE191.out) | exact HB.out)) hb); clear BK191; clear HB; have BK191 := n0_; have HB := n1_; clear n0_ n1_; (try clear hb); (try clear hb2); (try clear hk); (try clear hi); have hcz17 := cc11 BK191.out) | ((with_reducible refine gate_callee (f := 23) rfl ?_); refine goesL_ (some 18) rfl rfl Try.func23 (by kernel_rfl) rfl #[.agg #[.int .i64 x192000_1, .int .i64 x192001_1, .int .i64 x192002_1, .bool x192003_1, .int .i64 x192004_1, .int .i64 x192005_1, .int .i64 x192006_1, .int .i64 x192007_1, .int .i64 x192008_1, .int .u32 x192009_1, .int .i64 x192010_1]] rfl (by (try simp only [List.map_toArray, List.map_cons, List.map_nil]); first | done | rfl | (simp only [List.length_drop, List.length_take]; rfl)) ?_; (with_reducible refine (path_Path_Failed.calls k1 x192000_1 x192001_1 x192002_1 x192003_1 x192004_1 x192005_1 x192006_1 x192007_1 x192008_1 x192009_1 x192010_1 t205 t206 t207 t208 t209 t210 t211 t212 t213 t214 t215 _ A11.out).mono ?_); rintro e w18 ⟨rfl, hb⟩; refine ⟨_, rfl, ?_⟩; have n0_ := A0 (blk_below (by (with_reducible repeat (first | refine q1 ?_ _ | refine q2 ?_ | refine q3 ?_ _)); exact BK191.out) hb); have n1_ := A0 (below_step (by repeat (first | (with_reducible first | exact HB.out | apply b1 | apply b2 | apply b3 | refine below_set ?_ GE191.out) | exact HB.out)) hb); clear BK191; clear HB; have BK191 := n0_; have HB := n1_; clear n0_ n1_; (try clear hb); (try clear hb2); (try clear hk); (try clear hi); have hcz19 := cc11 BK191.out) | (go_at_call 21; (with_reducible refine (path_Path_Active.calls k1 t205 t206 t207 t208 t209 t210 t211 t212 t213 t214 t215 true _ A13.out).mono ?_); rintro e w20 ⟨rfl, hb⟩; have n0_ := A0 (blk_below (g := gb191) (o := .cells #[.int .i64 t205, .int .i64 t206, .int .i64 t207, .bool t208, .int .i64 t209, .int .i64 t210, .int .i64 t211, .int .i64 t212, .int .i64 t213, .int .u32 t214, .int .i64 t215] 34 (0, 0)) (by (with_reducible repeat (first | refine q1 ?_ _ | refine q2 ?_ | refine q3 ?_ _)); refine blk_put (cs := #[.int .i64 t205, .int .i64 t206, .int .i64 t207, .bool t208, .int .i64 t209, .int .i64 t210, .int .i64 t211, .int .i64 t212, .int .i64 t213, .int .u32 t214, .int .i64 x192010_1]) ?_ 10 _ rfl; (with_reducible repeat (first | refine q1 ?_ _ | refine q2 ?_ | refine q3 ?_ _)); refine blk_put (cs := #[.int .i64 t205, .int .i64 t206, .int .i64 t207, .bool t208, .int .i64 t209, .int .i64 t210, .int .i64 t211, .int .i64 t212, .int .i64 t213, .int .u32 x192009_1, .int .i64 x192010_1]) ?_ 9 _ rfl; (with_reducible repeat (first | refine q1 ?_ _ | refine q2 ?_ | refine q3 ?_ _)); refine blk_put (cs := #[.int .i64 t205, .int .i64 t206, .int .i64 t207, .bool t208, .int .i64 t209, .int .i64 t210, .int .i64 t211, .int .i64 t212, .int .i64 x192008_1, .int .u32 x192009_1, .int .i64 x192010_1]) ?_ 8 _ rfl; (with_reducible repeat (first | refine q1 ?_ _ | refine q2 ?_ | refine q3 ?_ _)); refine blk_put (cs := #[.int .i64 t205, .int .i64 t206, .int .i64 t207, .bool t208, .int .i64 t209, .int .i64 t210, .int .i64 t211, .int .i64 x192007_1, .int .i64 x192008_1, .int .u32 x192009_1, .int .i64 x192010_1]) ?_ 7 _ rfl; (with_reducible repeat (first | refine q1 ?_ _ | refine q2 ?_ | refine q3 ?_ _)); refine blk_put (cs := #[.int .i64 t205, .int .i64 t206, .int .i64 t207, .bool t208, .int .i64 t209, .int .i64 t210, .int .i64 x192006_1, .int .i64 x192007_1, .int .i64 x192008_1, .int .u32 x192009_1, .int .i64 x192010_1]) ?_ 6 _ rfl; (with_reducible repeat (first | refine q1 ?_ _ | refine q2 ?_ | refine q3 ?_ _)); refine blk_put (cs := #[.int .i64 t205, .int .i64 t206, .int .i64 t207, .bool t208, .int .i64 t209, .int .i64 x192005_1, .int .i64 x192006_1, .int .i64 x192007_1, .int .i64 x192008_1, .int .u32 x192009_1, .int .i64 x192010_1]) ?_ 5 _ rfl; (with_reducible repeat (first | refine q1 ?_ _ | refine q2 ?_ | refine q3 ?_ _)); refine blk_put (cs := #[.int .i64 t205, .int .i64 t206, .int .i64 t207, .bool t208, .int .i64 x192004_1, .int .i64 x192005_1, .int .i64 x192006_1, .int .i64 x192007_1, .int .i64 x192008_1, .int .u32 x192009_1, .int .i64 x192010_1]) ?_ 4 _ rfl; (with_reducible repeat (first | refine q1 ?_ _ | refine q2 ?_ | refine q3 ?_ _)); refine blk_put (cs := #[.int .i64 t205, .int .i64 t206, .int .i64 t207, .bool x192003_1, .int .i64 x192004_1, .int .i64 x192005_1, .int .i64 x192006_1, .int .i64 x192007_1, .int .i64 x192008_1, .int .u32 x192009_1, .int .i64 x192010_1]) ?_ 3 _ rfl; (with_reducible repeat (first | refine q1 ?_ _ | refine q2 ?_ | refine q3 ?_ _)); refine blk_put (cs := #[.int .i64 t205, .int .i64 t206, .int .i64 x192002_1, .bool x192003_1, .int .i64 x192004_1, .int .i64 x192005_1, .int .i64 x192006_1, .int .i64 x192007_1, .int .i64 x192008_1, .int .u32 x192009_1, .int .i64 x192010_1]) ?_ 2 _ rfl; (with_reducible repeat (first | refine q1 ?_ _ | refine q2 ?_ | refine q3 ?_ _)); refine blk_put (cs := #[.int .i64 t205, .int .i64 x192001_1, .int .i64 x192002_1, .bool x192003_1, .int .i64 x192004_1, .int .i64 x192005_1, .int .i64 x192006_1, .int .i64 x192007_1, .int .i64 x192008_1, .int .u32 x192009_1, .int .i64 x192010_1]) ?_ 1 _ rfl; (with_reducible repeat (first | refine q1 ?_ _ | refine q2 ?_ | refine q3 ?_ _)); refine blk_put (cs := #[.int .i64 x192000_1, .int .i64 x192001_1, .int .i64 x192002_1, .bool x192003_1, .int .i64 x192004_1, .int .i64 x192005_1, .int .i64 x192006_1, .int .i64 x192007_1, .int .i64 x192008_1, .int .u32 x192009_1, .int .i64 x192010_1]) ?_ 0 _ rfl; (with_reducible repeat (first | refine q1 ?_ _ | refine q2 ?_ | refine q3 ?_ _)); exact BK191.out) hb); have n1_ := A0 (below_step (by repeat (first | (with_reducible first | exact HB.out | apply b1 | apply b2 | apply b3 | refine below_set ?_ GE191.out) | exact HB.out)) hb); clear BK191; clear HB; have BK191 := n0_; have HB := n1_; clear n0_ n1_; (try clear hb); (try clear hb2); (try clear hk); (try clear hi)))
              go_ret
              exact ⟨by first | rfl | (simp [errW_none, errW_some] <;> rfl) | (simp [*, errW_none, errW_some] <;> rfl), by repeat (first | (with_reducible first | exact HB.out | apply b1 | apply b2 | apply b3 | refine below_set ?_ GE191.out) | exact HB.out)⟩
            · replace c14 := Bool.eq_false_iff.mpr c14
              subst c14
              have H1 : ((path_Path_Heard.f k1 t205 t206 t207 t208 t209 t210 t211 t212 t213 t214 t215).bind fun bt217 => ((path_Path_Active.f k1 bt217.1 bt217.2.1 bt217.2.2.1 bt217.2.2.2.1 bt217.2.2.2.2.1 bt217.2.2.2.2.2.1 bt217.2.2.2.2.2.2.1 bt217.2.2.2.2.2.2.2.1 bt217.2.2.2.2.2.2.2.2.1 bt217.2.2.2.2.2.2.2.2.2.1 bt217.2.2.2.2.2.2.2.2.2.2).bind fun t228 => (some t228))) = some r := by rw [if_neg (show ¬ (false = true) by decide)] at H; exact H
              clear H
              have H := H1
              clear H1
              replace H := Option.bind_eq_some_iff.mp H
              obtain ⟨⟨t217, t218, t219, t220, t221, t222, t223, t224, t225, t226, t227⟩, A210, H⟩ := H
              replace H : ((path_Path_Active.f k1 t217 t218 t219 t220 t221 t222 t223 t224 t225 t226 t227).bind fun t228 => (some t228)) = some r := H
              have A21 := Aside0.mk A210
              clear A210
              replace H := Option.bind_eq_some_iff.mp H
              obtain ⟨t228, A220, H⟩ := H
              replace H : (some t228) = some r := H
              have A22 := Aside0.mk A220
              clear A220
              obtain rfl := Option.some.inj H
              have hcz23 := cc11 BK191.out
              go_wp2_with (first | ((with_reducible refine gate_callee (f := 21) rfl ?_); refine goesL_ (some 16) rfl rfl Try.func21 (by kernel_rfl) rfl #[.agg #[.int .i64 x192000_1, .int .i64 x192001_1, .int .i64 x192002_1, .bool x192003_1, .int .i64 x192004_1, .int .i64 x192005_1, .int .i64 x192006_1, .int .i64 x192007_1, .int .i64 x192008_1, .int .u32 x192009_1, .int .i64 x192010_1]] rfl (by (try simp only [List.map_toArray, List.map_cons, List.map_nil]); first | done | rfl | (simp only [List.length_drop, List.length_take]; rfl)) ?_; (with_reducible refine (path_Path_Active.calls k1 x192000_1 x192001_1 x192002_1 x192003_1 x192004_1 x192005_1 x192006_1 x192007_1 x192008_1 x192009_1 x192010_1 true _ A10.out).mono ?_); rintro e w24 ⟨rfl, hb⟩; refine ⟨_, rfl, ?_⟩; have n0_ := A0 (blk_below (by (with_reducible repeat (first | refine q1 ?_ _ | refine q2 ?_ | refine q3 ?_ _)); exact BK191.out) hb); have n1_ := A0 (below_step (by repeat (first | (with_reducible first | exact HB.out | apply b1 | apply b2 | apply b3 | refine below_set ?_ GE191.out) | exact HB.out)) hb); clear BK191; clear HB; have BK191 := n0_; have HB := n1_; clear n0_ n1_; (try clear hb); (try clear hb2); (try clear hk); (try clear hi); have hcz25 := cc11 BK191.out) | ((with_reducible refine gate_callee (f := 23) rfl ?_); refine goesL_ (some 18) rfl rfl Try.func23 (by kernel_rfl) rfl #[.agg #[.int .i64 x192000_1, .int .i64 x192001_1, .int .i64 x192002_1, .bool x192003_1, .int .i64 x192004_1, .int .i64 x192005_1, .int .i64 x192006_1, .int .i64 x192007_1, .int .i64 x192008_1, .int .u32 x192009_1, .int .i64 x192010_1]] rfl (by (try simp only [List.map_toArray, List.map_cons, List.map_nil]); first | done | rfl | (simp only [List.length_drop, List.length_take]; rfl)) ?_; (with_reducible refine (path_Path_Failed.calls k1 x192000_1 x192001_1 x192002_1 x192003_1 x192004_1 x192005_1 x192006_1 x192007_1 x192008_1 x192009_1 x192010_1 t205 t206 t207 t208 t209 t210 t211 t212 t213 t214 t215 _ A11.out).mono ?_); rintro e w26 ⟨rfl, hb⟩; refine ⟨_, rfl, ?_⟩; have n0_ := A0 (blk_below (by (with_reducible repeat (first | refine q1 ?_ _ | refine q2 ?_ | refine q3 ?_ _)); exact BK191.out) hb); have n1_ := A0 (below_step (by repeat (first | (with_reducible first | exact HB.out | apply b1 | apply b2 | apply b3 | refine below_set ?_ GE191.out) | exact HB.out)) hb); clear BK191; clear HB; have BK191 := n0_; have HB := n1_; clear n0_ n1_; (try clear hb); (try clear hb2); (try clear hk); (try clear hi); have hcz27 := cc11 BK191.out) | (go_at_call 21; (with_reducible refine (path_Path_Active.calls k1 t205 t206 t207 t208 t209 t210 t211 t212 t213 t214 t215 false _ A13.out).mono ?_); rintro e w28 ⟨rfl, hb⟩; have n0_ := A0 (blk_below (g := gb191) (o := .cells #[.int .i64 t205, .int .i64 t206, .int .i64 t207, .bool t208, .int .i64 t209, .int .i64 t210, .int .i64 t211, .int .i64 t212, .int .i64 t213, .int .u32 t214, .int .i64 t215] 34 (0, 0)) (by (with_reducible repeat (first | refine q1 ?_ _ | refine q2 ?_ | refine q3 ?_ _)); refine blk_put (cs := #[.int .i64 t205, .int .i64 t206, .int .i64 t207, .bool t208, .int .i64 t209, .int .i64 t210, .int .i64 t211, .int .i64 t212, .int .i64 t213, .int .u32 t214, .int .i64 x192010_1]) ?_ 10 _ rfl; (with_reducible repeat (first | refine q1 ?_ _ | refine q2 ?_ | refine q3 ?_ _)); refine blk_put (cs := #[.int .i64 t205, .int .i64 t206, .int .i64 t207, .bool t208, .int .i64 t209, .int .i64 t210, .int .i64 t211, .int .i64 t212, .int .i64 t213, .int .u32 x192009_1, .int .i64 x192010_1]) ?_ 9 _ rfl; (with_reducible repeat (first | refine q1 ?_ _ | refine q2 ?_ | refine q3 ?_ _)); refine blk_put (cs := #[.int .i64 t205, .int .i64 t206, .int .i64 t207, .bool t208, .int .i64 t209, .int .i64 t210, .int .i64 t211, .int .i64 t212, .int .i64 x192008_1, .int .u32 x192009_1, .int .i64 x192010_1]) ?_ 8 _ rfl; (with_reducible repeat (first | refine q1 ?_ _ | refine q2 ?_ | refine q3 ?_ _)); refine blk_put (cs := #[.int .i64 t205, .int .i64 t206, .int .i64 t207, .bool t208, .int .i64 t209, .int .i64 t210, .int .i64 t211, .int .i64 x192007_1, .int .i64 x192008_1, .int .u32 x192009_1, .int .i64 x192010_1]) ?_ 7 _ rfl; (with_reducible repeat (first | refine q1 ?_ _ | refine q2 ?_ | refine q3 ?_ _)); refine blk_put (cs := #[.int .i64 t205, .int .i64 t206, .int .i64 t207, .bool t208, .int .i64 t209, .int .i64 t210, .int .i64 x192006_1, .int .i64 x192007_1, .int .i64 x192008_1, .int .u32 x192009_1, .int .i64 x192010_1]) ?_ 6 _ rfl; (with_reducible repeat (first | refine q1 ?_ _ | refine q2 ?_ | refine q3 ?_ _)); refine blk_put (cs := #[.int .i64 t205, .int .i64 t206, .int .i64 t207, .bool t208, .int .i64 t209, .int .i64 x192005_1, .int .i64 x192006_1, .int .i64 x192007_1, .int .i64 x192008_1, .int .u32 x192009_1, .int .i64 x192010_1]) ?_ 5 _ rfl; (with_reducible repeat (first | refine q1 ?_ _ | refine q2 ?_ | refine q3 ?_ _)); refine blk_put (cs := #[.int .i64 t205, .int .i64 t206, .int .i64 t207, .bool t208, .int .i64 x192004_1, .int .i64 x192005_1, .int .i64 x192006_1, .int .i64 x192007_1, .int .i64 x192008_1, .int .u32 x192009_1, .int .i64 x192010_1]) ?_ 4 _ rfl; (with_reducible repeat (first | refine q1 ?_ _ | refine q2 ?_ | refine q3 ?_ _)); refine blk_put (cs := #[.int .i64 t205, .int .i64 t206, .int .i64 t207, .bool x192003_1, .int .i64 x192004_1, .int .i64 x192005_1, .int .i64 x192006_1, .int .i64 x192007_1, .int .i64 x192008_1, .int .u32 x192009_1, .int .i64 x192010_1]) ?_ 3 _ rfl; (with_reducible repeat (first | refine q1 ?_ _ | refine q2 ?_ | refine q3 ?_ _)); refine blk_put (cs := #[.int .i64 t205, .int .i64 t206, .int .i64 x192002_1, .bool x192003_1, .int .i64 x192004_1, .int .i64 x192005_1, .int .i64 x192006_1, .int .i64 x192007_1, .int .i64 x192008_1, .int .u32 x192009_1, .int .i64 x192010_1]) ?_ 2 _ rfl; (with_reducible repeat (first | refine q1 ?_ _ | refine q2 ?_ | refine q3 ?_ _)); refine blk_put (cs := #[.int .i64 t205, .int .i64 x192001_1, .int .i64 x192002_1, .bool x192003_1, .int .i64 x192004_1, .int .i64 x192005_1, .int .i64 x192006_1, .int .i64 x192007_1, .int .i64 x192008_1, .int .u32 x192009_1, .int .i64 x192010_1]) ?_ 1 _ rfl; (with_reducible repeat (first | refine q1 ?_ _ | refine q2 ?_ | refine q3 ?_ _)); refine blk_put (cs := #[.int .i64 x192000_1, .int .i64 x192001_1, .int .i64 x192002_1, .bool x192003_1, .int .i64 x192004_1, .int .i64 x192005_1, .int .i64 x192006_1, .int .i64 x192007_1, .int .i64 x192008_1, .int .u32 x192009_1, .int .i64 x192010_1]) ?_ 0 _ rfl; (with_reducible repeat (first | refine q1 ?_ _ | refine q2 ?_ | refine q3 ?_ _)); exact BK191.out) hb); have n1_ := A0 (below_step (by repeat (first | (with_reducible first | exact HB.out | apply b1 | apply b2 | apply b3 | refine below_set ?_ GE191.out) | exact HB.out)) hb); clear BK191; clear HB; have BK191 := n0_; have HB := n1_; clear n0_ n1_; (try clear hb); (try clear hb2); (try clear hk); (try clear hi); have hcz29 := cc11 BK191.out) | (go_at_call 25; (with_reducible refine (path_Path_Heard.calls k1 t205 t206 t207 t208 t209 t210 t211 t212 t213 t214 t215 t217 t218 t219 t220 t221 t222 t223 t224 t225 t226 t227 _ A21.out).mono ?_); rintro e w30 ⟨rfl, hb⟩; have n0_ := A0 (blk_below (by (with_reducible repeat (first | refine q1 ?_ _ | refine q2 ?_ | refine q3 ?_ _)); exact BK191.out) hb); have n1_ := A0 (below_step (by repeat (first | (with_reducible first | exact HB.out | apply b1 | apply b2 | apply b3 | refine below_set ?_ GE191.out) | exact HB.out)) hb); clear BK191; clear HB; have BK191 := n0_; have HB := n1_; clear n0_ n1_; (try clear hb); (try clear hb2); (try clear hk); (try clear hi)) | (go_at_call 21; (with_reducible refine (path_Path_Active.calls k1 t217 t218 t219 t220 t221 t222 t223 t224 t225 t226 t227 t228 _ A22.out).mono ?_); rintro e w31 ⟨rfl, hb⟩; have n0_ := A0 (blk_below (by (with_reducible repeat (first | refine q1 ?_ _ | refine q2 ?_ | refine q3 ?_ _)); exact BK191.out) hb); have n1_ := A0 (below_step (by repeat (first | (with_reducible first | exact HB.out | apply b1 | apply b2 | apply b3 | refine below_set ?_ GE191.out) | exact HB.out)) hb); clear BK191; clear HB; have BK191 := n0_; have HB := n1_; clear n0_ n1_; (try clear hb); (try clear hb2); (try clear hk); (try clear hi)))
              go_ret
              exact ⟨by first | rfl | (simp [errW_none, errW_some] <;> rfl) | (simp [*, errW_none, errW_some] <;> rfl), by repeat (first | (with_reducible first | exact HB.out | apply b1 | apply b2 | apply b3 | refine below_set ?_ GE191.out) | exact HB.out)⟩
          · replace c12 := Bool.eq_false_iff.mpr c12
            subst c12
            have H1 : (some false) = some r := by rw [if_neg (show ¬ (false = true) by decide)] at H; exact H
            clear H
            have H := H1
            clear H1
            obtain rfl := Option.some.inj H
            have hcz32 := cc11 BK191.out
            go_wp2_with (first | ((with_reducible refine gate_callee (f := 21) rfl ?_); refine goesL_ (some 16) rfl rfl Try.func21 (by kernel_rfl) rfl #[.agg #[.int .i64 x192000_1, .int .i64 x192001_1, .int .i64 x192002_1, .bool x192003_1, .int .i64 x192004_1, .int .i64 x192005_1, .int .i64 x192006_1, .int .i64 x192007_1, .int .i64 x192008_1, .int .u32 x192009_1, .int .i64 x192010_1]] rfl (by (try simp only [List.map_toArray, List.map_cons, List.map_nil]); first | done | rfl | (simp only [List.length_drop, List.length_take]; rfl)) ?_; (with_reducible refine (path_Path_Active.calls k1 x192000_1 x192001_1 x192002_1 x192003_1 x192004_1 x192005_1 x192006_1 x192007_1 x192008_1 x192009_1 x192010_1 false _ A10.out).mono ?_); rintro e w33 ⟨rfl, hb⟩; refine ⟨_, rfl, ?_⟩; have n0_ := A0 (blk_below (by (with_reducible repeat (first | refine q1 ?_ _ | refine q2 ?_ | refine q3 ?_ _)); exact BK191.out) hb); have n1_ := A0 (below_step (by repeat (first | (with_reducible first | exact HB.out | apply b1 | apply b2 | apply b3 | refine below_set ?_ GE191.out) | exact HB.out)) hb); clear BK191; clear HB; have BK191 := n0_; have HB := n1_; clear n0_ n1_; (try clear hb); (try clear hb2); (try clear hk); (try clear hi); have hcz34 := cc11 BK191.out) | ((with_reducible refine gate_callee (f := 23) rfl ?_); refine goesL_ (some 18) rfl rfl Try.func23 (by kernel_rfl) rfl #[.agg #[.int .i64 x192000_1, .int .i64 x192001_1, .int .i64 x192002_1, .bool x192003_1, .int .i64 x192004_1, .int .i64 x192005_1, .int .i64 x192006_1, .int .i64 x192007_1, .int .i64 x192008_1, .int .u32 x192009_1, .int .i64 x192010_1]] rfl (by (try simp only [List.map_toArray, List.map_cons, List.map_nil]); first | done | rfl | (simp only [List.length_drop, List.length_take]; rfl)) ?_; (with_reducible refine (path_Path_Failed.calls k1 x192000_1 x192001_1 x192002_1 x192003_1 x192004_1 x192005_1 x192006_1 x192007_1 x192008_1 x192009_1 x192010_1 t205 t206 t207 t208 t209 t210 t211 t212 t213 t214 t215 _ A11.out).mono ?_); rintro e w35 ⟨rfl, hb⟩; refine ⟨_, rfl, ?_⟩; have n0_ := A0 (blk_below (by (with_reducible repeat (first | refine q1 ?_ _ | refine q2 ?_ | refine q3 ?_ _)); exact BK191.out) hb); have n1_ := A0 (below_step (by repeat (first | (with_reducible first | exact HB.out | apply b1 | apply b2 | apply b3 | refine below_set ?_ GE191.out) | exact HB.out)) hb); clear BK191; clear HB; have BK191 := n0_; have HB := n1_; clear n0_ n1_; (try clear hb); (try clear hb2); (try clear hk); (try clear hi); have hcz36 := cc11 BK191.out))
            go_ret
            exact ⟨by first | rfl | (simp [errW_none, errW_some] <;> rfl) | (simp [*, errW_none, errW_some] <;> rfl), by repeat (first | (with_reducible first | exact HB.out | apply b1 | apply b2 | apply b3 | refine below_set ?_ GE191.out) | exact HB.out)⟩
  · have H1 : (some false) = some r := by rw [if_neg (show ¬ (some q192).isNone = true by simp)] at H; exact H
    clear H
    have H := H1
    clear H1
    try simp only [errW_none, errW_some]
    obtain rfl := Option.some.inj H
    go_enter Try.func11, Try.ntmps11
    go_wp2_with (first | ((with_reducible refine gate_callee (f := 13) rfl ?_); refine goesL_ (some 5) rfl rfl Try.func13 (by kernel_rfl) rfl #[.int .i64 7] rfl (by (try simp only [List.map_toArray, List.map_cons, List.map_nil]); first | done | rfl | (simp only [List.length_drop, List.length_take]; rfl)) ?_; (with_reducible refine (path_New.calls 7 t179 t180 t181 t182 t183 t184 t185 t186 t187 t188 t189 (some q192) _ A1.out).mono ?_); rintro e w37 ⟨rfl, hb⟩; refine ⟨_, rfl, ?_⟩; have n0_ := A0 (below_step (by repeat (first | (with_reducible first | exact HB.out | apply b1 | apply b2 | apply b3) | exact HB.out)) hb); clear HB; have HB := n0_; clear n0_; (try clear hb); (try clear hb2); (try clear hk); (try clear hi); (try simp only [errW_none, errW_some])) | ((with_reducible refine gate_dst (N := 1) rfl ?_); refine box_event ?hg (N := 1) ?hd (cs := #[.int .i64 0, .int .i64 0, .int .i64 0, .bool false, .int .i64 0, .int .i64 0, .int .i64 0, .int .i64 0, .int .i64 0, .int .u32 0, .int .i64 0]) (t := 34) ?hr ?_; (case hd => rfl); (case hg => rfl); (case hr => first | (go_simp; done) | (go_simp; rfl)); intro gb191 hg w38 hbox hb; have n0_ := A0 (below_step (by repeat (first | (with_reducible first | exact HB.out | apply b1 | apply b2 | apply b3) | exact HB.out)) hb); have n1_ := A0 (hbox); have n2_ := A0 ((by rw [hg]; exact (below_size (by repeat (first | (with_reducible first | exact HB.out | apply b1 | apply b2 | apply b3) | exact HB.out))) : w.heap.size ≤ gb191)); have n3_ := n2_; clear HB; have HB := n0_; have BK191 := n1_; have GW191 := n2_; have GE191 := n3_; clear n0_ n1_ n2_ n3_; clear hb hbox hg; have hcz39 := cc11 BK191.out))
    go_ret
    exact ⟨by first | rfl | (simp [errW_none, errW_some] <;> rfl) | (simp [*, errW_none, errW_some] <;> rfl), by repeat (first | (with_reducible first | exact HB.out | apply b1 | apply b2 | apply b3 | refine below_set ?_ GE191.out) | exact HB.out)⟩

end Go.Proofs.Ytblooffiggciiaa.PAll
/- PAllx40 -/
namespace Go.Proofs.Ytblooffiggciiaa.PAll
open Go.RowKit Go.Proofs.YtblooffiggciiaaW.PrintWords Go.Proofs.YtblooffiggciiaaW.PrintLast Go.Proofs.YtblooffiggciiaaW.PrintMore Go.Proofs.Ytblooffiggciiaa.Sh
attribute [local go_sem] max2_int min2_int max_two min_two max_three min_three max_four min_four   -- for this text's walks alone
attribute [local go_sem] Go.Proofs.Ytblooffiggciiaa.Aid.isSome_setCell
set_option linter.unusedVariables false
set_option linter.unusedSimpArgs false
def path_Path_Missed.f (k : Nat) (a0_0 : Int) (a0_1 : Int) (a0_2 : Int) (a0_3 : Bool) (a0_4 : Int) (a0_5 : Int) (a0_6 : Int) (a0_7 : Int) (a0_8 : Int) (a0_9 : Int) (a0_10 : Int) : Option (Int × Int × Int × Bool × Int × Int × Int × Int × Int × Int × Int) := (path_Good.f k a0_0 a0_1 a0_2 a0_3 a0_4 a0_5 a0_6 a0_7 a0_8 a0_9 a0_10).bind fun t304 => (if t304 = true then (if a0_9 = 0 then (some (a0_0, a0_1, a0_2, a0_3, a0_4, a0_5, a0_6, a0_7, a0_8, a0_9, a0_10)) else ((path_Path_worse.f k a0_0 a0_1 a0_2 a0_3 a0_4 a0_5 a0_6 a0_7 a0_8 0 0).bind fun bt305 => (some (bt305.1, bt305.2.1, bt305.2.2.1, bt305.2.2.2.1, bt305.2.2.2.2.1, bt305.2.2.2.2.2.1, bt305.2.2.2.2.2.2.1, bt305.2.2.2.2.2.2.2.1, bt305.2.2.2.2.2.2.2.2.1, bt305.2.2.2.2.2.2.2.2.2.1, bt305.2.2.2.2.2.2.2.2.2.2)))) else (some (a0_0, a0_1, a0_2, a0_3, a0_4, a0_5, a0_6, a0_7, a0_8, a0_9, a0_10)))
set_option maxHeartbeats 8000000 in
set_option maxRecDepth 100000 in
theorem path_Path_Missed.calls (k : Nat) (a0_0 : Int) (a0_1 : Int) (a0_2 : Int) (a0_3 : Bool) (a0_4 : Int) (a0_5 : Int) (a0_6 : Int) (a0_7 : Int) (a0_8 : Int) (a0_9 : Int) (a0_10 : Int) (r1 : Int) (r2 : Int) (r3 : Int) (r4 : Bool) (r5 : Int) (r6 : Int) (r7 : Int) (r8 : Int) (r9 : Int) (r10 : Int) (r11 : Int) (w : World) (h : path_Path_Missed.f k a0_0 a0_1 a0_2 a0_3 a0_4 a0_5 a0_6 a0_7 a0_8 a0_9 a0_10 = some (r1, r2, r3, r4, r5, r6, r7, r8, r9, r10, r11)) :
    Calls Try.prog 27 #[.agg #[.int .i64 a0_0, .int .i64 a0_1, .int .i64 a0_2, .bool a0_3, .int .i64 a0_4, .int .i64 a0_5, .int .i64 a0_6, .int .i64 a0_7, .int .i64 a0_8, .int .u32 a0_9, .int .i64 a0_10]] w fun e w' => e = .returned (.agg #[.int .i64 r1, .int .i64 r2, .int .i64 r3, .bool r4, .int .i64 r5, .int .i64 r6, .int .i64 r7, .int .i64 r8, .int .i64 r9, .int .u32 r10, .int .i64 r11]) ∧ Below w.heap.size w w' := by
  have hu34 := Try.underlying34
  have HB := A0 (Below.refl w.heap.size w)
  have H : ((path_Good.f k a0_0 a0_1 a0_2 a0_3 a0_4 a0_5 a0_6 a0_7 a0_8 a0_9 a0_10).bind fun t304 => (if t304 = true then (if a0_9 = 0 then (some (a0_0, a0_1, a0_2, a0_3, a0_4, a0_5, a0_6, a0_7, a0_8, a0_9, a0_10)) else ((path_Path_worse.f k a0_0 a0_1 a0_2 a0_3 a0_4 a0_5 a0_6 a0_7 a0_8 0 0).bind fun bt305 => (some (bt305.1, bt305.2.1, bt305.2.2.1, bt305.2.2.2.1, bt305.2.2.2.2.1, bt305.2.2.2.2.2.1, bt305.2.2.2.2.2.2.1, bt305.2.2.2.2.2.2.2.1, bt305.2.2.2.2.2.2.2.2.1, bt305.2.2.2.2.2.2.2.2.2.1, bt305.2.2.2.2.2.2.2.2.2.2)))) else (some (a0_0, a0_1, a0_2, a0_3, a0_4, a0_5, a0_6, a0_7, a0_8, a0_9, a0_10)))) = some (r1, r2, r3, r4, r5, r6, r7, r8, r9, r10, r11) := h
  clear h
  replace H := Option.bind_eq_some_iff.mp H
  obtain ⟨t304, A20, H⟩ := H
  replace H : (if t304 = true then (if a0_9 = 0 then (some (a0_0, a0_1, a0_2, a0_3, a0_4, a0_5, a0_6, a0_7, a0_8, a0_9, a0_10)) else ((path_Path_worse.f k a0_0 a0_1 a0_2 a0_3 a0_4 a0_5 a0_6 a0_7 a0_8 0 0).bind fun bt305 => (some (bt305.1, bt305.2.1, bt305.2.2.1, bt305.2.2.2.1, bt305.2.2.2.2.1, bt305.2.2.2.2.2.1, bt305.2.2.2.2.2.2.1, bt305.2.2.2.2.2.2.2.1, bt305.2.2.2.2.2.2.2.2.1, bt305.2.2.2.2.2.2.2.2.2.1, bt305.2.2.2.2.2.2.2.2.2.2)))) else (some (a0_0, a0_1, a0_2, a0_3, a0_4, a0_5, a0_6, a0_7, a0_8, a0_9, a0_10))) = some (r1, r2, r3, r4, r5, r6, r7, r8, r9, r10, r11) := H
  have A2 := Aside0.mk A20
  clear A20
  by_cases c3 : t304 = true
  · subst c3
    have H1 : (if a0_9 = 0 then (some (a0_0, a0_1, a0_2, a0_3, a0_4, a0_5, a0_6, a0_7, a0_8, a0_9, a0_10)) else ((path_Path_worse.f k a0_0 a0_1 a0_2 a0_3 a0_4 a0_5 a0_6 a0_7 a0_8 0 0).bind fun bt305 => (some (bt305.1, bt305.2.1, bt305.2.2.1, bt305.2.2.2.1, bt305.2.2.2.2.1, bt305.2.2.2.2.2.1, bt305.2.2.2.2.2.2.1, bt305.2.2.2.2.2.2.2.1, bt305.2.2.2.2.2.2.2.2.1, bt305.2.2.2.2.2.2.2.2.2.1, bt305.2.2.2.2.2.2.2.2.2.2)))) = some (r1, r2, r3, r4, r5, r6, r7, r8, r9, r10, r11) := by rw [if_pos rfl] at H; exact H
    clear H
    have H := H1
    clear H1
    by_cases c4 : a0_9 = 0
    · rw [if_pos c4] at H
      have c4b0 : (a0_9 == 0) = true := beq_iff_eq.mpr c4
      have c4b1 : (a0_9 != 0) = false := bne_eq_false_iff_eq.mpr c4
      clear c4
      simp only [Option.some.injEq, Prod.mk.injEq] at H
      obtain ⟨rfl, rfl, rfl, rfl, rfl, rfl, rfl, rfl, rfl, rfl, rfl⟩ := H
      go_enter Try.func27, Try.ntmps27
      go_wp2_with (first | ((with_reducible refine gate_dst (N := 1) rfl ?_); refine box_event ?hg (N := 1) ?hd (cs := #[.int .i64 a0_0, .int .i64 a0_1, .int .i64 a0_2, .bool a0_3, .int .i64 a0_4, .int .i64 a0_5, .int .i64 a0_6, .int .i64 a0_7, .int .i64 a0_8, .int .u32 a0_9, .int .i64 a0_10]) (t := 34) ?hr ?_; (case hd => rfl); (case hg => rfl); (case hr => first | (go_simp; done) | (go_simp; rfl)); intro gb302 hg w5 hbox hb; have n0_ := A0 (below_step (by repeat (first | (with_reducible first | exact HB.out | apply b1 | apply b2 | apply b3) | exact HB.out)) hb); have n1_ := A0 (hbox); have n2_ := A0 ((by rw [hg]; exact (below_size (by repeat (first | (with_reducible first | exact HB.out | apply b1 | apply b2 | apply b3) | exact HB.out))) : w.heap.size ≤ gb302)); have n3_ := n2_; clear HB; have HB := n0_; have BK302 := n1_; have GW302 := n2_; have GE302 := n3_; clear n0_ n1_ n2_ n3_; clear hb hbox hg) | ((with_reducible refine gate_dst (N := 2) rfl ?_); refine box_event ?hg (N := 2) ?hd (cs := #[.int .i64 0, .int .i64 0, .int .i64 0, .bool false, .int .i64 0, .int .i64 0, .int .i64 0, .int .i64 0, .int .i64 0, .int .u32 0, .int .i64 0]) (t := 34) ?hr ?_; (case hd => rfl); (case hg => rfl); (case hr => first | (go_simp; done) | (go_simp; rfl)); intro gb303 hg w6 hbox hb; have n0_ := A0 (blk_below (by (with_reducible repeat (first | refine q1 ?_ _ | refine q2 ?_ | refine q3 ?_ _)); exact BK302.out) hb); have n1_ := A0 (below_step (by repeat (first | (with_reducible first | exact HB.out | apply b1 | apply b2 | apply b3 | refine below_set ?_ GE302.out) | exact HB.out)) hb); have n2_ := A0 (hbox); have n3_ := A0 ((by rw [hg]; exact (below_size (by repeat (first | (with_reducible first | exact HB.out | apply b1 | apply b2 | apply b3 | refine below_set ?_ GE302.out) | exact HB.out))) : w.heap.size ≤ gb303)); have n4_ := n3_; have n5_ := A0 ((by rw [hg]; exact Nat.ne_of_lt (blk_lt (g := gb302) (o := .cells #[.int .i64 a0_0, .int .i64 a0_1, .int .i64 a0_2, .bool a0_3, .int .i64 a0_4, .int .i64 a0_5, .int .i64 a0_6, .int .i64 a0_7, .int .i64 a0_8, .int .u32 a0_9, .int .i64 a0_10] 34 (0, 0)) (by (with_reducible repeat (first | refine q1 ?_ _ | refine q2 ?_ | refine q3 ?_ _)); exact BK302.out)) : gb302 ≠ gb303)); have n6_ := A0 ((by rw [hg]; exact Nat.ne_of_gt (blk_lt (g := gb302) (o := .cells #[.int .i64 a0_0, .int .i64 a0_1, .int .i64 a0_2, .bool a0_3, .int .i64 a0_4, .int .i64 a0_5, .int .i64 a0_6, .int .i64 a0_7, .int .i64 a0_8, .int .u32 a0_9, .int .i64 a0_10] 34 (0, 0)) (by (with_reducible repeat (first | refine q1 ?_ _ | refine q2 ?_ | refine q3 ?_ _)); exact BK302.out)) : gb303 ≠ gb302)); clear BK302; clear HB; have BK302 := n0_; have HB := n1_; have BK303 := n2_; have GW303 := n3_; have GE303 := n4_; have NB302_303 := n5_; have NB303_302 := n6_; clear n0_ n1_ n2_ n3_ n4_ n5_ n6_; clear hb hbox hg; have hnb7 := NB302_303.out; have hnc7 := NB303_302.out; have hcz8 := cc11 BK302.out) | ((with_reducible refine gate_callee (f := 20) rfl ?_); refine goesL_ (some 4) rfl rfl Try.func20 (by kernel_rfl) rfl #[.agg #[.int .i64 a0_0, .int .i64 a0_1, .int .i64 a0_2, .bool a0_3, .int .i64 a0_4, .int .i64 a0_5, .int .i64 a0_6, .int .i64 a0_7, .int .i64 a0_8, .int .u32 a0_9, .int .i64 a0_10]] rfl (by (try simp only [List.map_toArray, List.map_cons, List.map_nil]); first | done | rfl | (simp only [List.length_drop, List.length_take]; rfl)) ?_; (with_reducible refine (path_Good.calls k a0_0 a0_1 a0_2 a0_3 a0_4 a0_5 a0_6 a0_7 a0_8 a0_9 a0_10 true _ A2.out).mono ?_); rintro e w9 ⟨rfl, hb⟩; refine ⟨_, rfl, ?_⟩; have n0_ := A0 (blk_below (by (with_reducible repeat (first | refine q1 ?_ _ | refine q2 ?_ | refine q3 ?_ _)); exact BK302.out) hb); have n1_ := A0 (blk_below (by (with_reducible repeat (first | refine q1 ?_ _ | refine q2 ?_ | refine q3 ?_ _)); exact BK303.out) hb); have n2_ := A0 (below_step (by repeat (first | (with_reducible first | exact HB.out | apply b1 | apply b2 | apply b3 | refine below_set ?_ GE302.out | refine below_set ?_ GE303.out) | exact HB.out)) hb); clear BK302; clear BK303; clear HB; have BK302 := n0_; have BK303 := n1_; have HB := n2_; clear n0_ n1_ n2_; (try clear hb); (try clear hb2); (try clear hk); (try clear hi); have hcz10 := cc11 BK302.out; have hcz11 := cc11 BK303.out))
      refine bodyPost_ret (results_cell_row rfl _ _ gb303 34 #[.int .i64 a0_0, .int .i64 a0_1, .int .i64 a0_2, .bool a0_3, .int .i64 a0_4, .int .i64 a0_5, .int .i64 a0_6, .int .i64 a0_7, .int .i64 a0_8, .int .u32 a0_9, .int .i64 a0_10] (0, 0) _ rfl (by (with_reducible repeat (first | refine q1 ?_ _ | refine q2 ?_ | refine q3 ?_ _)); refine blk_put (cs := #[.int .i64 a0_0, .int .i64 a0_1, .int .i64 a0_2, .bool a0_3, .int .i64 a0_4, .int .i64 a0_5, .int .i64 a0_6, .int .i64 a0_7, .int .i64 a0_8, .int .u32 a0_9, .int .i64 0]) ?_ 10 _ rfl; (with_reducible repeat (first | refine q1 ?_ _ | refine q2 ?_ | refine q3 ?_ _)); refine blk_put (cs := #[.int .i64 a0_0, .int .i64 a0_1, .int .i64 a0_2, .bool a0_3, .int .i64 a0_4, .int .i64 a0_5, .int .i64 a0_6, .int .i64 a0_7, .int .i64 a0_8, .int .u32 0, .int .i64 0]) ?_ 9 _ rfl; (with_reducible repeat (first | refine q1 ?_ _ | refine q2 ?_ | refine q3 ?_ _)); refine blk_put (cs := #[.int .i64 a0_0, .int .i64 a0_1, .int .i64 a0_2, .bool a0_3, .int .i64 a0_4, .int .i64 a0_5, .int .i64 a0_6, .int .i64 a0_7, .int .i64 0, .int .u32 0, .int .i64 0]) ?_ 8 _ rfl; (with_reducible repeat (first | refine q1 ?_ _ | refine q2 ?_ | refine q3 ?_ _)); refine blk_put (cs := #[.int .i64 a0_0, .int .i64 a0_1, .int .i64 a0_2, .bool a0_3, .int .i64 a0_4, .int .i64 a0_5, .int .i64 a0_6, .int .i64 0, .int .i64 0, .int .u32 0, .int .i64 0]) ?_ 7 _ rfl; (with_reducible repeat (first | refine q1 ?_ _ | refine q2 ?_ | refine q3 ?_ _)); refine blk_put (cs := #[.int .i64 a0_0, .int .i64 a0_1, .int .i64 a0_2, .bool a0_3, .int .i64 a0_4, .int .i64 a0_5, .int .i64 0, .int .i64 0, .int .i64 0, .int .u32 0, .int .i64 0]) ?_ 6 _ rfl; (with_reducible repeat (first | refine q1 ?_ _ | refine q2 ?_ | refine q3 ?_ _)); refine blk_put (cs := #[.int .i64 a0_0, .int .i64 a0_1, .int .i64 a0_2, .bool a0_3, .int .i64 a0_4, .int .i64 0, .int .i64 0, .int .i64 0, .int .i64 0, .int .u32 0, .int .i64 0]) ?_ 5 _ rfl; (with_reducible repeat (first | refine q1 ?_ _ | refine q2 ?_ | refine q3 ?_ _)); refine blk_put (cs := #[.int .i64 a0_0, .int .i64 a0_1, .int .i64 a0_2, .bool a0_3, .int .i64 0, .int .i64 0, .int .i64 0, .int .i64 0, .int .i64 0, .int .u32 0, .int .i64 0]) ?_ 4 _ rfl; (with_reducible repeat (first | refine q1 ?_ _ | refine q2 ?_ | refine q3 ?_ _)); refine blk_put (cs := #[.int .i64 a0_0, .int .i64 a0_1, .int .i64 a0_2, .bool false, .int .i64 0, .int .i64 0, .int .i64 0, .int .i64 0, .int .i64 0, .int .u32 0, .int .i64 0]) ?_ 3 _ rfl; (with_reducible repeat (first | refine q1 ?_ _ | refine q2 ?_ | refine q3 ?_ _)); refine blk_put (cs := #[.int .i64 a0_0, .int .i64 a0_1, .int .i64 0, .bool false, .int .i64 0, .int .i64 0, .int .i64 0, .int .i64 0, .int .i64 0, .int .u32 0, .int .i64 0]) ?_ 2 _ rfl; (with_reducible repeat (first | refine q1 ?_ _ | refine q2 ?_ | refine q3 ?_ _)); refine blk_put (cs := #[.int .i64 a0_0, .int .i64 0, .int .i64 0, .bool false, .int .i64 0, .int .i64 0, .int .i64 0, .int .i64 0, .int .i64 0, .int .u32 0, .int .i64 0]) ?_ 1 _ rfl; (with_reducible repeat (first | refine q1 ?_ _ | refine q2 ?_ | refine q3 ?_ _)); refine blk_put (cs := #[.int .i64 0, .int .i64 0, .int .i64 0, .bool false, .int .i64 0, .int .i64 0, .int .i64 0, .int .i64 0, .int .i64 0, .int .u32 0, .int .i64 0]) ?_ 0 _ rfl; (with_reducible repeat (first | refine q1 ?_ _ | refine q2 ?_ | refine q3 ?_ _)); exact BK303.out) Try.underlying34 rfl (by kernel_rfl)) rfl ?_
      exact ⟨by first | rfl | (simp [errW_none, errW_some] <;> rfl) | (simp [*, errW_none, errW_some] <;> rfl), by repeat (first | (with_reducible first | exact HB.out | apply b1 | apply b2 | apply b3 | refine below_set ?_ GE302.out | refine below_set ?_ GE303.out) | exact HB.out)⟩
    · rw [if_neg c4] at H
      have c4b0 : (a0_9 == 0) = false := beq_eq_false_iff_ne.mpr c4
      have c4b1 : (a0_9 != 0) = true := bne_iff_ne.mpr c4
      replace H := Option.bind_eq_some_iff.mp H
      obtain ⟨⟨t305, t306, t307, t308, t309, t310, t311, t312, t313, t314, t315⟩, A120, H⟩ := H
      replace H : (some (t305, t306, t307, t308, t309, t310, t311, t312, t313, t314, t315)) = some (r1, r2, r3, r4, r5, r6, r7, r8, r9, r10, r11) := H
      have A12 := Aside0.mk A120
      clear A120
      simp only [Option.some.injEq, Prod.mk.injEq] at H
      obtain ⟨rfl, rfl, rfl, rfl, rfl, rfl, rfl, rfl, rfl, rfl, rfl⟩ := H
      go_enter Try.func27, Try.ntmps27
      go_wp2_with (first | ((with_reducible refine gate_dst (N := 1) rfl ?_); refine box_event ?hg (N := 1) ?hd (cs := #[.int .i64 a0_0, .int .i64 a0_1, .int .i64 a0_2, .bool a0_3, .int .i64 a0_4, .int .i64 a0_5, .int .i64 a0_6, .int .i64 a0_7, .int .i64 a0_8, .int .u32 a0_9, .int .i64 a0_10]) (t := 34) ?hr ?_; (case hd => rfl); (case hg => rfl); (case hr => first | (go_simp; done) | (go_simp; rfl)); intro gb302 hg w13 hbox hb; have n0_ := A0 (below_step (by repeat (first | (with_reducible first | exact HB.out | apply b1 | apply b2 | apply b3) | exact HB.out)) hb); have n1_ := A0 (hbox); have n2_ := A0 ((by rw [hg]; exact (below_size (by repeat (first | (with_reducible first | exact HB.out | apply b1 | apply b2 | apply b3) | exact HB.out))) : w.heap.size ≤ gb302)); have n3_ := n2_; clear HB; have HB := n0_; have BK302 := n1_; have GW302 := n2_; have GE302 := n3_; clear n0_ n1_ n2_ n3_; clear hb hbox hg) | ((with_reducible refine gate_dst (N := 2) rfl ?_); refine box_event ?hg (N := 2) ?hd (cs := #[.int .i64 0, .int .i64 0, .int .i64 0, .bool false, .int .i64 0, .int .i64 0, .int .i64 0, .int .i64 0, .int .i64 0, .int .u32 0, .int .i64 0]) (t := 34) ?hr ?_; (case hd => rfl); (case hg => rfl); (case hr => first | (go_simp; done) | (go_simp; rfl)); intro gb303 hg w14 hbox hb; have n0_ := A0 (blk_below (by (with_reducible repeat (first | refine q1 ?_ _ | refine q2 ?_ | refine q3 ?_ _)); exact BK302.out) hb); have n1_ := A0 (below_step (by repeat (first | (with_reducible first | exact HB.out | apply b1 | apply b2 | apply b3 | refine below_set ?_ GE302.out) | exact HB.out)) hb); have n2_ := A0 (hbox); have n3_ := A0 ((by rw [hg]; exact (below_size (by repeat (first | (with_reducible first | exact HB.out | apply b1 | apply b2 | apply b3 | refine below_set ?_ GE302.out) | exact HB.out))) : w.heap.size ≤ gb303)); have n4_ := n3_; have n5_ := A0 ((by rw [hg]; exact Nat.ne_of_lt (blk_lt (g := gb302) (o := .cells #[.int .i64 a0_0, .int .i64 a0_1, .int .i64 a0_2, .bool a0_3, .int .i64 a0_4, .int .i64 a0_5, .int .i64 a0_6, .int .i64 a0_7, .int .i64 a0_8, .int .u32 a0_9, .int .i64 a0_10] 34 (0, 0)) (by (with_reducible repeat (first | refine q1 ?_ _ | refine q2 ?_ | refine q3 ?_ _)); exact BK302.out)) : gb302 ≠ gb303)); have n6_ := A0 ((by rw [hg]; exact Nat.ne_of_gt (blk_lt (g := gb302) (o := .cells #[.int .i64 a0_0, .int .i64 a0_1, .int .i64 a0_2, .bool a0_3, .int .i64 a0_4, .int .i64 a0_5, .int .i64 a0_6, .int .i64 a0_7, .int .i64 a0_8, .int .u32 a0_9, .int .i64 a0_10] 34 (0, 0)) (by (with_reducible repeat (first | refine q1 ?_ _ | refine q2 ?_ | refine q3 ?_ _)); exact BK302.out)) : gb303 ≠ gb302)); clear BK302; clear HB; have BK302 := n0_; have HB := n1_; have BK303 := n2_; have GW303 := n3_; have GE303 := n4_; have NB302_303 := n5_; have NB303_302 := n6_; clear n0_ n1_ n2_ n3_ n4_ n5_ n6_; clear hb hbox hg; have hnb15 := NB302_303.out; have hnc15 := NB303_302.out; have hcz16 := cc11 BK302.out) | ((with_reducible refine gate_callee (f := 20) rfl ?_); refine goesL_ (some 4) rfl rfl Try.func20 (by kernel_rfl) rfl #[.agg #[.int .i64 a0_0, .int .i64 a0_1, .int .i64 a0_2, .bool a0_3, .int .i64 a0_4, .int .i64 a0_5, .int .i64 a0_6, .int .i64 a0_7, .int .i64 a0_8, .int .u32 a0_9, .int .i64 a0_10]] rfl (by (try simp only [List.map_toArray, List.map_cons, List.map_nil]); first | done | rfl | (simp only [List.length_drop, List.length_take]; rfl)) ?_; (with_reducible refine (path_Good.calls k a0_0 a0_1 a0_2 a0_3 a0_4 a0_5 a0_6 a0_7 a0_8 a0_9 a0_10 true _ A2.out).mono ?_); rintro e w17 ⟨rfl, hb⟩; refine ⟨_, rfl, ?_⟩; have n0_ := A0 (blk_below (by (with_reducible repeat (first | refine q1 ?_ _ | refine q2 ?_ | refine q3 ?_ _)); exact BK302.out) hb); have n1_ := A0 (blk_below (by (with_reducible repeat (first | refine q1 ?_ _ | refine q2 ?_ | refine q3 ?_ _)); exact BK303.out) hb); have n2_ := A0 (below_step (by repeat (first | (with_reducible first | exact HB.out | apply b1 | apply b2 | apply b3 | refine below_set ?_ GE302.out | refine below_set ?_ GE303.out) | exact HB.out)) hb); clear BK302; clear BK303; clear HB; have BK302 := n0_; have BK303 := n1_; have HB := n2_; clear n0_ n1_ n2_; (try clear hb); (try clear hb2); (try clear hk); (try clear hi); have hcz18 := cc11 BK302.out) | ((with_reducible refine gate_callee (f := 76) rfl ?_); refine goesL_ (some 15) rfl rfl Try.func76 (by kernel_rfl) rfl #[.agg #[.int .i64 a0_0, .int .i64 a0_1, .int .i64 a0_2, .bool a0_3, .int .i64 a0_4, .int .i64 a0_5, .int .i64 a0_6, .int .i64 a0_7, .int .i64 a0_8, .int .u32 0, .int .i64 0]] rfl (by (try simp only [List.map_toArray, List.map_cons, List.map_nil]); first | done | rfl | (simp only [List.length_drop, List.length_take]; rfl)) ?_; (with_reducible refine (path_Path_worse.calls k a0_0 a0_1 a0_2 a0_3 a0_4 a0_5 a0_6 a0_7 a0_8 0 0 t305 t306 t307 t308 t309 t310 t311 t312 t313 t314 t315 _ A12.out).mono ?_); rintro e w19 ⟨rfl, hb⟩; refine ⟨_, rfl, ?_⟩; have n0_ := A0 (blk_below (g := gb302) (o := .cells #[.int .i64 a0_0, .int .i64 a0_1, .int .i64 a0_2, .bool a0_3, .int .i64 a0_4, .int .i64 a0_5, .int .i64 a0_6, .int .i64 a0_7, .int .i64 a0_8, .int .u32 0, .int .i64 0] 34 (0, 0)) (by (with_reducible repeat (first | refine q1 ?_ _ | refine q2 ?_ | refine q3 ?_ _)); refine blk_put (cs := #[.int .i64 a0_0, .int .i64 a0_1, .int .i64 a0_2, .bool a0_3, .int .i64 a0_4, .int .i64 a0_5, .int .i64 a0_6, .int .i64 a0_7, .int .i64 a0_8, .int .u32 0, .int .i64 a0_10]) ?_ 10 _ rfl; (with_reducible repeat (first | refine q1 ?_ _ | refine q2 ?_ | refine q3 ?_ _)); refine blk_put (cs := #[.int .i64 a0_0, .int .i64 a0_1, .int .i64 a0_2, .bool a0_3, .int .i64 a0_4, .int .i64 a0_5, .int .i64 a0_6, .int .i64 a0_7, .int .i64 a0_8, .int .u32 a0_9, .int .i64 a0_10]) ?_ 9 _ rfl; (with_reducible repeat (first | refine q1 ?_ _ | refine q2 ?_ | refine q3 ?_ _)); exact BK302.out) hb); have n1_ := A0 (blk_below (g := gb303) (o := .cells #[.int .i64 0, .int .i64 0, .int .i64 0, .bool false, .int .i64 0, .int .i64 0, .int .i64 0, .int .i64 0, .int .i64 0, .int .u32 0, .int .i64 0] 34 (0, 0)) (by (with_reducible repeat (first | refine q1 ?_ _ | refine q2 ?_ | refine q3 ?_ _)); refine blk_far ?_ NB303_302.out _; (with_reducible repeat (first | refine q1 ?_ _ | refine q2 ?_ | refine q3 ?_ _)); refine blk_far ?_ NB303_302.out _; (with_reducible repeat (first | refine q1 ?_ _ | refine q2 ?_ | refine q3 ?_ _)); exact BK303.out) hb); have n2_ := A0 (below_step (by repeat (first | (with_reducible first | exact HB.out | apply b1 | apply b2 | apply b3 | refine below_set ?_ GE302.out | refine below_set ?_ GE303.out) | exact HB.out)) hb); clear BK302; clear BK303; clear HB; have BK302 := n0_; have BK303 := n1_; have HB := n2_; clear n0_ n1_ n2_; (try clear hb); (try clear hb2); (try clear hk); (try clear hi); have hcz20 := cc11 BK303.out))
      refine bodyPost_ret (results_cell_row rfl _ _ gb303 34 #[.int .i64 t305, .int .i64 t306, .int .i64 t307, .bool t308, .int .i64 t309, .int .i64 t310, .int .i64 t311, .int .i64 t312, .int .i64 t313, .int .u32 t314, .int .i64 t315] (0, 0) _ rfl (by (with_reducible repeat (first | refine q1 ?_ _ | refine q2 ?_ | refine q3 ?_ _)); refine blk_put (cs := #[.int .i64 t305, .int .i64 t306, .int .i64 t307, .bool t308, .int .i64 t309, .int .i64 t310, .int .i64 t311, .int .i64 t312, .int .i64 t313, .int .u32 t314, .int .i64 0]) ?_ 10 _ rfl; (with_reducible repeat (first | refine q1 ?_ _ | refine q2 ?_ | refine q3 ?_ _)); refine blk_put (cs := #[.int .i64 t305, .int .i64 t306, .int .i64 t307, .bool t308, .int .i64 t309, .int .i64 t310, .int .i64 t311, .int .i64 t312, .int .i64 t313, .int .u32 0, .int .i64 0]) ?_ 9 _ rfl; (with_reducible repeat (first | refine q1 ?_ _ | refine q2 ?_ | refine q3 ?_ _)); refine blk_put (cs := #[.int .i64 t305, .int .i64 t306, .int .i64 t307, .bool t308, .int .i64 t309, .int .i64 t310, .int .i64 t311, .int .i64 t312, .int .i64 0, .int .u32 0, .int .i64 0]) ?_ 8 _ rfl; (with_reducible repeat (first | refine q1 ?_ _ | refine q2 ?_ | refine q3 ?_ _)); refine blk_put (cs := #[.int .i64 t305, .int .i64 t306, .int .i64 t307, .bool t308, .int .i64 t309, .int .i64 t310, .int .i64 t311, .int .i64 0, .int .i64 0, .int .u32 0, .int .i64 0]) ?_ 7 _ rfl; (with_reducible repeat (first | refine q1 ?_ _ | refine q2 ?_ | refine q3 ?_ _)); refine blk_put (cs := #[.int .i64 t305, .int .i64 t306, .int .i64 t307, .bool t308, .int .i64 t309, .int .i64 t310, .int .i64 0, .int .i64 0, .int .i64 0, .int .u32 0, .int .i64 0]) ?_ 6 _ rfl; (with_reducible repeat (first | refine q1 ?_ _ | refine q2 ?_ | refine q3 ?_ _)); refine blk_put (cs := #[.int .i64 t305, .int .i64 t306, .int .i64 t307, .bool t308, .int .i64 t309, .int .i64 0, .int .i64 0, .int .i64 0, .int .i64 0, .int .u32 0, .int .i64 0]) ?_ 5 _ rfl; (with_reducible repeat (first | refine q1 ?_ _ | refine q2 ?_ | refine q3 ?_ _)); refine blk_put (cs := #[.int .i64 t305, .int .i64 t306, .int .i64 t307, .bool t308, .int .i64 0, .int .i64 0, .int .i64 0, .int .i64 0, .int .i64 0, .int .u32 0, .int .i64 0]) ?_ 4 _ rfl; (with_reducible repeat (first | refine q1 ?_ _ | refine q2 ?_ | refine q3 ?_ _)); refine blk_put (cs := #[.int .i64 t305, .int .i64 t306, .int .i64 t307, .bool false, .int .i64 0, .int .i64 0, .int .i64 0, .int .i64 0, .int .i64 0, .int .u32 0, .int .i64 0]) ?_ 3 _ rfl; (with_reducible repeat (first | refine q1 ?_ _ | refine q2 ?_ | refine q3 ?_ _)); refine blk_put (cs := #[.int .i64 t305, .int .i64 t306, .int .i64 0, .bool false, .int .i64 0, .int .i64 0, .int .i64 0, .int .i64 0, .int .i64 0, .int .u32 0, .int .i64 0]) ?_ 2 _ rfl; (with_reducible repeat (first | refine q1 ?_ _ | refine q2 ?_ | refine q3 ?_ _)); refine blk_put (cs := #[.int .i64 t305, .int .i64 0, .int .i64 0, .bool false, .int .i64 0, .int .i64 0, .int .i64 0, .int .i64 0, .int .i64 0, .int .u32 0, .int .i64 0]) ?_ 1 _ rfl; (with_reducible repeat (first | refine q1 ?_ _ | refine q2 ?_ | refine q3 ?_ _)); refine blk_put (cs := #[.int .i64 0, .int .i64 0, .int .i64 0, .bool false, .int .i64 0, .int .i64 0, .int .i64 0, .int .i64 0, .int .i64 0, .int .u32 0, .int .i64 0]) ?_ 0 _ rfl; (with_reducible repeat (first | refine q1 ?_ _ | refine q2 ?_ | refine q3 ?_ _)); exact BK303.out) Try.underlying34 rfl (by kernel_rfl)) rfl ?_
      exact ⟨by first | rfl | (simp [errW_none, errW_some] <;> rfl) | (simp [*, errW_none, errW_some] <;> rfl), by repeat (first | (with_reducible first | exact HB.out | apply b1 | apply b2 | apply b3 | refine below_set ?_ GE302.out | refine below_set ?_ GE303.out) | exact HB.out)⟩
  · replace c3 := Bool.eq_false_iff.mpr c3
    subst c3
    have H1 : (some (a0_0, a0_1, a0_2, a0_3, a0_4, a0_5, a0_6, a0_7, a0_8, a0_9, a0_10)) = some (r1, r2, r3, r4, r5, r6, r7, r8, r9, r10, r11) := by rw [if_neg (show ¬ (false = true) by decide)] at H; exact H
    clear H
    have H := H1
    clear H1
    simp only [Option.some.injEq, Prod.mk.injEq] at H
    obtain ⟨rfl, rfl, rfl, rfl, rfl, rfl, rfl, rfl, rfl, rfl, rfl⟩ := H
    go_enter Try.func27, Try.ntmps27
    go_wp2_with (first | ((with_reducible refine gate_dst (N := 1) rfl ?_); refine box_event ?hg (N := 1) ?hd (cs := #[.int .i64 a0_0, .int .i64 a0_1, .int .i64 a0_2, .bool a0_3, .int .i64 a0_4, .int .i64 a0_5, .int .i64 a0_6, .int .i64 a0_7, .int .i64 a0_8, .int .u32 a0_9, .int .i64 a0_10]) (t := 34) ?hr ?_; (case hd => rfl); (case hg => rfl); (case hr => first | (go_simp; done) | (go_simp; rfl)); intro gb302 hg w21 hbox hb; have n0_ := A0 (below_step (by repeat (first | (with_reducible first | exact HB.out | apply b1 | apply b2 | apply b3) | exact HB.out)) hb); have n1_ := A0 (hbox); have n2_ := A0 ((by rw [hg]; exact (below_size (by repeat (first | (with_reducible first | exact HB.out | apply b1 | apply b2 | apply b3) | exact HB.out))) : w.heap.size ≤ gb302)); have n3_ := n2_; clear HB; have HB := n0_; have BK302 := n1_; have GW302 := n2_; have GE302 := n3_; clear n0_ n1_ n2_ n3_; clear hb hbox hg) | ((with_reducible refine gate_dst (N := 2) rfl ?_); refine box_event ?hg (N := 2) ?hd (cs := #[.int .i64 0, .int .i64 0, .int .i64 0, .bool false, .int .i64 0, .int .i64 0, .int .i64 0, .int .i64 0, .int .i64 0, .int .u32 0, .int .i64 0]) (t := 34) ?hr ?_; (case hd => rfl); (case hg => rfl); (case hr => first | (go_simp; done) | (go_simp; rfl)); intro gb303 hg w22 hbox hb; have n0_ := A0 (blk_below (by (with_reducible repeat (first | refine q1 ?_ _ | refine q2 ?_ | refine q3 ?_ _)); exact BK302.out) hb); have n1_ := A0 (below_step (by repeat (first | (with_reducible first | exact HB.out | apply b1 | apply b2 | apply b3 | refine below_set ?_ GE302.out) | exact HB.out)) hb); have n2_ := A0 (hbox); have n3_ := A0 ((by rw [hg]; exact (below_size (by repeat (first | (with_reducible first | exact HB.out | apply b1 | apply b2 | apply b3 | refine below_set ?_ GE302.out) | exact HB.out))) : w.heap.size ≤ gb303)); have n4_ := n3_; have n5_ := A0 ((by rw [hg]; exact Nat.ne_of_lt (blk_lt (g := gb302) (o := .cells #[.int .i64 a0_0, .int .i64 a0_1, .int .i64 a0_2, .bool a0_3, .int .i64 a0_4, .int .i64 a0_5, .int .i64 a0_6, .int .i64 a0_7, .int .i64 a0_8, .int .u32 a0_9, .int .i64 a0_10] 34 (0, 0)) (by (with_reducible repeat (first | refine q1 ?_ _ | refine q2 ?_ | refine q3 ?_ _)); exact BK302.out)) : gb302 ≠ gb303)); have n6_ := A0 ((by rw [hg]; exact Nat.ne_of_gt (blk_lt (g := gb302) (o := .cells #[.int .i64 a0_0, .int .i64 a0_1, .int .i64 a0_2, .bool a0_3, .int .i64 a0_4, .int .i64 a0_5, .int .i64 a0_6, .int .i64 a0_7, .int .i64 a0_8, .int .u32 a0_9, .int .i64 a0_10] 34 (0, 0)) (by (with_reducible repeat (first | refine q1 ?_ _ | refine q2 ?_ | refine q3 ?_ _)); exact BK302.out)) : gb303 ≠ gb302)); clear BK302; clear HB; have BK302 := n0_; have HB := n1_; have BK303 := n2_; have GW303 := n3_; have GE303 := n4_; have NB302_303 := n5_; have NB303_302 := n6_; clear n0_ n1_ n2_ n3_ n4_ n5_ n6_; clear hb hbox hg; have hnb23 := NB302_303.out; have hnc23 := NB303_302.out; have hcz24 := cc11 BK302.out) | ((with_reducible refine gate_callee (f := 20) rfl ?_); refine goesL_ (some 4) rfl rfl Try.func20 (by kernel_rfl) rfl #[.agg #[.int .i64 a0_0, .int .i64 a0_1, .int .i64 a0_2, .bool a0_3, .int .i64 a0_4, .int .i64 a0_5, .int .i64 a0_6, .int .i64 a0_7, .int .i64 a0_8, .int .u32 a0_9, .int .i64 a0_10]] rfl (by (try simp only [List.map_toArray, List.map_cons, List.map_nil]); first | done | rfl | (simp only [List.length_drop, List.length_take]; rfl)) ?_; (with_reducible refine (path_Good.calls k a0_0 a0_1 a0_2 a0_3 a0_4 a0_5 a0_6 a0_7 a0_8 a0_9 a0_10 false _ A2.out).mono ?_); rintro e w25 ⟨rfl, hb⟩; refine ⟨_, rfl, ?_⟩; have n0_ := A0 (blk_below (by (with_reducible repeat (first | refine q1 ?_ _ | refine q2 ?_ | refine q3 ?_ _)); exact BK302.out) hb); have n1_ := A0 (blk_below (by (with_reducible repeat (first | refine q1 ?_ _ | refine q2 ?_ | refine q3 ?_ _)); exact BK303.out) hb); have n2_ := A0 (below_step (by repeat (first | (with_reducible first | exact HB.out | apply b1 | apply b2 | apply b3 | refine below_set ?_ GE302.out | refine below_set ?_ GE303.out) | exact HB.out)) hb); clear BK302; clear BK303; clear HB; have BK302 := n0_; have BK303 := n1_; have HB := n2_; clear n0_ n1_ n2_; (try clear hb); (try clear hb2); (try clear hk); (try clear hi); have hcz26 := cc11 BK302.out; have hcz27 := cc11 BK303.out))
    refine bodyPost_ret (results_cell_row rfl _ _ gb303 34 #[.int .i64 a0_0, .int .i64 a0_1, .int .i64 a0_2, .bool a0_3, .int .i64 a0_4, .int .i64 a0_5, .int .i64 a0_6, .int .i64 a0_7, .int .i64 a0_8, .int .u32 a0_9, .int .i64 a0_10] (0, 0) _ rfl (by (with_reducible repeat (first | refine q1 ?_ _ | refine q2 ?_ | refine q3 ?_ _)); refine blk_put (cs := #[.int .i64 a0_0, .int .i64 a0_1, .int .i64 a0_2, .bool a0_3, .int .i64 a0_4, .int .i64 a0_5, .int .i64 a0_6, .int .i64 a0_7, .int .i64 a0_8, .int .u32 a0_9, .int .i64 0]) ?_ 10 _ rfl; (with_reducible repeat (first | refine q1 ?_ _ | refine q2 ?_ | refine q3 ?_ _)); refine blk_put (cs := #[.int .i64 a0_0, .int .i64 a0_1, .int .i64 a0_2, .bool a0_3, .int .i64 a0_4, .int .i64 a0_5, .int .i64 a0_6, .int .i64 a0_7, .int .i64 a0_8, .int .u32 0, .int .i64 0]) ?_ 9 _ rfl; (with_reducible repeat (first | refine q1 ?_ _ | refine q2 ?_ | refine q3 ?_ _)); refine blk_put (cs := #[.int .i64 a0_0, .int .i64 a0_1, .int .i64 a0_2, .bool a0_3, .int .i64 a0_4, .int .i64 a0_5, .int .i64 a0_6, .int .i64 a0_7, .int .i64 0, .int .u32 0, .int .i64 0]) ?_ 8 _ rfl; (with_reducible repeat (first | refine q1 ?_ _ | refine q2 ?_ | refine q3 ?_ _)); refine blk_put (cs := #[.int .i64 a0_0, .int .i64 a0_1, .int .i64 a0_2, .bool a0_3, .int .i64 a0_4, .int .i64 a0_5, .int .i64 a0_6, .int .i64 0, .int .i64 0, .int .u32 0, .int .i64 0]) ?_ 7 _ rfl; (with_reducible repeat (first | refine q1 ?_ _ | refine q2 ?_ | refine q3 ?_ _)); refine blk_put (cs := #[.int .i64 a0_0, .int .i64 a0_1, .int .i64 a0_2, .bool a0_3, .int .i64 a0_4, .int .i64 a0_5, .int .i64 0, .int .i64 0, .int .i64 0, .int .u32 0, .int .i64 0]) ?_ 6 _ rfl; (with_reducible repeat (first | refine q1 ?_ _ | refine q2 ?_ | refine q3 ?_ _)); refine blk_put (cs := #[.int .i64 a0_0, .int .i64 a0_1, .int .i64 a0_2, .bool a0_3, .int .i64 a0_4, .int .i64 0, .int .i64 0, .int .i64 0, .int .i64 0, .int .u32 0, .int .i64 0]) ?_ 5 _ rfl; (with_reducible repeat (first | refine q1 ?_ _ | refine q2 ?_ | refine q3 ?_ _)); refine blk_put (cs := #[.int .i64 a0_0, .int .i64 a0_1, .int .i64 a0_2, .bool a0_3, .int .i64 0, .int .i64 0, .int .i64 0, .int .i64 0, .int .i64 0, .int .u32 0, .int .i64 0]) ?_ 4 _ rfl; (with_reducible repeat (first | refine q1 ?_ _ | refine q2 ?_ | refine q3 ?_ _)); refine blk_put (cs := #[.int .i64 a0_0, .int .i64 a0_1, .int .i64 a0_2, .bool false, .int .i64 0, .int .i64 0, .int .i64 0, .int .i64 0, .int .i64 0, .int .u32 0, .int .i64 0]) ?_ 3 _ rfl; (with_reducible repeat (first | refine q1 ?_ _ | refine q2 ?_ | refine q3 ?_ _)); refine blk_put (cs := #[.int .i64 a0_0, .int .i64 a0_1, .int .i64 0, .bool false, .int .i64 0, .int .i64 0, .int .i64 0, .int .i64 0, .int .i64 0, .int .u32 0, .int .i64 0]) ?_ 2 _ rfl; (with_reducible repeat (first | refine q1 ?_ _ | refine q2 ?_ | refine q3 ?_ _)); refine blk_put (cs := #[.int .i64 a0_0, .int .i64 0, .int .i64 0, .bool false, .int .i64 0, .int .i64 0, .int .i64 0, .int .i64 0, .int .i64 0, .int .u32 0, .int .i64 0]) ?_ 1 _ rfl; (with_reducible repeat (first | refine q1 ?_ _ | refine q2 ?_ | refine q3 ?_ _)); refine blk_put (cs := #[.int .i64 0, .int .i64 0, .int .i64 0, .bool false, .int .i64 0, .int .i64 0, .int .i64 0, .int .i64 0, .int .i64 0, .int .u32 0, .int .i64 0]) ?_ 0 _ rfl; (with_reducible repeat (first | refine q1 ?_ _ | refine q2 ?_ | refine q3 ?_ _)); exact BK303.out) Try.underlying34 rfl (by kernel_rfl)) rfl ?_
    exact ⟨by first | rfl | (simp [errW_none, errW_some] <;> rfl) | (simp [*, errW_none, errW_some] <;> rfl), by repeat (first | (with_reducible first | exact HB.out | apply b1 | apply b2 | apply b3 | refine below_set ?_ GE302.out | refine below_set ?_ GE303.out) | exact HB.out)⟩

end Go.Proofs.Ytblooffiggciiaa.PAll
/- Num -/
namespace Go.Proofs.Ytblooffiggciiaa.Pl
open Go.RowKit
theorem w64 {x : Int} (h : -9223372036854775808 ≤ x) (h' : x ≤ 9223372036854775807) : wrap64 x = x := by
  unfold wrap64; omega
theorem td (x : Int) (h : 0 ≤ x) (n : Int) : Int.tdiv x n = x / n := Int.tdiv_eq_ediv_of_nonneg h
end Go.Proofs.Ytblooffiggciiaa.Pl
/- Rto -/
namespace Go.Proofs.Ytblooffiggciiaa.Pl
open Go.RowKit Go.Proofs.Ytblooffiggciiaa.PAll Go.Proofs.YtblooffiggciiaaW.PrintWords Go.Proofs.YtblooffiggciiaaW.PrintLast Go.Proofs.YtblooffiggciiaaW.PrintMore
set_option linter.unusedVariables false
def goodP (s d w : Int) (m : Bool) : Prop := 10 ≤ w ∧ w ≤ 600 ∧ 0 ≤ s ∧ 0 ≤ d ∧ (m = true → s ≤ 524280 ∧ d ≤ 262140) ∧ (m = false → s = 0 ∧ d = 0)
instance (s d w : Int) (m : Bool) : Decidable (goodP s d w m) := by unfold goodP; infer_instance

theorem good_yes {s d w : Int} {m : Bool} (k : Nat) (h : goodP s d w m) : rto_Good.f (k + 1) s d w m = some true := by
  obtain ⟨h1, h2, h3, h4, h5, h6⟩ := h
  unfold rto_Good.f
  rw [if_neg (by omega), if_neg (by omega), if_neg (by omega)]
  simp only [rto_Good.j0]
  have : decide (d < 0) = false := by simp; omega
  rw [this, if_neg (by simp)]
  cases m with
  | true => obtain ⟨a, b⟩ := h5 rfl; rw [if_pos rfl, if_pos a]; simp [b]
  | false => obtain ⟨a, b⟩ := h6 rfl; rw [if_neg (by simp), if_pos a]; simp [b]

theorem good_no {s d w : Int} {m : Bool} (k : Nat) (h : ¬ goodP s d w m) : rto_Good.f (k + 1) s d w m = some false := by
  unfold goodP at h
  unfold rto_Good.f
  by_cases h1 : w < 10
  · rw [if_pos h1]; simp [rto_Good.j0]
  rw [if_neg h1]
  by_cases h2 : w > 600
  · rw [if_pos h2]; simp [rto_Good.j0]
  rw [if_neg h2]
  by_cases h3 : s < 0
  · rw [if_pos h3]; simp [rto_Good.j0]
  rw [if_neg h3]
  by_cases h4 : d < 0
  · simp [rto_Good.j0, h4]
  have : decide (d < 0) = false := by simp; omega
  rw [this]
  simp only [rto_Good.j0]
  rw [if_neg (by simp)]
  cases m with
  | true =>
    rw [if_pos rfl]
    by_cases h5 : s ≤ 524280
    · rw [if_pos h5]; simp only [Option.some.injEq, decide_eq_false_iff_not]
      intro h6
      exact h ⟨by omega, by omega, by omega, by omega, fun _ => ⟨h5, h6⟩, fun h => by cases h⟩
    · rw [if_neg h5]
  | false =>
    rw [if_neg (by simp)]
    by_cases h5 : s = 0
    · rw [if_pos h5]; simp only [Option.some.injEq, beq_eq_false_iff_ne]
      intro h6
      exact h ⟨by omega, by omega, by omega, by omega, fun h => by (cases h), fun _ => ⟨h5, h6⟩⟩
    · rw [if_neg h5]

theorem good_eq (s d w : Int) (m : Bool) (k : Nat) : rto_Good.f (k + 1) s d w m = some (decide (goodP s d w m)) := by
  by_cases h : goodP s d w m
  · rw [good_yes k h]; simp [h]
  · rw [good_no k h]; simp [h]

def twiceW (w : Int) : Int := mn (2 * w) 600
theorem twice_yes {s d w : Int} {m : Bool} (k : Nat) (h : goodP s d w m) : rto_Estimate_Twice.f (k + 1) s d w m = some (s, d, twiceW w, m) := by
  have hg := h
  obtain ⟨h1, h2, _⟩ := h
  unfold rto_Estimate_Twice.f
  rw [good_yes k hg]
  simp only [Option.bind_some, if_true]
  rw [w64 (by omega) (by omega)]; rfl
theorem twice_good {s d w : Int} {m : Bool} (h : goodP s d w m) : goodP s d (twiceW w) m := by
  obtain ⟨h1, h2, h3⟩ := h
  refine ⟨?_, ?_, h3⟩ <;> (unfold twiceW mn; split <;> omega)

end Go.Proofs.Ytblooffiggciiaa.Pl
/- Cwnd -/
namespace Go.Proofs.Ytblooffiggciiaa.Pl
open Go.RowKit Go.Proofs.Ytblooffiggciiaa.PAll Go.Proofs.YtblooffiggciiaaW.PrintWords Go.Proofs.YtblooffiggciiaaW.PrintLast Go.Proofs.YtblooffiggciiaaW.PrintMore
set_option linter.unusedVariables false
def goodW (s t c : Int) : Prop := 128 ≤ s ∧ s ≤ 8192 ∧ 128 ≤ t ∧ t ≤ 8192 ∧ 0 ≤ c ∧ c ≤ 2147483648
instance (s t c : Int) : Decidable (goodW s t c) := by unfold goodW; infer_instance

theorem wgood (s t c : Int) : cwnd_Good.f s t c = some (decide (goodW s t c)) := by
  unfold cwnd_Good.f cwnd_sized.f
  by_cases h : goodW s t c
  · rw [decide_eq_true h]
    obtain ⟨h1, h2, h3, h4, h5, h6⟩ := h
    rw [if_pos h1, if_pos h3, if_pos h5, decide_eq_true h2, decide_eq_true h4, decide_eq_true h6]; rfl
  · rw [decide_eq_false h]
    unfold goodW at h
    by_cases h1 : s ≥ 128
    · rw [if_pos h1]
      by_cases h2 : s ≤ 8192
      · rw [decide_eq_true h2]
        by_cases h3 : t ≥ 128
        · rw [if_pos h3]
          by_cases h4 : t ≤ 8192
          · rw [decide_eq_true h4]
            by_cases h5 : c ≥ 0
            · rw [if_pos h5, decide_eq_false (by omega)]; rfl
            · rw [if_neg h5]; rfl
          · rw [decide_eq_false h4]; rfl
        · rw [if_neg h3]; rfl
      · rw [decide_eq_false h2]; rfl
    · rw [if_neg h1]; rfl

theorem wown_yes {s t c : Int} (h : goodW s t c) : cwnd_Window_own.f s t c = some (s, t, c) := by
  unfold cwnd_Window_own.f; rw [wgood]; simp [h]
def halfW (s : Int) : Int := if s / 2 < 512 then 512 else s / 2
theorem half_mx {s : Int} (h0 : 0 ≤ s) (h1 : s ≤ 8192) : mx (wrap64 (Int.tdiv s 2)) 512 = halfW s := by
  rw [td s h0, w64 (by omega) (by omega)]; rfl
theorem late_yes {s t c : Int} (h : goodW s t c) : cwnd_Window_Late.f s t c = some (128, halfW s, 0) := by
  unfold cwnd_Window_Late.f cwnd_Window_halved.f
  rw [wown_yes h]; simp only [Option.bind_some]; rw [half_mx (by have := h.1; omega) h.2.1]
end Go.Proofs.Ytblooffiggciiaa.Pl
/- Path -/
namespace Go.Proofs.Ytblooffiggciiaa.Pl
open Go.RowKit Go.Proofs.Ytblooffiggciiaa.PAll Go.Proofs.YtblooffiggciiaaW.PrintWords Go.Proofs.YtblooffiggciiaaW.PrintLast Go.Proofs.YtblooffiggciiaaW.PrintMore
set_option linter.unusedVariables false
def addrP (a : Int) : Prop := 1 ≤ a ∧ a ≤ 2147483647
instance (a : Int) : Decidable (addrP a) := by unfold addrP; infer_instance
theorem addr_eq (a : Int) : path_addressed.f a = some (decide (addrP a)) := by
  unfold path_addressed.f
  by_cases h : a ≥ 1
  · rw [if_pos h]; congr 1; rw [decide_eq_decide]; unfold addrP; omega
  · rw [if_neg h]; congr 1; symm; rw [decide_eq_false_iff_not]; intro h'; exact h h'.1
def tickP (a : Int) : Prop := 0 ≤ a ∧ a ≤ 4611686018427387904
instance (a : Int) : Decidable (tickP a) := by unfold tickP; infer_instance
theorem tick_eq (a : Int) : path_ticked.f a = some (decide (tickP a)) := by
  unfold path_ticked.f
  by_cases h : a ≥ 0
  · rw [if_pos h]; congr 1; rw [decide_eq_decide]; unfold tickP; omega
  · rw [if_neg h]; congr 1; symm; rw [decide_eq_false_iff_not]; intro h'; exact h h'.1
def goodQ (s d w : Int) (m : Bool) (z t c a er no se : Int) : Prop :=
  (no = 0 → se = 0) ∧ tickP se ∧ addrP a ∧ goodP s d w m ∧ goodW z t c ∧ 0 ≤ er ∧ er ≤ 100
instance (s d w : Int) (m : Bool) (z t c a er no se : Int) : Decidable (goodQ s d w m z t c a er no se) := by unfold goodQ; infer_instance

theorem tail_good (s d w : Int) (m : Bool) (z t c a er : Int) (k : Nat) :
    ((path_addressed.f a).bind fun t144 => (if t144 = true then ((rto_Good.f (k + 1) s d w m).bind fun t145 => (if t145 = true then ((cwnd_Good.f z t c).bind fun t146 => (if t146 = true then (if er ≥ 0 then (some (decide (er ≤ 100))) else (some false)) else (some false))) else (some false))) else (some false))) =
      some (decide (addrP a ∧ goodP s d w m ∧ goodW z t c ∧ 0 ≤ er ∧ er ≤ 100)) := by
  rw [addr_eq, good_eq, wgood]
  simp only [Option.bind_some]
  by_cases h1 : addrP a
  · by_cases h2 : goodP s d w m
    · by_cases h3 : goodW z t c
      · by_cases h4 : er ≥ 0
        · simp only [h1, h2, h3, h4, decide_true, if_true, true_and]
        · simp only [h1, h2, h3, h4, decide_true, if_true, if_false, true_and, false_and, decide_false]
      · simp [h1, h2, h3]
    · simp [h1, h2]
  · simp [h1]
theorem qgood (s d w : Int) (m : Bool) (z t c a er no se : Int) (k : Nat) : path_Good.f (k + 1) s d w m z t c a er no se = some (decide (goodQ s d w m z t c a er no se)) := by
  unfold path_Good.f
  rw [tail_good]
  by_cases h : no = 0
  · rw [if_pos h]
    by_cases h2 : se = 0
    · rw [if_pos h2]; congr 1; rw [decide_eq_decide]
      subst h2
      constructor
      · intro h'; exact ⟨fun _ => rfl, by decide, h'⟩
      · intro h'; exact h'.2.2
    · rw [if_neg h2]; congr 1; symm; rw [decide_eq_false_iff_not]; intro h'; exact h2 (h'.1 h)
  · rw [if_neg h, tick_eq]
    simp only [Option.bind_some]
    by_cases h2 : tickP se
    · rw [decide_eq_true h2]; simp only [if_true]; congr 1; rw [decide_eq_decide]
      constructor
      · intro h'; exact ⟨fun h0 => absurd h0 h, h2, h'⟩
      · intro h'; exact h'.2.2
    · rw [decide_eq_false h2]; simp only [Bool.false_eq_true, if_false]; congr 1; symm; rw [decide_eq_false_iff_not]; intro h'; exact h2 h'.2.1
section
variable {s d w : Int} {m : Bool} {z t c a er no se : Int}
theorem qfailed (h : goodQ s d w m z t c a er no se) (k : Nat) : path_Path_Failed.f (k + 1) s d w m z t c a er no se = some (s, d, twiceW w, m, 128, halfW z, 0, a, mn (er + 1) 100, no, se) := by
  unfold path_Path_Failed.f path_Path_worse.f
  rw [qgood, decide_eq_true h]
  obtain ⟨_, _, _, hp, hw, h5, h6⟩ := h
  simp only [Option.bind_some, if_true]
  rw [late_yes hw]
  simp only [Option.bind_some]
  rw [twice_yes k hp, w64 (x := er + 1) (by omega) (by omega)]
  rfl
theorem qworse (hp : goodP s d w m) (h5 : 0 ≤ er) (h6 : er ≤ 100) (k : Nat) : path_Path_worse.f (k + 1) s d w m z t c a er no se = some (s, d, twiceW w, m, z, t, c, a, mn (er + 1) 100, no, se) := by
  unfold path_Path_worse.f
  rw [twice_yes k hp, w64 (x := er + 1) (by omega) (by omega)]
  rfl
theorem qmissed (h : goodQ s d w m z t c a er no se) (k : Nat) : path_Path_Missed.f (k + 1) s d w m z t c a er no se = some (if no = 0 then (s, d, w, m, z, t, c, a, er, no, se) else (s, d, twiceW w, m, z, t, c, a, mn (er + 1) 100, 0, 0)) := by
  unfold path_Path_Missed.f
  rw [qgood, decide_eq_true h]
  obtain ⟨_, _, _, hp, hw, h5, h6⟩ := h
  simp only [Option.bind_some, if_true]
  rw [qworse hp h5 h6]
  by_cases h0 : no = 0
  · rw [if_pos h0, if_pos h0]
  · rw [if_neg h0, if_neg h0]; rfl
theorem qheard (s d w : Int) (m : Bool) (z t c a er no se : Int) (k : Nat) : path_Path_Heard.f (k + 1) s d w m z t c a er no se = some (s, d, w, m, z, t, c, a, if goodQ s d w m z t c a er no se then 0 else er, no, se) := by
  unfold path_Path_Heard.f
  rw [qgood]
  by_cases h : goodQ s d w m z t c a er no se
  · rw [decide_eq_true h, if_pos h]; rfl
  · rw [decide_eq_false h, if_neg h]; rfl
theorem qactive (s d w : Int) (m : Bool) (z t c a er no se : Int) (k : Nat) : path_Path_Active.f (k + 1) s d w m z t c a er no se = some (decide (goodQ s d w m z t c a er no se ∧ er ≤ 5)) := by
  unfold path_Path_Active.f
  rw [qgood]
  by_cases h : goodQ s d w m z t c a er no se
  · simp [h]
  · simp [h]
end
theorem alive13 (k : Nat) : weftlinelaw13_alive.f (k + 20) = some true :=
  at_rounds weftlinelaw13_alive.mono (by omega) (show weftlinelaw13_alive.f 20 = some true by decide +kernel)
end Go.Proofs.Ytblooffiggciiaa.Pl
/- RtoT -/
namespace Go.Proofs.Ytblooffiggciiaa.Pl
open Go.RowKit Go.Proofs.Ytblooffiggciiaa.PAll Go.Proofs.YtblooffiggciiaaW.PrintWords Go.Proofs.YtblooffiggciiaaW.PrintLast Go.Proofs.YtblooffiggciiaaW.PrintMore
set_option linter.unusedVariables false
def clampW (x : Int) : Int := mn (mx x 10) 600
theorem clamp_lo (x : Int) : 10 ≤ clampW x := by unfold clampW mn mx; split <;> split <;> omega
theorem clamp_hi (x : Int) : clampW x ≤ 600 := by unfold clampW mn mx; split <;> split <;> omega
/-- The estimate behind an answer. -/
def tookS (s _d r : Int) (m : Bool) : Int := if m = true then s + (r - s / 8) else 8 * r
def tookD (s d r : Int) (m : Bool) : Int := if m = true then d + ((if r - s / 8 < 0 then -(r - s / 8) else r - s / 8) - d / 4) else 2 * r

theorem took_bounds {s d w r : Int} {m : Bool} (h : goodP s d w m) (h0 : 0 ≤ r) (h1 : r ≤ 65535) :
    0 ≤ tookS s d r m ∧ tookS s d r m ≤ 524280 ∧ 0 ≤ tookD s d r m ∧ tookD s d r m ≤ 262140 := by
  obtain ⟨_, _, h3, h4, h5, h6⟩ := h
  unfold tookS tookD
  cases m with
  | true => obtain ⟨a, b⟩ := h5 rfl; simp only [if_true]; split <;> omega
  | false => simp; omega

theorem took_yes {s d w r : Int} {m : Bool} (k : Nat) (h : goodP s d w m) (h0 : 0 ≤ r) (h1 : r ≤ 65535) :
    rto_Estimate_Took.f (k + 1) s d w m r = some (tookS s d r m, tookD s d r m, clampW (tookS s d r m / 8 + tookD s d r m), true, none) := by
  have hb := took_bounds h h0 h1
  have hg := h
  obtain ⟨_, _, h3, h4, h5, h6⟩ := h
  unfold rto_Estimate_Took.f
  rw [good_yes k hg]
  simp only [Option.bind_some, if_true]
  rw [if_neg (by omega)]
  have : decide (r > 65535) = false := by simp; omega
  rw [this]
  simp only [rto_Estimate_Took.j0]
  rw [if_neg (by simp)]
  cases m with
  | true =>
    obtain ⟨a, b⟩ := h5 rfl
    rw [if_pos rfl]
    have e1 : wrap64 (s.tdiv 8) = s / 8 := by rw [td s h3]; exact w64 (by omega) (by omega)
    have e2 : wrap64 (d.tdiv 4) = d / 4 := by rw [td d h4]; exact w64 (by omega) (by omega)
    have e3 : wrap64 (r - s / 8) = r - s / 8 := w64 (by omega) (by omega)
    rw [e1, e2, e3]
    have e4 : rto_off.f (r - s / 8) = some (if r - s / 8 < 0 then -(r - s / 8) else r - s / 8) := by
      unfold rto_off.f mx
      rw [w64 (by omega) (by omega)]
      congr 1
      split <;> split <;> omega
    rw [e4]
    simp only [Option.bind_some]
    have t1 : tookS s d r true = s + (r - s / 8) := by simp [tookS]
    have t2 : tookD s d r true = d + ((if r - s / 8 < 0 then -(r - s / 8) else r - s / 8) - d / 4) := by simp [tookD]
    rw [t1, t2] at hb ⊢
    generalize (if r - s / 8 < 0 then -(r - s / 8) else r - s / 8) = o at hb ⊢
    obtain ⟨b1, b2, b3, b4⟩ := hb
    rw [w64 (x := s + (r - s / 8)) (by omega) (by omega), w64 (x := o - d / 4) (by omega) (by omega), w64 (x := d + (o - d / 4)) (by omega) (by omega)]
    rw [td _ b1, w64 (x := (s + (r - s / 8)) / 8) (by omega) (by omega), w64 (by omega) (by omega)]
    rfl
  | false =>
    rw [if_neg (by simp)]
    have t1 : tookS s d r false = 8 * r := by simp [tookS]
    have t2 : tookD s d r false = 2 * r := by simp [tookD]
    rw [t1, t2]
    rw [w64 (x := 8 * r) (by omega) (by omega), w64 (x := 4 * r) (by omega) (by omega), td _ (by omega), td _ (by omega)]
    rw [w64 (x := 8 * r / 8) (by omega) (by omega), w64 (x := 4 * r / 2) (by omega) (by omega), show 4 * r / 2 = 2 * r from by omega, w64 (by omega) (by omega)]
    rfl

theorem took_good {s d w r : Int} {m : Bool} (h : goodP s d w m) (h0 : 0 ≤ r) (h1 : r ≤ 65535) :
    goodP (tookS s d r m) (tookD s d r m) (clampW (tookS s d r m / 8 + tookD s d r m)) true := by
  have hb := took_bounds h h0 h1
  exact ⟨clamp_lo _, clamp_hi _, hb.1, hb.2.2.1, fun _ => ⟨hb.2.1, hb.2.2.2⟩, fun h => by cases h⟩

end Go.Proofs.Ytblooffiggciiaa.Pl
/- PAllxe -/
namespace Go.Proofs.Ytblooffiggciiaa.PAll
open Go.RowKit Go.Proofs.YtblooffiggciiaaW.PrintWords Go.Proofs.YtblooffiggciiaaW.PrintLast Go.Proofs.YtblooffiggciiaaW.PrintMore
set_option linter.unusedVariables false
set_option linter.unusedSimpArgs false
theorem eqA31 (d : Nat) (w : World) (x0 y0 : Int) (x1 y1 : Int) (x2 y2 : Int) (x3 y3 : Bool) :
    (Op.equalIn (d + 2) 31 (.agg #[.int .i64 x0, .int .i64 x1, .int .i64 x2, .bool x3]) (.agg #[.int .i64 y0, .int .i64 y1, .int .i64 y2, .bool y3])).run Try.prog w = .ok (x0 == y0 && (x1 == y1 && (x2 == y2 && (x3 == y3)))) w := by
  refine eqA_of Try.underlying31 (by kernel_rfl) ?_
  refine eqf_cons (by rfl) (by go_simp; rfl) (by go_simp; rfl) (by go_simp) ?_
  refine eqf_cons (by rfl) (by go_simp; rfl) (by go_simp; rfl) (by go_simp) ?_
  refine eqf_cons (by rfl) (by go_simp; rfl) (by go_simp; rfl) (by go_simp) ?_
  exact eqf_last (by rfl) (by go_simp; rfl) (by go_simp; rfl) (by go_simp)
theorem eqA32 (d : Nat) (w : World) (x0 y0 : Int) (x1 y1 : Int) (x2 y2 : Int) :
    (Op.equalIn (d + 2) 32 (.agg #[.int .i64 x0, .int .i64 x1, .int .i64 x2]) (.agg #[.int .i64 y0, .int .i64 y1, .int .i64 y2])).run Try.prog w = .ok (x0 == y0 && (x1 == y1 && (x2 == y2))) w := by
  refine eqA_of Try.underlying32 (by kernel_rfl) ?_
  refine eqf_cons (by rfl) (by go_simp; rfl) (by go_simp; rfl) (by go_simp) ?_
  refine eqf_cons (by rfl) (by go_simp; rfl) (by go_simp; rfl) (by go_simp) ?_
  exact eqf_last (by rfl) (by go_simp; rfl) (by go_simp; rfl) (by go_simp)
theorem eqA60 (d : Nat) (w : World) (x0 y0 : Int) (x1 y1 : Int) (x2 y2 : Int) (x3 y3 : Int) :
    (Op.equalIn (d + 2) 60 (.agg #[.int .i64 x0, .int .i64 x1, .int .i64 x2, .int .i64 x3]) (.agg #[.int .i64 y0, .int .i64 y1, .int .i64 y2, .int .i64 y3])).run Try.prog w = .ok (x0 == y0 && (x1 == y1 && (x2 == y2 && (x3 == y3)))) w := by
  refine eqA_of Try.underlying60 (by kernel_rfl) ?_
  refine eqf_cons (by rfl) (by go_simp; rfl) (by go_simp; rfl) (by go_simp) ?_
  refine eqf_cons (by rfl) (by go_simp; rfl) (by go_simp; rfl) (by go_simp) ?_
  refine eqf_cons (by rfl) (by go_simp; rfl) (by go_simp; rfl) (by go_simp) ?_
  exact eqf_last (by rfl) (by go_simp; rfl) (by go_simp; rfl) (by go_simp)
end Go.Proofs.Ytblooffiggciiaa.PAll
/- PathB -/
namespace Go.Proofs.Ytblooffiggciiaa.Pl
open Go.RowKit Go.Proofs.Ytblooffiggciiaa.PAll Go.Proofs.YtblooffiggciiaaW.PrintWords Go.Proofs.YtblooffiggciiaaW.PrintLast Go.Proofs.YtblooffiggciiaaW.PrintMore
set_option linter.unusedVariables false
set_option linter.unusedSimpArgs false
section
variable (s d w : Int) (m : Bool) (z t c a er no se : Int)
theorem beat_yes (h : goodQ s d w m z t c a er no se) (k : Nat) (x y : Int) : path_Path_Beat.f (k + 1) s d w m z t c a er no se x y =
    some (if x = 0 ∨ ¬ tickP y then (0, 0, 0, false, 0, 0, 0, 0, 0, 0, 0, some 1) else if no = 0 then (s, d, w, m, z, t, c, a, er, x, y, none) else (0, 0, 0, false, 0, 0, 0, 0, 0, 0, 0, some 5)) := by
  unfold path_Path_Beat.f
  rw [qgood, decide_eq_true h, tick_eq]
  simp only [Option.bind_some, if_true, path_Path_Beat.j0]
  by_cases hx : x = 0
  · rw [if_pos hx, if_pos (Or.inl hx)]
  · rw [if_neg hx]
    by_cases hy : tickP y
    · rw [decide_eq_true hy, if_neg (show ¬ (x = 0 ∨ ¬ tickP y) from fun h' => h'.elim hx (fun h'' => h'' hy))]
      simp only [Bool.not_true, Bool.false_eq_true, if_false]
      by_cases h0 : no = 0
      · rw [if_pos h0, if_pos h0]
      · rw [if_neg h0, if_neg h0]
    · rw [decide_eq_false hy, if_pos (Or.inr hy : x = 0 ∨ ¬ tickP y)]
      simp only [Bool.not_false, if_true]
/-- How long a beat took. -/
def tookQ (y se : Int) : Int := mn (y - se) 65535
theorem took_ok (h : goodQ s d w m z t c a er no se) {y : Int} (hl : ¬ y < se) (hy : tickP y) : wrap64 (y - se) = y - se ∧ 0 ≤ tookQ y se ∧ tookQ y se ≤ 65535 := by
  obtain ⟨_, ⟨h1, h2⟩, _, hp, _⟩ := h
  obtain ⟨h3, h4⟩ := hy
  exact ⟨w64 (by omega) (by omega), by unfold tookQ mn; split <;> omega, by unfold tookQ mn; split <;> omega⟩
theorem beaten_yes (h : goodQ s d w m z t c a er no se) (k : Nat) (x y : Int) : path_Path_Beaten.f (k + 4) s d w m z t c a er no se x y =
    some (if x = 0 ∨ x ≠ no then (0, 0, 0, false, 0, 0, 0, 0, 0, 0, 0, some 4) else if y < se ∨ ¬ tickP y then (0, 0, 0, false, 0, 0, 0, 0, 0, 0, 0, some 1) else
      (tookS s d (tookQ y se) m, tookD s d (tookQ y se) m, clampW (tookS s d (tookQ y se) m / 8 + tookD s d (tookQ y se) m), true, z, t, c, a, 0, 0, 0, none)) := by
  unfold path_Path_Beaten.f
  rw [qgood, decide_eq_true h]
  simp only [Option.bind_some, if_true, path_Path_Beaten.j0]
  by_cases hx : x = 0
  · rw [if_pos hx, if_pos (Or.inl hx)]
  · rw [if_neg hx]
    by_cases hn : x = no
    · have hn' : (x != no) = false := bne_eq_false_iff_eq.mpr hn
      rw [if_neg (show ¬ (x = 0 ∨ x ≠ no) from fun h' => h'.elim hx (fun h'' => h'' hn)), hn']
      simp only [Bool.false_eq_true, if_false]
      by_cases hl : y < se
      · rw [if_pos hl, if_pos (Or.inl hl)]
        simp [path_Path_Beaten.j1]
      · rw [if_neg hl, tick_eq]
        simp only [Option.bind_some]
        by_cases hy : tickP y
        · rw [decide_eq_true hy, if_neg (show ¬ (y < se ∨ ¬ tickP y) from fun h' => h'.elim hl (fun h'' => h'' hy))]
          obtain ⟨hb0, hb1, hb2⟩ := took_ok s d w m z t c a er no se h hl hy
          simp only [Bool.not_true, path_Path_Beaten.j1, Bool.false_eq_true, if_false]
          rw [hb0, show mn (y - se) 65535 = tookQ y se from rfl, took_yes (k + 1) h.2.2.2.1 hb1 hb2]
          rfl
        · rw [decide_eq_false hy, if_pos (Or.inr hy)]
          simp [path_Path_Beaten.j1]
    · have hn' : (x != no) = true := bne_iff_ne.mpr hn
      rw [if_pos (Or.inr hn), hn']
      simp only [if_true]
end
end Go.Proofs.Ytblooffiggciiaa.Pl
/- QPathRound -/
namespace Go.Proofs.Ytblooffiggciiaa.PAll
open Go.RowKit Go.Proofs.YtblooffiggciiaaW.PrintWords Go.Proofs.YtblooffiggciiaaW.PrintLast Go.Proofs.YtblooffiggciiaaW.PrintMore Go.Proofs.Ytblooffiggciiaa.Sh
attribute [local go_sem] max2_int min2_int max_two min_two max_three min_three max_four min_four   -- for this text's walks alone
attribute [local go_sem] Go.Proofs.Ytblooffiggciiaa.Aid.isSome_setCell
set_option linter.unusedVariables false
set_option linter.unusedSimpArgs false
attribute [local go_sem high] eqA31 eqA32 eqA60
mutual
def weftlinelaw13_PathRound.j0 : Nat → Int → Int → Int → Bool → Int → Int → Int → Bool → Int → Int → Int → Int → Int → Int → Int → Option (Bool)
  | 0, _, _, _, _, _, _, _, _, _, _, _, _, _, _, _ => none
  | k + 1, x4, x5, x6, x46, x645000, x645001, x645002, x645003, x645004, x645005, x645006, x645007, x645008, x645009, x645010 => if x46 = true then (some true) else (weftlinelaw13_PathRound.l0 k x5 x6 (wrap64 (Int.tmod (IntKind.u64.wrap (x4)) 9)) 0 x645000 x645001 x645002 x645003 x645004 x645005 x645006 x645007 x645008 x645009 x645010)
def weftlinelaw13_PathRound.l0 : Nat → Int → Int → Int → Int → Int → Int → Int → Bool → Int → Int → Int → Int → Int → Int → Int → Option (Bool)
  | 0, _, _, _, _, _, _, _, _, _, _, _, _, _, _, _ => none
  | k + 1, x5, x6, x50, x51, x645000, x645001, x645002, x645003, x645004, x645005, x645006, x645007, x645008, x645009, x645010 => if x51 < x50 then ((path_Path_Failed.f k x645000 x645001 x645002 x645003 x645004 x645005 x645006 x645007 x645008 x645009 x645010).bind fun bt646 => (weftlinelaw13_PathRound.l0 k x5 x6 x50 (wrap64 (x51 + 1)) bt646.1 bt646.2.1 bt646.2.2.1 bt646.2.2.2.1 bt646.2.2.2.2.1 bt646.2.2.2.2.2.1 bt646.2.2.2.2.2.2.1 bt646.2.2.2.2.2.2.2.1 bt646.2.2.2.2.2.2.2.2.1 bt646.2.2.2.2.2.2.2.2.2.1 bt646.2.2.2.2.2.2.2.2.2.2)) else ((path_Path_Beat.f k x645000 x645001 x645002 x645003 x645004 x645005 x645006 x645007 x645008 x645009 x645010 5 x5).bind fun bt657 => (if bt657.2.2.2.2.2.2.2.2.2.2.2.isNone = true then ((path_Path_Missed.f k bt657.1 bt657.2.1 bt657.2.2.1 bt657.2.2.2.1 bt657.2.2.2.2.1 bt657.2.2.2.2.2.1 bt657.2.2.2.2.2.2.1 bt657.2.2.2.2.2.2.2.1 bt657.2.2.2.2.2.2.2.2.1 bt657.2.2.2.2.2.2.2.2.2.1 bt657.2.2.2.2.2.2.2.2.2.2.1).bind fun bt671 => ((path_Path_Beaten.f k bt657.1 bt657.2.1 bt657.2.2.1 bt657.2.2.2.1 bt657.2.2.2.2.1 bt657.2.2.2.2.2.1 bt657.2.2.2.2.2.2.1 bt657.2.2.2.2.2.2.2.1 bt657.2.2.2.2.2.2.2.2.1 bt657.2.2.2.2.2.2.2.2.2.1 bt657.2.2.2.2.2.2.2.2.2.2.1 5 (wrap64 (x5 + x6))).bind fun bt683 => ((rto_Estimate_Took.f k x645000 x645001 x645002 x645003 (mn x6 65535)).bind fun bt696 => (if bt683.2.2.2.2.2.2.2.2.2.2.2.isNone = true then (if bt696.2.2.2.2.isNone = true then (if (bt683.1 == bt696.1 && (bt683.2.1 == bt696.2.1 && (bt683.2.2.1 == bt696.2.2.1 && (bt683.2.2.2.1 == bt696.2.2.2.1)))) = true then (if bt683.2.2.2.2.2.2.2.2.1 = 0 then (if bt683.2.2.2.2.2.2.2.2.2.1 = 0 then (if (bt683.2.2.2.2.1 == x645004 && (bt683.2.2.2.2.2.1 == x645005 && (bt683.2.2.2.2.2.2.1 == x645006))) = true then (if bt671.2.2.2.2.2.2.2.2.1 = (wrap64 (x645008 + 1)) then (if bt671.2.2.1 = (mn (wrap64 (2 * x645002)) 600) then (if bt671.2.2.2.2.2.2.2.2.2.1 = 0 then (some (bt671.2.2.2.2.1 == x645004 && (bt671.2.2.2.2.2.1 == x645005 && (bt671.2.2.2.2.2.2.1 == x645006)))) else (some false)) else (some false)) else (some false)) else (some false)) else (some false)) else (some false)) else (some false)) else (some false)) else (some false))))) else (some false)))
end
def weftlinelaw13_PathRound.f (k : Nat) (a0_0 : Int) (a0_1 : Int) (a0_2 : Int) (a0_3 : Int) : Option (Bool) := (weftlinelaw13_alive.f k).bind fun t631 => (if t631 = true then ((path_New.f a0_0).bind fun bt632 => (if bt632.2.2.2.2.2.2.2.2.2.2.2.isNone = true then (if a0_2 < 0 then (weftlinelaw13_PathRound.j0 k a0_1 a0_2 a0_3 true bt632.1 bt632.2.1 bt632.2.2.1 bt632.2.2.2.1 bt632.2.2.2.2.1 bt632.2.2.2.2.2.1 bt632.2.2.2.2.2.2.1 bt632.2.2.2.2.2.2.2.1 bt632.2.2.2.2.2.2.2.2.1 bt632.2.2.2.2.2.2.2.2.2.1 bt632.2.2.2.2.2.2.2.2.2.2.1) else (if a0_2 > 1099511627776 then (weftlinelaw13_PathRound.j0 k a0_1 a0_2 a0_3 true bt632.1 bt632.2.1 bt632.2.2.1 bt632.2.2.2.1 bt632.2.2.2.2.1 bt632.2.2.2.2.2.1 bt632.2.2.2.2.2.2.1 bt632.2.2.2.2.2.2.2.1 bt632.2.2.2.2.2.2.2.2.1 bt632.2.2.2.2.2.2.2.2.2.1 bt632.2.2.2.2.2.2.2.2.2.2.1) else (if a0_3 < 0 then (weftlinelaw13_PathRound.j0 k a0_1 a0_2 a0_3 true bt632.1 bt632.2.1 bt632.2.2.1 bt632.2.2.2.1 bt632.2.2.2.2.1 bt632.2.2.2.2.2.1 bt632.2.2.2.2.2.2.1 bt632.2.2.2.2.2.2.2.1 bt632.2.2.2.2.2.2.2.2.1 bt632.2.2.2.2.2.2.2.2.2.1 bt632.2.2.2.2.2.2.2.2.2.2.1) else (weftlinelaw13_PathRound.j0 k a0_1 a0_2 a0_3 (decide (a0_3 > 1099511627776)) bt632.1 bt632.2.1 bt632.2.2.1 bt632.2.2.2.1 bt632.2.2.2.2.1 bt632.2.2.2.2.2.1 bt632.2.2.2.2.2.2.1 bt632.2.2.2.2.2.2.2.1 bt632.2.2.2.2.2.2.2.2.1 bt632.2.2.2.2.2.2.2.2.2.1 bt632.2.2.2.2.2.2.2.2.2.2.1)))) else (weftlinelaw13_PathRound.j0 k a0_1 a0_2 a0_3 true bt632.1 bt632.2.1 bt632.2.2.1 bt632.2.2.2.1 bt632.2.2.2.2.1 bt632.2.2.2.2.2.1 bt632.2.2.2.2.2.2.1 bt632.2.2.2.2.2.2.2.1 bt632.2.2.2.2.2.2.2.2.1 bt632.2.2.2.2.2.2.2.2.2.1 bt632.2.2.2.2.2.2.2.2.2.2.1))) else (some false))
end Go.Proofs.Ytblooffiggciiaa.PAll
/- PathR -/
namespace Go.Proofs.Ytblooffiggciiaa.Pl
open Go.RowKit Go.Proofs.Ytblooffiggciiaa.PAll Go.Proofs.YtblooffiggciiaaW.PrintWords Go.Proofs.YtblooffiggciiaaW.PrintLast Go.Proofs.YtblooffiggciiaaW.PrintMore
set_option linter.unusedVariables false
set_option linter.unusedSimpArgs false
theorem half_bd {z : Int} (h0 : 128 ≤ z) (h : z ≤ 8192) : 512 ≤ halfW z ∧ halfW z ≤ 4096 := by unfold halfW; split <;> omega
theorem failed_good {s d w : Int} {m : Bool} {z t c a er no se : Int} (h : goodQ s d w m z t c a er no se) : goodQ s d (twiceW w) m 128 (halfW z) 0 a (mn (er + 1) 100) no se := by
  obtain ⟨h1, h2, h3, h4, ⟨h5, h6, h7⟩, h8, h9⟩ := h
  have hb := half_bd h5 h6
  exact ⟨h1, h2, h3, twice_good h4, ⟨by omega, by omega, by omega, by omega, by omega, by omega⟩, by unfold mn; split <;> omega, by unfold mn; split <;> omega⟩
theorem round_end (x5 x6 M i : Int) (h0 : 0 ≤ x5) (h1 : x5 ≤ 1099511627776) (h2 : 0 ≤ x6) (h3 : x6 ≤ 1099511627776) (hi : ¬ i < M) {s d w : Int} {m : Bool} {z t c a er : Int} (h : goodQ s d w m z t c a er 0 0) (he : er ≤ 50) (k : Nat) :
    weftlinelaw13_PathRound.l0 (k + 10) x5 x6 M i s d w m z t c a er 0 0 = some true := by
  simp only [weftlinelaw13_PathRound.l0]
  rw [if_neg hi, beat_yes _ _ _ _ _ _ _ _ _ _ _ h (k + 8)]
  have ht : tickP x5 := ⟨h0, by omega⟩
  have hc : ¬ ((5 : Int) = 0 ∨ ¬ tickP x5) := fun h' => h'.elim (by decide) (fun h'' => h'' ht)
  rw [if_neg hc, if_pos rfl]
  simp only [Option.bind_some, Option.isNone_none, if_true]
  have hq : goodQ s d w m z t c a er 5 x5 := ⟨fun h => absurd h (by decide), ht, h.2.2⟩
  have h8 : 0 ≤ er := h.2.2.2.2.2.1
  have hw1 := h.2.2.2.1.1
  have hw2 := h.2.2.2.1.2.1
  rw [w64 (x := x5 + x6) (by omega) (by omega), w64 (x := er + 1) (by omega) (by omega), w64 (x := 2 * w) (by omega) (by omega), qmissed hq (k + 8), beaten_yes _ _ _ _ _ _ _ _ _ _ _ hq (k + 5)]
  have ht2 : tickP (x5 + x6) := ⟨by omega, by omega⟩
  have hc2 : ¬ ((5 : Int) = 0 ∨ (5 : Int) ≠ 5) := by decide
  have hc3 : ¬ (x5 + x6 < x5 ∨ ¬ tickP (x5 + x6)) := fun h' => h'.elim (by omega) (fun h'' => h'' ht2)
  rw [if_neg hc2, if_neg hc3, if_neg (by decide)]
  have e : tookQ (x5 + x6) x5 = mn x6 65535 := by unfold tookQ; rw [show x5 + x6 - x5 = x6 from by omega]
  have hb : 0 ≤ mn x6 65535 ∧ mn x6 65535 ≤ 65535 := by unfold mn; split <;> omega
  rw [e, took_yes (k + 8) h.2.2.2.1 hb.1 hb.2]
  have e2 : mn (er + 1) 100 = er + 1 := by unfold mn; split <;> omega
  simp only [Option.bind_some, Option.isNone_none, if_true, beq_self_eq_true, Bool.and_self, e2]
  rw [show twiceW w = mn (2 * w) 600 from rfl, if_pos rfl]
theorem round_loop (x5 x6 M : Int) (h0 : 0 ≤ x5) (h1 : x5 ≤ 1099511627776) (h2 : 0 ≤ x6) (h3 : x6 ≤ 1099511627776) (hM : M ≤ 8) : ∀ (n k : Nat) (i s d w : Int) (m : Bool) (z t c a : Int), 0 ≤ i → M - i ≤ n → goodQ s d w m z t c a i 0 0 → i ≤ 8 → n + 10 < k →
    weftlinelaw13_PathRound.l0 k x5 x6 M i s d w m z t c a i 0 0 = some true := by
  intro n
  induction n with
  | zero =>
    intro k i s d w m z t c a hi hn hg hi8 hk
    obtain ⟨k, rfl⟩ : ∃ j, k = j + 10 := ⟨k - 10, by omega⟩
    exact round_end x5 x6 M i h0 h1 h2 h3 (by omega) hg (by omega) k
  | succ n ih =>
    intro k i s d w m z t c a hi hn hg hi8 hk
    by_cases hlt : i < M
    · obtain ⟨k, rfl⟩ : ∃ j, k = j + 1 := ⟨k - 1, by omega⟩
      simp only [weftlinelaw13_PathRound.l0]
      obtain ⟨k, rfl⟩ : ∃ j, k = j + 1 := ⟨k - 1, by omega⟩
      rw [if_pos hlt, qfailed hg k]
      simp only [Option.bind_some]
      have e2 : mn (i + 1) 100 = i + 1 := by unfold mn; split <;> omega
      have hg' := failed_good hg
      rw [e2] at hg' ⊢
      rw [w64 (x := i + 1) (by omega) (by omega)]
      exact ih (k + 1) (i + 1) _ _ _ _ _ _ _ _ (by omega) (by omega) hg' (by omega) (by omega)
    · obtain ⟨k, rfl⟩ : ∃ j, k = j + 10 := ⟨k - 10, by omega⟩
      exact round_end x5 x6 M i h0 h1 h2 h3 hlt hg (by omega) k
theorem round (a x4 x5 x6 : Int) : weftlinelaw13_PathRound.f 40 a x4 x5 x6 = some true := by
  unfold weftlinelaw13_PathRound.f
  rw [alive13 20]
  simp only [Option.bind_some, if_true, path_New.f, addr_eq]
  have hj : ∀ s d w m z t c a er no se, weftlinelaw13_PathRound.j0 40 x4 x5 x6 true s d w m z t c a er no se = some true := by
    intros; simp [weftlinelaw13_PathRound.j0]
  by_cases ha : addrP a
  · rw [decide_eq_true ha]
    simp only [if_true, Option.bind_some, rto_First.f, cwnd_First.f, Option.isNone_none, hj]
    by_cases h0 : x5 < 0
    · rw [if_pos h0]
    rw [if_neg h0]
    by_cases h1 : x5 > 1099511627776
    · rw [if_pos h1]
    rw [if_neg h1]
    by_cases h2 : x6 < 0
    · rw [if_pos h2]
    rw [if_neg h2]
    by_cases h3 : x6 > 1099511627776
    · rw [decide_eq_true h3]; exact hj _ _ _ _ _ _ _ _ _ _ _
    rw [decide_eq_false h3]
    simp only [weftlinelaw13_PathRound.j0, Bool.false_eq_true, if_false]
    have hb : wrap64 (Int.tmod (IntKind.u64.wrap x4) 9) ≤ 8 := by
      have h : IntKind.u64.wrap x4 = x4 % 18446744073709551616 := by rfl
      rw [h, Int.tmod_eq_emod_of_nonneg (by omega), w64 (by omega) (by omega)]
      omega
    have hg : goodQ 0 0 30 false 512 2000 0 a 0 0 0 := ⟨fun _ => rfl, by decide, ha, by decide, by decide, by decide, by decide⟩
    exact round_loop x5 x6 _ (by omega) (by omega) (by omega) (by omega) hb 8 39 0 0 0 30 false 512 2000 0 a (by omega) (by omega) hg (by omega) (by omega)
  · rw [decide_eq_false ha]
    simp only [Bool.false_eq_true, if_false, Option.bind_some, Option.isNone_some, hj]
end Go.Proofs.Ytblooffiggciiaa.Pl
/- PathK -/
namespace Go.Proofs.Ytblooffiggciiaa.Pk
open Go.RowKit Go.Proofs.YtblooffiggciiaaW.PrintWords Go.Proofs.YtblooffiggciiaaW.PrintLast Go.Proofs.YtblooffiggciiaaW.PrintMore Go.Proofs.Ytblooffiggciiaa.PAll Go.Proofs.Ytblooffiggciiaa.Pl Go.Proofs.Ytblooffiggciiaa.Sh
set_option linter.unusedVariables false
set_option linter.unusedSimpArgs false
section
variable {s d w : Int} {m : Bool} {z t c a er no se : Int}
theorem k_good (h : goodQ s d w m z t c a er no se) (W : World) : Calls Try.prog 20 #[.agg #[.int .i64 s, .int .i64 d, .int .i64 w, .bool m, .int .i64 z, .int .i64 t, .int .i64 c, .int .i64 a, .int .i64 er, .int .u32 no, .int .i64 se]] W fun e w' => e = .returned (.bool true) ∧ Below W.heap.size W w' :=
  path_Good.calls 3 s d w m z t c a er no se true W (by rw [qgood _ _ _ _ _ _ _ _ _ _ _ 2, decide_eq_true h])
theorem k_active (h : goodQ s d w m z t c a er no se) (W : World) : Calls Try.prog 21 #[.agg #[.int .i64 s, .int .i64 d, .int .i64 w, .bool m, .int .i64 z, .int .i64 t, .int .i64 c, .int .i64 a, .int .i64 er, .int .u32 no, .int .i64 se]] W fun e w' => e = .returned (.bool (decide (er ≤ 5))) ∧ Below W.heap.size W w' :=
  path_Path_Active.calls 3 s d w m z t c a er no se (decide (er ≤ 5)) W (by rw [qactive _ _ _ _ _ _ _ _ _ _ _ 2]; simp [h])
theorem k_failed (h : goodQ s d w m z t c a er no se) (h8 : er ≤ 80) (W : World) : Calls Try.prog 23 #[.agg #[.int .i64 s, .int .i64 d, .int .i64 w, .bool m, .int .i64 z, .int .i64 t, .int .i64 c, .int .i64 a, .int .i64 er, .int .u32 no, .int .i64 se]] W fun e w' => e = .returned (.agg #[.int .i64 s, .int .i64 d, .int .i64 (twiceW w), .bool m, .int .i64 128, .int .i64 (halfW z), .int .i64 0, .int .i64 a, .int .i64 (er + 1), .int .u32 no, .int .i64 se]) ∧ Below W.heap.size W w' :=
  path_Path_Failed.calls 3 s d w m z t c a er no se s d (twiceW w) m 128 (halfW z) 0 a (er + 1) no se W (by rw [qfailed h 2, show mn (er + 1) 100 = er + 1 by unfold mn; split <;> omega])
theorem k_heard (h : goodQ s d w m z t c a er no se) (W : World) : Calls Try.prog 25 #[.agg #[.int .i64 s, .int .i64 d, .int .i64 w, .bool m, .int .i64 z, .int .i64 t, .int .i64 c, .int .i64 a, .int .i64 er, .int .u32 no, .int .i64 se]] W fun e w' => e = .returned (.agg #[.int .i64 s, .int .i64 d, .int .i64 w, .bool m, .int .i64 z, .int .i64 t, .int .i64 c, .int .i64 a, .int .i64 0, .int .u32 no, .int .i64 se]) ∧ Below W.heap.size W w' :=
  path_Path_Heard.calls 3 s d w m z t c a er no se s d w m z t c a 0 no se W (by rw [qheard _ _ _ _ _ _ _ _ _ _ _ 2, if_pos h])
theorem k_missed0 (h : goodQ s d w m z t c a er 0 se) (W : World) : Calls Try.prog 27 #[.agg #[.int .i64 s, .int .i64 d, .int .i64 w, .bool m, .int .i64 z, .int .i64 t, .int .i64 c, .int .i64 a, .int .i64 er, .int .u32 0, .int .i64 se]] W fun e w' => e = .returned (.agg #[.int .i64 s, .int .i64 d, .int .i64 w, .bool m, .int .i64 z, .int .i64 t, .int .i64 c, .int .i64 a, .int .i64 er, .int .u32 0, .int .i64 se]) ∧ Below W.heap.size W w' :=
  path_Path_Missed.calls 3 s d w m z t c a er 0 se s d w m z t c a er 0 se W (by rw [qmissed h 2, if_pos rfl])
theorem k_missed (h : goodQ s d w m z t c a er no se) (h0 : no ≠ 0) (h8 : er ≤ 80) (W : World) : Calls Try.prog 27 #[.agg #[.int .i64 s, .int .i64 d, .int .i64 w, .bool m, .int .i64 z, .int .i64 t, .int .i64 c, .int .i64 a, .int .i64 er, .int .u32 no, .int .i64 se]] W fun e w' => e = .returned (.agg #[.int .i64 s, .int .i64 d, .int .i64 (twiceW w), .bool m, .int .i64 z, .int .i64 t, .int .i64 c, .int .i64 a, .int .i64 (er + 1), .int .u32 0, .int .i64 0]) ∧ Below W.heap.size W w' :=
  path_Path_Missed.calls 3 s d w m z t c a er no se s d (twiceW w) m z t c a (er + 1) 0 0 W (by rw [qmissed h 2, if_neg h0, show mn (er + 1) 100 = er + 1 by unfold mn; split <;> omega])
/-- A beat: it is refused, or it is on its way. -/
theorem k_beat (h : goodQ s d w m z t c a er no se) (x y : Int) :
    (∃ q : Int, ∀ W : World, Calls Try.prog 29 #[.agg #[.int .i64 s, .int .i64 d, .int .i64 w, .bool m, .int .i64 z, .int .i64 t, .int .i64 c, .int .i64 a, .int .i64 er, .int .u32 no, .int .i64 se], .int .u32 x, .int .i64 y] W fun e w' => e = .returned (.tuple #[.agg #[.int .i64 0, .int .i64 0, .int .i64 0, .bool false, .int .i64 0, .int .i64 0, .int .i64 0, .int .i64 0, .int .i64 0, .int .u32 0, .int .i64 0], errW (some q)]) ∧ Below W.heap.size W w') ∨
    (goodQ s d w m z t c a er x y ∧ ∀ W : World, Calls Try.prog 29 #[.agg #[.int .i64 s, .int .i64 d, .int .i64 w, .bool m, .int .i64 z, .int .i64 t, .int .i64 c, .int .i64 a, .int .i64 er, .int .u32 no, .int .i64 se], .int .u32 x, .int .i64 y] W fun e w' => e = .returned (.tuple #[.agg #[.int .i64 s, .int .i64 d, .int .i64 w, .bool m, .int .i64 z, .int .i64 t, .int .i64 c, .int .i64 a, .int .i64 er, .int .u32 x, .int .i64 y], errW none]) ∧ Below W.heap.size W w') := by
  have hb := beat_yes _ _ _ _ _ _ _ _ _ _ _ h 2 x y
  by_cases h1 : x = 0 ∨ ¬ tickP y
  · rw [if_pos h1] at hb
    exact .inl ⟨1, fun W => path_Path_Beat.calls 3 s d w m z t c a er no se x y 0 0 0 false 0 0 0 0 0 0 0 (some 1) W hb⟩
  · rw [if_neg h1] at hb
    by_cases h2 : no = 0
    · rw [if_pos h2] at hb
      refine .inr ⟨⟨fun h0 => absurd (Or.inl h0) h1, ?_, h.2.2⟩, fun W => path_Path_Beat.calls 3 s d w m z t c a er no se x y s d w m z t c a er x y none W hb⟩
      exact Classical.byContradiction fun hn => h1 (Or.inr hn)
    · rw [if_neg h2] at hb
      exact .inl ⟨5, fun W => path_Path_Beat.calls 3 s d w m z t c a er no se x y 0 0 0 false 0 0 0 0 0 0 0 (some 5) W hb⟩
/-- A beat that comes back: it is refused, or it is timed. -/
theorem k_beaten (h : goodQ s d w m z t c a er no se) (x y : Int) :
    (∃ q : Int, ∀ W : World, Calls Try.prog 30 #[.agg #[.int .i64 s, .int .i64 d, .int .i64 w, .bool m, .int .i64 z, .int .i64 t, .int .i64 c, .int .i64 a, .int .i64 er, .int .u32 no, .int .i64 se], .int .u32 x, .int .i64 y] W fun e w' => e = .returned (.tuple #[.agg #[.int .i64 0, .int .i64 0, .int .i64 0, .bool false, .int .i64 0, .int .i64 0, .int .i64 0, .int .i64 0, .int .i64 0, .int .u32 0, .int .i64 0], errW (some q)]) ∧ Below W.heap.size W w') ∨
    (∃ s2 d2 w2 m2, goodQ s2 d2 w2 m2 z t c a 0 0 0 ∧ ∀ W : World, Calls Try.prog 30 #[.agg #[.int .i64 s, .int .i64 d, .int .i64 w, .bool m, .int .i64 z, .int .i64 t, .int .i64 c, .int .i64 a, .int .i64 er, .int .u32 no, .int .i64 se], .int .u32 x, .int .i64 y] W fun e w' => e = .returned (.tuple #[.agg #[.int .i64 s2, .int .i64 d2, .int .i64 w2, .bool m2, .int .i64 z, .int .i64 t, .int .i64 c, .int .i64 a, .int .i64 0, .int .u32 0, .int .i64 0], errW none]) ∧ Below W.heap.size W w') := by
  have hb := beaten_yes _ _ _ _ _ _ _ _ _ _ _ h 2 x y
  by_cases h1 : x = 0 ∨ x ≠ no
  · rw [if_pos h1] at hb
    exact .inl ⟨4, fun W => path_Path_Beaten.calls 6 s d w m z t c a er no se x y 0 0 0 false 0 0 0 0 0 0 0 (some 4) W hb⟩
  · rw [if_neg h1] at hb
    by_cases h2 : y < se ∨ ¬ tickP y
    · rw [if_pos h2] at hb
      exact .inl ⟨1, fun W => path_Path_Beaten.calls 6 s d w m z t c a er no se x y 0 0 0 false 0 0 0 0 0 0 0 (some 1) W hb⟩
    · rw [if_neg h2] at hb
      have ht := took_ok _ _ _ _ _ _ _ _ _ _ _ h (fun h' => h2 (Or.inl h')) (Classical.byContradiction fun hn => h2 (Or.inr hn))
      exact .inr ⟨_, _, _, _, ⟨fun _ => rfl, by decide, h.2.2.1, took_good h.2.2.2.1 ht.2.1 ht.2.2, h.2.2.2.2.1, by decide, by decide⟩, fun W => path_Path_Beaten.calls 6 s d w m z t c a er no se x y _ _ _ true z t c a 0 0 0 none W hb⟩
theorem k_new (ha : addrP a) (W : World) : Calls Try.prog 13 #[.int .i64 a] W fun e w' => e = .returned (.tuple #[.agg #[.int .i64 0, .int .i64 0, .int .i64 30, .bool false, .int .i64 512, .int .i64 2000, .int .i64 0, .int .i64 a, .int .i64 0, .int .u32 0, .int .i64 0], errW none]) ∧ Below W.heap.size W w' :=
  path_New.calls a 0 0 30 false 512 2000 0 a 0 0 0 none W (by simp [path_New.f, addr_eq, ha, rto_First.f, cwnd_First.f])
theorem k_bad (ha : ¬ addrP a) (W : World) : Calls Try.prog 13 #[.int .i64 a] W fun e w' => e = .returned (.tuple #[.agg #[.int .i64 0, .int .i64 0, .int .i64 0, .bool false, .int .i64 0, .int .i64 0, .int .i64 0, .int .i64 0, .int .i64 0, .int .u32 0, .int .i64 0], errW (some 1)]) ∧ Below W.heap.size W w' :=
  path_New.calls a 0 0 0 false 0 0 0 0 0 0 0 (some 1) W (by simp [path_New.f, addr_eq, ha])
theorem k_alive (W : World) : Calls Try.prog 11 #[] W fun e w' => e = .returned (.bool true) ∧ Below W.heap.size W w' := weftlinelaw13_alive.calls 21 true W (alive13 1)
end
theorem k_arr {W : World} {A : Option Addr} {n : Nat} {l : List (List Int)} (h : Kd.C (Kd.arr 2 (Kd.int .i64) (by decide)) W A n l) (k : Nat) (hk : k < n) :
    ∃ ad x0 x1, A = some ad ∧ W.cell? (ad.add (k * 2)) = some (.int .i64 x0) ∧ W.cell? (ad.add (k * 2 + 1)) = some (.int .i64 x1) := by
  obtain ⟨ad, cs, hA, hl, hK, hc⟩ := Kd.C_get h [] k (by omega) (by omega)
  obtain ⟨h2, rfl⟩ := Kd.arr_cells hK
  rw [Int.toNat_natCast] at h2 hc
  obtain ⟨x0, x1, hx⟩ : ∃ x0 x1, l.getD k [] = [x0, x1] := by
    match hh : l.getD k [], h2 with
    | [x0, x1], _ => exact ⟨x0, x1, rfl⟩
  rw [hx] at hc
  exact ⟨ad, x0, x1, hA, hc 0 _ rfl, hc 1 _ rfl⟩
end Go.Proofs.Ytblooffiggciiaa.Pk
/- PathL -/
namespace Go.Proofs.Ytblooffiggciiaa.Pk
open Go.RowKit Go.Proofs.YtblooffiggciiaaW.PrintWords Go.Proofs.YtblooffiggciiaaW.PrintLast Go.Proofs.YtblooffiggciiaaW.PrintMore Go.Proofs.Ytblooffiggciiaa.PAll Go.Proofs.Ytblooffiggciiaa.Pl Go.Proofs.Ytblooffiggciiaa.Sh
set_option linter.unusedVariables false
set_option linter.unusedSimpArgs false
theorem put11 {w : World} {g : Nat} {t : TypeId} {x0 x1 x2 x3 x4 x5 x6 x7 x8 x9 x10 y0 y1 y2 y3 y4 y5 y6 y7 y8 y9 y10 : Value} (h : w.heap[g]? = some (.cells #[x0, x1, x2, x3, x4, x5, x6, x7, x8, x9, x10] t (0, 0))) :
    (((((((((((w.setCell ⟨g, 0, none⟩ y0).setCell ⟨g, 1, none⟩ y1).setCell ⟨g, 2, none⟩ y2).setCell ⟨g, 3, none⟩ y3).setCell ⟨g, 4, none⟩ y4).setCell ⟨g, 5, none⟩ y5).setCell ⟨g, 6, none⟩ y6).setCell ⟨g, 7, none⟩ y7).setCell ⟨g, 8, none⟩ y8).setCell ⟨g, 9, none⟩ y9).setCell ⟨g, 10, none⟩ y10).heap[g]? = some (.cells #[y0, y1, y2, y3, y4, y5, y6, y7, y8, y9, y10] t (0, 0)) := by
  have h0 := blk_put (cs' := #[y0, x1, x2, x3, x4, x5, x6, x7, x8, x9, x10]) h 0 y0 rfl
  have h1 := blk_put (cs' := #[y0, y1, x2, x3, x4, x5, x6, x7, x8, x9, x10]) h0 1 y1 rfl
  have h2 := blk_put (cs' := #[y0, y1, y2, x3, x4, x5, x6, x7, x8, x9, x10]) h1 2 y2 rfl
  have h3 := blk_put (cs' := #[y0, y1, y2, y3, x4, x5, x6, x7, x8, x9, x10]) h2 3 y3 rfl
  have h4 := blk_put (cs' := #[y0, y1, y2, y3, y4, x5, x6, x7, x8, x9, x10]) h3 4 y4 rfl
  have h5 := blk_put (cs' := #[y0, y1, y2, y3, y4, y5, x6, x7, x8, x9, x10]) h4 5 y5 rfl
  have h6 := blk_put (cs' := #[y0, y1, y2, y3, y4, y5, y6, x7, x8, x9, x10]) h5 6 y6 rfl
  have h7 := blk_put (cs' := #[y0, y1, y2, y3, y4, y5, y6, y7, x8, x9, x10]) h6 7 y7 rfl
  have h8 := blk_put (cs' := #[y0, y1, y2, y3, y4, y5, y6, y7, y8, x9, x10]) h7 8 y8 rfl
  have h9 := blk_put (cs' := #[y0, y1, y2, y3, y4, y5, y6, y7, y8, y9, x10]) h8 9 y9 rfl
  have h10 := blk_put (cs' := #[y0, y1, y2, y3, y4, y5, y6, y7, y8, y9, y10]) h9 10 y10 rfl
  exact h10
theorem bel11 {W w : World} {g : Nat} {y0 y1 y2 y3 y4 y5 y6 y7 y8 y9 y10 : Value} (h : Below W.heap.size W w) (hg : W.heap.size ≤ g) : Below W.heap.size W (((((((((((w.setCell ⟨g, 0, none⟩ y0).setCell ⟨g, 1, none⟩ y1).setCell ⟨g, 2, none⟩ y2).setCell ⟨g, 3, none⟩ y3).setCell ⟨g, 4, none⟩ y4).setCell ⟨g, 5, none⟩ y5).setCell ⟨g, 6, none⟩ y6).setCell ⟨g, 7, none⟩ y7).setCell ⟨g, 8, none⟩ y8).setCell ⟨g, 9, none⟩ y9).setCell ⟨g, 10, none⟩ y10) :=
  below_set (below_set (below_set (below_set (below_set (below_set (below_set (below_set (below_set (below_set (below_set h hg) hg) hg) hg) hg) hg) hg) hg) hg) hg) hg
theorem rem5 (x : Int) : wrap64 ((IntKind.u64.wrap x).tmod 5) = 0 ∨ wrap64 ((IntKind.u64.wrap x).tmod 5) = 1 ∨ wrap64 ((IntKind.u64.wrap x).tmod 5) = 2 ∨ wrap64 ((IntKind.u64.wrap x).tmod 5) = 3 ∨ wrap64 ((IntKind.u64.wrap x).tmod 5) = 4 := by
  have h : IntKind.u64.wrap x = x % 18446744073709551616 := by rfl
  rw [h, Int.tmod_eq_emod_of_nonneg (by omega), w64 (by omega) (by omega)]
  omega
theorem heard_q {s d w : Int} {m : Bool} {z t c a er no se : Int} (h : goodQ s d w m z t c a er no se) : goodQ s d w m z t c a 0 no se := ⟨h.1, h.2.1, h.2.2.1, h.2.2.2.1, h.2.2.2.2.1, by decide, by decide⟩
theorem failed_q {s d w : Int} {m : Bool} {z t c a er no se : Int} (h : goodQ s d w m z t c a er no se) (h8 : er ≤ 80) : goodQ s d (twiceW w) m 128 (halfW z) 0 a (er + 1) no se := by
  have := failed_good h
  rwa [show mn (er + 1) 100 = er + 1 by unfold mn; split <;> omega] at this
theorem missed_q {s d w : Int} {m : Bool} {z t c a er no se : Int} (h : goodQ s d w m z t c a er no se) (h8 : er ≤ 80) : goodQ s d (twiceW w) m z t c a (er + 1) 0 0 := by
  have h2 := failed_q h h8
  exact ⟨fun _ => rfl, by decide, h.2.2.1, h2.2.2.2.1, h.2.2.2.2.1, h2.2.2.2.2.2⟩
set_option maxRecDepth 100000 in
set_option maxHeartbeats 8000000 in
theorem pathKeeps_main (W : World) (a : Int) (A1 : Option Addr) (c1 : Nat) (l1 : List (List Int)) (ha : addrP a) (hl1 : l1.length ≤ 80) (hc1 : l1.length ≤ c1) (hC0 : Kd.C (Kd.arr 2 (Kd.int .i64) (by decide)) W A1 l1.length l1) :
    Calls Try.prog 5 #[.int .i64 a, .slice A1 l1.length c1] W fun e w' => e = .returned (.bool true) ∧ Below W.heap.size W w' := by
  have HC := Aside0.mk hC0
  have n2 : decide ((80 : Int) < (l1.length : Int)) = false := by simp; omega
  have HA := Aside0.mk ha
  clear hC0 ha
  go_enter Try.func5, Try.ntmps5
  go_wp2_with fail
  refine (k_alive _).mono ?_
  rintro e w1 ⟨rfl, hB1⟩
  go_wp2_with fail
  refine (k_new HA.out _).mono ?_
  rintro e w2 ⟨rfl, hB2⟩
  have HB := Aside0.mk (below_step hB1 hB2)
  have hg0 := HB.out.size
  clear hB1 hB2
  have hn : (errW none) = Value.nilIface := rfl
  rw [hn]
  clear hn
  have HN := Aside0.mk (blk_new w2 (.cells #[.int .i64 0, .int .i64 0, .int .i64 30, .bool false, .int .i64 512, .int .i64 2000, .int .i64 0, .int .i64 a, .int .i64 0, .int .u32 0, .int .i64 0] 34 (0, 0)))
  have HB2 := Aside0.mk (b1 HB.out (.cells #[.int .i64 0, .int .i64 0, .int .i64 30, .bool false, .int .i64 512, .int .i64 2000, .int .i64 0, .int .i64 a, .int .i64 0, .int .u32 0, .int .i64 0] 34 (0, 0)))
  go_wp2_with fail
  obtain ⟨g, hg⟩ : ∃ g, g = w2.heap.size := ⟨_, rfl⟩
  rw [← hg] at hg0 HN
  rw [← hg]
  clear hg HB
  go_loopw [30, 7] (fun i f wr => ∃ (k : Nat) (s d w : Int) (m : Bool) (z t c er no se : Int), k ≤ l1.length ∧ i = .int .i64 k ∧ f = .int .i64 er ∧ er ≤ k ∧ Aside0 (goodQ s d w m z t c a er no se) ∧ Aside0 (wr.heap[g]? = some (.cells #[.int .i64 s, .int .i64 d, .int .i64 w, .bool m, .int .i64 z, .int .i64 t, .int .i64 c, .int .i64 a, .int .i64 er, .int .u32 no, .int .i64 se] 34 (0, 0))) ∧ Aside0 (Below W.heap.size W wr)) (fun i _ _ => l1.length - (intOf i).toNat)
  case atStart => exact ⟨0, _, _, _, _, _, _, _, _, _, _, Nat.zero_le _, rfl, rfl, by decide, ⟨⟨fun _ => rfl, by decide, HA.out, by decide, by decide, by decide, by decide⟩⟩, HN, HB2⟩
  case round =>
    obtain ⟨k, s, d, w, m, z, t, c, er, no, se, hk, rfl, rfl, her, HQ, BK, HB6⟩ := hrel
    have h0 : 0 ≤ er := HQ.out.2.2.2.2.2.1
    by_cases hlt : k < l1.length
    · obtain ⟨ad, x0, x1, rfl, hx0, hx1⟩ := k_arr (Kd.C_below HC.out HB6.out) k hlt
      have h80 : er ≤ 80 := by omega
      have hx2 : wr.cell? { block := (ad.add (k * 2)).block, off := (ad.add (k * 2)).off + 1 } = some (.int .i64 x1) := by
        rw [← hx1]
        by_cases hk0 : k = 0
        · subst hk0; rfl
        · have e1 : k * 2 ≠ 0 := by omega
          simp [Addr.add, e1, Nat.add_assoc]
      have hcz := cc11 (q3 BK.out (.cells #[.int .i64 x0, .int .i64 x1] 56))
      rcases rem5 x0 with hr | hr | hr | hr | hr
      · -- failed
        go_wp2_with fail
        refine (k_failed HQ.out h80 _).mono ?_
        rintro e w7 ⟨rfl, hb⟩
        have BK3 := Aside0.mk (blk_below (q3 BK.out _) hb)
        have HB3 := Aside0.mk (below_step (b1 HB6.out _) hb)
        clear hb hcz
        have hcz := cc11 BK3.out
        go_wp2_with fail
        refine (k_good (failed_q HQ.out h80) _).mono ?_
        rintro e w8 ⟨rfl, hb⟩
        have BK8 := Aside0.mk (blk_below (put11 BK3.out) hb)
        have HB8 := Aside0.mk (below_step (bel11 HB3.out hg0) hb)
        clear hb hcz
        have hcz := cc11 BK8.out
        go_wp2_with fail
        refine (k_active (failed_q HQ.out h80) _).mono ?_
        rintro e w9 ⟨rfl, hb⟩
        have BK9 := Aside0.mk (blk_below BK8.out hb)
        have HB9 := Aside0.mk (below_step HB8.out hb)
        clear hb hcz
        have hcz := cc11 BK9.out
        go_wp2_with fail
        go_roundw
        case rel => exact ⟨k + 1, _, _, _, _, _, _, _, er + 1, _, _, by omega, by go_num, rfl, by omega, ⟨failed_q HQ.out h80⟩, BK9, HB9⟩
        case measure => simp [intOf]; omega
      · -- heard
        go_wp2_with fail
        refine (k_heard HQ.out _).mono ?_
        rintro e w7 ⟨rfl, hb⟩
        have BK3 := Aside0.mk (blk_below (q3 BK.out _) hb)
        have HB3 := Aside0.mk (below_step (b1 HB6.out _) hb)
        clear hb hcz
        have hcz := cc11 BK3.out
        go_wp2_with fail
        refine (k_good (heard_q HQ.out) _).mono ?_
        rintro e w8 ⟨rfl, hb⟩
        have BK8 := Aside0.mk (blk_below (put11 BK3.out) hb)
        have HB8 := Aside0.mk (below_step (bel11 HB3.out hg0) hb)
        clear hb hcz
        have hcz := cc11 BK8.out
        go_wp2_with fail
        refine (k_active (heard_q HQ.out) _).mono ?_
        rintro e w9 ⟨rfl, hb⟩
        have BK9 := Aside0.mk (blk_below BK8.out hb)
        have HB9 := Aside0.mk (below_step HB8.out hb)
        clear hb hcz
        have hcz := cc11 BK9.out
        go_wp2_with fail
        go_roundw
        case rel => exact ⟨k + 1, _, _, _, _, _, _, _, 0, _, _, by omega, by go_num, rfl, by omega, ⟨heard_q HQ.out⟩, BK9, HB9⟩
        case measure => simp [intOf]; omega
      · -- beat
        rcases k_beat HQ.out (x1 % 4294967296) x1 with ⟨q, hK⟩ | ⟨hQ2, hK⟩
        · rw [errW_some] at hK
          have HK := Aside0.mk hK
          clear hK
          go_wp2_with fail
          refine (HK.out _).mono ?_
          rintro e w7 ⟨rfl, hb⟩
          have BK3 := Aside0.mk (blk_below (q3 BK.out _) hb)
          have HB3 := Aside0.mk (below_step (b1 HB6.out _) hb)
          clear hb hcz
          have hcz := cc11 (q3 BK3.out (.cells #[.int .i64 0, .int .i64 0, .int .i64 0, .bool false, .int .i64 0, .int .i64 0, .int .i64 0, .int .i64 0, .int .i64 0, .int .u32 0, .int .i64 0] 34))
          go_wp2_with fail
          refine (k_good (HQ.out) _).mono ?_
          rintro e w8 ⟨rfl, hb⟩
          have BK8 := Aside0.mk (blk_below (q3 BK3.out _) hb)
          have HB8 := Aside0.mk (below_step (b1 HB3.out _) hb)
          clear hb hcz
          have hcz := cc11 BK8.out
          go_wp2_with fail
          refine (k_active (HQ.out) _).mono ?_
          rintro e w9 ⟨rfl, hb⟩
          have BK9 := Aside0.mk (blk_below BK8.out hb)
          have HB9 := Aside0.mk (below_step HB8.out hb)
          clear hb hcz
          have hcz := cc11 BK9.out
          go_wp2_with fail
          go_roundw
          case rel => exact ⟨k + 1, _, _, _, _, _, _, _, er, _, _, by omega, by go_num, rfl, by omega, ⟨HQ.out⟩, BK9, HB9⟩
          case measure => simp [intOf]; omega
        · rw [errW_none] at hK
          have HK := Aside0.mk hK
          have HQ2 := Aside0.mk hQ2
          clear hK hQ2
          go_wp2_with fail
          refine (HK.out _).mono ?_
          rintro e w7 ⟨rfl, hb⟩
          have BK3 := Aside0.mk (blk_below (q3 BK.out _) hb)
          have HB3 := Aside0.mk (below_step (b1 HB6.out _) hb)
          clear hb hcz
          have hcz := cc11 (q3 BK3.out (.cells #[.int .i64 s, .int .i64 d, .int .i64 w, .bool m, .int .i64 z, .int .i64 t, .int .i64 c, .int .i64 a, .int .i64 er, .int .u32 (x1 % 4294967296), .int .i64 x1] 34))
          go_wp2_with fail
          refine (k_good (HQ2.out) _).mono ?_
          rintro e w8 ⟨rfl, hb⟩
          have BK8 := Aside0.mk (blk_below (put11 (q3 BK3.out _)) hb)
          have HB8 := Aside0.mk (below_step (bel11 (b1 HB3.out _) hg0) hb)
          clear hb hcz
          have hcz := cc11 BK8.out
          go_wp2_with fail
          refine (k_active (HQ2.out) _).mono ?_
          rintro e w9 ⟨rfl, hb⟩
          have BK9 := Aside0.mk (blk_below BK8.out hb)
          have HB9 := Aside0.mk (below_step HB8.out hb)
          clear hb hcz
          have hcz := cc11 BK9.out
          go_wp2_with fail
          go_roundw
          case rel => exact ⟨k + 1, _, _, _, _, _, _, _, er, _, _, by omega, by go_num, rfl, by omega, ⟨HQ2.out⟩, BK9, HB9⟩
          case measure => simp [intOf]; omega
      · -- beaten
        rcases k_beaten HQ.out no x1 with ⟨q, hK⟩ | ⟨s2, d2, w2, m2, hQ2, hK⟩
        · rw [errW_some] at hK
          have HK := Aside0.mk hK
          clear hK
          go_wp2_with fail
          refine (HK.out _).mono ?_
          rintro e w7 ⟨rfl, hb⟩
          have BK3 := Aside0.mk (blk_below (q3 BK.out _) hb)
          have HB3 := Aside0.mk (below_step (b1 HB6.out _) hb)
          clear hb hcz
          have hcz := cc11 (q3 BK3.out (.cells #[.int .i64 0, .int .i64 0, .int .i64 0, .bool false, .int .i64 0, .int .i64 0, .int .i64 0, .int .i64 0, .int .i64 0, .int .u32 0, .int .i64 0] 34))
          go_wp2_with fail
          refine (k_good (HQ.out) _).mono ?_
          rintro e w8 ⟨rfl, hb⟩
          have BK8 := Aside0.mk (blk_below (q3 BK3.out _) hb)
          have HB8 := Aside0.mk (below_step (b1 HB3.out _) hb)
          clear hb hcz
          have hcz := cc11 BK8.out
          go_wp2_with fail
          refine (k_active (HQ.out) _).mono ?_
          rintro e w9 ⟨rfl, hb⟩
          have BK9 := Aside0.mk (blk_below BK8.out hb)
          have HB9 := Aside0.mk (below_step HB8.out hb)
          clear hb hcz
          have hcz := cc11 BK9.out
          go_wp2_with fail
          go_roundw
          case rel => exact ⟨k + 1, _, _, _, _, _, _, _, er, _, _, by omega, by go_num, rfl, by omega, ⟨HQ.out⟩, BK9, HB9⟩
          case measure => simp [intOf]; omega
        · rw [errW_none] at hK
          have HK := Aside0.mk hK
          have HQ2 := Aside0.mk hQ2
          clear hK hQ2
          go_wp2_with fail
          refine (HK.out _).mono ?_
          rintro e w7 ⟨rfl, hb⟩
          have BK3 := Aside0.mk (blk_below (q3 BK.out _) hb)
          have HB3 := Aside0.mk (below_step (b1 HB6.out _) hb)
          clear hb hcz
          have hcz := cc11 (q3 BK3.out (.cells #[.int .i64 s2, .int .i64 d2, .int .i64 w2, .bool m2, .int .i64 z, .int .i64 t, .int .i64 c, .int .i64 a, .int .i64 0, .int .u32 0, .int .i64 0] 34))
          go_wp2_with fail
          refine (k_good (HQ2.out) _).mono ?_
          rintro e w8 ⟨rfl, hb⟩
          have BK8 := Aside0.mk (blk_below (put11 (q3 BK3.out _)) hb)
          have HB8 := Aside0.mk (below_step (bel11 (b1 HB3.out _) hg0) hb)
          clear hb hcz
          have hcz := cc11 BK8.out
          go_wp2_with fail
          refine (k_active (HQ2.out) _).mono ?_
          rintro e w9 ⟨rfl, hb⟩
          have BK9 := Aside0.mk (blk_below BK8.out hb)
          have HB9 := Aside0.mk (below_step HB8.out hb)
          clear hb hcz
          have hcz := cc11 BK9.out
          go_wp2_with fail
          go_roundw
          case rel => exact ⟨k + 1, _, _, _, _, _, _, _, 0, _, _, by omega, by go_num, rfl, by omega, ⟨HQ2.out⟩, BK9, HB9⟩
          case measure => simp [intOf]; omega
      · -- missed
        by_cases hno : no = 0
        · subst hno
          go_wp2_with fail
          refine (k_missed0 HQ.out _).mono ?_
          rintro e w7 ⟨rfl, hb⟩
          have BK3 := Aside0.mk (blk_below (q3 BK.out _) hb)
          have HB3 := Aside0.mk (below_step (b1 HB6.out _) hb)
          clear hb hcz
          have hcz := cc11 BK3.out
          go_wp2_with fail
          refine (k_good (HQ.out) _).mono ?_
          rintro e w8 ⟨rfl, hb⟩
          have BK8 := Aside0.mk (blk_below (put11 BK3.out) hb)
          have HB8 := Aside0.mk (below_step (bel11 HB3.out hg0) hb)
          clear hb hcz
          have hcz := cc11 BK8.out
          go_wp2_with fail
          refine (k_active (HQ.out) _).mono ?_
          rintro e w9 ⟨rfl, hb⟩
          have BK9 := Aside0.mk (blk_below BK8.out hb)
          have HB9 := Aside0.mk (below_step HB8.out hb)
          clear hb hcz
          have hcz := cc11 BK9.out
          go_wp2_with fail
          go_roundw
          case rel => exact ⟨k + 1, _, _, _, _, _, _, _, er, _, _, by omega, by go_num, rfl, by omega, ⟨HQ.out⟩, BK9, HB9⟩
          case measure => simp [intOf]; omega
        · have hno2 : (no == 0) = false := by rw [beq_eq_false_iff_ne]; exact hno
          go_wp2_with fail
          refine (k_missed HQ.out hno h80 _).mono ?_
          rintro e w7 ⟨rfl, hb⟩
          have BK3 := Aside0.mk (blk_below (q3 BK.out _) hb)
          have HB3 := Aside0.mk (below_step (b1 HB6.out _) hb)
          clear hb hcz
          have hcz := cc11 BK3.out
          go_wp2_with fail
          refine (k_good (missed_q HQ.out h80) _).mono ?_
          rintro e w8 ⟨rfl, hb⟩
          have BK8 := Aside0.mk (blk_below (put11 BK3.out) hb)
          have HB8 := Aside0.mk (below_step (bel11 HB3.out hg0) hb)
          clear hb hcz
          have hcz := cc11 BK8.out
          go_wp2_with fail
          refine (k_active (missed_q HQ.out h80) _).mono ?_
          rintro e w9 ⟨rfl, hb⟩
          have BK9 := Aside0.mk (blk_below BK8.out hb)
          have HB9 := Aside0.mk (below_step HB8.out hb)
          clear hb hcz
          have hcz := cc11 BK9.out
          go_wp2_with fail
          go_roundw
          case rel => exact ⟨k + 1, _, _, _, _, _, _, _, er + 1, _, _, by omega, by go_num, rfl, by omega, ⟨missed_q HQ.out h80⟩, BK9, HB9⟩
          case measure => simp [intOf]; omega
    · obtain rfl : k = l1.length := by omega
      go_wp2_with fail
      go_ret
      exact ⟨rfl, HB6.out⟩
set_option maxRecDepth 100000 in
theorem pathKeeps_bad (W : World) (a : Int) (A1 : Option Addr) (c1 : Nat) (l1 : List (List Int)) (ha : ¬ addrP a) :
    Calls Try.prog 5 #[.int .i64 a, .slice A1 l1.length c1] W fun e w' => e = .returned (.bool true) ∧ Below W.heap.size W w' := by
  have HA := Aside0.mk ha
  clear ha
  go_enter Try.func5, Try.ntmps5
  go_wp2_with fail
  refine (k_alive _).mono ?_
  rintro e w1 ⟨rfl, hB1⟩
  go_wp2_with fail
  refine (k_bad HA.out _).mono ?_
  rintro e w2 ⟨rfl, hB2⟩
  have HB := Aside0.mk (b1 (below_step hB1 hB2) (.cells #[.int .i64 0, .int .i64 0, .int .i64 0, .bool false, .int .i64 0, .int .i64 0, .int .i64 0, .int .i64 0, .int .i64 0, .int .u32 0, .int .i64 0] 34 (0, 0)))
  clear hB1 hB2
  rw [errW_some]
  go_wp2_with fail
  go_ret
  exact ⟨rfl, HB.out⟩
set_option maxRecDepth 100000 in
theorem pathKeeps_out (W : World) (a : Int) (A1 : Option Addr) (c1 : Nat) (l1 : List (List Int)) (ha : addrP a) (hl : 80 < l1.length) :
    Calls Try.prog 5 #[.int .i64 a, .slice A1 l1.length c1] W fun e w' => e = .returned (.bool true) ∧ Below W.heap.size W w' := by
  have HA := Aside0.mk ha
  have n2 : decide ((80 : Int) < (l1.length : Int)) = true := by simp; omega
  clear ha hl
  go_enter Try.func5, Try.ntmps5
  go_wp2_with fail
  refine (k_alive _).mono ?_
  rintro e w1 ⟨rfl, hB1⟩
  go_wp2_with fail
  refine (k_new HA.out _).mono ?_
  rintro e w2 ⟨rfl, hB2⟩
  have HB := Aside0.mk (b1 (below_step hB1 hB2) (.cells #[.int .i64 0, .int .i64 0, .int .i64 30, .bool false, .int .i64 512, .int .i64 2000, .int .i64 0, .int .i64 a, .int .i64 0, .int .u32 0, .int .i64 0] 34 (0, 0)))
  clear hB1 hB2
  rw [errW_none]
  go_wp2_with fail
  go_ret
  exact ⟨rfl, HB.out⟩
theorem pathKeeps_walk (W : World) (a0 : Int) (A1 : Option Addr) (c1 : Nat) (l1 : (List (List Int))) (w0 : (Lit.int .i64 a0).wf = true) (hc1 : l1.length ≤ c1) (hr1 : Kd.C (Kd.arr 2 (Kd.int .i64) (by decide)) W A1 l1.length l1) (w1 : (∀ zl1 ∈ l1, (∀ zzl1 ∈ zl1, (Lit.int .i64 zzl1).wf = true))) :
    Calls Try.prog 5 #[.int .i64 a0, .slice A1 l1.length c1] W fun e w' => e = .returned (.bool true) ∧ Below W.heap.size W w' := by
  by_cases ha : addrP a0
  · by_cases hl : 80 < l1.length
    · exact pathKeeps_out W a0 A1 c1 l1 ha hl
    · exact pathKeeps_main W a0 A1 c1 l1 ha (by omega) hc1 hr1
  · exact pathKeeps_bad W a0 A1 c1 l1 ha
end Go.Proofs.Ytblooffiggciiaa.Pk
/- Opn -/
namespace Go.Proofs.Ytblooffiggciiaa.Opn
open Go.RowKit Go.Deep Go.WideShapes Go.ChangeShapes Go.Proofs.YtblooffiggciiaaW.PrintWords
set_option linter.unusedVariables false
/-- What reads at type T is told by the kind d, and fits wf. -/
def Opn (P : Program) (w : World) (T : TypeId) {α : Type} (d : Kd α) (wf : α → Prop) : Prop :=
  ∀ {H : Type} {enc : TypeId × Value → H} {base : Nat} {spare : Nat → Bool} {held : Bool} {fuel : Nat} {cs : List Value} {y : DataW H × List MemPlace},
    DataW.trod enc P w base spare held fuel T cs = some y → ∃ x, d.K w x cs ∧ wf x

section
variable {P : Program} {w : World} {T e : TypeId} {α β : Type}
theorem int {k : IntKind} (hu : P.underlying T = some (.int k)) : Opn P w T (Kd.int k) (fun x => (Lit.int k x).wf = true) := by
  intro H enc base spare held fuel cs y h
  obtain ⟨n, rfl, _, wn⟩ := DataW.trod_int hu h
  exact ⟨n, rfl, wn⟩
theorem bool (hu : P.underlying T = some .bool) : Opn P w T Kd.bool (fun _ => True) := by
  intro H enc base spare held fuel cs y h
  obtain ⟨n, rfl, _⟩ := DataW.trod_bool hu h
  exact ⟨n, rfl, trivial⟩
theorem list_of {p : Nat → α → Prop} : ∀ (n : Nat), (∀ i, i < n → ∃ x, p i x) → ∃ xs : List α, xs.length = n ∧ ∀ i x, xs[i]? = some x → p i x
  | 0, _ => ⟨[], rfl, fun i x h => by simp at h⟩
  | n + 1, h => by
    obtain ⟨xs, hl, hp⟩ := list_of n (fun i hi => h i (by omega))
    obtain ⟨x, hx⟩ := h n (by omega)
    refine ⟨xs ++ [x], by simp [hl], fun i y hy => ?_⟩
    by_cases hi : i < xs.length
    · rw [List.getElem?_append_left hi] at hy; exact hp i y hy
    · rw [List.getElem?_append_right (by omega)] at hy
      have h0 : i - xs.length = 0 := by
        rcases Nat.eq_zero_or_pos (i - xs.length) with h' | h'
        · exact h'
        · rw [List.getElem?_eq_none (by simp; omega)] at hy; cases hy
      rw [h0] at hy
      simp at hy
      subst hy
      obtain rfl : i = n := by omega
      exact hx

theorem slice {q : Nat} {d : Kd α} {wf : α → Prop} (hu : P.underlying T = some (.slice e)) (hs : P.cellsOf e = d.sz) (he : Opn P w e d wf) :
    Opn P w T (Kd.slice q d) (fun xs => ∀ x ∈ xs, wf x) := by
  intro H enc base spare held fuel cs y h
  rcases open_slice hu h with ⟨rfl, rfl⟩ | ⟨a, len, cap, m, n, D, Pl, rfl, hb, hl, hm, hmm, rfl, hx⟩
  · exact ⟨[], ⟨none, 0, rfl, Nat.le_refl _, rfl, by simp, fun h => absurd h (Nat.lt_irrefl 0)⟩, by simp⟩
  · have hlm : len ≤ m := by rw [hmm]; split <;> omega
    obtain ⟨xs, hlen, hp⟩ := list_of (p := fun i x => (∃ cs', w.cells? base (a.add (i * P.cellsOf e)) (P.cellsOf e) = some cs' ∧ d.K w x cs') ∧ wf x) len (fun i hi => by
      obtain ⟨cs', h1, h2⟩ := hx i (by omega)
      obtain ⟨x, hk, hw⟩ := he h2
      exact ⟨x, ⟨cs', h1, hk⟩, hw⟩)
    refine ⟨xs, ⟨some a, cap, by rw [hlen], by omega, rfl, by unfold maxLen at hm; omega, fun _ => ⟨a, rfl, fun j x hj => ?_⟩⟩, fun x hx' => ?_⟩
    · obtain ⟨⟨cs', h1, hk⟩, _⟩ := hp j x hj
      refine ⟨cs', d.K_len hk, hk, fun i u hu' => ?_⟩
      obtain ⟨_, hl2, hc⟩ := World.cells?_some h1
      have hi : i < cs'.length := by
        rcases Nat.lt_or_ge i cs'.length with h' | h'
        · exact h'
        · rw [List.getElem?_eq_none h'] at hu'; cases hu'
      have := hc i (by omega)
      rw [Deep.add_add, hs] at this
      rw [this]; exact hu'
    · obtain ⟨i, hi⟩ := List.getElem?_of_mem hx'
      exact (hp i x hi).2

theorem array {n : Nat} {d : Kd α} {wf : α → Prop} (hp : 0 < d.sz) (hu : P.underlying T = some (.array n e)) (hs : P.cellsOf e = d.sz) (hT : P.cellsOf T = n * d.sz) (he : Opn P w e d wf) :
    Opn P w T (Kd.arr n d hp) (fun xs => ∀ x ∈ xs, wf x) := by
  intro H enc base spare held fuel cs y h
  obtain ⟨xs, m, rfl, rfl, hl, hlen, hf⟩ := DataW.trod_array hu h
  obtain ⟨zs, hz, hp⟩ := list_of (p := fun i x => d.K w x ((cs.drop (i * d.sz)).take d.sz) ∧ wf x) n (fun i hi => by
    have h0 := hf i hi
    rw [List.getElem?_eq_getElem (by omega), hs] at h0
    exact he h0)
  refine ⟨zs, ⟨hz, by rw [hl, hT, hz], fun m p hm => (hp m p hm).1⟩, fun x hx => ?_⟩
  obtain ⟨i, hi⟩ := List.getElem?_of_mem hx
  exact (hp i x hi).2
end
end Go.Proofs.Ytblooffiggciiaa.Opn
/- RowPathKeeps -/
namespace Go.Proofs.Ytblooffiggciiaa.pathKeeps
open Go.ChangeShapes Go.WideShapes Go.ChangeAt Go.RowKit Go.Proofs.YtblooffiggciiaaW.PrintWords
open Go.ChangeMaps (open_string shut_string)
set_option linter.unusedVariables false
theorem own : ownKnob Try.prog.godebug = none := by kernel_rfl
theorem laidOut : laidOutB Try.prog = true := by kernel_rfl
theorem opn56 {W : World} : Opn.Opn Try.prog W 56 (Kd.arr 2 (Kd.int .i64) (by decide)) (fun x => (∀ zx ∈ x, (Lit.int .i64 zx).wf = true)) := Opn.array (by decide) Try.underlying56 (by kernel_rfl) (by kernel_rfl) (Opn.int Try.underlying3)
theorem opn55 {W : World} : Opn.Opn Try.prog W 55 (Kd.slice 56 (Kd.arr 2 (Kd.int .i64) (by decide))) (fun x => (∀ zx ∈ x, (∀ zzx ∈ zx, (Lit.int .i64 zzx).wf = true))) := Opn.slice Try.underlying55 (by kernel_rfl) opn56
set_option maxRecDepth 100000 in
theorem lifted (os : Os) (started : os.Started) (H : Type) (enc : TypeId × Value → H) :
    ReturnsInHanded {} Try.checked os 5 .any (Rows.pathKeepsSpec.pre6 enc Try.prog Try.f5 Rows.pathKeepsRow.domain false) (Rows.pathKeepsSpec.post enc Try.prog Try.f5 false true false false) := by
  refine returnsInHanded_of_change_sized (C := Try.checked) own started (by kernel_rfl) Try.func5
    (ChangeSpec.witness6 (enc := enc) (C := Try.checked) false ⟨#[], #[.int .i64 0, .slice none 0 0], []⟩ 8 (by kernel_rfl) (by kernel_rfl) (by kernel_rfl) (by kernel_rfl)) ?_
  intro W base args ds gs before hval0 hW hcnd hsz0 _
  have hval : ∀ (j : Nat) t v, Try.f5.params[j]? = some t → args[j]? = some v → Value.okWide Try.prog W .any base t v := hval0
  have hW' := hW
  obtain ⟨p, q, hA0, hV, rfl, hfz, hnd⟩ := hW
  have hA : DataW.TrodAll enc Try.prog W 0 (fun _ => true) true Try.f5.params.toList args.toList ds p := hA0
  rw [Try.params5] at hA hval
  obtain ⟨v0, vs0, d0, ds0, p0, q0, hargs, rfl, rfl, h0, r0⟩ := trodAll_cons hA
  obtain ⟨v1, vs1, d1, ds1, p1, q1, rfl, rfl, rfl, h1, r1⟩ := trodAll_cons r0
  obtain ⟨rfl, rfl, rfl⟩ := trodAll_nil r1
  obtain rfl : args = #[v0, v1] := by cases args; simp_all
  obtain ⟨rfl, rfl⟩ := trodVars_none hV
  have kk0 := h0
  have lt0 : ∀ x ∈ p0, x.block < W.heap.size := by obtain ⟨m, hm⟩ := kk0; exact DataW.trod_lt m _ _ _ hm
  obtain ⟨a0, rfl, rfl, rfl, w0⟩ := open_int Try.underlying26 (hval 0 26 v0 rfl rfl) h0
  have kk1 := h1
  have lt1 : ∀ x ∈ p1, x.block < W.heap.size := by obtain ⟨m, hm⟩ := kk1; exact DataW.trod_lt m _ _ _ hm
  obtain ⟨a1, len1, cap1, rfl⟩ := okWide_slice Try.underlying55 (hval 1 55 v1 rfl rfl)
  obtain ⟨fu1, hf1⟩ := h1
  obtain ⟨l1, ⟨A1, c1, he1, hc1, hr1⟩, w1⟩ := opn55 hf1
  simp only [Value.cells, List.cons.injEq, and_true, Value.slice.injEq] at he1
  obtain ⟨rfl, rfl, rfl⟩ := he1
  clear hA0 hval0 hsz0
  refine (Pk.pathKeeps_walk W a0 _ _ l1 w0 hc1 hr1 w1).mono fun e W' ⟨he, bel⟩ => ?_
  subst he
  exact ⟨_, rfl, _, _, _, [], _, [], hW', trodAll_mk1 (shut_bool Try.underlying4 _), (trodAll_cons_mk (Below.trod laidOut (by kernel_rfl) (of_decide_eq_true (by kernel_rfl)) kk0 bel lt0) (trodAll_cons_mk (Below.trod laidOut (by kernel_rfl) (of_decide_eq_true (by kernel_rfl)) kk1 bel lt1) trodAll_mk0)), rfl, bel.frame _, fun h => by cases h⟩
theorem over : Rows.pathKeepsRow.holds Try.pinned (OpenSpec.ofChange Rows.pathKeepsSpec) :=
  OpenClaim.holds_of_wide 5 Try.f5 rfl rfl rfl rfl rfl rfl rfl ⟨rfl, rfl, rfl, rfl, rfl⟩ rfl rfl rfl rfl rfl (by kernel_rfl) Try.func5 (by kernel_rfl)
    (of_decide_eq_true (by kernel_rfl)) (by unfold Func.isWrapper; first | (rw [if_pos (by decide +kernel)]; kernel_rfl) | (rw [if_neg (by decide +kernel)]; exact ⟨rfl, rfl⟩))
    (fun os started H enc _ => lifted os started H enc)
end Go.Proofs.Ytblooffiggciiaa.pathKeeps
namespace Go.Proofs.Ytblooffiggciiaa
/-- The row, under a short name, for the claim. -/
theorem pathKeeps_holds : Rows.PathKeepsSaid := pathKeeps.over
#print axioms pathKeeps_holds
end Go.Proofs.Ytblooffiggciiaa
