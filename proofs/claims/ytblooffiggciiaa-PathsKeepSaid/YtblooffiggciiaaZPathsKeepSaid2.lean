/- PathsKeepSaid: part 2 of its proof: printed functions and their contracts, plain laws. -/
import Derived.Test.YtblooffiggciiaaZPathsKeepSaid1
import Derived.WalkKit
import Derived.LoopTactic
import Derived.Outline
import Derived.Deep.QuietTactic
import Derived.BigQuiet
import Derived.Shelf.Slices.Clone
import Derived.RangeFuncNested
import Derived.RangeFuncBound
import Derived.RangeFuncCalls
import Derived.RangeFuncLeaves
import Derived.RangeFuncBox
import Derived.Shelf.Abstract
import Derived.OwnWalkIn
import Derived.TacticsInMore
import Derived.LoopNIn
import Derived.LoopIn
import Derived.Sort.QuietIn
set_option linter.unusedVariables false
set_option linter.unusedSimpArgs false
/- PPsx28 -/
namespace Go.Proofs.Ytblooffiggciiaa.PPs
open Go.RowKit Go.Proofs.YtblooffiggciiaaW.PrintWords Go.Proofs.YtblooffiggciiaaW.PrintLast Go.Proofs.YtblooffiggciiaaW.PrintMore
attribute [local go_sem] max2_int min2_int max_two min_two max_three min_three max_four min_four   -- for this text's walks alone
attribute [local go_sem] Go.Proofs.Ytblooffiggciiaa.Aid.isSome_setCell
def path_New.f (a0 : Int) : Option (Int × Int × Int × Bool × Int × Int × Int × Int × Int × Int × Int × Option Int) := (path_addressed.f a0).bind fun t180 => (if t180 = true then ((rto_First.f).bind fun bt181 => ((cwnd_First.f).bind fun bt185 => (some (bt181.1, bt181.2.1, bt181.2.2.1, bt181.2.2.2, bt185.1, bt185.2.1, bt185.2.2, a0, 0, 0, 0, none)))) else (some (0, 0, 0, false, 0, 0, 0, 0, 0, 0, 0, some 1)))
set_option maxHeartbeats 8000000 in
set_option maxRecDepth 100000 in
theorem path_New.calls (a0 : Int) (r1 : Int) (r2 : Int) (r3 : Int) (r4 : Bool) (r5 : Int) (r6 : Int) (r7 : Int) (r8 : Int) (r9 : Int) (r10 : Int) (r11 : Int) (r12 : Option Int) (w : World) (h : path_New.f a0 = some (r1, r2, r3, r4, r5, r6, r7, r8, r9, r10, r11, r12)) :
    Calls Try.prog 13 #[.int .i64 a0] w fun e w' => e = .returned (.tuple #[.agg #[.int .i64 r1, .int .i64 r2, .int .i64 r3, .bool r4, .int .i64 r5, .int .i64 r6, .int .i64 r7, .int .i64 r8, .int .i64 r9, .int .u32 r10, .int .i64 r11], errW r12]) ∧ Below w.heap.size w w' := by
  have hu34 := Try.underlying34
  have hu37 := Try.underlying37
  have hu42 := Try.underlying42
  have HB := Aside0.mk (Below.refl w.heap.size w)
  have H : ((path_addressed.f a0).bind fun t180 => (if t180 = true then ((rto_First.f).bind fun bt181 => ((cwnd_First.f).bind fun bt185 => (some (bt181.1, bt181.2.1, bt181.2.2.1, bt181.2.2.2, bt185.1, bt185.2.1, bt185.2.2, a0, 0, 0, 0, none)))) else (some (0, 0, 0, false, 0, 0, 0, 0, 0, 0, 0, some 1)))) = some (r1, r2, r3, r4, r5, r6, r7, r8, r9, r10, r11, r12) := h
  clear h
  replace H := Option.bind_eq_some_iff.mp H
  obtain ⟨t180, A20, H⟩ := H
  replace H : (if t180 = true then ((rto_First.f).bind fun bt181 => ((cwnd_First.f).bind fun bt185 => (some (bt181.1, bt181.2.1, bt181.2.2.1, bt181.2.2.2, bt185.1, bt185.2.1, bt185.2.2, a0, 0, 0, 0, none)))) else (some (0, 0, 0, false, 0, 0, 0, 0, 0, 0, 0, some 1))) = some (r1, r2, r3, r4, r5, r6, r7, r8, r9, r10, r11, r12) := H
  have A2 := Aside0.mk A20
  clear A20
  by_cases c3 : t180 = true
  · subst c3
    have H1 : ((rto_First.f).bind fun bt181 => ((cwnd_First.f).bind fun bt185 => (some (bt181.1, bt181.2.1, bt181.2.2.1, bt181.2.2.2, bt185.1, bt185.2.1, bt185.2.2, a0, 0, 0, 0, none)))) = some (r1, r2, r3, r4, r5, r6, r7, r8, r9, r10, r11, r12) := by rw [if_pos rfl] at H; exact H
    clear H
    have H := H1
    clear H1
    replace H := Option.bind_eq_some_iff.mp H
    obtain ⟨⟨t181, t182, t183, t184⟩, A40, H⟩ := H
    replace H : ((cwnd_First.f).bind fun bt185 => (some (t181, t182, t183, t184, bt185.1, bt185.2.1, bt185.2.2, a0, 0, 0, 0, none))) = some (r1, r2, r3, r4, r5, r6, r7, r8, r9, r10, r11, r12) := H
    have A4 := Aside0.mk A40
    clear A40
    replace H := Option.bind_eq_some_iff.mp H
    obtain ⟨⟨t185, t186, t187⟩, A50, H⟩ := H
    replace H : (some (t181, t182, t183, t184, t185, t186, t187, a0, 0, 0, 0, none)) = some (r1, r2, r3, r4, r5, r6, r7, r8, r9, r10, r11, r12) := H
    have A5 := Aside0.mk A50
    clear A50
    simp only [Option.some.injEq, Prod.mk.injEq] at H
    obtain ⟨rfl, rfl, rfl, rfl, rfl, rfl, rfl, rfl, rfl, rfl, rfl, rfl⟩ := H
    go_enter Try.func13, Try.ntmps13
    go_wp2_with (first | ((with_reducible refine gate_dst (N := 2) rfl ?_); refine box_event ?hg (N := 2) ?hd (cs := #[.int .i64 0, .int .i64 0, .int .i64 0, .bool false, .int .i64 0, .int .i64 0, .int .i64 0, .int .i64 0, .int .i64 0, .int .u32 0, .int .i64 0]) (t := 34) ?hr ?_; (case hd => rfl); (case hg => rfl); (case hr => first | (go_simp; done) | (go_simp; rfl)); intro gb179 hg w6 hbox hb; have n0_ := Aside0.mk (below_step (by repeat (first | (with_reducible first | exact HB.out | apply below_alloc | apply pw_below_drewN | apply below_drew1) | exact HB.out)) hb); have n1_ := Aside0.mk (hbox); have n2_ := Aside0.mk ((by rw [hg]; exact (below_size (by repeat (first | (with_reducible first | exact HB.out | apply below_alloc | apply pw_below_drewN | apply below_drew1) | exact HB.out))) : w.heap.size ≤ gb179)); have n3_ := Aside0.mk ((by rw [hg]; exact (below_size (by repeat (first | (with_reducible first | exact HB.out | apply below_alloc | apply pw_below_drewN | apply below_drew1) | exact HB.out))) : w.heap.size ≤ gb179)); clear HB; have HB := n0_; have BK179 := n1_; have GW179 := n2_; have GE179 := n3_; clear n0_ n1_ n2_ n3_; clear hb hbox hg) | ((with_reducible refine gate_callee (f := 64) rfl ?_); refine goesL_ (some 5) rfl rfl Try.func64 (by kernel_rfl) rfl #[.int .i64 a0] rfl (by (try simp only [List.map_toArray, List.map_cons, List.map_nil]); first | done | rfl | (simp only [List.length_drop, List.length_take]; rfl)) ?_; (with_reducible refine (path_addressed.calls a0 true _ A2.out).mono ?_); rintro e w' ⟨rfl, ⟨nd, rfl⟩⟩; refine ⟨_, rfl, ?_⟩; (try (rw [drewN_self w6]; generalize hq_ : World.drewN w6 _ = w6; have n0_ : Aside0 (w6.heap[gb179]? = some (.cells #[.int .i64 0, .int .i64 0, .int .i64 0, .bool false, .int .i64 0, .int .i64 0, .int .i64 0, .int .i64 0, .int .i64 0, .int .u32 0, .int .i64 0] 34 (0, 0))) := ⟨by rw [← hq_]; exact (by (with_reducible repeat (first | refine blk_drewN ?_ _ | refine blk_drew ?_ | refine blk_alloc ?_ _)); exact BK179.out)⟩; have n1_ : Aside0 (Below w.heap.size w w6) := ⟨by rw [← hq_]; exact (by repeat (first | (with_reducible first | exact HB.out | apply below_alloc | apply pw_below_drewN | apply below_drew1 | refine below_set ?_ GE179.out) | exact HB.out))⟩; clear BK179 HB hq_; have BK179 := n0_; have HB := n1_; clear n0_ n1_))) | ((with_reducible refine gate_callee (f := 65) rfl ?_); refine goesL_ (some 9) rfl rfl Try.func65 (by kernel_rfl) rfl #[] rfl (by (try simp only [List.map_toArray, List.map_cons, List.map_nil]); first | done | rfl | (simp only [List.length_drop, List.length_take]; rfl)) ?_; (with_reducible refine (rto_First.calls  t181 t182 t183 t184 _ A4.out).mono ?_); rintro e w7 ⟨rfl, hb⟩; refine ⟨_, rfl, ?_⟩; have n0_ := Aside0.mk (blk_below (g := gb179) (o := .cells #[.int .i64 0, .int .i64 0, .int .i64 0, .bool false, .int .i64 0, .int .i64 0, .int .i64 0, .int .i64 0, .int .i64 0, .int .u32 0, .int .i64 0] 34 (0, 0)) (by (with_reducible repeat (first | refine blk_drewN ?_ _ | refine blk_drew ?_ | refine blk_alloc ?_ _)); exact BK179.out) hb); have n1_ := Aside0.mk (below_step (by repeat (first | (with_reducible first | exact HB.out | apply below_alloc | apply pw_below_drewN | apply below_drew1 | refine below_set ?_ GE179.out) | exact HB.out)) hb); clear BK179; clear HB; have BK179 := n0_; have HB := n1_; clear n0_ n1_; (try clear hb); (try clear hb2); (try clear hk); (try clear hi)) | ((with_reducible refine gate_callee (f := 66) rfl ?_); refine goesL_ (some 10) rfl rfl Try.func66 (by kernel_rfl) rfl #[] rfl (by (try simp only [List.map_toArray, List.map_cons, List.map_nil]); first | done | rfl | (simp only [List.length_drop, List.length_take]; rfl)) ?_; (with_reducible refine (cwnd_First.calls  t185 t186 t187 _ A5.out).mono ?_); rintro e w8 ⟨rfl, hb⟩; refine ⟨_, rfl, ?_⟩; have n0_ := Aside0.mk (blk_below (g := gb179) (o := .cells #[.int .i64 0, .int .i64 0, .int .i64 0, .bool false, .int .i64 0, .int .i64 0, .int .i64 0, .int .i64 0, .int .i64 0, .int .u32 0, .int .i64 0] 34 (0, 0)) (by (with_reducible repeat (first | refine blk_drewN ?_ _ | refine blk_drew ?_ | refine blk_alloc ?_ _)); exact BK179.out) hb); have n1_ := Aside0.mk (below_step (by repeat (first | (with_reducible first | exact HB.out | apply below_alloc | apply pw_below_drewN | apply below_drew1 | refine below_set ?_ GE179.out) | exact HB.out)) hb); clear BK179; clear HB; have BK179 := n0_; have HB := n1_; clear n0_ n1_; (try clear hb); (try clear hb2); (try clear hk); (try clear hi); have hcz9_0 : w8.cell? ⟨gb179, 0, none⟩ = some (.int .i64 0) := (blk_cell BK179.out 0).trans rfl; have hcz9_1 : w8.cell? ⟨gb179, 1, none⟩ = some (.int .i64 0) := (blk_cell BK179.out 1).trans rfl; have hcz9_2 : w8.cell? ⟨gb179, 2, none⟩ = some (.int .i64 0) := (blk_cell BK179.out 2).trans rfl; have hcz9_3 : w8.cell? ⟨gb179, 3, none⟩ = some (.bool false) := (blk_cell BK179.out 3).trans rfl; have hcz9_4 : w8.cell? ⟨gb179, 4, none⟩ = some (.int .i64 0) := (blk_cell BK179.out 4).trans rfl; have hcz9_5 : w8.cell? ⟨gb179, 5, none⟩ = some (.int .i64 0) := (blk_cell BK179.out 5).trans rfl; have hcz9_6 : w8.cell? ⟨gb179, 6, none⟩ = some (.int .i64 0) := (blk_cell BK179.out 6).trans rfl; have hcz9_7 : w8.cell? ⟨gb179, 7, none⟩ = some (.int .i64 0) := (blk_cell BK179.out 7).trans rfl; have hcz9_8 : w8.cell? ⟨gb179, 8, none⟩ = some (.int .i64 0) := (blk_cell BK179.out 8).trans rfl; have hcz9_9 : w8.cell? ⟨gb179, 9, none⟩ = some (.int .u32 0) := (blk_cell BK179.out 9).trans rfl; have hcz9_10 : w8.cell? ⟨gb179, 10, none⟩ = some (.int .i64 0) := (blk_cell BK179.out 10).trans rfl; have hfz9_0 := blk_frozen BK179.out 0; have hfz9_1 := blk_frozen BK179.out 1; have hfz9_2 := blk_frozen BK179.out 2; have hfz9_3 := blk_frozen BK179.out 3; have hfz9_4 := blk_frozen BK179.out 4; have hfz9_5 := blk_frozen BK179.out 5; have hfz9_6 := blk_frozen BK179.out 6; have hfz9_7 := blk_frozen BK179.out 7; have hfz9_8 := blk_frozen BK179.out 8; have hfz9_9 := blk_frozen BK179.out 9; have hfz9_10 := blk_frozen BK179.out 10))
    refine bodyPost_ret (results_ct rfl _ _ gb179 34 #[.int .i64 t181, .int .i64 t182, .int .i64 t183, .bool t184, .int .i64 t185, .int .i64 t186, .int .i64 t187, .int .i64 a0, .int .i64 0, .int .u32 0, .int .i64 0] (0, 0) _ rfl (by (with_reducible repeat (first | refine blk_drewN ?_ _ | refine blk_drew ?_ | refine blk_alloc ?_ _)); refine blk_put (cs := #[.int .i64 t181, .int .i64 t182, .int .i64 t183, .bool t184, .int .i64 t185, .int .i64 t186, .int .i64 t187, .int .i64 a0, .int .i64 0, .int .u32 0, .int .i64 0]) ?_ 10 _ rfl; (with_reducible repeat (first | refine blk_drewN ?_ _ | refine blk_drew ?_ | refine blk_alloc ?_ _)); refine blk_put (cs := #[.int .i64 t181, .int .i64 t182, .int .i64 t183, .bool t184, .int .i64 t185, .int .i64 t186, .int .i64 t187, .int .i64 a0, .int .i64 0, .int .u32 0, .int .i64 0]) ?_ 9 _ rfl; (with_reducible repeat (first | refine blk_drewN ?_ _ | refine blk_drew ?_ | refine blk_alloc ?_ _)); refine blk_put (cs := #[.int .i64 t181, .int .i64 t182, .int .i64 t183, .bool t184, .int .i64 t185, .int .i64 t186, .int .i64 t187, .int .i64 a0, .int .i64 0, .int .u32 0, .int .i64 0]) ?_ 8 _ rfl; (with_reducible repeat (first | refine blk_drewN ?_ _ | refine blk_drew ?_ | refine blk_alloc ?_ _)); refine blk_put (cs := #[.int .i64 t181, .int .i64 t182, .int .i64 t183, .bool t184, .int .i64 t185, .int .i64 t186, .int .i64 t187, .int .i64 0, .int .i64 0, .int .u32 0, .int .i64 0]) ?_ 7 _ rfl; (with_reducible repeat (first | refine blk_drewN ?_ _ | refine blk_drew ?_ | refine blk_alloc ?_ _)); refine blk_put (cs := #[.int .i64 t181, .int .i64 t182, .int .i64 t183, .bool t184, .int .i64 t185, .int .i64 t186, .int .i64 0, .int .i64 0, .int .i64 0, .int .u32 0, .int .i64 0]) ?_ 6 _ rfl; (with_reducible repeat (first | refine blk_drewN ?_ _ | refine blk_drew ?_ | refine blk_alloc ?_ _)); refine blk_put (cs := #[.int .i64 t181, .int .i64 t182, .int .i64 t183, .bool t184, .int .i64 t185, .int .i64 0, .int .i64 0, .int .i64 0, .int .i64 0, .int .u32 0, .int .i64 0]) ?_ 5 _ rfl; (with_reducible repeat (first | refine blk_drewN ?_ _ | refine blk_drew ?_ | refine blk_alloc ?_ _)); refine blk_put (cs := #[.int .i64 t181, .int .i64 t182, .int .i64 t183, .bool t184, .int .i64 0, .int .i64 0, .int .i64 0, .int .i64 0, .int .i64 0, .int .u32 0, .int .i64 0]) ?_ 4 _ rfl; (with_reducible repeat (first | refine blk_drewN ?_ _ | refine blk_drew ?_ | refine blk_alloc ?_ _)); refine blk_put (cs := #[.int .i64 t181, .int .i64 t182, .int .i64 t183, .bool false, .int .i64 0, .int .i64 0, .int .i64 0, .int .i64 0, .int .i64 0, .int .u32 0, .int .i64 0]) ?_ 3 _ rfl; (with_reducible repeat (first | refine blk_drewN ?_ _ | refine blk_drew ?_ | refine blk_alloc ?_ _)); refine blk_put (cs := #[.int .i64 t181, .int .i64 t182, .int .i64 0, .bool false, .int .i64 0, .int .i64 0, .int .i64 0, .int .i64 0, .int .i64 0, .int .u32 0, .int .i64 0]) ?_ 2 _ rfl; (with_reducible repeat (first | refine blk_drewN ?_ _ | refine blk_drew ?_ | refine blk_alloc ?_ _)); refine blk_put (cs := #[.int .i64 t181, .int .i64 0, .int .i64 0, .bool false, .int .i64 0, .int .i64 0, .int .i64 0, .int .i64 0, .int .i64 0, .int .u32 0, .int .i64 0]) ?_ 1 _ rfl; (with_reducible repeat (first | refine blk_drewN ?_ _ | refine blk_drew ?_ | refine blk_alloc ?_ _)); refine blk_put (cs := #[.int .i64 0, .int .i64 0, .int .i64 0, .bool false, .int .i64 0, .int .i64 0, .int .i64 0, .int .i64 0, .int .i64 0, .int .u32 0, .int .i64 0]) ?_ 0 _ rfl; (with_reducible repeat (first | refine blk_drewN ?_ _ | refine blk_drew ?_ | refine blk_alloc ?_ _)); exact BK179.out) Try.underlying34 rfl (by kernel_rfl)) rfl ?_
    exact ⟨by first | rfl | (simp [errW_none, errW_some] <;> rfl) | (simp [*, errW_none, errW_some] <;> rfl), by repeat (first | (with_reducible first | exact HB.out | apply below_alloc | apply pw_below_drewN | apply below_drew1 | refine below_set ?_ GE179.out) | exact HB.out)⟩
  · replace c3 := Bool.eq_false_iff.mpr c3
    subst c3
    have H1 : (some (0, 0, 0, false, 0, 0, 0, 0, 0, 0, 0, some 1)) = some (r1, r2, r3, r4, r5, r6, r7, r8, r9, r10, r11, r12) := by rw [if_neg (show ¬ (false = true) by decide)] at H; exact H
    clear H
    have H := H1
    clear H1
    simp only [Option.some.injEq, Prod.mk.injEq] at H
    obtain ⟨rfl, rfl, rfl, rfl, rfl, rfl, rfl, rfl, rfl, rfl, rfl, rfl⟩ := H
    go_enter Try.func13, Try.ntmps13
    go_wp2_with (first | ((with_reducible refine gate_dst (N := 2) rfl ?_); refine box_event ?hg (N := 2) ?hd (cs := #[.int .i64 0, .int .i64 0, .int .i64 0, .bool false, .int .i64 0, .int .i64 0, .int .i64 0, .int .i64 0, .int .i64 0, .int .u32 0, .int .i64 0]) (t := 34) ?hr ?_; (case hd => rfl); (case hg => rfl); (case hr => first | (go_simp; done) | (go_simp; rfl)); intro gb179 hg w10 hbox hb; have n0_ := Aside0.mk (below_step (by repeat (first | (with_reducible first | exact HB.out | apply below_alloc | apply pw_below_drewN | apply below_drew1) | exact HB.out)) hb); have n1_ := Aside0.mk (hbox); have n2_ := Aside0.mk ((by rw [hg]; exact (below_size (by repeat (first | (with_reducible first | exact HB.out | apply below_alloc | apply pw_below_drewN | apply below_drew1) | exact HB.out))) : w.heap.size ≤ gb179)); have n3_ := Aside0.mk ((by rw [hg]; exact (below_size (by repeat (first | (with_reducible first | exact HB.out | apply below_alloc | apply pw_below_drewN | apply below_drew1) | exact HB.out))) : w.heap.size ≤ gb179)); clear HB; have HB := n0_; have BK179 := n1_; have GW179 := n2_; have GE179 := n3_; clear n0_ n1_ n2_ n3_; clear hb hbox hg) | ((with_reducible refine gate_callee (f := 64) rfl ?_); refine goesL_ (some 5) rfl rfl Try.func64 (by kernel_rfl) rfl #[.int .i64 a0] rfl (by (try simp only [List.map_toArray, List.map_cons, List.map_nil]); first | done | rfl | (simp only [List.length_drop, List.length_take]; rfl)) ?_; (with_reducible refine (path_addressed.calls a0 false _ A2.out).mono ?_); rintro e w' ⟨rfl, ⟨nd, rfl⟩⟩; refine ⟨_, rfl, ?_⟩; (try (rw [drewN_self w10]; generalize hq_ : World.drewN w10 _ = w10; have n0_ : Aside0 (w10.heap[gb179]? = some (.cells #[.int .i64 0, .int .i64 0, .int .i64 0, .bool false, .int .i64 0, .int .i64 0, .int .i64 0, .int .i64 0, .int .i64 0, .int .u32 0, .int .i64 0] 34 (0, 0))) := ⟨by rw [← hq_]; exact (by (with_reducible repeat (first | refine blk_drewN ?_ _ | refine blk_drew ?_ | refine blk_alloc ?_ _)); exact BK179.out)⟩; have n1_ : Aside0 (Below w.heap.size w w10) := ⟨by rw [← hq_]; exact (by repeat (first | (with_reducible first | exact HB.out | apply below_alloc | apply pw_below_drewN | apply below_drew1 | refine below_set ?_ GE179.out) | exact HB.out))⟩; clear BK179 HB hq_; have BK179 := n0_; have HB := n1_; clear n0_ n1_)); have hcz11_0 : w10.cell? ⟨gb179, 0, none⟩ = some (.int .i64 0) := (blk_cell BK179.out 0).trans rfl; have hcz11_1 : w10.cell? ⟨gb179, 1, none⟩ = some (.int .i64 0) := (blk_cell BK179.out 1).trans rfl; have hcz11_2 : w10.cell? ⟨gb179, 2, none⟩ = some (.int .i64 0) := (blk_cell BK179.out 2).trans rfl; have hcz11_3 : w10.cell? ⟨gb179, 3, none⟩ = some (.bool false) := (blk_cell BK179.out 3).trans rfl; have hcz11_4 : w10.cell? ⟨gb179, 4, none⟩ = some (.int .i64 0) := (blk_cell BK179.out 4).trans rfl; have hcz11_5 : w10.cell? ⟨gb179, 5, none⟩ = some (.int .i64 0) := (blk_cell BK179.out 5).trans rfl; have hcz11_6 : w10.cell? ⟨gb179, 6, none⟩ = some (.int .i64 0) := (blk_cell BK179.out 6).trans rfl; have hcz11_7 : w10.cell? ⟨gb179, 7, none⟩ = some (.int .i64 0) := (blk_cell BK179.out 7).trans rfl; have hcz11_8 : w10.cell? ⟨gb179, 8, none⟩ = some (.int .i64 0) := (blk_cell BK179.out 8).trans rfl; have hcz11_9 : w10.cell? ⟨gb179, 9, none⟩ = some (.int .u32 0) := (blk_cell BK179.out 9).trans rfl; have hcz11_10 : w10.cell? ⟨gb179, 10, none⟩ = some (.int .i64 0) := (blk_cell BK179.out 10).trans rfl; have hfz11_0 := blk_frozen BK179.out 0; have hfz11_1 := blk_frozen BK179.out 1; have hfz11_2 := blk_frozen BK179.out 2; have hfz11_3 := blk_frozen BK179.out 3; have hfz11_4 := blk_frozen BK179.out 4; have hfz11_5 := blk_frozen BK179.out 5; have hfz11_6 := blk_frozen BK179.out 6; have hfz11_7 := blk_frozen BK179.out 7; have hfz11_8 := blk_frozen BK179.out 8; have hfz11_9 := blk_frozen BK179.out 9; have hfz11_10 := blk_frozen BK179.out 10))
    refine bodyPost_ret (results_ct rfl _ _ gb179 34 #[.int .i64 0, .int .i64 0, .int .i64 0, .bool false, .int .i64 0, .int .i64 0, .int .i64 0, .int .i64 0, .int .i64 0, .int .u32 0, .int .i64 0] (0, 0) _ rfl (by (with_reducible repeat (first | refine blk_drewN ?_ _ | refine blk_drew ?_ | refine blk_alloc ?_ _)); refine blk_put (cs := #[.int .i64 0, .int .i64 0, .int .i64 0, .bool false, .int .i64 0, .int .i64 0, .int .i64 0, .int .i64 0, .int .i64 0, .int .u32 0, .int .i64 0]) ?_ 10 _ rfl; (with_reducible repeat (first | refine blk_drewN ?_ _ | refine blk_drew ?_ | refine blk_alloc ?_ _)); refine blk_put (cs := #[.int .i64 0, .int .i64 0, .int .i64 0, .bool false, .int .i64 0, .int .i64 0, .int .i64 0, .int .i64 0, .int .i64 0, .int .u32 0, .int .i64 0]) ?_ 9 _ rfl; (with_reducible repeat (first | refine blk_drewN ?_ _ | refine blk_drew ?_ | refine blk_alloc ?_ _)); refine blk_put (cs := #[.int .i64 0, .int .i64 0, .int .i64 0, .bool false, .int .i64 0, .int .i64 0, .int .i64 0, .int .i64 0, .int .i64 0, .int .u32 0, .int .i64 0]) ?_ 8 _ rfl; (with_reducible repeat (first | refine blk_drewN ?_ _ | refine blk_drew ?_ | refine blk_alloc ?_ _)); refine blk_put (cs := #[.int .i64 0, .int .i64 0, .int .i64 0, .bool false, .int .i64 0, .int .i64 0, .int .i64 0, .int .i64 0, .int .i64 0, .int .u32 0, .int .i64 0]) ?_ 7 _ rfl; (with_reducible repeat (first | refine blk_drewN ?_ _ | refine blk_drew ?_ | refine blk_alloc ?_ _)); refine blk_put (cs := #[.int .i64 0, .int .i64 0, .int .i64 0, .bool false, .int .i64 0, .int .i64 0, .int .i64 0, .int .i64 0, .int .i64 0, .int .u32 0, .int .i64 0]) ?_ 6 _ rfl; (with_reducible repeat (first | refine blk_drewN ?_ _ | refine blk_drew ?_ | refine blk_alloc ?_ _)); refine blk_put (cs := #[.int .i64 0, .int .i64 0, .int .i64 0, .bool false, .int .i64 0, .int .i64 0, .int .i64 0, .int .i64 0, .int .i64 0, .int .u32 0, .int .i64 0]) ?_ 5 _ rfl; (with_reducible repeat (first | refine blk_drewN ?_ _ | refine blk_drew ?_ | refine blk_alloc ?_ _)); refine blk_put (cs := #[.int .i64 0, .int .i64 0, .int .i64 0, .bool false, .int .i64 0, .int .i64 0, .int .i64 0, .int .i64 0, .int .i64 0, .int .u32 0, .int .i64 0]) ?_ 4 _ rfl; (with_reducible repeat (first | refine blk_drewN ?_ _ | refine blk_drew ?_ | refine blk_alloc ?_ _)); refine blk_put (cs := #[.int .i64 0, .int .i64 0, .int .i64 0, .bool false, .int .i64 0, .int .i64 0, .int .i64 0, .int .i64 0, .int .i64 0, .int .u32 0, .int .i64 0]) ?_ 3 _ rfl; (with_reducible repeat (first | refine blk_drewN ?_ _ | refine blk_drew ?_ | refine blk_alloc ?_ _)); refine blk_put (cs := #[.int .i64 0, .int .i64 0, .int .i64 0, .bool false, .int .i64 0, .int .i64 0, .int .i64 0, .int .i64 0, .int .i64 0, .int .u32 0, .int .i64 0]) ?_ 2 _ rfl; (with_reducible repeat (first | refine blk_drewN ?_ _ | refine blk_drew ?_ | refine blk_alloc ?_ _)); refine blk_put (cs := #[.int .i64 0, .int .i64 0, .int .i64 0, .bool false, .int .i64 0, .int .i64 0, .int .i64 0, .int .i64 0, .int .i64 0, .int .u32 0, .int .i64 0]) ?_ 1 _ rfl; (with_reducible repeat (first | refine blk_drewN ?_ _ | refine blk_drew ?_ | refine blk_alloc ?_ _)); refine blk_put (cs := #[.int .i64 0, .int .i64 0, .int .i64 0, .bool false, .int .i64 0, .int .i64 0, .int .i64 0, .int .i64 0, .int .i64 0, .int .u32 0, .int .i64 0]) ?_ 0 _ rfl; (with_reducible repeat (first | refine blk_drewN ?_ _ | refine blk_drew ?_ | refine blk_alloc ?_ _)); exact BK179.out) Try.underlying34 rfl (by kernel_rfl)) rfl ?_
    exact ⟨by first | rfl | (simp [errW_none, errW_some] <;> rfl) | (simp [*, errW_none, errW_some] <;> rfl), by repeat (first | (with_reducible first | exact HB.out | apply below_alloc | apply pw_below_drewN | apply below_drew1 | refine below_set ?_ GE179.out) | exact HB.out)⟩

end Go.Proofs.Ytblooffiggciiaa.PPs
/- PPsx30 -/
namespace Go.Proofs.Ytblooffiggciiaa.PPs
open Go.RowKit Go.Proofs.YtblooffiggciiaaW.PrintWords Go.Proofs.YtblooffiggciiaaW.PrintLast Go.Proofs.YtblooffiggciiaaW.PrintMore
attribute [local go_sem] max2_int min2_int max_two min_two max_three min_three max_four min_four   -- for this text's walks alone
attribute [local go_sem] Go.Proofs.Ytblooffiggciiaa.Aid.isSome_setCell
def path_Path_Active.f (k : Nat) (a0_0 : Int) (a0_1 : Int) (a0_2 : Int) (a0_3 : Bool) (a0_4 : Int) (a0_5 : Int) (a0_6 : Int) (a0_7 : Int) (a0_8 : Int) (a0_9 : Int) (a0_10 : Int) : Option (Bool) := (path_Good.f k a0_0 a0_1 a0_2 a0_3 a0_4 a0_5 a0_6 a0_7 a0_8 a0_9 a0_10).bind fun t209 => (if t209 = true then (some (decide (a0_8 ≤ 5))) else (some false))
set_option maxHeartbeats 8000000 in
set_option maxRecDepth 100000 in
theorem path_Path_Active.calls (k : Nat) (a0_0 : Int) (a0_1 : Int) (a0_2 : Int) (a0_3 : Bool) (a0_4 : Int) (a0_5 : Int) (a0_6 : Int) (a0_7 : Int) (a0_8 : Int) (a0_9 : Int) (a0_10 : Int) (r : Bool) (w : World) (h : path_Path_Active.f k a0_0 a0_1 a0_2 a0_3 a0_4 a0_5 a0_6 a0_7 a0_8 a0_9 a0_10 = some r) :
    Calls Try.prog 21 #[.agg #[.int .i64 a0_0, .int .i64 a0_1, .int .i64 a0_2, .bool a0_3, .int .i64 a0_4, .int .i64 a0_5, .int .i64 a0_6, .int .i64 a0_7, .int .i64 a0_8, .int .u32 a0_9, .int .i64 a0_10]] w fun e w' => e = .returned (.bool r) ∧ Below w.heap.size w w' := by
  have hu34 := Try.underlying34
  have HB := Aside0.mk (Below.refl w.heap.size w)
  have H : ((path_Good.f k a0_0 a0_1 a0_2 a0_3 a0_4 a0_5 a0_6 a0_7 a0_8 a0_9 a0_10).bind fun t209 => (if t209 = true then (some (decide (a0_8 ≤ 5))) else (some false))) = some r := h
  clear h
  replace H := Option.bind_eq_some_iff.mp H
  obtain ⟨t209, A20, H⟩ := H
  replace H : (if t209 = true then (some (decide (a0_8 ≤ 5))) else (some false)) = some r := H
  have A2 := Aside0.mk A20
  clear A20
  by_cases c3 : t209 = true
  · subst c3
    have H1 : (some (decide (a0_8 ≤ 5))) = some r := by rw [if_pos rfl] at H; exact H
    clear H
    have H := H1
    clear H1
    obtain rfl := Option.some.inj H
    go_enter Try.func21, Try.ntmps21
    go_wp2_with (first | ((with_reducible refine gate_dst (N := 1) rfl ?_); refine box_event ?hg (N := 1) ?hd (cs := #[.int .i64 a0_0, .int .i64 a0_1, .int .i64 a0_2, .bool a0_3, .int .i64 a0_4, .int .i64 a0_5, .int .i64 a0_6, .int .i64 a0_7, .int .i64 a0_8, .int .u32 a0_9, .int .i64 a0_10]) (t := 34) ?hr ?_; (case hd => rfl); (case hg => rfl); (case hr => first | (go_simp; done) | (go_simp; rfl)); intro gb208 hg w4 hbox hb; have n0_ := Aside0.mk (below_step (by repeat (first | (with_reducible first | exact HB.out | apply below_alloc | apply pw_below_drewN | apply below_drew1) | exact HB.out)) hb); have n1_ := Aside0.mk (hbox); have n2_ := Aside0.mk ((by rw [hg]; exact (below_size (by repeat (first | (with_reducible first | exact HB.out | apply below_alloc | apply pw_below_drewN | apply below_drew1) | exact HB.out))) : w.heap.size ≤ gb208)); have n3_ := Aside0.mk ((by rw [hg]; exact (below_size (by repeat (first | (with_reducible first | exact HB.out | apply below_alloc | apply pw_below_drewN | apply below_drew1) | exact HB.out))) : w.heap.size ≤ gb208)); clear HB; have HB := n0_; have BK208 := n1_; have GW208 := n2_; have GE208 := n3_; clear n0_ n1_ n2_ n3_; clear hb hbox hg; have hcz5_0 : w4.cell? ⟨gb208, 0, none⟩ = some (.int .i64 a0_0) := (blk_cell BK208.out 0).trans rfl; have hcz5_1 : w4.cell? ⟨gb208, 1, none⟩ = some (.int .i64 a0_1) := (blk_cell BK208.out 1).trans rfl; have hcz5_2 : w4.cell? ⟨gb208, 2, none⟩ = some (.int .i64 a0_2) := (blk_cell BK208.out 2).trans rfl; have hcz5_3 : w4.cell? ⟨gb208, 3, none⟩ = some (.bool a0_3) := (blk_cell BK208.out 3).trans rfl; have hcz5_4 : w4.cell? ⟨gb208, 4, none⟩ = some (.int .i64 a0_4) := (blk_cell BK208.out 4).trans rfl; have hcz5_5 : w4.cell? ⟨gb208, 5, none⟩ = some (.int .i64 a0_5) := (blk_cell BK208.out 5).trans rfl; have hcz5_6 : w4.cell? ⟨gb208, 6, none⟩ = some (.int .i64 a0_6) := (blk_cell BK208.out 6).trans rfl; have hcz5_7 : w4.cell? ⟨gb208, 7, none⟩ = some (.int .i64 a0_7) := (blk_cell BK208.out 7).trans rfl; have hcz5_8 : w4.cell? ⟨gb208, 8, none⟩ = some (.int .i64 a0_8) := (blk_cell BK208.out 8).trans rfl; have hcz5_9 : w4.cell? ⟨gb208, 9, none⟩ = some (.int .u32 a0_9) := (blk_cell BK208.out 9).trans rfl; have hcz5_10 : w4.cell? ⟨gb208, 10, none⟩ = some (.int .i64 a0_10) := (blk_cell BK208.out 10).trans rfl; have hfz5_0 := blk_frozen BK208.out 0; have hfz5_1 := blk_frozen BK208.out 1; have hfz5_2 := blk_frozen BK208.out 2; have hfz5_3 := blk_frozen BK208.out 3; have hfz5_4 := blk_frozen BK208.out 4; have hfz5_5 := blk_frozen BK208.out 5; have hfz5_6 := blk_frozen BK208.out 6; have hfz5_7 := blk_frozen BK208.out 7; have hfz5_8 := blk_frozen BK208.out 8; have hfz5_9 := blk_frozen BK208.out 9; have hfz5_10 := blk_frozen BK208.out 10) | ((with_reducible refine gate_callee (f := 20) rfl ?_); refine goesL_ (some 4) rfl rfl Try.func20 (by kernel_rfl) rfl #[.agg #[.int .i64 a0_0, .int .i64 a0_1, .int .i64 a0_2, .bool a0_3, .int .i64 a0_4, .int .i64 a0_5, .int .i64 a0_6, .int .i64 a0_7, .int .i64 a0_8, .int .u32 a0_9, .int .i64 a0_10]] rfl (by (try simp only [List.map_toArray, List.map_cons, List.map_nil]); first | done | rfl | (simp only [List.length_drop, List.length_take]; rfl)) ?_; (with_reducible refine (path_Good.calls k a0_0 a0_1 a0_2 a0_3 a0_4 a0_5 a0_6 a0_7 a0_8 a0_9 a0_10 true _ A2.out).mono ?_); rintro e w6 ⟨rfl, hb⟩; refine ⟨_, rfl, ?_⟩; have n0_ := Aside0.mk (blk_below (g := gb208) (o := .cells #[.int .i64 a0_0, .int .i64 a0_1, .int .i64 a0_2, .bool a0_3, .int .i64 a0_4, .int .i64 a0_5, .int .i64 a0_6, .int .i64 a0_7, .int .i64 a0_8, .int .u32 a0_9, .int .i64 a0_10] 34 (0, 0)) (by (with_reducible repeat (first | refine blk_drewN ?_ _ | refine blk_drew ?_ | refine blk_alloc ?_ _)); exact BK208.out) hb); have n1_ := Aside0.mk (below_step (by repeat (first | (with_reducible first | exact HB.out | apply below_alloc | apply pw_below_drewN | apply below_drew1 | refine below_set ?_ GE208.out) | exact HB.out)) hb); clear BK208; clear HB; have BK208 := n0_; have HB := n1_; clear n0_ n1_; (try clear hb); (try clear hb2); (try clear hk); (try clear hi); have hcz7_0 : w6.cell? ⟨gb208, 0, none⟩ = some (.int .i64 a0_0) := (blk_cell BK208.out 0).trans rfl; have hcz7_1 : w6.cell? ⟨gb208, 1, none⟩ = some (.int .i64 a0_1) := (blk_cell BK208.out 1).trans rfl; have hcz7_2 : w6.cell? ⟨gb208, 2, none⟩ = some (.int .i64 a0_2) := (blk_cell BK208.out 2).trans rfl; have hcz7_3 : w6.cell? ⟨gb208, 3, none⟩ = some (.bool a0_3) := (blk_cell BK208.out 3).trans rfl; have hcz7_4 : w6.cell? ⟨gb208, 4, none⟩ = some (.int .i64 a0_4) := (blk_cell BK208.out 4).trans rfl; have hcz7_5 : w6.cell? ⟨gb208, 5, none⟩ = some (.int .i64 a0_5) := (blk_cell BK208.out 5).trans rfl; have hcz7_6 : w6.cell? ⟨gb208, 6, none⟩ = some (.int .i64 a0_6) := (blk_cell BK208.out 6).trans rfl; have hcz7_7 : w6.cell? ⟨gb208, 7, none⟩ = some (.int .i64 a0_7) := (blk_cell BK208.out 7).trans rfl; have hcz7_8 : w6.cell? ⟨gb208, 8, none⟩ = some (.int .i64 a0_8) := (blk_cell BK208.out 8).trans rfl; have hcz7_9 : w6.cell? ⟨gb208, 9, none⟩ = some (.int .u32 a0_9) := (blk_cell BK208.out 9).trans rfl; have hcz7_10 : w6.cell? ⟨gb208, 10, none⟩ = some (.int .i64 a0_10) := (blk_cell BK208.out 10).trans rfl; have hfz7_0 := blk_frozen BK208.out 0; have hfz7_1 := blk_frozen BK208.out 1; have hfz7_2 := blk_frozen BK208.out 2; have hfz7_3 := blk_frozen BK208.out 3; have hfz7_4 := blk_frozen BK208.out 4; have hfz7_5 := blk_frozen BK208.out 5; have hfz7_6 := blk_frozen BK208.out 6; have hfz7_7 := blk_frozen BK208.out 7; have hfz7_8 := blk_frozen BK208.out 8; have hfz7_9 := blk_frozen BK208.out 9; have hfz7_10 := blk_frozen BK208.out 10))
    go_ret
    exact ⟨by first | rfl | (simp [errW_none, errW_some] <;> rfl) | (simp [*, errW_none, errW_some] <;> rfl), by repeat (first | (with_reducible first | exact HB.out | apply below_alloc | apply pw_below_drewN | apply below_drew1 | refine below_set ?_ GE208.out) | exact HB.out)⟩
  · replace c3 := Bool.eq_false_iff.mpr c3
    subst c3
    have H1 : (some false) = some r := by rw [if_neg (show ¬ (false = true) by decide)] at H; exact H
    clear H
    have H := H1
    clear H1
    obtain rfl := Option.some.inj H
    go_enter Try.func21, Try.ntmps21
    go_wp2_with (first | ((with_reducible refine gate_dst (N := 1) rfl ?_); refine box_event ?hg (N := 1) ?hd (cs := #[.int .i64 a0_0, .int .i64 a0_1, .int .i64 a0_2, .bool a0_3, .int .i64 a0_4, .int .i64 a0_5, .int .i64 a0_6, .int .i64 a0_7, .int .i64 a0_8, .int .u32 a0_9, .int .i64 a0_10]) (t := 34) ?hr ?_; (case hd => rfl); (case hg => rfl); (case hr => first | (go_simp; done) | (go_simp; rfl)); intro gb208 hg w8 hbox hb; have n0_ := Aside0.mk (below_step (by repeat (first | (with_reducible first | exact HB.out | apply below_alloc | apply pw_below_drewN | apply below_drew1) | exact HB.out)) hb); have n1_ := Aside0.mk (hbox); have n2_ := Aside0.mk ((by rw [hg]; exact (below_size (by repeat (first | (with_reducible first | exact HB.out | apply below_alloc | apply pw_below_drewN | apply below_drew1) | exact HB.out))) : w.heap.size ≤ gb208)); have n3_ := Aside0.mk ((by rw [hg]; exact (below_size (by repeat (first | (with_reducible first | exact HB.out | apply below_alloc | apply pw_below_drewN | apply below_drew1) | exact HB.out))) : w.heap.size ≤ gb208)); clear HB; have HB := n0_; have BK208 := n1_; have GW208 := n2_; have GE208 := n3_; clear n0_ n1_ n2_ n3_; clear hb hbox hg; have hcz9_0 : w8.cell? ⟨gb208, 0, none⟩ = some (.int .i64 a0_0) := (blk_cell BK208.out 0).trans rfl; have hcz9_1 : w8.cell? ⟨gb208, 1, none⟩ = some (.int .i64 a0_1) := (blk_cell BK208.out 1).trans rfl; have hcz9_2 : w8.cell? ⟨gb208, 2, none⟩ = some (.int .i64 a0_2) := (blk_cell BK208.out 2).trans rfl; have hcz9_3 : w8.cell? ⟨gb208, 3, none⟩ = some (.bool a0_3) := (blk_cell BK208.out 3).trans rfl; have hcz9_4 : w8.cell? ⟨gb208, 4, none⟩ = some (.int .i64 a0_4) := (blk_cell BK208.out 4).trans rfl; have hcz9_5 : w8.cell? ⟨gb208, 5, none⟩ = some (.int .i64 a0_5) := (blk_cell BK208.out 5).trans rfl; have hcz9_6 : w8.cell? ⟨gb208, 6, none⟩ = some (.int .i64 a0_6) := (blk_cell BK208.out 6).trans rfl; have hcz9_7 : w8.cell? ⟨gb208, 7, none⟩ = some (.int .i64 a0_7) := (blk_cell BK208.out 7).trans rfl; have hcz9_8 : w8.cell? ⟨gb208, 8, none⟩ = some (.int .i64 a0_8) := (blk_cell BK208.out 8).trans rfl; have hcz9_9 : w8.cell? ⟨gb208, 9, none⟩ = some (.int .u32 a0_9) := (blk_cell BK208.out 9).trans rfl; have hcz9_10 : w8.cell? ⟨gb208, 10, none⟩ = some (.int .i64 a0_10) := (blk_cell BK208.out 10).trans rfl; have hfz9_0 := blk_frozen BK208.out 0; have hfz9_1 := blk_frozen BK208.out 1; have hfz9_2 := blk_frozen BK208.out 2; have hfz9_3 := blk_frozen BK208.out 3; have hfz9_4 := blk_frozen BK208.out 4; have hfz9_5 := blk_frozen BK208.out 5; have hfz9_6 := blk_frozen BK208.out 6; have hfz9_7 := blk_frozen BK208.out 7; have hfz9_8 := blk_frozen BK208.out 8; have hfz9_9 := blk_frozen BK208.out 9; have hfz9_10 := blk_frozen BK208.out 10) | ((with_reducible refine gate_callee (f := 20) rfl ?_); refine goesL_ (some 4) rfl rfl Try.func20 (by kernel_rfl) rfl #[.agg #[.int .i64 a0_0, .int .i64 a0_1, .int .i64 a0_2, .bool a0_3, .int .i64 a0_4, .int .i64 a0_5, .int .i64 a0_6, .int .i64 a0_7, .int .i64 a0_8, .int .u32 a0_9, .int .i64 a0_10]] rfl (by (try simp only [List.map_toArray, List.map_cons, List.map_nil]); first | done | rfl | (simp only [List.length_drop, List.length_take]; rfl)) ?_; (with_reducible refine (path_Good.calls k a0_0 a0_1 a0_2 a0_3 a0_4 a0_5 a0_6 a0_7 a0_8 a0_9 a0_10 false _ A2.out).mono ?_); rintro e w10 ⟨rfl, hb⟩; refine ⟨_, rfl, ?_⟩; have n0_ := Aside0.mk (blk_below (g := gb208) (o := .cells #[.int .i64 a0_0, .int .i64 a0_1, .int .i64 a0_2, .bool a0_3, .int .i64 a0_4, .int .i64 a0_5, .int .i64 a0_6, .int .i64 a0_7, .int .i64 a0_8, .int .u32 a0_9, .int .i64 a0_10] 34 (0, 0)) (by (with_reducible repeat (first | refine blk_drewN ?_ _ | refine blk_drew ?_ | refine blk_alloc ?_ _)); exact BK208.out) hb); have n1_ := Aside0.mk (below_step (by repeat (first | (with_reducible first | exact HB.out | apply below_alloc | apply pw_below_drewN | apply below_drew1 | refine below_set ?_ GE208.out) | exact HB.out)) hb); clear BK208; clear HB; have BK208 := n0_; have HB := n1_; clear n0_ n1_; (try clear hb); (try clear hb2); (try clear hk); (try clear hi)))
    go_ret
    exact ⟨by first | rfl | (simp [errW_none, errW_some] <;> rfl) | (simp [*, errW_none, errW_some] <;> rfl), by repeat (first | (with_reducible first | exact HB.out | apply below_alloc | apply pw_below_drewN | apply below_drew1 | refine below_set ?_ GE208.out) | exact HB.out)⟩

end Go.Proofs.Ytblooffiggciiaa.PPs
/- PPsx37 -/
namespace Go.Proofs.Ytblooffiggciiaa.PPs
open Go.RowKit Go.Proofs.YtblooffiggciiaaW.PrintWords Go.Proofs.YtblooffiggciiaaW.PrintLast Go.Proofs.YtblooffiggciiaaW.PrintMore
attribute [local go_sem] max2_int min2_int max_two min_two max_three min_three max_four min_four   -- for this text's walks alone
attribute [local go_sem] Go.Proofs.Ytblooffiggciiaa.Aid.isSome_setCell
def weftlineref13_Addr.f (a0 : Int) : Option (Bool) := if a0 ≥ 1 then (some (decide (a0 ≤ 2147483647))) else (some false)
end Go.Proofs.Ytblooffiggciiaa.PPs
/- PPsx38 -/
namespace Go.Proofs.Ytblooffiggciiaa.PPs
open Go.RowKit Go.Proofs.YtblooffiggciiaaW.PrintWords Go.Proofs.YtblooffiggciiaaW.PrintLast Go.Proofs.YtblooffiggciiaaW.PrintMore
attribute [local go_sem] max2_int min2_int max_two min_two max_three min_three max_four min_four   -- for this text's walks alone
attribute [local go_sem] Go.Proofs.Ytblooffiggciiaa.Aid.isSome_setCell
def weftlineref13_tick.f (a0 : Int) : Option (Bool) := if a0 ≥ 0 then (some (decide (a0 ≤ 4611686018427387904))) else (some false)
end Go.Proofs.Ytblooffiggciiaa.PPs
/- PPsx39 -/
namespace Go.Proofs.Ytblooffiggciiaa.PPs
open Go.RowKit Go.Proofs.YtblooffiggciiaaW.PrintWords Go.Proofs.YtblooffiggciiaaW.PrintLast Go.Proofs.YtblooffiggciiaaW.PrintMore
attribute [local go_sem] max2_int min2_int max_two min_two max_three min_three max_four min_four   -- for this text's walks alone
attribute [local go_sem] Go.Proofs.Ytblooffiggciiaa.Aid.isSome_setCell
def weftlineref11_Good.f (a0_0 : Int) (a0_1 : Int) (a0_2 : Int) (a0_3 : Bool) : Option (Bool) := if a0_3 = true then (if a0_2 ≥ 10 then (if a0_2 ≤ 600 then (if a0_0 ≥ 0 then (if a0_0 ≤ 524280 then (if a0_1 ≥ 0 then (some (decide (a0_1 ≤ 262140))) else (some false)) else (some false)) else (some false)) else (some false)) else (some false)) else (if a0_0 = 0 then (if a0_1 = 0 then (if a0_2 ≥ 10 then (if a0_2 ≤ 600 then (if a0_0 ≥ 0 then (if a0_0 ≤ 524280 then (if a0_1 ≥ 0 then (some (decide (a0_1 ≤ 262140))) else (some false)) else (some false)) else (some false)) else (some false)) else (some false)) else (some false)) else (some false))
end Go.Proofs.Ytblooffiggciiaa.PPs
/- PPsx40 -/
namespace Go.Proofs.Ytblooffiggciiaa.PPs
open Go.RowKit Go.Proofs.YtblooffiggciiaaW.PrintWords Go.Proofs.YtblooffiggciiaaW.PrintLast Go.Proofs.YtblooffiggciiaaW.PrintMore
attribute [local go_sem] max2_int min2_int max_two min_two max_three min_three max_four min_four   -- for this text's walks alone
attribute [local go_sem] Go.Proofs.Ytblooffiggciiaa.Aid.isSome_setCell
def weftlineref12_Good.f (a0_0 : Int) (a0_1 : Int) (a0_2 : Int) : Option (Bool) := if a0_0 ≥ 128 then (if a0_0 ≤ 8192 then (if a0_1 ≥ 128 then (if a0_1 ≤ 8192 then (if a0_2 ≥ 0 then (some (decide (a0_2 ≤ 2147483648))) else (some false)) else (some false)) else (some false)) else (some false)) else (some false)
end Go.Proofs.Ytblooffiggciiaa.PPs
/- PPsx41 -/
namespace Go.Proofs.Ytblooffiggciiaa.PPs
open Go.RowKit Go.Proofs.YtblooffiggciiaaW.PrintWords Go.Proofs.YtblooffiggciiaaW.PrintLast Go.Proofs.YtblooffiggciiaaW.PrintMore
attribute [local go_sem] max2_int min2_int max_two min_two max_three min_three max_four min_four   -- for this text's walks alone
attribute [local go_sem] Go.Proofs.Ytblooffiggciiaa.Aid.isSome_setCell
def weftlineref13_Good.j0 : Nat → Bool → Int → Int → Int → Bool → Int → Int → Int → Int → Int → Int → Int → Option (Bool)
  | 0, _, _, _, _, _, _, _, _, _, _, _, _ => none
  | k + 1, x16, x241000, x241001, x241002, x241003, x241004, x241005, x241006, x241007, x241008, x241009, x241010 => if x16 = true then (some false) else ((weftlineref13_Addr.f x241007).bind fun t243 => (if t243 = true then ((weftlineref11_Good.f x241000 x241001 x241002 x241003).bind fun t244 => (if t244 = true then ((weftlineref12_Good.f x241004 x241005 x241006).bind fun t245 => (if t245 = true then (if x241008 ≥ 0 then (some (decide (x241008 ≤ 100))) else (some false)) else (some false))) else (some false))) else (some false)))
def weftlineref13_Good.f (k : Nat) (a0_0 : Int) (a0_1 : Int) (a0_2 : Int) (a0_3 : Bool) (a0_4 : Int) (a0_5 : Int) (a0_6 : Int) (a0_7 : Int) (a0_8 : Int) (a0_9 : Int) (a0_10 : Int) : Option (Bool) := if a0_9 = 0 then (if a0_10 = 0 then ((weftlineref13_tick.f a0_10).bind fun t241 => (weftlineref13_Good.j0 k (!t241) a0_0 a0_1 a0_2 a0_3 a0_4 a0_5 a0_6 a0_7 a0_8 a0_9 a0_10)) else (weftlineref13_Good.j0 k true a0_0 a0_1 a0_2 a0_3 a0_4 a0_5 a0_6 a0_7 a0_8 a0_9 a0_10)) else ((weftlineref13_tick.f a0_10).bind fun t242 => (weftlineref13_Good.j0 k (!t242) a0_0 a0_1 a0_2 a0_3 a0_4 a0_5 a0_6 a0_7 a0_8 a0_9 a0_10))
end Go.Proofs.Ytblooffiggciiaa.PPs
/- PPsx46 -/
namespace Go.Proofs.Ytblooffiggciiaa.PPs
open Go.RowKit Go.Proofs.YtblooffiggciiaaW.PrintWords Go.Proofs.YtblooffiggciiaaW.PrintLast Go.Proofs.YtblooffiggciiaaW.PrintMore
attribute [local go_sem] max2_int min2_int max_two min_two max_three min_three max_four min_four   -- for this text's walks alone
attribute [local go_sem] Go.Proofs.Ytblooffiggciiaa.Aid.isSome_setCell
def weftlineref11_First.f  : Option (Int × Int × Int × Bool) := some (0, 0, 30, false)
end Go.Proofs.Ytblooffiggciiaa.PPs
/- PPsx47 -/
namespace Go.Proofs.Ytblooffiggciiaa.PPs
open Go.RowKit Go.Proofs.YtblooffiggciiaaW.PrintWords Go.Proofs.YtblooffiggciiaaW.PrintLast Go.Proofs.YtblooffiggciiaaW.PrintMore
attribute [local go_sem] max2_int min2_int max_two min_two max_three min_three max_four min_four   -- for this text's walks alone
attribute [local go_sem] Go.Proofs.Ytblooffiggciiaa.Aid.isSome_setCell
def weftlineref12_First.f  : Option (Int × Int × Int) := some (512, 2000, 0)
end Go.Proofs.Ytblooffiggciiaa.PPs
/- PPsx48 -/
namespace Go.Proofs.Ytblooffiggciiaa.PPs
open Go.RowKit Go.Proofs.YtblooffiggciiaaW.PrintWords Go.Proofs.YtblooffiggciiaaW.PrintLast Go.Proofs.YtblooffiggciiaaW.PrintMore
attribute [local go_sem] max2_int min2_int max_two min_two max_three min_three max_four min_four   -- for this text's walks alone
attribute [local go_sem] Go.Proofs.Ytblooffiggciiaa.Aid.isSome_setCell
def weftlineref13_New.f (a0 : Int) : Option (Int × Int × Int × Bool × Int × Int × Int × Int × Int × Int × Int) := (weftlineref11_First.f).bind fun bt276 => ((weftlineref12_First.f).bind fun bt280 => (some (bt276.1, bt276.2.1, bt276.2.2.1, bt276.2.2.2, bt280.1, bt280.2.1, bt280.2.2, a0, 0, 0, 0)))
end Go.Proofs.Ytblooffiggciiaa.PPs
/- PPsx60 -/
namespace Go.Proofs.Ytblooffiggciiaa.PPs
open Go.RowKit Go.Proofs.YtblooffiggciiaaW.PrintWords Go.Proofs.YtblooffiggciiaaW.PrintLast Go.Proofs.YtblooffiggciiaaW.PrintMore
attribute [local go_sem] max2_int min2_int max_two min_two max_three min_three max_four min_four   -- for this text's walks alone
attribute [local go_sem] Go.Proofs.Ytblooffiggciiaa.Aid.isSome_setCell
def weftlineref13_Active.f (k : Nat) (a0_0 : Int) (a0_1 : Int) (a0_2 : Int) (a0_3 : Bool) (a0_4 : Int) (a0_5 : Int) (a0_6 : Int) (a0_7 : Int) (a0_8 : Int) (a0_9 : Int) (a0_10 : Int) : Option (Bool) := (weftlineref13_Good.f k a0_0 a0_1 a0_2 a0_3 a0_4 a0_5 a0_6 a0_7 a0_8 a0_9 a0_10).bind fun t349 => (if t349 = true then (some (decide (a0_8 < 6))) else (some false))
end Go.Proofs.Ytblooffiggciiaa.PPs
/- PPsx77 -/
namespace Go.Proofs.Ytblooffiggciiaa.PPs
open Go.RowKit Go.Proofs.YtblooffiggciiaaW.PrintWords Go.Proofs.YtblooffiggciiaaW.PrintLast Go.Proofs.YtblooffiggciiaaW.PrintMore
attribute [local go_sem] max2_int min2_int max_two min_two max_three min_three max_four min_four   -- for this text's walks alone
attribute [local go_sem] Go.Proofs.Ytblooffiggciiaa.Aid.isSome_setCell
def path_Path_To.f (k : Nat) (a0_0 : Int) (a0_1 : Int) (a0_2 : Int) (a0_3 : Bool) (a0_4 : Int) (a0_5 : Int) (a0_6 : Int) (a0_7 : Int) (a0_8 : Int) (a0_9 : Int) (a0_10 : Int) (a1 : Int) : Option (Int × Int × Int × Bool × Int × Int × Int × Int × Int × Int × Int × Option Int) := (path_Good.f k a0_0 a0_1 a0_2 a0_3 a0_4 a0_5 a0_6 a0_7 a0_8 a0_9 a0_10).bind fun t479 => (if t479 = true then ((path_addressed.f a1).bind fun t480 => (if t480 = true then (some (a0_0, a0_1, a0_2, a0_3, a0_4, a0_5, a0_6, a1, a0_8, a0_9, a0_10, none)) else (some (0, 0, 0, false, 0, 0, 0, 0, 0, 0, 0, some 1)))) else (some (0, 0, 0, false, 0, 0, 0, 0, 0, 0, 0, some 1)))
set_option maxHeartbeats 8000000 in
set_option maxRecDepth 100000 in
theorem path_Path_To.calls (k : Nat) (a0_0 : Int) (a0_1 : Int) (a0_2 : Int) (a0_3 : Bool) (a0_4 : Int) (a0_5 : Int) (a0_6 : Int) (a0_7 : Int) (a0_8 : Int) (a0_9 : Int) (a0_10 : Int) (a1 : Int) (r1 : Int) (r2 : Int) (r3 : Int) (r4 : Bool) (r5 : Int) (r6 : Int) (r7 : Int) (r8 : Int) (r9 : Int) (r10 : Int) (r11 : Int) (r12 : Option Int) (w : World) (h : path_Path_To.f k a0_0 a0_1 a0_2 a0_3 a0_4 a0_5 a0_6 a0_7 a0_8 a0_9 a0_10 a1 = some (r1, r2, r3, r4, r5, r6, r7, r8, r9, r10, r11, r12)) :
    Calls Try.prog 18 #[.agg #[.int .i64 a0_0, .int .i64 a0_1, .int .i64 a0_2, .bool a0_3, .int .i64 a0_4, .int .i64 a0_5, .int .i64 a0_6, .int .i64 a0_7, .int .i64 a0_8, .int .u32 a0_9, .int .i64 a0_10], .int .i64 a1] w fun e w' => e = .returned (.tuple #[.agg #[.int .i64 r1, .int .i64 r2, .int .i64 r3, .bool r4, .int .i64 r5, .int .i64 r6, .int .i64 r7, .int .i64 r8, .int .i64 r9, .int .u32 r10, .int .i64 r11], errW r12]) ∧ Below w.heap.size w w' := by
  have hu34 := Try.underlying34
  have hu37 := Try.underlying37
  have hu42 := Try.underlying42
  have HB := Aside0.mk (Below.refl w.heap.size w)
  have H : ((path_Good.f k a0_0 a0_1 a0_2 a0_3 a0_4 a0_5 a0_6 a0_7 a0_8 a0_9 a0_10).bind fun t479 => (if t479 = true then ((path_addressed.f a1).bind fun t480 => (if t480 = true then (some (a0_0, a0_1, a0_2, a0_3, a0_4, a0_5, a0_6, a1, a0_8, a0_9, a0_10, none)) else (some (0, 0, 0, false, 0, 0, 0, 0, 0, 0, 0, some 1)))) else (some (0, 0, 0, false, 0, 0, 0, 0, 0, 0, 0, some 1)))) = some (r1, r2, r3, r4, r5, r6, r7, r8, r9, r10, r11, r12) := h
  clear h
  replace H := Option.bind_eq_some_iff.mp H
  obtain ⟨t479, A30, H⟩ := H
  replace H : (if t479 = true then ((path_addressed.f a1).bind fun t480 => (if t480 = true then (some (a0_0, a0_1, a0_2, a0_3, a0_4, a0_5, a0_6, a1, a0_8, a0_9, a0_10, none)) else (some (0, 0, 0, false, 0, 0, 0, 0, 0, 0, 0, some 1)))) else (some (0, 0, 0, false, 0, 0, 0, 0, 0, 0, 0, some 1))) = some (r1, r2, r3, r4, r5, r6, r7, r8, r9, r10, r11, r12) := H
  have A3 := Aside0.mk A30
  clear A30
  by_cases c4 : t479 = true
  · subst c4
    have H1 : ((path_addressed.f a1).bind fun t480 => (if t480 = true then (some (a0_0, a0_1, a0_2, a0_3, a0_4, a0_5, a0_6, a1, a0_8, a0_9, a0_10, none)) else (some (0, 0, 0, false, 0, 0, 0, 0, 0, 0, 0, some 1)))) = some (r1, r2, r3, r4, r5, r6, r7, r8, r9, r10, r11, r12) := by rw [if_pos rfl] at H; exact H
    clear H
    have H := H1
    clear H1
    replace H := Option.bind_eq_some_iff.mp H
    obtain ⟨t480, A50, H⟩ := H
    replace H : (if t480 = true then (some (a0_0, a0_1, a0_2, a0_3, a0_4, a0_5, a0_6, a1, a0_8, a0_9, a0_10, none)) else (some (0, 0, 0, false, 0, 0, 0, 0, 0, 0, 0, some 1))) = some (r1, r2, r3, r4, r5, r6, r7, r8, r9, r10, r11, r12) := H
    have A5 := Aside0.mk A50
    clear A50
    by_cases c6 : t480 = true
    · subst c6
      have H1 : (some (a0_0, a0_1, a0_2, a0_3, a0_4, a0_5, a0_6, a1, a0_8, a0_9, a0_10, none)) = some (r1, r2, r3, r4, r5, r6, r7, r8, r9, r10, r11, r12) := by rw [if_pos rfl] at H; exact H
      clear H
      have H := H1
      clear H1
      simp only [Option.some.injEq, Prod.mk.injEq] at H
      obtain ⟨rfl, rfl, rfl, rfl, rfl, rfl, rfl, rfl, rfl, rfl, rfl, rfl⟩ := H
      go_enter Try.func18, Try.ntmps18
      go_wp2_with (first | ((with_reducible refine gate_dst (N := 2) rfl ?_); refine box_event ?hg (N := 2) ?hd (cs := #[.int .i64 a0_0, .int .i64 a0_1, .int .i64 a0_2, .bool a0_3, .int .i64 a0_4, .int .i64 a0_5, .int .i64 a0_6, .int .i64 a0_7, .int .i64 a0_8, .int .u32 a0_9, .int .i64 a0_10]) (t := 34) ?hr ?_; (case hd => rfl); (case hg => rfl); (case hr => first | (go_simp; done) | (go_simp; rfl)); intro gb477 hg w7 hbox hb; have n0_ := Aside0.mk (below_step (by repeat (first | (with_reducible first | exact HB.out | apply below_alloc | apply pw_below_drewN | apply below_drew1) | exact HB.out)) hb); have n1_ := Aside0.mk (hbox); have n2_ := Aside0.mk ((by rw [hg]; exact (below_size (by repeat (first | (with_reducible first | exact HB.out | apply below_alloc | apply pw_below_drewN | apply below_drew1) | exact HB.out))) : w.heap.size ≤ gb477)); have n3_ := Aside0.mk ((by rw [hg]; exact (below_size (by repeat (first | (with_reducible first | exact HB.out | apply below_alloc | apply pw_below_drewN | apply below_drew1) | exact HB.out))) : w.heap.size ≤ gb477)); clear HB; have HB := n0_; have BK477 := n1_; have GW477 := n2_; have GE477 := n3_; clear n0_ n1_ n2_ n3_; clear hb hbox hg) | ((with_reducible refine gate_dst (N := 4) rfl ?_); refine box_event ?hg (N := 4) ?hd (cs := #[.int .i64 0, .int .i64 0, .int .i64 0, .bool false, .int .i64 0, .int .i64 0, .int .i64 0, .int .i64 0, .int .i64 0, .int .u32 0, .int .i64 0]) (t := 34) ?hr ?_; (case hd => rfl); (case hg => rfl); (case hr => first | (go_simp; done) | (go_simp; rfl)); intro gb478 hg w8 hbox hb; have n0_ := Aside0.mk (blk_below (g := gb477) (o := .cells #[.int .i64 a0_0, .int .i64 a0_1, .int .i64 a0_2, .bool a0_3, .int .i64 a0_4, .int .i64 a0_5, .int .i64 a0_6, .int .i64 a0_7, .int .i64 a0_8, .int .u32 a0_9, .int .i64 a0_10] 34 (0, 0)) (by (with_reducible repeat (first | refine blk_drewN ?_ _ | refine blk_drew ?_ | refine blk_alloc ?_ _)); exact BK477.out) hb); have n1_ := Aside0.mk (below_step (by repeat (first | (with_reducible first | exact HB.out | apply below_alloc | apply pw_below_drewN | apply below_drew1 | refine below_set ?_ GE477.out) | exact HB.out)) hb); have n2_ := Aside0.mk (hbox); have n3_ := Aside0.mk ((by rw [hg]; exact (below_size (by repeat (first | (with_reducible first | exact HB.out | apply below_alloc | apply pw_below_drewN | apply below_drew1 | refine below_set ?_ GE477.out) | exact HB.out))) : w.heap.size ≤ gb478)); have n4_ := Aside0.mk ((by rw [hg]; exact (below_size (by repeat (first | (with_reducible first | exact HB.out | apply below_alloc | apply pw_below_drewN | apply below_drew1 | refine below_set ?_ GE477.out) | exact HB.out))) : w.heap.size ≤ gb478)); have n5_ := Aside0.mk ((by rw [hg]; exact Nat.ne_of_lt (blk_lt (g := gb477) (o := .cells #[.int .i64 a0_0, .int .i64 a0_1, .int .i64 a0_2, .bool a0_3, .int .i64 a0_4, .int .i64 a0_5, .int .i64 a0_6, .int .i64 a0_7, .int .i64 a0_8, .int .u32 a0_9, .int .i64 a0_10] 34 (0, 0)) (by (with_reducible repeat (first | refine blk_drewN ?_ _ | refine blk_drew ?_ | refine blk_alloc ?_ _)); exact BK477.out)) : gb477 ≠ gb478)); have n6_ := Aside0.mk ((by rw [hg]; exact Nat.ne_of_gt (blk_lt (g := gb477) (o := .cells #[.int .i64 a0_0, .int .i64 a0_1, .int .i64 a0_2, .bool a0_3, .int .i64 a0_4, .int .i64 a0_5, .int .i64 a0_6, .int .i64 a0_7, .int .i64 a0_8, .int .u32 a0_9, .int .i64 a0_10] 34 (0, 0)) (by (with_reducible repeat (first | refine blk_drewN ?_ _ | refine blk_drew ?_ | refine blk_alloc ?_ _)); exact BK477.out)) : gb478 ≠ gb477)); clear BK477; clear HB; have BK477 := n0_; have HB := n1_; have BK478 := n2_; have GW478 := n3_; have GE478 := n4_; have NB477_478 := n5_; have NB478_477 := n6_; clear n0_ n1_ n2_ n3_ n4_ n5_ n6_; clear hb hbox hg; have hnb9 := NB477_478.out; have hnc9 := NB478_477.out; have hcz10_0 : w8.cell? ⟨gb477, 0, none⟩ = some (.int .i64 a0_0) := (blk_cell BK477.out 0).trans rfl; have hcz10_1 : w8.cell? ⟨gb477, 1, none⟩ = some (.int .i64 a0_1) := (blk_cell BK477.out 1).trans rfl; have hcz10_2 : w8.cell? ⟨gb477, 2, none⟩ = some (.int .i64 a0_2) := (blk_cell BK477.out 2).trans rfl; have hcz10_3 : w8.cell? ⟨gb477, 3, none⟩ = some (.bool a0_3) := (blk_cell BK477.out 3).trans rfl; have hcz10_4 : w8.cell? ⟨gb477, 4, none⟩ = some (.int .i64 a0_4) := (blk_cell BK477.out 4).trans rfl; have hcz10_5 : w8.cell? ⟨gb477, 5, none⟩ = some (.int .i64 a0_5) := (blk_cell BK477.out 5).trans rfl; have hcz10_6 : w8.cell? ⟨gb477, 6, none⟩ = some (.int .i64 a0_6) := (blk_cell BK477.out 6).trans rfl; have hcz10_7 : w8.cell? ⟨gb477, 7, none⟩ = some (.int .i64 a0_7) := (blk_cell BK477.out 7).trans rfl; have hcz10_8 : w8.cell? ⟨gb477, 8, none⟩ = some (.int .i64 a0_8) := (blk_cell BK477.out 8).trans rfl; have hcz10_9 : w8.cell? ⟨gb477, 9, none⟩ = some (.int .u32 a0_9) := (blk_cell BK477.out 9).trans rfl; have hcz10_10 : w8.cell? ⟨gb477, 10, none⟩ = some (.int .i64 a0_10) := (blk_cell BK477.out 10).trans rfl; have hfz10_0 := blk_frozen BK477.out 0; have hfz10_1 := blk_frozen BK477.out 1; have hfz10_2 := blk_frozen BK477.out 2; have hfz10_3 := blk_frozen BK477.out 3; have hfz10_4 := blk_frozen BK477.out 4; have hfz10_5 := blk_frozen BK477.out 5; have hfz10_6 := blk_frozen BK477.out 6; have hfz10_7 := blk_frozen BK477.out 7; have hfz10_8 := blk_frozen BK477.out 8; have hfz10_9 := blk_frozen BK477.out 9; have hfz10_10 := blk_frozen BK477.out 10) | ((with_reducible refine gate_callee (f := 20) rfl ?_); refine goesL_ (some 7) rfl rfl Try.func20 (by kernel_rfl) rfl #[.agg #[.int .i64 a0_0, .int .i64 a0_1, .int .i64 a0_2, .bool a0_3, .int .i64 a0_4, .int .i64 a0_5, .int .i64 a0_6, .int .i64 a0_7, .int .i64 a0_8, .int .u32 a0_9, .int .i64 a0_10]] rfl (by (try simp only [List.map_toArray, List.map_cons, List.map_nil]); first | done | rfl | (simp only [List.length_drop, List.length_take]; rfl)) ?_; (with_reducible refine (path_Good.calls k a0_0 a0_1 a0_2 a0_3 a0_4 a0_5 a0_6 a0_7 a0_8 a0_9 a0_10 true _ A3.out).mono ?_); rintro e w11 ⟨rfl, hb⟩; refine ⟨_, rfl, ?_⟩; have n0_ := Aside0.mk (blk_below (g := gb477) (o := .cells #[.int .i64 a0_0, .int .i64 a0_1, .int .i64 a0_2, .bool a0_3, .int .i64 a0_4, .int .i64 a0_5, .int .i64 a0_6, .int .i64 a0_7, .int .i64 a0_8, .int .u32 a0_9, .int .i64 a0_10] 34 (0, 0)) (by (with_reducible repeat (first | refine blk_drewN ?_ _ | refine blk_drew ?_ | refine blk_alloc ?_ _)); exact BK477.out) hb); have n1_ := Aside0.mk (blk_below (g := gb478) (o := .cells #[.int .i64 0, .int .i64 0, .int .i64 0, .bool false, .int .i64 0, .int .i64 0, .int .i64 0, .int .i64 0, .int .i64 0, .int .u32 0, .int .i64 0] 34 (0, 0)) (by (with_reducible repeat (first | refine blk_drewN ?_ _ | refine blk_drew ?_ | refine blk_alloc ?_ _)); exact BK478.out) hb); have n2_ := Aside0.mk (below_step (by repeat (first | (with_reducible first | exact HB.out | apply below_alloc | apply pw_below_drewN | apply below_drew1 | refine below_set ?_ GE477.out | refine below_set ?_ GE478.out) | exact HB.out)) hb); clear BK477; clear BK478; clear HB; have BK477 := n0_; have BK478 := n1_; have HB := n2_; clear n0_ n1_ n2_; (try clear hb); (try clear hb2); (try clear hk); (try clear hi)) | (go_at_call 64; (with_reducible refine (path_addressed.calls a1 true _ A5.out).mono ?_); rintro e w' ⟨rfl, ⟨nd, rfl⟩⟩; (try (rw [drewN_self w11]; generalize hq_ : World.drewN w11 _ = w11; have n0_ : Aside0 (w11.heap[gb477]? = some (.cells #[.int .i64 a0_0, .int .i64 a0_1, .int .i64 a0_2, .bool a0_3, .int .i64 a0_4, .int .i64 a0_5, .int .i64 a0_6, .int .i64 a0_7, .int .i64 a0_8, .int .u32 a0_9, .int .i64 a0_10] 34 (0, 0))) := ⟨by rw [← hq_]; exact (by (with_reducible repeat (first | refine blk_drewN ?_ _ | refine blk_drew ?_ | refine blk_alloc ?_ _)); exact BK477.out)⟩; have n1_ : Aside0 (w11.heap[gb478]? = some (.cells #[.int .i64 0, .int .i64 0, .int .i64 0, .bool false, .int .i64 0, .int .i64 0, .int .i64 0, .int .i64 0, .int .i64 0, .int .u32 0, .int .i64 0] 34 (0, 0))) := ⟨by rw [← hq_]; exact (by (with_reducible repeat (first | refine blk_drewN ?_ _ | refine blk_drew ?_ | refine blk_alloc ?_ _)); exact BK478.out)⟩; have n2_ : Aside0 (Below w.heap.size w w11) := ⟨by rw [← hq_]; exact (by repeat (first | (with_reducible first | exact HB.out | apply below_alloc | apply pw_below_drewN | apply below_drew1 | refine below_set ?_ GE477.out | refine below_set ?_ GE478.out) | exact HB.out))⟩; clear BK477 BK478 HB hq_; have BK477 := n0_; have BK478 := n1_; have HB := n2_; clear n0_ n1_ n2_)); have hcz12_0 : w11.cell? ⟨gb477, 0, none⟩ = some (.int .i64 a0_0) := (blk_cell BK477.out 0).trans rfl; have hcz12_1 : w11.cell? ⟨gb477, 1, none⟩ = some (.int .i64 a0_1) := (blk_cell BK477.out 1).trans rfl; have hcz12_2 : w11.cell? ⟨gb477, 2, none⟩ = some (.int .i64 a0_2) := (blk_cell BK477.out 2).trans rfl; have hcz12_3 : w11.cell? ⟨gb477, 3, none⟩ = some (.bool a0_3) := (blk_cell BK477.out 3).trans rfl; have hcz12_4 : w11.cell? ⟨gb477, 4, none⟩ = some (.int .i64 a0_4) := (blk_cell BK477.out 4).trans rfl; have hcz12_5 : w11.cell? ⟨gb477, 5, none⟩ = some (.int .i64 a0_5) := (blk_cell BK477.out 5).trans rfl; have hcz12_6 : w11.cell? ⟨gb477, 6, none⟩ = some (.int .i64 a0_6) := (blk_cell BK477.out 6).trans rfl; have hcz12_7 : w11.cell? ⟨gb477, 7, none⟩ = some (.int .i64 a0_7) := (blk_cell BK477.out 7).trans rfl; have hcz12_8 : w11.cell? ⟨gb477, 8, none⟩ = some (.int .i64 a0_8) := (blk_cell BK477.out 8).trans rfl; have hcz12_9 : w11.cell? ⟨gb477, 9, none⟩ = some (.int .u32 a0_9) := (blk_cell BK477.out 9).trans rfl; have hcz12_10 : w11.cell? ⟨gb477, 10, none⟩ = some (.int .i64 a0_10) := (blk_cell BK477.out 10).trans rfl; have hfz12_0 := blk_frozen BK477.out 0; have hfz12_1 := blk_frozen BK477.out 1; have hfz12_2 := blk_frozen BK477.out 2; have hfz12_3 := blk_frozen BK477.out 3; have hfz12_4 := blk_frozen BK477.out 4; have hfz12_5 := blk_frozen BK477.out 5; have hfz12_6 := blk_frozen BK477.out 6; have hfz12_7 := blk_frozen BK477.out 7; have hfz12_8 := blk_frozen BK477.out 8; have hfz12_9 := blk_frozen BK477.out 9; have hfz12_10 := blk_frozen BK477.out 10; have hcz13_0 : w11.cell? ⟨gb478, 0, none⟩ = some (.int .i64 0) := (blk_cell BK478.out 0).trans rfl; have hcz13_1 : w11.cell? ⟨gb478, 1, none⟩ = some (.int .i64 0) := (blk_cell BK478.out 1).trans rfl; have hcz13_2 : w11.cell? ⟨gb478, 2, none⟩ = some (.int .i64 0) := (blk_cell BK478.out 2).trans rfl; have hcz13_3 : w11.cell? ⟨gb478, 3, none⟩ = some (.bool false) := (blk_cell BK478.out 3).trans rfl; have hcz13_4 : w11.cell? ⟨gb478, 4, none⟩ = some (.int .i64 0) := (blk_cell BK478.out 4).trans rfl; have hcz13_5 : w11.cell? ⟨gb478, 5, none⟩ = some (.int .i64 0) := (blk_cell BK478.out 5).trans rfl; have hcz13_6 : w11.cell? ⟨gb478, 6, none⟩ = some (.int .i64 0) := (blk_cell BK478.out 6).trans rfl; have hcz13_7 : w11.cell? ⟨gb478, 7, none⟩ = some (.int .i64 0) := (blk_cell BK478.out 7).trans rfl; have hcz13_8 : w11.cell? ⟨gb478, 8, none⟩ = some (.int .i64 0) := (blk_cell BK478.out 8).trans rfl; have hcz13_9 : w11.cell? ⟨gb478, 9, none⟩ = some (.int .u32 0) := (blk_cell BK478.out 9).trans rfl; have hcz13_10 : w11.cell? ⟨gb478, 10, none⟩ = some (.int .i64 0) := (blk_cell BK478.out 10).trans rfl; have hfz13_0 := blk_frozen BK478.out 0; have hfz13_1 := blk_frozen BK478.out 1; have hfz13_2 := blk_frozen BK478.out 2; have hfz13_3 := blk_frozen BK478.out 3; have hfz13_4 := blk_frozen BK478.out 4; have hfz13_5 := blk_frozen BK478.out 5; have hfz13_6 := blk_frozen BK478.out 6; have hfz13_7 := blk_frozen BK478.out 7; have hfz13_8 := blk_frozen BK478.out 8; have hfz13_9 := blk_frozen BK478.out 9; have hfz13_10 := blk_frozen BK478.out 10))
      refine bodyPost_ret (results_ct rfl _ _ gb478 34 #[.int .i64 a0_0, .int .i64 a0_1, .int .i64 a0_2, .bool a0_3, .int .i64 a0_4, .int .i64 a0_5, .int .i64 a0_6, .int .i64 a1, .int .i64 a0_8, .int .u32 a0_9, .int .i64 a0_10] (0, 0) _ rfl (by (with_reducible repeat (first | refine blk_drewN ?_ _ | refine blk_drew ?_ | refine blk_alloc ?_ _)); refine blk_put (cs := #[.int .i64 a0_0, .int .i64 a0_1, .int .i64 a0_2, .bool a0_3, .int .i64 a0_4, .int .i64 a0_5, .int .i64 a0_6, .int .i64 a1, .int .i64 a0_8, .int .u32 a0_9, .int .i64 0]) ?_ 10 _ rfl; (with_reducible repeat (first | refine blk_drewN ?_ _ | refine blk_drew ?_ | refine blk_alloc ?_ _)); refine blk_put (cs := #[.int .i64 a0_0, .int .i64 a0_1, .int .i64 a0_2, .bool a0_3, .int .i64 a0_4, .int .i64 a0_5, .int .i64 a0_6, .int .i64 a1, .int .i64 a0_8, .int .u32 0, .int .i64 0]) ?_ 9 _ rfl; (with_reducible repeat (first | refine blk_drewN ?_ _ | refine blk_drew ?_ | refine blk_alloc ?_ _)); refine blk_put (cs := #[.int .i64 a0_0, .int .i64 a0_1, .int .i64 a0_2, .bool a0_3, .int .i64 a0_4, .int .i64 a0_5, .int .i64 a0_6, .int .i64 a1, .int .i64 0, .int .u32 0, .int .i64 0]) ?_ 8 _ rfl; (with_reducible repeat (first | refine blk_drewN ?_ _ | refine blk_drew ?_ | refine blk_alloc ?_ _)); refine blk_put (cs := #[.int .i64 a0_0, .int .i64 a0_1, .int .i64 a0_2, .bool a0_3, .int .i64 a0_4, .int .i64 a0_5, .int .i64 a0_6, .int .i64 0, .int .i64 0, .int .u32 0, .int .i64 0]) ?_ 7 _ rfl; (with_reducible repeat (first | refine blk_drewN ?_ _ | refine blk_drew ?_ | refine blk_alloc ?_ _)); refine blk_put (cs := #[.int .i64 a0_0, .int .i64 a0_1, .int .i64 a0_2, .bool a0_3, .int .i64 a0_4, .int .i64 a0_5, .int .i64 0, .int .i64 0, .int .i64 0, .int .u32 0, .int .i64 0]) ?_ 6 _ rfl; (with_reducible repeat (first | refine blk_drewN ?_ _ | refine blk_drew ?_ | refine blk_alloc ?_ _)); refine blk_put (cs := #[.int .i64 a0_0, .int .i64 a0_1, .int .i64 a0_2, .bool a0_3, .int .i64 a0_4, .int .i64 0, .int .i64 0, .int .i64 0, .int .i64 0, .int .u32 0, .int .i64 0]) ?_ 5 _ rfl; (with_reducible repeat (first | refine blk_drewN ?_ _ | refine blk_drew ?_ | refine blk_alloc ?_ _)); refine blk_put (cs := #[.int .i64 a0_0, .int .i64 a0_1, .int .i64 a0_2, .bool a0_3, .int .i64 0, .int .i64 0, .int .i64 0, .int .i64 0, .int .i64 0, .int .u32 0, .int .i64 0]) ?_ 4 _ rfl; (with_reducible repeat (first | refine blk_drewN ?_ _ | refine blk_drew ?_ | refine blk_alloc ?_ _)); refine blk_put (cs := #[.int .i64 a0_0, .int .i64 a0_1, .int .i64 a0_2, .bool false, .int .i64 0, .int .i64 0, .int .i64 0, .int .i64 0, .int .i64 0, .int .u32 0, .int .i64 0]) ?_ 3 _ rfl; (with_reducible repeat (first | refine blk_drewN ?_ _ | refine blk_drew ?_ | refine blk_alloc ?_ _)); refine blk_put (cs := #[.int .i64 a0_0, .int .i64 a0_1, .int .i64 0, .bool false, .int .i64 0, .int .i64 0, .int .i64 0, .int .i64 0, .int .i64 0, .int .u32 0, .int .i64 0]) ?_ 2 _ rfl; (with_reducible repeat (first | refine blk_drewN ?_ _ | refine blk_drew ?_ | refine blk_alloc ?_ _)); refine blk_put (cs := #[.int .i64 a0_0, .int .i64 0, .int .i64 0, .bool false, .int .i64 0, .int .i64 0, .int .i64 0, .int .i64 0, .int .i64 0, .int .u32 0, .int .i64 0]) ?_ 1 _ rfl; (with_reducible repeat (first | refine blk_drewN ?_ _ | refine blk_drew ?_ | refine blk_alloc ?_ _)); refine blk_put (cs := #[.int .i64 0, .int .i64 0, .int .i64 0, .bool false, .int .i64 0, .int .i64 0, .int .i64 0, .int .i64 0, .int .i64 0, .int .u32 0, .int .i64 0]) ?_ 0 _ rfl; (with_reducible repeat (first | refine blk_drewN ?_ _ | refine blk_drew ?_ | refine blk_alloc ?_ _)); refine blk_far ?_ NB478_477.out _; (with_reducible repeat (first | refine blk_drewN ?_ _ | refine blk_drew ?_ | refine blk_alloc ?_ _)); exact BK478.out) Try.underlying34 rfl (by kernel_rfl)) rfl ?_
      exact ⟨by first | rfl | (simp [errW_none, errW_some] <;> rfl) | (simp [*, errW_none, errW_some] <;> rfl), by repeat (first | (with_reducible first | exact HB.out | apply below_alloc | apply pw_below_drewN | apply below_drew1 | refine below_set ?_ GE477.out | refine below_set ?_ GE478.out) | exact HB.out)⟩
    · replace c6 := Bool.eq_false_iff.mpr c6
      subst c6
      have H1 : (some (0, 0, 0, false, 0, 0, 0, 0, 0, 0, 0, some 1)) = some (r1, r2, r3, r4, r5, r6, r7, r8, r9, r10, r11, r12) := by rw [if_neg (show ¬ (false = true) by decide)] at H; exact H
      clear H
      have H := H1
      clear H1
      simp only [Option.some.injEq, Prod.mk.injEq] at H
      obtain ⟨rfl, rfl, rfl, rfl, rfl, rfl, rfl, rfl, rfl, rfl, rfl, rfl⟩ := H
      go_enter Try.func18, Try.ntmps18
      go_wp2_with (first | ((with_reducible refine gate_dst (N := 2) rfl ?_); refine box_event ?hg (N := 2) ?hd (cs := #[.int .i64 a0_0, .int .i64 a0_1, .int .i64 a0_2, .bool a0_3, .int .i64 a0_4, .int .i64 a0_5, .int .i64 a0_6, .int .i64 a0_7, .int .i64 a0_8, .int .u32 a0_9, .int .i64 a0_10]) (t := 34) ?hr ?_; (case hd => rfl); (case hg => rfl); (case hr => first | (go_simp; done) | (go_simp; rfl)); intro gb477 hg w14 hbox hb; have n0_ := Aside0.mk (below_step (by repeat (first | (with_reducible first | exact HB.out | apply below_alloc | apply pw_below_drewN | apply below_drew1) | exact HB.out)) hb); have n1_ := Aside0.mk (hbox); have n2_ := Aside0.mk ((by rw [hg]; exact (below_size (by repeat (first | (with_reducible first | exact HB.out | apply below_alloc | apply pw_below_drewN | apply below_drew1) | exact HB.out))) : w.heap.size ≤ gb477)); have n3_ := Aside0.mk ((by rw [hg]; exact (below_size (by repeat (first | (with_reducible first | exact HB.out | apply below_alloc | apply pw_below_drewN | apply below_drew1) | exact HB.out))) : w.heap.size ≤ gb477)); clear HB; have HB := n0_; have BK477 := n1_; have GW477 := n2_; have GE477 := n3_; clear n0_ n1_ n2_ n3_; clear hb hbox hg) | ((with_reducible refine gate_dst (N := 4) rfl ?_); refine box_event ?hg (N := 4) ?hd (cs := #[.int .i64 0, .int .i64 0, .int .i64 0, .bool false, .int .i64 0, .int .i64 0, .int .i64 0, .int .i64 0, .int .i64 0, .int .u32 0, .int .i64 0]) (t := 34) ?hr ?_; (case hd => rfl); (case hg => rfl); (case hr => first | (go_simp; done) | (go_simp; rfl)); intro gb478 hg w15 hbox hb; have n0_ := Aside0.mk (blk_below (g := gb477) (o := .cells #[.int .i64 a0_0, .int .i64 a0_1, .int .i64 a0_2, .bool a0_3, .int .i64 a0_4, .int .i64 a0_5, .int .i64 a0_6, .int .i64 a0_7, .int .i64 a0_8, .int .u32 a0_9, .int .i64 a0_10] 34 (0, 0)) (by (with_reducible repeat (first | refine blk_drewN ?_ _ | refine blk_drew ?_ | refine blk_alloc ?_ _)); exact BK477.out) hb); have n1_ := Aside0.mk (below_step (by repeat (first | (with_reducible first | exact HB.out | apply below_alloc | apply pw_below_drewN | apply below_drew1 | refine below_set ?_ GE477.out) | exact HB.out)) hb); have n2_ := Aside0.mk (hbox); have n3_ := Aside0.mk ((by rw [hg]; exact (below_size (by repeat (first | (with_reducible first | exact HB.out | apply below_alloc | apply pw_below_drewN | apply below_drew1 | refine below_set ?_ GE477.out) | exact HB.out))) : w.heap.size ≤ gb478)); have n4_ := Aside0.mk ((by rw [hg]; exact (below_size (by repeat (first | (with_reducible first | exact HB.out | apply below_alloc | apply pw_below_drewN | apply below_drew1 | refine below_set ?_ GE477.out) | exact HB.out))) : w.heap.size ≤ gb478)); have n5_ := Aside0.mk ((by rw [hg]; exact Nat.ne_of_lt (blk_lt (g := gb477) (o := .cells #[.int .i64 a0_0, .int .i64 a0_1, .int .i64 a0_2, .bool a0_3, .int .i64 a0_4, .int .i64 a0_5, .int .i64 a0_6, .int .i64 a0_7, .int .i64 a0_8, .int .u32 a0_9, .int .i64 a0_10] 34 (0, 0)) (by (with_reducible repeat (first | refine blk_drewN ?_ _ | refine blk_drew ?_ | refine blk_alloc ?_ _)); exact BK477.out)) : gb477 ≠ gb478)); have n6_ := Aside0.mk ((by rw [hg]; exact Nat.ne_of_gt (blk_lt (g := gb477) (o := .cells #[.int .i64 a0_0, .int .i64 a0_1, .int .i64 a0_2, .bool a0_3, .int .i64 a0_4, .int .i64 a0_5, .int .i64 a0_6, .int .i64 a0_7, .int .i64 a0_8, .int .u32 a0_9, .int .i64 a0_10] 34 (0, 0)) (by (with_reducible repeat (first | refine blk_drewN ?_ _ | refine blk_drew ?_ | refine blk_alloc ?_ _)); exact BK477.out)) : gb478 ≠ gb477)); clear BK477; clear HB; have BK477 := n0_; have HB := n1_; have BK478 := n2_; have GW478 := n3_; have GE478 := n4_; have NB477_478 := n5_; have NB478_477 := n6_; clear n0_ n1_ n2_ n3_ n4_ n5_ n6_; clear hb hbox hg; have hnb16 := NB477_478.out; have hnc16 := NB478_477.out; have hcz17_0 : w15.cell? ⟨gb477, 0, none⟩ = some (.int .i64 a0_0) := (blk_cell BK477.out 0).trans rfl; have hcz17_1 : w15.cell? ⟨gb477, 1, none⟩ = some (.int .i64 a0_1) := (blk_cell BK477.out 1).trans rfl; have hcz17_2 : w15.cell? ⟨gb477, 2, none⟩ = some (.int .i64 a0_2) := (blk_cell BK477.out 2).trans rfl; have hcz17_3 : w15.cell? ⟨gb477, 3, none⟩ = some (.bool a0_3) := (blk_cell BK477.out 3).trans rfl; have hcz17_4 : w15.cell? ⟨gb477, 4, none⟩ = some (.int .i64 a0_4) := (blk_cell BK477.out 4).trans rfl; have hcz17_5 : w15.cell? ⟨gb477, 5, none⟩ = some (.int .i64 a0_5) := (blk_cell BK477.out 5).trans rfl; have hcz17_6 : w15.cell? ⟨gb477, 6, none⟩ = some (.int .i64 a0_6) := (blk_cell BK477.out 6).trans rfl; have hcz17_7 : w15.cell? ⟨gb477, 7, none⟩ = some (.int .i64 a0_7) := (blk_cell BK477.out 7).trans rfl; have hcz17_8 : w15.cell? ⟨gb477, 8, none⟩ = some (.int .i64 a0_8) := (blk_cell BK477.out 8).trans rfl; have hcz17_9 : w15.cell? ⟨gb477, 9, none⟩ = some (.int .u32 a0_9) := (blk_cell BK477.out 9).trans rfl; have hcz17_10 : w15.cell? ⟨gb477, 10, none⟩ = some (.int .i64 a0_10) := (blk_cell BK477.out 10).trans rfl; have hfz17_0 := blk_frozen BK477.out 0; have hfz17_1 := blk_frozen BK477.out 1; have hfz17_2 := blk_frozen BK477.out 2; have hfz17_3 := blk_frozen BK477.out 3; have hfz17_4 := blk_frozen BK477.out 4; have hfz17_5 := blk_frozen BK477.out 5; have hfz17_6 := blk_frozen BK477.out 6; have hfz17_7 := blk_frozen BK477.out 7; have hfz17_8 := blk_frozen BK477.out 8; have hfz17_9 := blk_frozen BK477.out 9; have hfz17_10 := blk_frozen BK477.out 10) | ((with_reducible refine gate_callee (f := 20) rfl ?_); refine goesL_ (some 7) rfl rfl Try.func20 (by kernel_rfl) rfl #[.agg #[.int .i64 a0_0, .int .i64 a0_1, .int .i64 a0_2, .bool a0_3, .int .i64 a0_4, .int .i64 a0_5, .int .i64 a0_6, .int .i64 a0_7, .int .i64 a0_8, .int .u32 a0_9, .int .i64 a0_10]] rfl (by (try simp only [List.map_toArray, List.map_cons, List.map_nil]); first | done | rfl | (simp only [List.length_drop, List.length_take]; rfl)) ?_; (with_reducible refine (path_Good.calls k a0_0 a0_1 a0_2 a0_3 a0_4 a0_5 a0_6 a0_7 a0_8 a0_9 a0_10 true _ A3.out).mono ?_); rintro e w18 ⟨rfl, hb⟩; refine ⟨_, rfl, ?_⟩; have n0_ := Aside0.mk (blk_below (g := gb477) (o := .cells #[.int .i64 a0_0, .int .i64 a0_1, .int .i64 a0_2, .bool a0_3, .int .i64 a0_4, .int .i64 a0_5, .int .i64 a0_6, .int .i64 a0_7, .int .i64 a0_8, .int .u32 a0_9, .int .i64 a0_10] 34 (0, 0)) (by (with_reducible repeat (first | refine blk_drewN ?_ _ | refine blk_drew ?_ | refine blk_alloc ?_ _)); exact BK477.out) hb); have n1_ := Aside0.mk (blk_below (g := gb478) (o := .cells #[.int .i64 0, .int .i64 0, .int .i64 0, .bool false, .int .i64 0, .int .i64 0, .int .i64 0, .int .i64 0, .int .i64 0, .int .u32 0, .int .i64 0] 34 (0, 0)) (by (with_reducible repeat (first | refine blk_drewN ?_ _ | refine blk_drew ?_ | refine blk_alloc ?_ _)); exact BK478.out) hb); have n2_ := Aside0.mk (below_step (by repeat (first | (with_reducible first | exact HB.out | apply below_alloc | apply pw_below_drewN | apply below_drew1 | refine below_set ?_ GE477.out | refine below_set ?_ GE478.out) | exact HB.out)) hb); clear BK477; clear BK478; clear HB; have BK477 := n0_; have BK478 := n1_; have HB := n2_; clear n0_ n1_ n2_; (try clear hb); (try clear hb2); (try clear hk); (try clear hi)) | (go_at_call 64; (with_reducible refine (path_addressed.calls a1 false _ A5.out).mono ?_); rintro e w' ⟨rfl, ⟨nd, rfl⟩⟩; (try (rw [drewN_self w18]; generalize hq_ : World.drewN w18 _ = w18; have n0_ : Aside0 (w18.heap[gb477]? = some (.cells #[.int .i64 a0_0, .int .i64 a0_1, .int .i64 a0_2, .bool a0_3, .int .i64 a0_4, .int .i64 a0_5, .int .i64 a0_6, .int .i64 a0_7, .int .i64 a0_8, .int .u32 a0_9, .int .i64 a0_10] 34 (0, 0))) := ⟨by rw [← hq_]; exact (by (with_reducible repeat (first | refine blk_drewN ?_ _ | refine blk_drew ?_ | refine blk_alloc ?_ _)); exact BK477.out)⟩; have n1_ : Aside0 (w18.heap[gb478]? = some (.cells #[.int .i64 0, .int .i64 0, .int .i64 0, .bool false, .int .i64 0, .int .i64 0, .int .i64 0, .int .i64 0, .int .i64 0, .int .u32 0, .int .i64 0] 34 (0, 0))) := ⟨by rw [← hq_]; exact (by (with_reducible repeat (first | refine blk_drewN ?_ _ | refine blk_drew ?_ | refine blk_alloc ?_ _)); exact BK478.out)⟩; have n2_ : Aside0 (Below w.heap.size w w18) := ⟨by rw [← hq_]; exact (by repeat (first | (with_reducible first | exact HB.out | apply below_alloc | apply pw_below_drewN | apply below_drew1 | refine below_set ?_ GE477.out | refine below_set ?_ GE478.out) | exact HB.out))⟩; clear BK477 BK478 HB hq_; have BK477 := n0_; have BK478 := n1_; have HB := n2_; clear n0_ n1_ n2_)); have hcz19_0 : w18.cell? ⟨gb478, 0, none⟩ = some (.int .i64 0) := (blk_cell BK478.out 0).trans rfl; have hcz19_1 : w18.cell? ⟨gb478, 1, none⟩ = some (.int .i64 0) := (blk_cell BK478.out 1).trans rfl; have hcz19_2 : w18.cell? ⟨gb478, 2, none⟩ = some (.int .i64 0) := (blk_cell BK478.out 2).trans rfl; have hcz19_3 : w18.cell? ⟨gb478, 3, none⟩ = some (.bool false) := (blk_cell BK478.out 3).trans rfl; have hcz19_4 : w18.cell? ⟨gb478, 4, none⟩ = some (.int .i64 0) := (blk_cell BK478.out 4).trans rfl; have hcz19_5 : w18.cell? ⟨gb478, 5, none⟩ = some (.int .i64 0) := (blk_cell BK478.out 5).trans rfl; have hcz19_6 : w18.cell? ⟨gb478, 6, none⟩ = some (.int .i64 0) := (blk_cell BK478.out 6).trans rfl; have hcz19_7 : w18.cell? ⟨gb478, 7, none⟩ = some (.int .i64 0) := (blk_cell BK478.out 7).trans rfl; have hcz19_8 : w18.cell? ⟨gb478, 8, none⟩ = some (.int .i64 0) := (blk_cell BK478.out 8).trans rfl; have hcz19_9 : w18.cell? ⟨gb478, 9, none⟩ = some (.int .u32 0) := (blk_cell BK478.out 9).trans rfl; have hcz19_10 : w18.cell? ⟨gb478, 10, none⟩ = some (.int .i64 0) := (blk_cell BK478.out 10).trans rfl; have hfz19_0 := blk_frozen BK478.out 0; have hfz19_1 := blk_frozen BK478.out 1; have hfz19_2 := blk_frozen BK478.out 2; have hfz19_3 := blk_frozen BK478.out 3; have hfz19_4 := blk_frozen BK478.out 4; have hfz19_5 := blk_frozen BK478.out 5; have hfz19_6 := blk_frozen BK478.out 6; have hfz19_7 := blk_frozen BK478.out 7; have hfz19_8 := blk_frozen BK478.out 8; have hfz19_9 := blk_frozen BK478.out 9; have hfz19_10 := blk_frozen BK478.out 10))
      refine bodyPost_ret (results_ct rfl _ _ gb478 34 #[.int .i64 0, .int .i64 0, .int .i64 0, .bool false, .int .i64 0, .int .i64 0, .int .i64 0, .int .i64 0, .int .i64 0, .int .u32 0, .int .i64 0] (0, 0) _ rfl (by (with_reducible repeat (first | refine blk_drewN ?_ _ | refine blk_drew ?_ | refine blk_alloc ?_ _)); refine blk_put (cs := #[.int .i64 0, .int .i64 0, .int .i64 0, .bool false, .int .i64 0, .int .i64 0, .int .i64 0, .int .i64 0, .int .i64 0, .int .u32 0, .int .i64 0]) ?_ 10 _ rfl; (with_reducible repeat (first | refine blk_drewN ?_ _ | refine blk_drew ?_ | refine blk_alloc ?_ _)); refine blk_put (cs := #[.int .i64 0, .int .i64 0, .int .i64 0, .bool false, .int .i64 0, .int .i64 0, .int .i64 0, .int .i64 0, .int .i64 0, .int .u32 0, .int .i64 0]) ?_ 9 _ rfl; (with_reducible repeat (first | refine blk_drewN ?_ _ | refine blk_drew ?_ | refine blk_alloc ?_ _)); refine blk_put (cs := #[.int .i64 0, .int .i64 0, .int .i64 0, .bool false, .int .i64 0, .int .i64 0, .int .i64 0, .int .i64 0, .int .i64 0, .int .u32 0, .int .i64 0]) ?_ 8 _ rfl; (with_reducible repeat (first | refine blk_drewN ?_ _ | refine blk_drew ?_ | refine blk_alloc ?_ _)); refine blk_put (cs := #[.int .i64 0, .int .i64 0, .int .i64 0, .bool false, .int .i64 0, .int .i64 0, .int .i64 0, .int .i64 0, .int .i64 0, .int .u32 0, .int .i64 0]) ?_ 7 _ rfl; (with_reducible repeat (first | refine blk_drewN ?_ _ | refine blk_drew ?_ | refine blk_alloc ?_ _)); refine blk_put (cs := #[.int .i64 0, .int .i64 0, .int .i64 0, .bool false, .int .i64 0, .int .i64 0, .int .i64 0, .int .i64 0, .int .i64 0, .int .u32 0, .int .i64 0]) ?_ 6 _ rfl; (with_reducible repeat (first | refine blk_drewN ?_ _ | refine blk_drew ?_ | refine blk_alloc ?_ _)); refine blk_put (cs := #[.int .i64 0, .int .i64 0, .int .i64 0, .bool false, .int .i64 0, .int .i64 0, .int .i64 0, .int .i64 0, .int .i64 0, .int .u32 0, .int .i64 0]) ?_ 5 _ rfl; (with_reducible repeat (first | refine blk_drewN ?_ _ | refine blk_drew ?_ | refine blk_alloc ?_ _)); refine blk_put (cs := #[.int .i64 0, .int .i64 0, .int .i64 0, .bool false, .int .i64 0, .int .i64 0, .int .i64 0, .int .i64 0, .int .i64 0, .int .u32 0, .int .i64 0]) ?_ 4 _ rfl; (with_reducible repeat (first | refine blk_drewN ?_ _ | refine blk_drew ?_ | refine blk_alloc ?_ _)); refine blk_put (cs := #[.int .i64 0, .int .i64 0, .int .i64 0, .bool false, .int .i64 0, .int .i64 0, .int .i64 0, .int .i64 0, .int .i64 0, .int .u32 0, .int .i64 0]) ?_ 3 _ rfl; (with_reducible repeat (first | refine blk_drewN ?_ _ | refine blk_drew ?_ | refine blk_alloc ?_ _)); refine blk_put (cs := #[.int .i64 0, .int .i64 0, .int .i64 0, .bool false, .int .i64 0, .int .i64 0, .int .i64 0, .int .i64 0, .int .i64 0, .int .u32 0, .int .i64 0]) ?_ 2 _ rfl; (with_reducible repeat (first | refine blk_drewN ?_ _ | refine blk_drew ?_ | refine blk_alloc ?_ _)); refine blk_put (cs := #[.int .i64 0, .int .i64 0, .int .i64 0, .bool false, .int .i64 0, .int .i64 0, .int .i64 0, .int .i64 0, .int .i64 0, .int .u32 0, .int .i64 0]) ?_ 1 _ rfl; (with_reducible repeat (first | refine blk_drewN ?_ _ | refine blk_drew ?_ | refine blk_alloc ?_ _)); refine blk_put (cs := #[.int .i64 0, .int .i64 0, .int .i64 0, .bool false, .int .i64 0, .int .i64 0, .int .i64 0, .int .i64 0, .int .i64 0, .int .u32 0, .int .i64 0]) ?_ 0 _ rfl; (with_reducible repeat (first | refine blk_drewN ?_ _ | refine blk_drew ?_ | refine blk_alloc ?_ _)); exact BK478.out) Try.underlying34 rfl (by kernel_rfl)) rfl ?_
      exact ⟨by first | rfl | (simp [errW_none, errW_some] <;> rfl) | (simp [*, errW_none, errW_some] <;> rfl), by repeat (first | (with_reducible first | exact HB.out | apply below_alloc | apply pw_below_drewN | apply below_drew1 | refine below_set ?_ GE477.out | refine below_set ?_ GE478.out) | exact HB.out)⟩
  · replace c4 := Bool.eq_false_iff.mpr c4
    subst c4
    have H1 : (some (0, 0, 0, false, 0, 0, 0, 0, 0, 0, 0, some 1)) = some (r1, r2, r3, r4, r5, r6, r7, r8, r9, r10, r11, r12) := by rw [if_neg (show ¬ (false = true) by decide)] at H; exact H
    clear H
    have H := H1
    clear H1
    simp only [Option.some.injEq, Prod.mk.injEq] at H
    obtain ⟨rfl, rfl, rfl, rfl, rfl, rfl, rfl, rfl, rfl, rfl, rfl, rfl⟩ := H
    go_enter Try.func18, Try.ntmps18
    go_wp2_with (first | ((with_reducible refine gate_dst (N := 2) rfl ?_); refine box_event ?hg (N := 2) ?hd (cs := #[.int .i64 a0_0, .int .i64 a0_1, .int .i64 a0_2, .bool a0_3, .int .i64 a0_4, .int .i64 a0_5, .int .i64 a0_6, .int .i64 a0_7, .int .i64 a0_8, .int .u32 a0_9, .int .i64 a0_10]) (t := 34) ?hr ?_; (case hd => rfl); (case hg => rfl); (case hr => first | (go_simp; done) | (go_simp; rfl)); intro gb477 hg w20 hbox hb; have n0_ := Aside0.mk (below_step (by repeat (first | (with_reducible first | exact HB.out | apply below_alloc | apply pw_below_drewN | apply below_drew1) | exact HB.out)) hb); have n1_ := Aside0.mk (hbox); have n2_ := Aside0.mk ((by rw [hg]; exact (below_size (by repeat (first | (with_reducible first | exact HB.out | apply below_alloc | apply pw_below_drewN | apply below_drew1) | exact HB.out))) : w.heap.size ≤ gb477)); have n3_ := Aside0.mk ((by rw [hg]; exact (below_size (by repeat (first | (with_reducible first | exact HB.out | apply below_alloc | apply pw_below_drewN | apply below_drew1) | exact HB.out))) : w.heap.size ≤ gb477)); clear HB; have HB := n0_; have BK477 := n1_; have GW477 := n2_; have GE477 := n3_; clear n0_ n1_ n2_ n3_; clear hb hbox hg) | ((with_reducible refine gate_dst (N := 4) rfl ?_); refine box_event ?hg (N := 4) ?hd (cs := #[.int .i64 0, .int .i64 0, .int .i64 0, .bool false, .int .i64 0, .int .i64 0, .int .i64 0, .int .i64 0, .int .i64 0, .int .u32 0, .int .i64 0]) (t := 34) ?hr ?_; (case hd => rfl); (case hg => rfl); (case hr => first | (go_simp; done) | (go_simp; rfl)); intro gb478 hg w21 hbox hb; have n0_ := Aside0.mk (blk_below (g := gb477) (o := .cells #[.int .i64 a0_0, .int .i64 a0_1, .int .i64 a0_2, .bool a0_3, .int .i64 a0_4, .int .i64 a0_5, .int .i64 a0_6, .int .i64 a0_7, .int .i64 a0_8, .int .u32 a0_9, .int .i64 a0_10] 34 (0, 0)) (by (with_reducible repeat (first | refine blk_drewN ?_ _ | refine blk_drew ?_ | refine blk_alloc ?_ _)); exact BK477.out) hb); have n1_ := Aside0.mk (below_step (by repeat (first | (with_reducible first | exact HB.out | apply below_alloc | apply pw_below_drewN | apply below_drew1 | refine below_set ?_ GE477.out) | exact HB.out)) hb); have n2_ := Aside0.mk (hbox); have n3_ := Aside0.mk ((by rw [hg]; exact (below_size (by repeat (first | (with_reducible first | exact HB.out | apply below_alloc | apply pw_below_drewN | apply below_drew1 | refine below_set ?_ GE477.out) | exact HB.out))) : w.heap.size ≤ gb478)); have n4_ := Aside0.mk ((by rw [hg]; exact (below_size (by repeat (first | (with_reducible first | exact HB.out | apply below_alloc | apply pw_below_drewN | apply below_drew1 | refine below_set ?_ GE477.out) | exact HB.out))) : w.heap.size ≤ gb478)); have n5_ := Aside0.mk ((by rw [hg]; exact Nat.ne_of_lt (blk_lt (g := gb477) (o := .cells #[.int .i64 a0_0, .int .i64 a0_1, .int .i64 a0_2, .bool a0_3, .int .i64 a0_4, .int .i64 a0_5, .int .i64 a0_6, .int .i64 a0_7, .int .i64 a0_8, .int .u32 a0_9, .int .i64 a0_10] 34 (0, 0)) (by (with_reducible repeat (first | refine blk_drewN ?_ _ | refine blk_drew ?_ | refine blk_alloc ?_ _)); exact BK477.out)) : gb477 ≠ gb478)); have n6_ := Aside0.mk ((by rw [hg]; exact Nat.ne_of_gt (blk_lt (g := gb477) (o := .cells #[.int .i64 a0_0, .int .i64 a0_1, .int .i64 a0_2, .bool a0_3, .int .i64 a0_4, .int .i64 a0_5, .int .i64 a0_6, .int .i64 a0_7, .int .i64 a0_8, .int .u32 a0_9, .int .i64 a0_10] 34 (0, 0)) (by (with_reducible repeat (first | refine blk_drewN ?_ _ | refine blk_drew ?_ | refine blk_alloc ?_ _)); exact BK477.out)) : gb478 ≠ gb477)); clear BK477; clear HB; have BK477 := n0_; have HB := n1_; have BK478 := n2_; have GW478 := n3_; have GE478 := n4_; have NB477_478 := n5_; have NB478_477 := n6_; clear n0_ n1_ n2_ n3_ n4_ n5_ n6_; clear hb hbox hg; have hnb22 := NB477_478.out; have hnc22 := NB478_477.out; have hcz23_0 : w21.cell? ⟨gb477, 0, none⟩ = some (.int .i64 a0_0) := (blk_cell BK477.out 0).trans rfl; have hcz23_1 : w21.cell? ⟨gb477, 1, none⟩ = some (.int .i64 a0_1) := (blk_cell BK477.out 1).trans rfl; have hcz23_2 : w21.cell? ⟨gb477, 2, none⟩ = some (.int .i64 a0_2) := (blk_cell BK477.out 2).trans rfl; have hcz23_3 : w21.cell? ⟨gb477, 3, none⟩ = some (.bool a0_3) := (blk_cell BK477.out 3).trans rfl; have hcz23_4 : w21.cell? ⟨gb477, 4, none⟩ = some (.int .i64 a0_4) := (blk_cell BK477.out 4).trans rfl; have hcz23_5 : w21.cell? ⟨gb477, 5, none⟩ = some (.int .i64 a0_5) := (blk_cell BK477.out 5).trans rfl; have hcz23_6 : w21.cell? ⟨gb477, 6, none⟩ = some (.int .i64 a0_6) := (blk_cell BK477.out 6).trans rfl; have hcz23_7 : w21.cell? ⟨gb477, 7, none⟩ = some (.int .i64 a0_7) := (blk_cell BK477.out 7).trans rfl; have hcz23_8 : w21.cell? ⟨gb477, 8, none⟩ = some (.int .i64 a0_8) := (blk_cell BK477.out 8).trans rfl; have hcz23_9 : w21.cell? ⟨gb477, 9, none⟩ = some (.int .u32 a0_9) := (blk_cell BK477.out 9).trans rfl; have hcz23_10 : w21.cell? ⟨gb477, 10, none⟩ = some (.int .i64 a0_10) := (blk_cell BK477.out 10).trans rfl; have hfz23_0 := blk_frozen BK477.out 0; have hfz23_1 := blk_frozen BK477.out 1; have hfz23_2 := blk_frozen BK477.out 2; have hfz23_3 := blk_frozen BK477.out 3; have hfz23_4 := blk_frozen BK477.out 4; have hfz23_5 := blk_frozen BK477.out 5; have hfz23_6 := blk_frozen BK477.out 6; have hfz23_7 := blk_frozen BK477.out 7; have hfz23_8 := blk_frozen BK477.out 8; have hfz23_9 := blk_frozen BK477.out 9; have hfz23_10 := blk_frozen BK477.out 10) | ((with_reducible refine gate_callee (f := 20) rfl ?_); refine goesL_ (some 7) rfl rfl Try.func20 (by kernel_rfl) rfl #[.agg #[.int .i64 a0_0, .int .i64 a0_1, .int .i64 a0_2, .bool a0_3, .int .i64 a0_4, .int .i64 a0_5, .int .i64 a0_6, .int .i64 a0_7, .int .i64 a0_8, .int .u32 a0_9, .int .i64 a0_10]] rfl (by (try simp only [List.map_toArray, List.map_cons, List.map_nil]); first | done | rfl | (simp only [List.length_drop, List.length_take]; rfl)) ?_; (with_reducible refine (path_Good.calls k a0_0 a0_1 a0_2 a0_3 a0_4 a0_5 a0_6 a0_7 a0_8 a0_9 a0_10 false _ A3.out).mono ?_); rintro e w24 ⟨rfl, hb⟩; refine ⟨_, rfl, ?_⟩; have n0_ := Aside0.mk (blk_below (g := gb477) (o := .cells #[.int .i64 a0_0, .int .i64 a0_1, .int .i64 a0_2, .bool a0_3, .int .i64 a0_4, .int .i64 a0_5, .int .i64 a0_6, .int .i64 a0_7, .int .i64 a0_8, .int .u32 a0_9, .int .i64 a0_10] 34 (0, 0)) (by (with_reducible repeat (first | refine blk_drewN ?_ _ | refine blk_drew ?_ | refine blk_alloc ?_ _)); exact BK477.out) hb); have n1_ := Aside0.mk (blk_below (g := gb478) (o := .cells #[.int .i64 0, .int .i64 0, .int .i64 0, .bool false, .int .i64 0, .int .i64 0, .int .i64 0, .int .i64 0, .int .i64 0, .int .u32 0, .int .i64 0] 34 (0, 0)) (by (with_reducible repeat (first | refine blk_drewN ?_ _ | refine blk_drew ?_ | refine blk_alloc ?_ _)); exact BK478.out) hb); have n2_ := Aside0.mk (below_step (by repeat (first | (with_reducible first | exact HB.out | apply below_alloc | apply pw_below_drewN | apply below_drew1 | refine below_set ?_ GE477.out | refine below_set ?_ GE478.out) | exact HB.out)) hb); clear BK477; clear BK478; clear HB; have BK477 := n0_; have BK478 := n1_; have HB := n2_; clear n0_ n1_ n2_; (try clear hb); (try clear hb2); (try clear hk); (try clear hi); have hcz25_0 : w24.cell? ⟨gb478, 0, none⟩ = some (.int .i64 0) := (blk_cell BK478.out 0).trans rfl; have hcz25_1 : w24.cell? ⟨gb478, 1, none⟩ = some (.int .i64 0) := (blk_cell BK478.out 1).trans rfl; have hcz25_2 : w24.cell? ⟨gb478, 2, none⟩ = some (.int .i64 0) := (blk_cell BK478.out 2).trans rfl; have hcz25_3 : w24.cell? ⟨gb478, 3, none⟩ = some (.bool false) := (blk_cell BK478.out 3).trans rfl; have hcz25_4 : w24.cell? ⟨gb478, 4, none⟩ = some (.int .i64 0) := (blk_cell BK478.out 4).trans rfl; have hcz25_5 : w24.cell? ⟨gb478, 5, none⟩ = some (.int .i64 0) := (blk_cell BK478.out 5).trans rfl; have hcz25_6 : w24.cell? ⟨gb478, 6, none⟩ = some (.int .i64 0) := (blk_cell BK478.out 6).trans rfl; have hcz25_7 : w24.cell? ⟨gb478, 7, none⟩ = some (.int .i64 0) := (blk_cell BK478.out 7).trans rfl; have hcz25_8 : w24.cell? ⟨gb478, 8, none⟩ = some (.int .i64 0) := (blk_cell BK478.out 8).trans rfl; have hcz25_9 : w24.cell? ⟨gb478, 9, none⟩ = some (.int .u32 0) := (blk_cell BK478.out 9).trans rfl; have hcz25_10 : w24.cell? ⟨gb478, 10, none⟩ = some (.int .i64 0) := (blk_cell BK478.out 10).trans rfl; have hfz25_0 := blk_frozen BK478.out 0; have hfz25_1 := blk_frozen BK478.out 1; have hfz25_2 := blk_frozen BK478.out 2; have hfz25_3 := blk_frozen BK478.out 3; have hfz25_4 := blk_frozen BK478.out 4; have hfz25_5 := blk_frozen BK478.out 5; have hfz25_6 := blk_frozen BK478.out 6; have hfz25_7 := blk_frozen BK478.out 7; have hfz25_8 := blk_frozen BK478.out 8; have hfz25_9 := blk_frozen BK478.out 9; have hfz25_10 := blk_frozen BK478.out 10))
    refine bodyPost_ret (results_ct rfl _ _ gb478 34 #[.int .i64 0, .int .i64 0, .int .i64 0, .bool false, .int .i64 0, .int .i64 0, .int .i64 0, .int .i64 0, .int .i64 0, .int .u32 0, .int .i64 0] (0, 0) _ rfl (by (with_reducible repeat (first | refine blk_drewN ?_ _ | refine blk_drew ?_ | refine blk_alloc ?_ _)); refine blk_put (cs := #[.int .i64 0, .int .i64 0, .int .i64 0, .bool false, .int .i64 0, .int .i64 0, .int .i64 0, .int .i64 0, .int .i64 0, .int .u32 0, .int .i64 0]) ?_ 10 _ rfl; (with_reducible repeat (first | refine blk_drewN ?_ _ | refine blk_drew ?_ | refine blk_alloc ?_ _)); refine blk_put (cs := #[.int .i64 0, .int .i64 0, .int .i64 0, .bool false, .int .i64 0, .int .i64 0, .int .i64 0, .int .i64 0, .int .i64 0, .int .u32 0, .int .i64 0]) ?_ 9 _ rfl; (with_reducible repeat (first | refine blk_drewN ?_ _ | refine blk_drew ?_ | refine blk_alloc ?_ _)); refine blk_put (cs := #[.int .i64 0, .int .i64 0, .int .i64 0, .bool false, .int .i64 0, .int .i64 0, .int .i64 0, .int .i64 0, .int .i64 0, .int .u32 0, .int .i64 0]) ?_ 8 _ rfl; (with_reducible repeat (first | refine blk_drewN ?_ _ | refine blk_drew ?_ | refine blk_alloc ?_ _)); refine blk_put (cs := #[.int .i64 0, .int .i64 0, .int .i64 0, .bool false, .int .i64 0, .int .i64 0, .int .i64 0, .int .i64 0, .int .i64 0, .int .u32 0, .int .i64 0]) ?_ 7 _ rfl; (with_reducible repeat (first | refine blk_drewN ?_ _ | refine blk_drew ?_ | refine blk_alloc ?_ _)); refine blk_put (cs := #[.int .i64 0, .int .i64 0, .int .i64 0, .bool false, .int .i64 0, .int .i64 0, .int .i64 0, .int .i64 0, .int .i64 0, .int .u32 0, .int .i64 0]) ?_ 6 _ rfl; (with_reducible repeat (first | refine blk_drewN ?_ _ | refine blk_drew ?_ | refine blk_alloc ?_ _)); refine blk_put (cs := #[.int .i64 0, .int .i64 0, .int .i64 0, .bool false, .int .i64 0, .int .i64 0, .int .i64 0, .int .i64 0, .int .i64 0, .int .u32 0, .int .i64 0]) ?_ 5 _ rfl; (with_reducible repeat (first | refine blk_drewN ?_ _ | refine blk_drew ?_ | refine blk_alloc ?_ _)); refine blk_put (cs := #[.int .i64 0, .int .i64 0, .int .i64 0, .bool false, .int .i64 0, .int .i64 0, .int .i64 0, .int .i64 0, .int .i64 0, .int .u32 0, .int .i64 0]) ?_ 4 _ rfl; (with_reducible repeat (first | refine blk_drewN ?_ _ | refine blk_drew ?_ | refine blk_alloc ?_ _)); refine blk_put (cs := #[.int .i64 0, .int .i64 0, .int .i64 0, .bool false, .int .i64 0, .int .i64 0, .int .i64 0, .int .i64 0, .int .i64 0, .int .u32 0, .int .i64 0]) ?_ 3 _ rfl; (with_reducible repeat (first | refine blk_drewN ?_ _ | refine blk_drew ?_ | refine blk_alloc ?_ _)); refine blk_put (cs := #[.int .i64 0, .int .i64 0, .int .i64 0, .bool false, .int .i64 0, .int .i64 0, .int .i64 0, .int .i64 0, .int .i64 0, .int .u32 0, .int .i64 0]) ?_ 2 _ rfl; (with_reducible repeat (first | refine blk_drewN ?_ _ | refine blk_drew ?_ | refine blk_alloc ?_ _)); refine blk_put (cs := #[.int .i64 0, .int .i64 0, .int .i64 0, .bool false, .int .i64 0, .int .i64 0, .int .i64 0, .int .i64 0, .int .i64 0, .int .u32 0, .int .i64 0]) ?_ 1 _ rfl; (with_reducible repeat (first | refine blk_drewN ?_ _ | refine blk_drew ?_ | refine blk_alloc ?_ _)); refine blk_put (cs := #[.int .i64 0, .int .i64 0, .int .i64 0, .bool false, .int .i64 0, .int .i64 0, .int .i64 0, .int .i64 0, .int .i64 0, .int .u32 0, .int .i64 0]) ?_ 0 _ rfl; (with_reducible repeat (first | refine blk_drewN ?_ _ | refine blk_drew ?_ | refine blk_alloc ?_ _)); exact BK478.out) Try.underlying34 rfl (by kernel_rfl)) rfl ?_
    exact ⟨by first | rfl | (simp [errW_none, errW_some] <;> rfl) | (simp [*, errW_none, errW_some] <;> rfl), by repeat (first | (with_reducible first | exact HB.out | apply below_alloc | apply pw_below_drewN | apply below_drew1 | refine below_set ?_ GE477.out | refine below_set ?_ GE478.out) | exact HB.out)⟩

end Go.Proofs.Ytblooffiggciiaa.PPs
/- PsA -/
namespace Go.Proofs.Ytblooffiggciiaa.Ps
open Go.RowKit Go.Proofs.Ytblooffiggciiaa.PPs Go.Proofs.YtblooffiggciiaaW.PrintWords Go.Proofs.YtblooffiggciiaaW.PrintLast Go.Proofs.YtblooffiggciiaaW.PrintMore
theorem w64 {x : Int} (h : -9223372036854775808 ≤ x) (h' : x ≤ 9223372036854775807) : wrap64 x = x := by
  unfold wrap64; omega
theorem td (x : Int) (h : 0 ≤ x) (n : Int) : Int.tdiv x n = x / n := Int.tdiv_eq_ediv_of_nonneg h
def goodP (s d w : Int) (m : Bool) : Prop := 10 ≤ w ∧ w ≤ 600 ∧ 0 ≤ s ∧ 0 ≤ d ∧ (m = true → s ≤ 524280 ∧ d ≤ 262140) ∧ (m = false → s = 0 ∧ d = 0)
instance (s d w : Int) (m : Bool) : Decidable (goodP s d w m) := by unfold goodP; infer_instance
theorem good_yes {s d w : Int} {m : Bool} (k : Nat) (h : goodP s d w m) : rto_Good.f (k + 1) s d w m = some true := by
  obtain ⟨h1, h2, h3, h4, h5, h6⟩ := h
  unfold rto_Good.f
  rw [if_neg (by omega), if_neg (by omega), if_neg (by omega)]
  simp only [rto_Good.j0]
  have : decide (d < 0) = false := by simp; omega
  rw [this, if_neg (by simp)]
  cases m with
  | true => obtain ⟨a, b⟩ := h5 rfl; rw [if_pos rfl, if_pos a]; simp [b]
  | false => obtain ⟨a, b⟩ := h6 rfl; rw [if_neg (by simp), if_pos a]; simp [b]
theorem good_no {s d w : Int} {m : Bool} (k : Nat) (h : ¬ goodP s d w m) : rto_Good.f (k + 1) s d w m = some false := by
  unfold goodP at h
  unfold rto_Good.f
  by_cases h1 : w < 10
  · rw [if_pos h1]; simp [rto_Good.j0]
  rw [if_neg h1]
  by_cases h2 : w > 600
  · rw [if_pos h2]; simp [rto_Good.j0]
  rw [if_neg h2]
  by_cases h3 : s < 0
  · rw [if_pos h3]; simp [rto_Good.j0]
  rw [if_neg h3]
  by_cases h4 : d < 0
  · simp [rto_Good.j0, h4]
  have : decide (d < 0) = false := by simp; omega
  rw [this]
  simp only [rto_Good.j0]
  rw [if_neg (by simp)]
  cases m with
  | true =>
    rw [if_pos rfl]
    by_cases h5 : s ≤ 524280
    · rw [if_pos h5]; simp only [Option.some.injEq, decide_eq_false_iff_not]
      intro h6
      exact h ⟨by omega, by omega, by omega, by omega, fun _ => ⟨h5, h6⟩, fun h => by cases h⟩
    · rw [if_neg h5]
  | false =>
    rw [if_neg (by simp)]
    by_cases h5 : s = 0
    · rw [if_pos h5]; simp only [Option.some.injEq, beq_eq_false_iff_ne]
      intro h6
      exact h ⟨by omega, by omega, by omega, by omega, fun h => by (cases h), fun _ => ⟨h5, h6⟩⟩
    · rw [if_neg h5]
theorem good_eq (s d w : Int) (m : Bool) (k : Nat) : rto_Good.f (k + 1) s d w m = some (decide (goodP s d w m)) := by
  by_cases h : goodP s d w m
  · rw [good_yes k h]; simp [h]
  · rw [good_no k h]; simp [h]
def twiceW (w : Int) : Int := mn (2 * w) 600
theorem twice_yes {s d w : Int} {m : Bool} (k : Nat) (h : goodP s d w m) : rto_Estimate_Twice.f (k + 1) s d w m = some (s, d, twiceW w, m) := by
  have hg := h
  obtain ⟨h1, h2, _⟩ := h
  unfold rto_Estimate_Twice.f
  rw [good_yes k hg]
  simp only [Option.bind_some, if_true]
  rw [w64 (by omega) (by omega)]; rfl
def goodW (s t c : Int) : Prop := 128 ≤ s ∧ s ≤ 8192 ∧ 128 ≤ t ∧ t ≤ 8192 ∧ 0 ≤ c ∧ c ≤ 2147483648
instance (s t c : Int) : Decidable (goodW s t c) := by unfold goodW; infer_instance
theorem wgood (s t c : Int) : cwnd_Good.f s t c = some (decide (goodW s t c)) := by
  unfold cwnd_Good.f cwnd_sized.f
  by_cases h : goodW s t c
  · rw [decide_eq_true h]
    obtain ⟨h1, h2, h3, h4, h5, h6⟩ := h
    rw [if_pos h1, if_pos h3, if_pos h5, decide_eq_true h2, decide_eq_true h4, decide_eq_true h6]; rfl
  · rw [decide_eq_false h]
    unfold goodW at h
    by_cases h1 : s ≥ 128
    · rw [if_pos h1]
      by_cases h2 : s ≤ 8192
      · rw [decide_eq_true h2]
        by_cases h3 : t ≥ 128
        · rw [if_pos h3]
          by_cases h4 : t ≤ 8192
          · rw [decide_eq_true h4]
            by_cases h5 : c ≥ 0
            · rw [if_pos h5, decide_eq_false (by omega)]; rfl
            · rw [if_neg h5]; rfl
          · rw [decide_eq_false h4]; rfl
        · rw [if_neg h3]; rfl
      · rw [decide_eq_false h2]; rfl
    · rw [if_neg h1]; rfl
theorem wown_yes {s t c : Int} (h : goodW s t c) : cwnd_Window_own.f s t c = some (s, t, c) := by
  unfold cwnd_Window_own.f; rw [wgood]; simp [h]
def halfW (s : Int) : Int := if s / 2 < 512 then 512 else s / 2
theorem half_mx {s : Int} (h0 : 0 ≤ s) (h1 : s ≤ 8192) : mx (wrap64 (Int.tdiv s 2)) 512 = halfW s := by
  rw [td s h0, w64 (by omega) (by omega)]; rfl
theorem late_yes {s t c : Int} (h : goodW s t c) : cwnd_Window_Late.f s t c = some (128, halfW s, 0) := by
  unfold cwnd_Window_Late.f cwnd_Window_halved.f
  rw [wown_yes h]; simp only [Option.bind_some]; rw [half_mx (by have := h.1; omega) h.2.1]

def addrP (a : Int) : Prop := 1 ≤ a ∧ a ≤ 2147483647
instance (a : Int) : Decidable (addrP a) := by unfold addrP; infer_instance
theorem addr_eq (a : Int) : path_addressed.f a = some (decide (addrP a)) := by
  unfold path_addressed.f
  by_cases h : a ≥ 1
  · rw [if_pos h]; congr 1; rw [decide_eq_decide]; unfold addrP; omega
  · rw [if_neg h]; congr 1; symm; rw [decide_eq_false_iff_not]; intro h'; exact h h'.1
def tickP (a : Int) : Prop := 0 ≤ a ∧ a ≤ 4611686018427387904
instance (a : Int) : Decidable (tickP a) := by unfold tickP; infer_instance
theorem tick_eq (a : Int) : path_ticked.f a = some (decide (tickP a)) := by
  unfold path_ticked.f
  by_cases h : a ≥ 0
  · rw [if_pos h]; congr 1; rw [decide_eq_decide]; unfold tickP; omega
  · rw [if_neg h]; congr 1; symm; rw [decide_eq_false_iff_not]; intro h'; exact h h'.1
def goodQ (s d w : Int) (m : Bool) (z t c a er no se : Int) : Prop :=
  (no = 0 → se = 0) ∧ tickP se ∧ addrP a ∧ goodP s d w m ∧ goodW z t c ∧ 0 ≤ er ∧ er ≤ 100
instance (s d w : Int) (m : Bool) (z t c a er no se : Int) : Decidable (goodQ s d w m z t c a er no se) := by unfold goodQ; infer_instance
theorem tail_good (s d w : Int) (m : Bool) (z t c a er : Int) (k : Nat) :
    ((path_addressed.f a).bind fun t144 => (if t144 = true then ((rto_Good.f (k + 1) s d w m).bind fun t145 => (if t145 = true then ((cwnd_Good.f z t c).bind fun t146 => (if t146 = true then (if er ≥ 0 then (some (decide (er ≤ 100))) else (some false)) else (some false))) else (some false))) else (some false))) =
      some (decide (addrP a ∧ goodP s d w m ∧ goodW z t c ∧ 0 ≤ er ∧ er ≤ 100)) := by
  rw [addr_eq, good_eq, wgood]
  simp only [Option.bind_some]
  by_cases h1 : addrP a
  · by_cases h2 : goodP s d w m
    · by_cases h3 : goodW z t c
      · by_cases h4 : er ≥ 0
        · simp only [h1, h2, h3, h4, decide_true, if_true, true_and]
        · simp only [h1, h2, h3, h4, decide_true, if_true, if_false, true_and, false_and, decide_false]
      · simp [h1, h2, h3]
    · simp [h1, h2]
  · simp [h1]
theorem qgood (s d w : Int) (m : Bool) (z t c a er no se : Int) (k : Nat) : path_Good.f (k + 1) s d w m z t c a er no se = some (decide (goodQ s d w m z t c a er no se)) := by
  unfold path_Good.f
  rw [tail_good]
  by_cases h : no = 0
  · rw [if_pos h]
    by_cases h2 : se = 0
    · rw [if_pos h2]; congr 1; rw [decide_eq_decide]
      subst h2
      constructor
      · intro h'; exact ⟨fun _ => rfl, by decide, h'⟩
      · intro h'; exact h'.2.2
    · rw [if_neg h2]; congr 1; symm; rw [decide_eq_false_iff_not]; intro h'; exact h2 (h'.1 h)
  · rw [if_neg h, tick_eq]
    simp only [Option.bind_some]
    by_cases h2 : tickP se
    · rw [decide_eq_true h2]; simp only [if_true]; congr 1; rw [decide_eq_decide]
      constructor
      · intro h'; exact ⟨fun h0 => absurd h0 h, h2, h'⟩
      · intro h'; exact h'.2.2
    · rw [decide_eq_false h2]; simp only [Bool.false_eq_true, if_false]; congr 1; symm; rw [decide_eq_false_iff_not]; intro h'; exact h2 h'.2.1
section
variable {s d w : Int} {m : Bool} {z t c a er no se : Int}
theorem qfailed (h : goodQ s d w m z t c a er no se) (k : Nat) : path_Path_Failed.f (k + 1) s d w m z t c a er no se = some (s, d, twiceW w, m, 128, halfW z, 0, a, mn (er + 1) 100, no, se) := by
  unfold path_Path_Failed.f path_Path_worse.f
  rw [qgood, decide_eq_true h]
  obtain ⟨_, _, _, hp, hw, h5, h6⟩ := h
  simp only [Option.bind_some, if_true]
  rw [late_yes hw]
  simp only [Option.bind_some]
  rw [twice_yes k hp, w64 (x := er + 1) (by omega) (by omega)]
  rfl
theorem qheard (s d w : Int) (m : Bool) (z t c a er no se : Int) (k : Nat) : path_Path_Heard.f (k + 1) s d w m z t c a er no se = some (s, d, w, m, z, t, c, a, if goodQ s d w m z t c a er no se then 0 else er, no, se) := by
  unfold path_Path_Heard.f
  rw [qgood]
  by_cases h : goodQ s d w m z t c a er no se
  · rw [decide_eq_true h, if_pos h]; rfl
  · rw [decide_eq_false h, if_neg h]; rfl
theorem qactive (s d w : Int) (m : Bool) (z t c a er no se : Int) (k : Nat) : path_Path_Active.f (k + 1) s d w m z t c a er no se = some (decide (goodQ s d w m z t c a er no se ∧ er ≤ 5)) := by
  unfold path_Path_Active.f
  rw [qgood]
  by_cases h : goodQ s d w m z t c a er no se
  · simp [h]
  · simp [h]
end
def cs34 (x : S34) : List Value := [.int .i64 x.f0.f0, .int .i64 x.f0.f1, .int .i64 x.f0.f2, .bool x.f0.f3, .int .i64 x.f1.f0, .int .i64 x.f1.f1, .int .i64 x.f1.f2, .int .i64 x.f2, .int .i64 x.f3, .int .u32 x.f4, .int .i64 x.f5]
def G (x : S34) : Prop := goodQ x.f0.f0 x.f0.f1 x.f0.f2 x.f0.f3 x.f1.f0 x.f1.f1 x.f1.f2 x.f2 x.f3 x.f4 x.f5
instance (x : S34) : Decidable (G x) := by unfold G; infer_instance
def Ac (x : S34) : Prop := G x ∧ x.f3 ≤ 5
instance (x : S34) : Decidable (Ac x) := by unfold Ac; infer_instance
theorem good_calls (x : S34) (W : World) : Calls Try.prog 20 #[.agg (cs34 x).toArray] W fun e w' => e = .returned (.bool (decide (G x))) ∧ Below W.heap.size W w' :=
  path_Good.calls 3 _ _ _ _ _ _ _ _ _ _ _ _ W (qgood _ _ _ _ _ _ _ _ _ _ _ 2)
theorem active_calls (x : S34) (W : World) : Calls Try.prog 21 #[.agg (cs34 x).toArray] W fun e w' => e = .returned (.bool (decide (Ac x))) ∧ Below W.heap.size W w' :=
  path_Path_Active.calls 3 _ _ _ _ _ _ _ _ _ _ _ _ W (qactive _ _ _ _ _ _ _ _ _ _ _ 2)
def failedS (x : S34) : S34 := if G x then ⟨⟨x.f0.f0, x.f0.f1, twiceW x.f0.f2, x.f0.f3⟩, ⟨128, halfW x.f1.f0, 0⟩, x.f2, mn (x.f3 + 1) 100, x.f4, x.f5⟩ else x
theorem failed_calls (x : S34) (W : World) : Calls Try.prog 23 #[.agg (cs34 x).toArray] W fun e w' => e = .returned (.agg (cs34 (failedS x)).toArray) ∧ Below W.heap.size W w' := by
  unfold failedS
  by_cases h : G x
  · rw [if_pos h]
    exact path_Path_Failed.calls 3 _ _ _ _ _ _ _ _ _ _ _ _ _ _ _ _ _ _ _ _ _ _ W (qfailed h 2)
  · rw [if_neg h]
    refine path_Path_Failed.calls 3 _ _ _ _ _ _ _ _ _ _ _ _ _ _ _ _ _ _ _ _ _ _ W ?_
    unfold path_Path_Failed.f
    rw [qgood, decide_eq_false (id h : ¬ goodQ _ _ _ _ _ _ _ _ _ _ _)]
    rfl
def heardS (x : S34) : S34 := ⟨x.f0, x.f1, x.f2, if G x then 0 else x.f3, x.f4, x.f5⟩
theorem heard_calls (x : S34) (W : World) : Calls Try.prog 25 #[.agg (cs34 x).toArray] W fun e w' => e = .returned (.agg (cs34 (heardS x)).toArray) ∧ Below W.heap.size W w' :=
  path_Path_Heard.calls 3 _ _ _ _ _ _ _ _ _ _ _ _ _ _ _ _ _ _ _ _ _ _ W (qheard _ _ _ _ _ _ _ _ _ _ _ 2)
def newS (a : Int) : S34 := ⟨⟨0, 0, 30, false⟩, ⟨512, 2000, 0⟩, a, 0, 0, 0⟩
theorem new_calls (a : Int) (ha : addrP a) (W : World) : Calls Try.prog 13 #[.int .i64 a] W fun e w' => e = .returned (.tuple #[.agg (cs34 (newS a)).toArray, errW none]) ∧ Below W.heap.size W w' :=
  path_New.calls a 0 0 30 false 512 2000 0 a 0 0 0 none W (by simp [path_New.f, addr_eq, ha, rto_First.f, cwnd_First.f])
theorem new_bad (a : Int) (ha : ¬ addrP a) (W : World) : Calls Try.prog 13 #[.int .i64 a] W fun e w' => e = .returned (.tuple #[.agg (cs34 z34).toArray, errW (some 1)]) ∧ Below W.heap.size W w' :=
  path_New.calls a 0 0 0 false 0 0 0 0 0 0 0 (some 1) W (by simp [path_New.f, addr_eq, ha])
theorem newS_good {a : Int} (ha : addrP a) : G (newS a) := ⟨fun _ => rfl, by show tickP 0; decide, ha, by show goodP 0 0 30 false; decide, by show goodW 512 2000 0; decide, by show (0 : Int) ≤ 0; decide, by show (0 : Int) ≤ 100; decide⟩
def toS (x : S34) (a : Int) : S34 := ⟨x.f0, x.f1, a, x.f3, x.f4, x.f5⟩
theorem to_calls (x : S34) (a : Int) (hx : G x) (ha : addrP a) (W : World) : Calls Try.prog 18 #[.agg (cs34 x).toArray, .int .i64 a] W fun e w' => e = .returned (.tuple #[.agg (cs34 (toS x a)).toArray, errW none]) ∧ Below W.heap.size W w' :=
  path_Path_To.calls 3 _ _ _ _ _ _ _ _ _ _ _ a _ _ _ _ _ _ _ _ _ _ _ none W (by
    unfold path_Path_To.f
    rw [qgood, decide_eq_true (id hx : goodQ _ _ _ _ _ _ _ _ _ _ _), addr_eq, decide_eq_true ha]
    rfl)
theorem to_bad (x : S34) (a : Int) (hx : ¬ (G x ∧ addrP a)) (W : World) : Calls Try.prog 18 #[.agg (cs34 x).toArray, .int .i64 a] W fun e w' => e = .returned (.tuple #[.agg (cs34 z34).toArray, errW (some 1)]) ∧ Below W.heap.size W w' :=
  path_Path_To.calls 3 _ _ _ _ _ _ _ _ _ _ _ a 0 0 0 false 0 0 0 0 0 0 0 (some 1) W (by
    unfold path_Path_To.f
    rw [qgood, addr_eq]
    by_cases h : G x
    · rw [decide_eq_true (id h : goodQ _ _ _ _ _ _ _ _ _ _ _), decide_eq_false (fun h' => hx ⟨h, h'⟩)]
      rfl
    · rw [decide_eq_false (id h : ¬ goodQ _ _ _ _ _ _ _ _ _ _ _)]
      rfl)
end Go.Proofs.Ytblooffiggciiaa.Ps
/- Sh -/
namespace Go.Proofs.Ytblooffiggciiaa.Sh
open Go.RowKit Go.Proofs.YtblooffiggciiaaW.PrintWords Go.Proofs.YtblooffiggciiaaW.PrintLast Go.Proofs.YtblooffiggciiaaW.PrintMore
theorem q1 {w : World} {g : Nat} {o : Obj} (h : w.heap[g]? = some o) (n : Nat) : (w.drewN n).heap[g]? = some o := blk_drewN h n
theorem q2 {w : World} {g : Nat} {o : Obj} (h : w.heap[g]? = some o) : w.drew.heap[g]? = some o := blk_drew h
theorem q3 {w : World} {g : Nat} {o : Obj} (h : w.heap[g]? = some o) (o' : Obj) : (w.alloc o').heap[g]? = some o := blk_alloc h o'
theorem b1 {w W : World} (h : Below w.heap.size w W) (o : Obj) : Below w.heap.size w (W.alloc o) := below_alloc h o
theorem b3 {B : Nat} {w W : World} (h : Below B w W) : Below B w W.drew := below_drew1 h
theorem A0 {p : Prop} (h : p) : Aside0 p := Aside0.mk h
theorem cc1 {w : World} {g : Nat} {t : TypeId} {x0 : Value} (h : w.heap[g]? = some (.cells #[x0] t (0, 0))) : w.cell? ⟨g, 0, none⟩ = some x0 ∧ w.frozen? ⟨g, 0, none⟩ = false :=
  ⟨(blk_cell h 0).trans rfl, blk_frozen h 0⟩
theorem ck1 {w : World} {g : Nat} {t : TypeId} {x0 : Value} (h : w.heap[g]? = some (.cells #[x0] t (0, 0))) : w.cell? ⟨g, 0, none⟩ = some x0 :=
  (blk_cell h 0).trans rfl
theorem cc2 {w : World} {g : Nat} {t : TypeId} {x0 x1 : Value} (h : w.heap[g]? = some (.cells #[x0, x1] t (0, 0))) : w.cell? ⟨g, 0, none⟩ = some x0 ∧ w.cell? ⟨g, 1, none⟩ = some x1 ∧ w.frozen? ⟨g, 0, none⟩ = false ∧ w.frozen? ⟨g, 1, none⟩ = false :=
  ⟨(blk_cell h 0).trans rfl, (blk_cell h 1).trans rfl, blk_frozen h 0, blk_frozen h 1⟩
theorem ck2 {w : World} {g : Nat} {t : TypeId} {x0 x1 : Value} (h : w.heap[g]? = some (.cells #[x0, x1] t (0, 0))) : w.cell? ⟨g, 0, none⟩ = some x0 ∧ w.cell? ⟨g, 1, none⟩ = some x1 :=
  ⟨(blk_cell h 0).trans rfl, (blk_cell h 1).trans rfl⟩
theorem ck3 {w : World} {g : Nat} {t : TypeId} {x0 x1 x2 : Value} (h : w.heap[g]? = some (.cells #[x0, x1, x2] t (0, 0))) : w.cell? ⟨g, 0, none⟩ = some x0 ∧ w.cell? ⟨g, 1, none⟩ = some x1 ∧ w.cell? ⟨g, 2, none⟩ = some x2 :=
  ⟨(blk_cell h 0).trans rfl, (blk_cell h 1).trans rfl, (blk_cell h 2).trans rfl⟩
theorem cc11 {w : World} {g : Nat} {t : TypeId} {x0 x1 x2 x3 x4 x5 x6 x7 x8 x9 x10 : Value} (h : w.heap[g]? = some (.cells #[x0, x1, x2, x3, x4, x5, x6, x7, x8, x9, x10] t (0, 0))) : w.cell? ⟨g, 0, none⟩ = some x0 ∧ w.cell? ⟨g, 1, none⟩ = some x1 ∧ w.cell? ⟨g, 2, none⟩ = some x2 ∧ w.cell? ⟨g, 3, none⟩ = some x3 ∧ w.cell? ⟨g, 4, none⟩ = some x4 ∧ w.cell? ⟨g, 5, none⟩ = some x5 ∧ w.cell? ⟨g, 6, none⟩ = some x6 ∧ w.cell? ⟨g, 7, none⟩ = some x7 ∧ w.cell? ⟨g, 8, none⟩ = some x8 ∧ w.cell? ⟨g, 9, none⟩ = some x9 ∧ w.cell? ⟨g, 10, none⟩ = some x10 ∧ w.frozen? ⟨g, 0, none⟩ = false ∧ w.frozen? ⟨g, 1, none⟩ = false ∧ w.frozen? ⟨g, 2, none⟩ = false ∧ w.frozen? ⟨g, 3, none⟩ = false ∧ w.frozen? ⟨g, 4, none⟩ = false ∧ w.frozen? ⟨g, 5, none⟩ = false ∧ w.frozen? ⟨g, 6, none⟩ = false ∧ w.frozen? ⟨g, 7, none⟩ = false ∧ w.frozen? ⟨g, 8, none⟩ = false ∧ w.frozen? ⟨g, 9, none⟩ = false ∧ w.frozen? ⟨g, 10, none⟩ = false :=
  ⟨(blk_cell h 0).trans rfl, (blk_cell h 1).trans rfl, (blk_cell h 2).trans rfl, (blk_cell h 3).trans rfl, (blk_cell h 4).trans rfl, (blk_cell h 5).trans rfl, (blk_cell h 6).trans rfl, (blk_cell h 7).trans rfl, (blk_cell h 8).trans rfl, (blk_cell h 9).trans rfl, (blk_cell h 10).trans rfl, blk_frozen h 0, blk_frozen h 1, blk_frozen h 2, blk_frozen h 3, blk_frozen h 4, blk_frozen h 5, blk_frozen h 6, blk_frozen h 7, blk_frozen h 8, blk_frozen h 9, blk_frozen h 10⟩
theorem ck11 {w : World} {g : Nat} {t : TypeId} {x0 x1 x2 x3 x4 x5 x6 x7 x8 x9 x10 : Value} (h : w.heap[g]? = some (.cells #[x0, x1, x2, x3, x4, x5, x6, x7, x8, x9, x10] t (0, 0))) : w.cell? ⟨g, 0, none⟩ = some x0 ∧ w.cell? ⟨g, 1, none⟩ = some x1 ∧ w.cell? ⟨g, 2, none⟩ = some x2 ∧ w.cell? ⟨g, 3, none⟩ = some x3 ∧ w.cell? ⟨g, 4, none⟩ = some x4 ∧ w.cell? ⟨g, 5, none⟩ = some x5 ∧ w.cell? ⟨g, 6, none⟩ = some x6 ∧ w.cell? ⟨g, 7, none⟩ = some x7 ∧ w.cell? ⟨g, 8, none⟩ = some x8 ∧ w.cell? ⟨g, 9, none⟩ = some x9 ∧ w.cell? ⟨g, 10, none⟩ = some x10 :=
  ⟨(blk_cell h 0).trans rfl, (blk_cell h 1).trans rfl, (blk_cell h 2).trans rfl, (blk_cell h 3).trans rfl, (blk_cell h 4).trans rfl, (blk_cell h 5).trans rfl, (blk_cell h 6).trans rfl, (blk_cell h 7).trans rfl, (blk_cell h 8).trans rfl, (blk_cell h 9).trans rfl, (blk_cell h 10).trans rfl⟩
end Go.Proofs.Ytblooffiggciiaa.Sh
/- PsB -/
namespace Go.Proofs.Ytblooffiggciiaa.Ps
open Go.RowKit Go.Proofs.Ytblooffiggciiaa.PPs Go.Proofs.YtblooffiggciiaaW.PrintWords Go.Proofs.YtblooffiggciiaaW.PrintLast Go.Proofs.YtblooffiggciiaaW.PrintMore Go.Proofs.Ytblooffiggciiaa.Sh
def ixF (p : S34 → Bool) : List S34 → Int → Int
  | [], _ => -1
  | x :: l, i => if p x then i else ixF p l (i + 1)
theorem ixF_drop (p : S34 → Bool) (l : List S34) : ∀ k, k ≤ l.length → (∀ j, j < k → p (l.getD j z34) = false) → ixF p l 0 = ixF p (l.drop k) k
  | 0, _, _ => by simp
  | k + 1, hk, h => by
    rw [ixF_drop p l k (by omega) (fun j hj => h j (by omega)), List.drop_eq_getElem_cons (by omega : k < l.length)]
    have h1 := h k (by omega)
    rw [List.getD_eq_getElem?_getD, List.getElem?_eq_getElem (by omega : k < l.length)] at h1
    simp only [ixF]
    rw [if_neg (by simpa using h1)]
    simp
theorem ixF_hit {p : S34 → Bool} {l : List S34} {k : Nat} (hk : k < l.length) (h : ∀ j, j < k → p (l.getD j z34) = false) (hp : p (l.getD k z34) = true) : ixF p l 0 = k := by
  rw [ixF_drop p l k (by omega) h, List.drop_eq_getElem_cons hk]
  rw [List.getD_eq_getElem?_getD, List.getElem?_eq_getElem hk] at hp
  simp only [ixF]
  rw [if_pos (by simpa using hp)]
theorem ixF_miss {p : S34 → Bool} {l : List S34} (h : ∀ j, j < l.length → p (l.getD j z34) = false) : ixF p l 0 = -1 := by
  rw [ixF_drop p l l.length (Nat.le_refl _) h, List.drop_length]; rfl
def Pred (g : Nat) (lb : Array Value) (p : S34 → Bool) (w : World) : Prop :=
  ∀ (W : World) (x : S34), Below w.heap.size w W → Calls Try.prog g (#[.agg (cs34 x).toArray] ++ lb) W fun e w' => e = .returned (.bool (p x)) ∧ Below w.heap.size w w'

set_option maxRecDepth 100000 in
set_option maxHeartbeats 1000000 in
theorem index_calls {w : World} {A : Option Addr} {c g : Nat} {lb : Array Value} {l : List S34} {p : S34 → Bool} (hC : Kd.C k34 w A l.length l) (hP : Pred g lb p w) (eg : ∀ args w, (callFunc g args).run Try.prog w = .ok (.enter g args) w) :
    Calls Try.prog 101 #[.slice A l.length c, .func (.func g) #[] lb] w fun e w' => e = .returned (.int .i64 (ixF p l 0)) ∧ Below w.heap.size w w' := by
  have HC := Aside0.mk hC
  have HP := Aside0.mk hP
  have hlb : l.length ≤ 9223372036854775807 := hC.2.1
  have HB := Aside0.mk (Below.refl w.heap.size w)
  clear hC hP
  go_enter Try.func101, Try.ntmps101
  go_wp2_with fail
  go_loopw [8] (fun i wr => ∃ j : Nat, j ≤ l.length ∧ i = .int .i64 (j : Nat) ∧ Aside0 (Below w.heap.size w wr) ∧ Aside0 (∀ k, k < j → p (l.getD k z34) = false)) (fun i _ => l.length - (intOf i).toNat)
  case atStart => exact ⟨0, Nat.zero_le _, rfl, HB, ⟨fun k hk => absurd hk (by omega)⟩⟩
  case round =>
    obtain ⟨j, hj, rfl, BW, HZ⟩ := hrel
    by_cases hlt : j < l.length
    · obtain ⟨ad, rfl, h0, h1, h2, h3, h4, h5, h6, h7, h8, h9, h10⟩ := at_T34 (Kd.C_below HC.out BW.out) (j : Int) (by omega) (by omega)
      obtain ⟨y, hy⟩ : ∃ y, y = rd_T34 l (j : Int) := ⟨_, rfl⟩
      rw [← hy] at h0 h1 h2 h3 h4 h5 h6 h7 h8 h9 h10
      have HY := Aside0.mk (show l.getD j z34 = y from by rw [hy]; unfold rd_T34; rw [Int.toNat_natCast])
      rw [Int.toNat_natCast] at h0 h1 h2 h3 h4 h5 h6 h7 h8 h9 h10
      clear hy
      have hji : (j : Int) < (l.length : Int) := by omega
      by_cases hp : p y = true
      · have HQ := Aside0.mk ((HP.out _ y BW.out).mono (fun e w' hx => (show e = .returned (.bool true) ∧ Below w.heap.size w w' from ⟨by rw [hx.1, hp], hx.2⟩)))
        have HN := Aside0.mk hp
        clear hp
        go_wp2_with (refine HQ.out.mono ?_; rintro e w' ⟨rfl, hb⟩)
        go_ret
        rw [ixF_hit hlt HZ.out (by rw [HY.out]; exact HN.out)]
        exact ⟨rfl, hb⟩
      · have HQ := Aside0.mk ((HP.out _ y BW.out).mono (fun e w' hx => (show e = .returned (.bool false) ∧ Below w.heap.size w w' from ⟨by rw [hx.1, Bool.eq_false_iff.mpr hp], hx.2⟩)))
        have HN := Aside0.mk (Bool.eq_false_iff.mpr hp)
        clear hp
        go_wp2_with (refine HQ.out.mono ?_; rintro e w' ⟨rfl, hb⟩)
        go_roundw
        case rel =>
          refine ⟨j + 1, by omega, by go_num, ⟨hb⟩, ⟨fun k hk => ?_⟩⟩
          by_cases hkj : k = j
          · rw [hkj, HY.out]; exact HN.out
          · exact HZ.out k (by omega)
        case measure => simp [intOf]; omega
    · obtain rfl : j = l.length := by omega
      go_wp2_with fail
      go_ret
      rw [ixF_miss HZ.out]
      exact ⟨rfl, BW.out⟩
set_option maxRecDepth 100000 in
set_option maxHeartbeats 2000000 in
theorem clos_raw {W : World} {X : Nat} {a : Int} (hb : W.heap[X]? = some (.cells #[.int .i64 a] 26 (0, 0))) (s d w : Int) (m : Bool) (z t c q er no se : Int) :
    Calls Try.prog 102 #[.agg #[.int .i64 s, .int .i64 d, .int .i64 w, .bool m, .int .i64 z, .int .i64 t, .int .i64 c, .int .i64 q, .int .i64 er, .int .u32 no, .int .i64 se], .pointer (some ⟨X, 0, none⟩)] W fun e w' => e = .returned (.bool (q == a)) ∧ Below W.heap.size W w' := by
  have h1 := ck1 (q3 hb (.cells #[.int .i64 s, .int .i64 d, .int .i64 w, .bool m, .int .i64 z, .int .i64 t, .int .i64 c, .int .i64 q, .int .i64 er, .int .u32 no, .int .i64 se] 34))
  have HB := Aside0.mk (b1 (Below.refl W.heap.size W) (.cells #[.int .i64 s, .int .i64 d, .int .i64 w, .bool m, .int .i64 z, .int .i64 t, .int .i64 c, .int .i64 q, .int .i64 er, .int .u32 no, .int .i64 se] 34))
  have h2 := ck11 (blk_new W (.cells #[.int .i64 s, .int .i64 d, .int .i64 w, .bool m, .int .i64 z, .int .i64 t, .int .i64 c, .int .i64 q, .int .i64 er, .int .u32 no, .int .i64 se] 34))
  clear hb
  go_enter Try.func102, Try.ntmps102
  go_wp2_with fail
  go_ret
  exact ⟨rfl, HB.out⟩
theorem clos_calls {W : World} {X : Nat} {a : Int} (hb : W.heap[X]? = some (.cells #[.int .i64 a] 26 (0, 0))) (x : S34) :
    Calls Try.prog 102 #[.agg (cs34 x).toArray, .pointer (some ⟨X, 0, none⟩)] W fun e w' => e = .returned (.bool (x.f2 == a)) ∧ Below W.heap.size W w' :=
  clos_raw hb _ _ _ _ _ _ _ _ _ _ _
def plc (l : List S34) (a : Int) : Int := ixF (fun x => x.f2 == a) l 0
theorem pred_of {w : World} {X : Nat} {a : Int} (hb : w.heap[X]? = some (.cells #[.int .i64 a] 26 (0, 0))) : Pred 102 #[.pointer (some ⟨X, 0, none⟩)] (fun x => x.f2 == a) w :=
  fun W x hB => (clos_calls (blk_below hb hB) x).mono fun e w' ⟨h1, h2⟩ => ⟨h1, below_step hB h2⟩
set_option maxRecDepth 100000 in
theorem place_calls {w : World} {A : Option Addr} {c : Nat} {l : List S34} (hC : Kd.C k34 w A l.length l) (p a : Int) :
    Calls Try.prog 93 #[.agg #[.slice A l.length c, .int .i64 p], .int .i64 a] w fun e w' => e = .returned (.int .i64 (plc l a)) ∧ Below w.heap.size w w' := by
  have B1 := b1 (Below.refl w.heap.size w) (.cells #[.slice A l.length c, .int .i64 p] 70)
  have B2 := Aside0.mk (b1 B1 (.cells #[.int .i64 a] 26))
  have hX := blk_new (w.alloc (.cells #[.slice A l.length c, .int .i64 p] 70)) (.cells #[.int .i64 a] 26)
  rw [show (w.alloc (.cells #[.slice A l.length c, .int .i64 p] 70)).heap.size = w.heap.size + 1 from Array.size_push ..] at hX
  have h1 := ck2 (q3 (blk_new w (.cells #[.slice A l.length c, .int .i64 p] 70)) (.cells #[.int .i64 a] 26))
  have HS := Aside0.mk (index_calls (c := c) (Kd.C_alloc (Kd.C_alloc hC _) _) (pred_of hX) (fun _ _ => rfl))
  clear hC hX B1
  go_enter Try.func93, Try.ntmps93
  go_wp2_with fail
  refine HS.out.mono ?_
  rintro e w' ⟨rfl, hb⟩
  have HB := Aside0.mk (below_step B2.out hb)
  clear hb
  go_wp2_with fail
  go_ret
  exact ⟨rfl, HB.out⟩
end Go.Proofs.Ytblooffiggciiaa.Ps
/- PsC -/
namespace Go.Proofs.Ytblooffiggciiaa.Ps
open Go.RowKit Go.Proofs.Ytblooffiggciiaa.PPs Go.Proofs.YtblooffiggciiaaW.PrintWords Go.Proofs.YtblooffiggciiaaW.PrintLast Go.Proofs.YtblooffiggciiaaW.PrintMore Go.Proofs.Ytblooffiggciiaa.Sh
theorem sz1 (w : World) (o : Obj) : (w.alloc o).heap.size = w.heap.size + 1 := Array.size_push ..
def tw (l : List S34) : Bool := (List.range l.length).any fun i => plc l (l.getD i z34).f2 != (i : Int)
theorem tw_yes {l : List S34} {j : Nat} (hj : j < l.length) (h : plc l (l.getD j z34).f2 ≠ j) : tw l = true := by
  unfold tw
  rw [List.any_eq_true]
  exact ⟨j, List.mem_range.mpr hj, by simpa using h⟩
theorem tw_no {l : List S34} (h : ∀ j, j < l.length → plc l (l.getD j z34).f2 = j) : tw l = false := by
  unfold tw
  rw [List.any_eq_false]
  intro j hj
  rw [h j (List.mem_range.mp hj)]
  simp
set_option maxRecDepth 100000 in
set_option maxHeartbeats 2000000 in
theorem twice_calls {w : World} {A : Option Addr} {c : Nat} {l : List S34} (hC : Kd.C k34 w A l.length l) (p : Int) :
    Calls Try.prog 85 #[.agg #[.slice A l.length c, .int .i64 p]] w fun e w' => e = .returned (.bool (tw l)) ∧ Below w.heap.size w w' := by
  have HB0 := Aside0.mk (b1 (Below.refl w.heap.size w) (.cells #[.slice A l.length c, .int .i64 p] 70))
  have hX := blk_new w (.cells #[.slice A l.length c, .int .i64 p] 70)
  have h1 := ck2 hX
  have HX := Aside0.mk hX
  have hlb : l.length ≤ 9223372036854775807 := hC.2.1
  have HC := Aside0.mk hC
  clear hX hC
  go_enter Try.func85, Try.ntmps85
  go_wp2_with fail
  obtain ⟨g, hg⟩ : ∃ g, g = w.heap.size := ⟨_, rfl⟩
  rw [← hg] at HX
  rw [← hg]
  have HG := Aside0.mk hg
  clear h1 hg
  go_loopw [8] (fun i wr => ∃ j : Nat, j ≤ l.length ∧ i = .int .i64 (j : Nat) ∧ Aside0 (Below w.heap.size w wr) ∧ Aside0 (wr.heap[g]? = some (.cells #[.slice A l.length c, .int .i64 p] 70 (0, 0))) ∧ Aside0 (∀ k, k < j → plc l (l.getD k z34).f2 = k)) (fun i _ => l.length - (intOf i).toNat)
  case atStart => exact ⟨0, Nat.zero_le _, rfl, HB0, HX, ⟨fun k hk => absurd hk (by omega)⟩⟩
  case round =>
    obtain ⟨j, hj, rfl, BW, BX, HZ⟩ := hrel
    by_cases hlt : j < l.length
    · obtain ⟨ad, rfl, h0, h1, h2, h3, h4, h5, h6, h7, h8, h9, h10⟩ := at_T34 (Kd.C_below HC.out BW.out) (j : Int) (by omega) (by omega)
      obtain ⟨y, hy⟩ : ∃ y, y = rd_T34 l (j : Int) := ⟨_, rfl⟩
      rw [← hy] at h0 h1 h2 h3 h4 h5 h6 h7 h8 h9 h10
      have HY := Aside0.mk (show l.getD j z34 = y from by rw [hy]; unfold rd_T34; rw [Int.toNat_natCast])
      rw [Int.toNat_natCast] at h0 h1 h2 h3 h4 h5 h6 h7 h8 h9 h10
      clear hy
      have hji : (j : Int) < (l.length : Int) := by omega
      obtain ⟨o, ho⟩ : ∃ o, o = Obj.cells #[.int .i64 y.f0.f0, .int .i64 y.f0.f1, .int .i64 y.f0.f2, .bool y.f0.f3, .int .i64 y.f1.f0, .int .i64 y.f1.f1, .int .i64 y.f1.f2, .int .i64 y.f2, .int .i64 y.f3, .int .u32 y.f4, .int .i64 y.f5] 34 (0, 0) := ⟨_, rfl⟩
      have hx := ck2 (q3 BX.out o)
      have HL := Aside0.mk (place_calls (c := c) (Kd.C_alloc (Kd.C_below HC.out BW.out) o) p y.f2)
      have HX2 := Aside0.mk (q3 BX.out o)
      have HB2 := Aside0.mk (b1 BW.out o)
      have hy2 : (wr.alloc o).cell? ⟨wr.heap.size, 7, none⟩ = some (.int .i64 y.f2) := by rw [ho]; exact (ck11 (blk_new wr _)).2.2.2.2.2.2.2.1
      have HO := Aside0.mk ho
      rw [ho] at hx hy2
      clear ho
      by_cases hp : plc l y.f2 = j
      · have HP := Aside0.mk hp
        clear hp
        go_wp2_with fail
        rw [← HO.out]
        refine HL.out.mono ?_
        rintro e w' ⟨rfl, hb⟩
        rw [HP.out]
        have HB3 := Aside0.mk (below_step HB2.out hb)
        have HX3 := Aside0.mk (blk_below HX2.out hb)
        clear hb
        go_wp2_with fail
        go_roundw
        case rel =>
          refine ⟨j + 1, by omega, by go_num, HB3, HX3, ⟨fun k hk => ?_⟩⟩
          by_cases hkj : k = j
          · rw [hkj, HY.out]; exact HP.out
          · exact HZ.out k (by omega)
        case measure => simp [intOf]; omega
      · have HP := Aside0.mk hp
        obtain ⟨q, hq⟩ : ∃ q, q = plc l y.f2 := ⟨_, rfl⟩
        rw [← hq] at hp
        have HQ := Aside0.mk hq
        clear hq
        go_wp2_with fail
        rw [← HO.out]
        refine HL.out.mono ?_
        rintro e w' ⟨rfl, hb⟩
        rw [← HQ.out]
        have HB3 := Aside0.mk (below_step HB2.out hb)
        clear hb
        go_wp2_with fail
        go_ret
        rw [tw_yes hlt (by rw [HY.out]; exact HP.out)]
        exact ⟨rfl, HB3.out⟩
    · obtain rfl : j = l.length := by omega
      go_wp2_with fail
      go_ret
      rw [tw_no HZ.out]
      exact ⟨rfl, BW.out⟩
set_option maxRecDepth 100000 in
set_option maxHeartbeats 2000000 in
theorem bad_raw (W : World) (x : S34) :
    Calls Try.prog 92 #[.agg #[.int .i64 x.f0.f0, .int .i64 x.f0.f1, .int .i64 x.f0.f2, .bool x.f0.f3, .int .i64 x.f1.f0, .int .i64 x.f1.f1, .int .i64 x.f1.f2, .int .i64 x.f2, .int .i64 x.f3, .int .u32 x.f4, .int .i64 x.f5]] W fun e w' => e = .returned (.bool (!decide (G x))) ∧ Below W.heap.size W w' := by
  obtain ⟨o, ho⟩ : ∃ o, o = Obj.cells #[.int .i64 x.f0.f0, .int .i64 x.f0.f1, .int .i64 x.f0.f2, .bool x.f0.f3, .int .i64 x.f1.f0, .int .i64 x.f1.f1, .int .i64 x.f1.f2, .int .i64 x.f2, .int .i64 x.f3, .int .u32 x.f4, .int .i64 x.f5] 34 (0, 0) := ⟨_, rfl⟩
  have HB := Aside0.mk (b1 (Below.refl W.heap.size W) o)
  have h2 := ck11 (blk_new W (.cells #[.int .i64 x.f0.f0, .int .i64 x.f0.f1, .int .i64 x.f0.f2, .bool x.f0.f3, .int .i64 x.f1.f0, .int .i64 x.f1.f1, .int .i64 x.f1.f2, .int .i64 x.f2, .int .i64 x.f3, .int .u32 x.f4, .int .i64 x.f5] 34))
  have HG := Aside0.mk (good_calls x (W.alloc o))
  have HO := Aside0.mk ho
  clear ho
  go_enter Try.func92, Try.ntmps92
  go_wp2_with fail
  rw [← HO.out]
  refine HG.out.mono ?_
  rintro e w' ⟨rfl, hb⟩
  have HB2 := Aside0.mk (below_step HB.out hb)
  clear hb
  go_wp2_with fail
  go_ret
  exact ⟨rfl, HB2.out⟩
theorem pred_bad (w : World) : Pred 92 #[] (fun x => !decide (G x)) w :=
  fun W x hB => (bad_raw W x).mono fun e w' ⟨h1, h2⟩ => ⟨h1, below_step hB h2⟩
theorem ixF_nn (p : S34 → Bool) : ∀ (l : List S34) (i : Int), 0 ≤ i → (0 ≤ ixF p l i ↔ l.any p = true)
  | [], _, _ => by simp [ixF]
  | x :: l, i, h => by
    have ih := ixF_nn p l (i + 1) (by omega)
    show 0 ≤ (if p x = true then i else ixF p l (i + 1)) ↔ _
    by_cases hp : p x = true
    · rw [if_pos hp]; simp [hp, h]
    · rw [if_neg hp, ih]; simp [hp]
theorem ixF_any (p : S34 → Bool) (l : List S34) (i : Int) (h : 0 ≤ i) : decide (0 ≤ ixF p l i) = l.any p := by
  rw [Bool.eq_iff_iff, decide_eq_true_iff]; exact ixF_nn p l i h
set_option maxRecDepth 100000 in
set_option maxHeartbeats 2000000 in
theorem contains_calls {w : World} {A : Option Addr} {c : Nat} {l : List S34} (hC : Kd.C k34 w A l.length l) :
    Calls Try.prog 91 #[.slice A l.length c, .func (.func 92) #[] #[]] w fun e w' => e = .returned (.bool (l.any fun x => !decide (G x))) ∧ Below w.heap.size w w' := by
  have HS := Aside0.mk (index_calls (c := c) hC (pred_bad w) (fun _ _ => rfl))
  obtain ⟨b, hb⟩ : ∃ b, b = (l.any fun x => !decide (G x)) := ⟨_, rfl⟩
  obtain ⟨q, hq⟩ : ∃ q, q = ixF (fun x => !decide (G x)) l 0 := ⟨_, rfl⟩
  rw [← hq] at HS
  rw [← hb]
  rw [← ixF_any _ l 0 (by omega), ← hq] at hb
  have HE := Aside0.mk hb
  clear hb hC hq
  go_enter Try.func91, Try.ntmps91
  go_wp2_with fail
  refine HS.out.mono ?_
  rintro e w' ⟨rfl, hb⟩
  have HB2 := Aside0.mk hb
  clear hb
  go_wp2_with fail
  go_ret
  rw [HE.out]
  exact ⟨rfl, HB2.out⟩
def gdb (l : List S34) (p : Int) : Bool := decide (l.length ≤ 4 ∧ 0 ≤ p ∧ p < l.length) && !tw l && !l.any fun x => !decide (G x)
set_option maxRecDepth 100000 in
set_option maxHeartbeats 2000000 in
theorem setgood_calls {w : World} {A : Option Addr} {c : Nat} {l : List S34} (hC : Kd.C k34 w A l.length l) (p : Int) :
    Calls Try.prog 52 #[.agg #[.slice A l.length c, .int .i64 p]] w fun e w' => e = .returned (.bool (gdb l p)) ∧ Below w.heap.size w w' := by
  obtain ⟨o, ho⟩ : ∃ o, o = Obj.cells #[.slice A l.length c, .int .i64 p] 70 (0, 0) := ⟨_, rfl⟩
  have HB0 := Aside0.mk (b1 (Below.refl w.heap.size w) o)
  have hX := blk_new w o
  have hC1 := Kd.C_alloc hC o
  have HT := Aside0.mk (twice_calls (c := c) hC1 p)
  rw [ho] at hX
  have h1 := ck2 hX
  have HX := Aside0.mk hX
  have HC := Aside0.mk hC1
  rw [ho] at HT HC
  have hlb : l.length ≤ 9223372036854775807 := hC.2.1
  clear hX hC hC1
  unfold gdb
  by_cases c1 : l.length ≤ 4
  · by_cases c2 : 0 ≤ p
    · by_cases c3 : p < l.length
      · have hd : decide (l.length ≤ 4 ∧ 0 ≤ p ∧ p < l.length) = true := decide_eq_true ⟨c1, c2, c3⟩
        rw [hd]
        clear hd
        rw [ho] at HB0
        clear ho
        cases ht : tw l with
        | true =>
          rw [ht] at HT
          clear ht
          go_enter Try.func52, Try.ntmps52
          go_wp2_with fail
          refine HT.out.mono ?_
          rintro e w' ⟨rfl, hb⟩
          have HB3 := Aside0.mk (below_step HB0.out hb)
          clear hb
          go_wp2_with fail
          go_ret
          exact ⟨rfl, HB3.out⟩
        | false =>
          rw [ht] at HT
          clear ht
          go_enter Try.func52, Try.ntmps52
          go_wp2_with fail
          refine HT.out.mono ?_
          rintro e w' ⟨rfl, hb⟩
          have HB3 := Aside0.mk (below_step HB0.out hb)
          have HX3 := Aside0.mk (blk_below HX.out hb)
          have HS := Aside0.mk (contains_calls (c := c) (Kd.C_below HC.out hb))
          have h2 := ck2 HX3.out
          clear hb h1
          go_wp2_with fail
          refine HS.out.mono ?_
          rintro e w' ⟨rfl, hb⟩
          have HB4 := Aside0.mk (below_step HB3.out hb)
          clear hb
          go_wp2_with fail
          go_ret
          exact ⟨rfl, HB4.out⟩
      · rw [show decide (l.length ≤ 4 ∧ 0 ≤ p ∧ p < l.length) = false from decide_eq_false (fun h => c3 h.2.2)]
        rw [ho] at HB0
        clear ho
        go_enter Try.func52, Try.ntmps52
        go_wp2_with fail
        go_ret
        exact ⟨rfl, HB0.out⟩
    · rw [show decide (l.length ≤ 4 ∧ 0 ≤ p ∧ p < l.length) = false from decide_eq_false (fun h => c2 h.2.1)]
      rw [ho] at HB0
      clear ho
      go_enter Try.func52, Try.ntmps52
      go_wp2_with fail
      go_ret
      exact ⟨rfl, HB0.out⟩
  · rw [show decide (l.length ≤ 4 ∧ 0 ≤ p ∧ p < l.length) = false from decide_eq_false (fun h => c1 h.1)]
    rw [ho] at HB0
    clear ho
    go_enter Try.func52, Try.ntmps52
    go_wp2_with fail
    go_ret
    exact ⟨rfl, HB0.out⟩
end Go.Proofs.Ytblooffiggciiaa.Ps
/- PsD -/
namespace Go.Proofs.Ytblooffiggciiaa.Ps
open Go.RowKit Go.Proofs.Ytblooffiggciiaa.PPs Go.Proofs.YtblooffiggciiaaW.PrintWords Go.Proofs.YtblooffiggciiaaW.PrintLast Go.Proofs.YtblooffiggciiaaW.PrintMore Go.Proofs.Ytblooffiggciiaa.Sh
def fnd (l : List S34) (p a : Int) : Int × Option Int := if gdb l p = true then (if plc l a < 0 then (0, some 4) else (plc l a, none)) else (0, some 1)
set_option maxRecDepth 100000 in
set_option maxHeartbeats 2000000 in
theorem find_calls {w : World} {A : Option Addr} {c : Nat} {l : List S34} (hC : Kd.C k34 w A l.length l) (p a : Int) :
    Calls Try.prog 81 #[.agg #[.slice A l.length c, .int .i64 p], .int .i64 a] w fun e w' => e = .returned (.tuple #[.int .i64 (fnd l p a).1, errW (fnd l p a).2]) ∧ Below w.heap.size w w' := by
  have HB0 := Aside0.mk (b1 (Below.refl w.heap.size w) (.cells #[.slice A l.length c, .int .i64 p] 70))
  have hX := blk_new w (.cells #[.slice A l.length c, .int .i64 p] 70)
  have hC1 := Kd.C_alloc hC (.cells #[.slice A l.length c, .int .i64 p] 70)
  have HT := Aside0.mk (setgood_calls (c := c) hC1 p)
  have h1 := ck2 hX
  have HX := Aside0.mk hX
  have HC := Aside0.mk hC1
  clear hX hC hC1
  unfold fnd
  cases hg : gdb l p with
  | false =>
    rw [hg] at HT
    rw [if_neg (by simp)]
    clear hg
    go_enter Try.func81, Try.ntmps81
    go_wp2_with fail
    refine HT.out.mono ?_
    rintro e w' ⟨rfl, hb⟩
    have HB3 := Aside0.mk (below_step HB0.out hb)
    clear hb
    go_wp2_with fail
    go_ret2
    exact ⟨rfl, HB3.out⟩
  | true =>
    rw [hg] at HT
    rw [if_pos rfl]
    clear hg
    obtain ⟨q, hq⟩ : ∃ q, q = plc l a := ⟨_, rfl⟩
    rw [← hq]
    have HQ := Aside0.mk hq
    clear hq
    by_cases hlt : q < 0
    · rw [if_pos hlt]
      go_enter Try.func81, Try.ntmps81
      go_wp2_with fail
      refine HT.out.mono ?_
      rintro e w' ⟨rfl, hb⟩
      have HB3 := Aside0.mk (below_step HB0.out hb)
      have HX3 := Aside0.mk (blk_below HX.out hb)
      have HS := Aside0.mk (place_calls (c := c) (Kd.C_below HC.out hb) p a)
      have h2 := ck2 HX3.out
      clear hb h1
      go_wp2_with fail
      refine HS.out.mono ?_
      rw [← HQ.out]
      rintro e w' ⟨rfl, hb⟩
      have HB4 := Aside0.mk (below_step HB3.out hb)
      clear hb
      go_wp2_with fail
      go_ret2
      exact ⟨rfl, HB4.out⟩
    · rw [if_neg hlt]
      go_enter Try.func81, Try.ntmps81
      go_wp2_with fail
      refine HT.out.mono ?_
      rintro e w' ⟨rfl, hb⟩
      have HB3 := Aside0.mk (below_step HB0.out hb)
      have HX3 := Aside0.mk (blk_below HX.out hb)
      have HS := Aside0.mk (place_calls (c := c) (Kd.C_below HC.out hb) p a)
      have h2 := ck2 HX3.out
      clear hb h1
      go_wp2_with fail
      refine HS.out.mono ?_
      rw [← HQ.out]
      rintro e w' ⟨rfl, hb⟩
      have HB4 := Aside0.mk (below_step HB3.out hb)
      clear hb
      go_wp2_with fail
      go_ret2
      exact ⟨rfl, HB4.out⟩
end Go.Proofs.Ytblooffiggciiaa.Ps
/- PsE -/
namespace Go.Proofs.Ytblooffiggciiaa.Ps
open Go.RowKit Go.Proofs.Ytblooffiggciiaa.PPs Go.Proofs.YtblooffiggciiaaW.PrintWords Go.Proofs.YtblooffiggciiaaW.PrintLast Go.Proofs.YtblooffiggciiaaW.PrintMore Go.Proofs.Ytblooffiggciiaa.Sh
theorem info34 : (Try.prog.info? 34).map (fun i => (i.zero, i.size, i.bytes)) = some (some (.agg (cs34 z34).toArray), 11, 88) := by kernel_rfl
set_option maxRecDepth 100000 in
theorem clone_calls (w : World) (A : Option Addr) (c : Nat) (l : List S34) (hc : l.length ≤ c) (hC : Kd.C k34 w A l.length l) (hl : l.length ≤ 1048576) :
    Calls Try.prog 90 #[.slice A l.length c] w fun e w' => ∃ A c, e = .returned (.slice A l.length c) ∧ Kd.R k34 34 w' w.heap.size (fun _ => True) (.slice A l.length c) l ∧ Below w.heap.size w w' := by
  cases A with
  | none =>
    have hl : l = [] := by
      rcases Nat.eq_zero_or_pos l.length with h | h
      · exact List.length_eq_zero_iff.1 h
      · obtain ⟨ad, he, _⟩ := hC.2.2 h
        cases he
    subst hl
    have hnil := fun W : World => Lib.run_eql_slice_nil (P := Try.prog) W 68 34 none ([] : List S34).length c 0 0 Try.underlying68
    simp only [Option.isNone_none, List.length_nil] at hnil
    clear hC
    go_enter Try.func90, Try.ntmps90
    go_wp2_with fail
    go_ret
    exact ⟨none, 0, rfl, Kd.R_nil _ _ _ _ _, Below.refl _ _⟩
  | some ad =>
    have HC := Aside0.mk hC
    have HB0 := Aside0.mk (Below.refl w.heap.size w)
    have HL := Aside0.mk (show (([] : List S34).length + l.length) * 88 ≤ 140737488355328 by simp; omega)
    have hnil := fun W : World => Lib.run_eql_slice_nil (P := Try.prog) W 68 34 (some ad) l.length c 0 0 Try.underlying68
    simp only [Option.isNone_some] at hnil
    clear hC
    go_enter Try.func90, Try.ntmps90
    go_wp2_with (first | ((with_reducible refine gate_dst (N := 5) rfl ?_); refine Kd.R_lit k34 (w0 := w) w.heap.size 34 ?hg (N := 5) ?hd (xs := ([] : List S34)) (inner := []) (ok := fun _ => True) (okp := fun _ => True) ?hr ?hp (fun _ hk => hk) trivial HB0.out HB0.out.size (by simp) ?_; (case hd => rfl); (case hg => rfl); (case hr => first | (go_simp; done) | (go_simp; rfl)); (case hp => exact (Reps.none _ _)); intro v1 w2 ho hb hg hn; have HO2 := Aside0.mk ho; have HB2 := Aside0.mk hb; clear ho hb hg hn; obtain ⟨A2, c2, rfl⟩ := Kd.R_slice HO2.out) | (at_builtin; refine Kd.R_append_rows k34 (w0 := w) w.heap.size rfl (.tmp 5) (.tmp 6) 68 34 (.agg (cs34 z34).toArray) 88 rfl Try.underlying68 info34 rfl (by decide) (by omega) (.slice A2 ([] : List S34).length c2) [] l _ _ _ (fun _ => True) (fun _ => False) rfl rfl ?aO ?aR (fun _ _ h => h) (fun _ h => h.elim) (fun _ _ => trivial) ?aB ?aS ?aL ?_; (case aO => exact HO2.out); (case aR => exact Kd.C_below HC.out HB2.out); (case aB => exact HB2.out); (case aS => exact HB2.out.size); (case aL => exact HL.out); intro v2 w3 ho hb hg hn; rw [List.nil_append] at ho; have HO3 := Aside0.mk ho; have HB3 := Aside0.mk hb; clear ho hb hg hn; obtain ⟨A3, c3, rfl⟩ := Kd.R_slice HO3.out))
    go_ret
    exact ⟨_, _, rfl, HO3.out, HB3.out⟩
end Go.Proofs.Ytblooffiggciiaa.Ps
/- PsF -/
namespace Go.Proofs.Ytblooffiggciiaa.Ps
open Go.RowKit Go.Proofs.Ytblooffiggciiaa.PPs Go.Proofs.YtblooffiggciiaaW.PrintWords Go.Proofs.YtblooffiggciiaaW.PrintLast Go.Proofs.YtblooffiggciiaaW.PrintMore Go.Proofs.Ytblooffiggciiaa.Sh
attribute [local go_sem] Go.Proofs.Ytblooffiggciiaa.Aid.isSome_setCell
set_option maxHeartbeats 8000000 in
set_option maxRecDepth 100000 in
theorem with_raw (A0_0 : Option Addr) (c0_0 : Nat) (l0_0 : List (S34)) (a0_1 : Int) (a1 : Int) (a2_0 : Int) (a2_1 : Int) (a2_2 : Int) (a2_3 : Bool) (a2_4 : Int) (a2_5 : Int) (a2_6 : Int) (a2_7 : Int) (a2_8 : Int) (a2_9 : Int) (a2_10 : Int) (w : World) (hr0_0 : Kd.C k34 w A0_0 l0_0.length l0_0) (hc0_0 : l0_0.length ≤ c0_0) (hL : l0_0.length ≤ 1048576) (h0 : 0 ≤ a1) (h1 : a1 < (l0_0.length : Int)) :
    Calls Try.prog 82 #[.agg #[.slice A0_0 l0_0.length c0_0, .int .i64 a0_1], .int .i64 a1, .agg #[.int .i64 a2_0, .int .i64 a2_1, .int .i64 a2_2, .bool a2_3, .int .i64 a2_4, .int .i64 a2_5, .int .i64 a2_6, .int .i64 a2_7, .int .i64 a2_8, .int .u32 a2_9, .int .i64 a2_10]] w fun e w' => ∃ v0_ : Value, e = .returned (.agg #[v0_, .int .i64 a0_1]) ∧ Kd.R k34 34 w' w.heap.size (fun _ => True) v0_ (l0_0.set (a1 : Int).toNat (⟨(⟨a2_0, a2_1, a2_2, a2_3⟩ : S31), (⟨a2_4, a2_5, a2_6⟩ : S32), a2_7, a2_8, a2_9, a2_10⟩ : S34)) ∧ Below w.heap.size w w' := by
  have hu66 := Try.underlying70
  have hu29 := Try.underlying34
  have HR0_0 := Aside0.mk hr0_0
  have HC0_0 := Aside0.mk hc0_0
  have HL := Aside0.mk hL
  clear hr0_0 hc0_0 hL
  have HB := Aside0.mk (Below.refl w.heap.size w)
  have c5b0 : decide (0 ≤ a1) = true := decide_eq_true h0
  have c6b0 : decide (a1 < (l0_0.length : Int)) = true := decide_eq_true h1
  clear h0 h1
  obtain ⟨y262, hy262⟩ : ∃ y_ : List (S34), y_ = (l0_0.set (a1 : Int).toNat (⟨(⟨a2_0, a2_1, a2_2, a2_3⟩ : S31), (⟨a2_4, a2_5, a2_6⟩ : S32), a2_7, a2_8, a2_9, a2_10⟩ : S34)) := ⟨_, rfl⟩
  rw [← hy262]
  have Ny262 := Aside0.mk hy262
  clear hy262
  go_enter Try.func82, Try.ntmps82
  go_wp2_with (first | ((with_reducible refine gate_dst (N := 3) rfl ?_); refine box_event ?hg (N := 3) ?hd (cs := #[.slice A0_0 l0_0.length c0_0, .int .i64 a0_1]) (t := 70) ?hr ?_; (case hd => rfl); (case hg => rfl); (case hr => first | (go_simp; done) | (go_simp; rfl)); intro gb253 hg w8 hbox hb; have n0_ := Aside0.mk (below_step (by repeat (first | (with_reducible first | exact HB.out | apply below_alloc | apply pw_below_drewN | apply below_drew1) | exact HB.out)) hb); have n1_ := Aside0.mk (hbox); have n2_ := Aside0.mk ((by rw [hg]; exact (below_size (by repeat (first | (with_reducible first | exact HB.out | apply below_alloc | apply pw_below_drewN | apply below_drew1) | exact HB.out))) : w.heap.size ≤ gb253)); have n3_ := Aside0.mk ((by rw [hg]; exact (below_size (by repeat (first | (with_reducible first | exact HB.out | apply below_alloc | apply pw_below_drewN | apply below_drew1) | exact HB.out))) : w.heap.size ≤ gb253)); clear HB; have HB := n0_; have BK253 := n1_; have GW253 := n2_; have GE253 := n3_; clear n0_ n1_ n2_ n3_; clear hb hbox hg) | ((with_reducible refine gate_dst (N := 5) rfl ?_); refine box_event ?hg (N := 5) ?hd (cs := #[.int .i64 a2_0, .int .i64 a2_1, .int .i64 a2_2, .bool a2_3, .int .i64 a2_4, .int .i64 a2_5, .int .i64 a2_6, .int .i64 a2_7, .int .i64 a2_8, .int .u32 a2_9, .int .i64 a2_10]) (t := 34) ?hr ?_; (case hd => rfl); (case hg => rfl); (case hr => first | (go_simp; done) | (go_simp; rfl)); intro gb254 hg w9 hbox hb; have n0_ := Aside0.mk (blk_below (g := gb253) (o := .cells #[.slice A0_0 l0_0.length c0_0, .int .i64 a0_1] 70 (0, 0)) (by (with_reducible repeat (first | refine blk_drewN ?_ _ | refine blk_drew ?_ | refine blk_alloc ?_ _)); exact BK253.out) hb); have n1_ := Aside0.mk (below_step (by repeat (first | (with_reducible first | exact HB.out | apply below_alloc | apply pw_below_drewN | apply below_drew1 | refine below_set ?_ GE253.out) | exact HB.out)) hb); have n2_ := Aside0.mk (hbox); have n3_ := Aside0.mk ((by rw [hg]; exact (below_size (by repeat (first | (with_reducible first | exact HB.out | apply below_alloc | apply pw_below_drewN | apply below_drew1 | refine below_set ?_ GE253.out) | exact HB.out))) : w.heap.size ≤ gb254)); have n4_ := Aside0.mk ((by rw [hg]; exact (below_size (by repeat (first | (with_reducible first | exact HB.out | apply below_alloc | apply pw_below_drewN | apply below_drew1 | refine below_set ?_ GE253.out) | exact HB.out))) : w.heap.size ≤ gb254)); have n5_ := Aside0.mk ((by rw [hg]; exact Nat.ne_of_lt (blk_lt (g := gb253) (o := .cells #[.slice A0_0 l0_0.length c0_0, .int .i64 a0_1] 70 (0, 0)) (by (with_reducible repeat (first | refine blk_drewN ?_ _ | refine blk_drew ?_ | refine blk_alloc ?_ _)); exact BK253.out)) : gb253 ≠ gb254)); have n6_ := Aside0.mk ((by rw [hg]; exact Nat.ne_of_gt (blk_lt (g := gb253) (o := .cells #[.slice A0_0 l0_0.length c0_0, .int .i64 a0_1] 70 (0, 0)) (by (with_reducible repeat (first | refine blk_drewN ?_ _ | refine blk_drew ?_ | refine blk_alloc ?_ _)); exact BK253.out)) : gb254 ≠ gb253)); clear BK253; clear HB; have BK253 := n0_; have HB := n1_; have BK254 := n2_; have GW254 := n3_; have GE254 := n4_; have NB253_254 := n5_; have NB254_253 := n6_; clear n0_ n1_ n2_ n3_ n4_ n5_ n6_; clear hb hbox hg) | ((with_reducible refine gate_dst (N := 6) rfl ?_); refine box_event ?hg (N := 6) ?hd (cs := #[.slice none 0 0, .int .i64 0]) (t := 70) ?hr ?_; (case hd => rfl); (case hg => rfl); (case hr => first | (go_simp; done) | (go_simp; rfl)); intro gb255 hg w10 hbox hb; have n0_ := Aside0.mk (blk_below (g := gb253) (o := .cells #[.slice A0_0 l0_0.length c0_0, .int .i64 a0_1] 70 (0, 0)) (by (with_reducible repeat (first | refine blk_drewN ?_ _ | refine blk_drew ?_ | refine blk_alloc ?_ _)); exact BK253.out) hb); have n1_ := Aside0.mk (blk_below (g := gb254) (o := .cells #[.int .i64 a2_0, .int .i64 a2_1, .int .i64 a2_2, .bool a2_3, .int .i64 a2_4, .int .i64 a2_5, .int .i64 a2_6, .int .i64 a2_7, .int .i64 a2_8, .int .u32 a2_9, .int .i64 a2_10] 34 (0, 0)) (by (with_reducible repeat (first | refine blk_drewN ?_ _ | refine blk_drew ?_ | refine blk_alloc ?_ _)); exact BK254.out) hb); have n2_ := Aside0.mk (below_step (by repeat (first | (with_reducible first | exact HB.out | apply below_alloc | apply pw_below_drewN | apply below_drew1 | refine below_set ?_ GE253.out | refine below_set ?_ GE254.out) | exact HB.out)) hb); have n3_ := Aside0.mk (hbox); have n4_ := Aside0.mk ((by rw [hg]; exact (below_size (by repeat (first | (with_reducible first | exact HB.out | apply below_alloc | apply pw_below_drewN | apply below_drew1 | refine below_set ?_ GE253.out | refine below_set ?_ GE254.out) | exact HB.out))) : w.heap.size ≤ gb255)); have n5_ := Aside0.mk ((by rw [hg]; exact (below_size (by repeat (first | (with_reducible first | exact HB.out | apply below_alloc | apply pw_below_drewN | apply below_drew1 | refine below_set ?_ GE253.out | refine below_set ?_ GE254.out) | exact HB.out))) : w.heap.size ≤ gb255)); have n6_ := Aside0.mk ((by rw [hg]; exact Nat.ne_of_lt (blk_lt (g := gb253) (o := .cells #[.slice A0_0 l0_0.length c0_0, .int .i64 a0_1] 70 (0, 0)) (by (with_reducible repeat (first | refine blk_drewN ?_ _ | refine blk_drew ?_ | refine blk_alloc ?_ _)); exact BK253.out)) : gb253 ≠ gb255)); have n7_ := Aside0.mk ((by rw [hg]; exact Nat.ne_of_gt (blk_lt (g := gb253) (o := .cells #[.slice A0_0 l0_0.length c0_0, .int .i64 a0_1] 70 (0, 0)) (by (with_reducible repeat (first | refine blk_drewN ?_ _ | refine blk_drew ?_ | refine blk_alloc ?_ _)); exact BK253.out)) : gb255 ≠ gb253)); have n8_ := Aside0.mk ((by rw [hg]; exact Nat.ne_of_lt (blk_lt (g := gb254) (o := .cells #[.int .i64 a2_0, .int .i64 a2_1, .int .i64 a2_2, .bool a2_3, .int .i64 a2_4, .int .i64 a2_5, .int .i64 a2_6, .int .i64 a2_7, .int .i64 a2_8, .int .u32 a2_9, .int .i64 a2_10] 34 (0, 0)) (by (with_reducible repeat (first | refine blk_drewN ?_ _ | refine blk_drew ?_ | refine blk_alloc ?_ _)); exact BK254.out)) : gb254 ≠ gb255)); have n9_ := Aside0.mk ((by rw [hg]; exact Nat.ne_of_gt (blk_lt (g := gb254) (o := .cells #[.int .i64 a2_0, .int .i64 a2_1, .int .i64 a2_2, .bool a2_3, .int .i64 a2_4, .int .i64 a2_5, .int .i64 a2_6, .int .i64 a2_7, .int .i64 a2_8, .int .u32 a2_9, .int .i64 a2_10] 34 (0, 0)) (by (with_reducible repeat (first | refine blk_drewN ?_ _ | refine blk_drew ?_ | refine blk_alloc ?_ _)); exact BK254.out)) : gb255 ≠ gb254)); clear BK253; clear BK254; clear HB; have BK253 := n0_; have BK254 := n1_; have HB := n2_; have BK255 := n3_; have GW255 := n4_; have GE255 := n5_; have NB253_255 := n6_; have NB255_253 := n7_; have NB254_255 := n8_; have NB255_254 := n9_; clear n0_ n1_ n2_ n3_ n4_ n5_ n6_ n7_ n8_ n9_; clear hb hbox hg; have hcz13_0 : w10.cell? ⟨gb253, 0, none⟩ = some (.slice A0_0 l0_0.length c0_0) := (blk_cell BK253.out 0).trans rfl; have hcz13_1 : w10.cell? ⟨gb253, 1, none⟩ = some (.int .i64 a0_1) := (blk_cell BK253.out 1).trans rfl; have hfz13_0 := blk_frozen BK253.out 0; have hfz13_1 := blk_frozen BK253.out 1) | (go_at_call 90; refine (clone_calls _ A0_0 c0_0 l0_0 HC0_0.out (Kd.C_below HR0_0.out HB.out) HL.out).mono ?_; rintro e w16 ⟨Ao17, co17, rfl, ho12, hb⟩; have n0_ := Aside0.mk (Kd.R_mono (Kd.R_lower (Kd.R_newB ho12 (g := gb254) (o := .cells #[.int .i64 a2_0, .int .i64 a2_1, .int .i64 a2_2, .bool a2_3, .int .i64 a2_4, .int .i64 a2_5, .int .i64 a2_6, .int .i64 a2_7, .int .i64 a2_8, .int .u32 a2_9, .int .i64 a2_10] 34 (0, 0)) BK254.out) (below_size HB.out)) (fun _ hk => hk.2)); have n1_ := Aside0.mk (blk_below (g := gb253) (o := .cells #[.slice A0_0 l0_0.length c0_0, .int .i64 a0_1] 70 (0, 0)) BK253.out hb); have n2_ := Aside0.mk (blk_below (g := gb254) (o := .cells #[.int .i64 a2_0, .int .i64 a2_1, .int .i64 a2_2, .bool a2_3, .int .i64 a2_4, .int .i64 a2_5, .int .i64 a2_6, .int .i64 a2_7, .int .i64 a2_8, .int .u32 a2_9, .int .i64 a2_10] 34 (0, 0)) BK254.out hb); have n3_ := Aside0.mk (blk_below (g := gb255) (o := .cells #[.slice none 0 0, .int .i64 0] 70 (0, 0)) BK255.out hb); have n4_ := Aside0.mk (below_step HB.out hb); clear BK253 BK254 BK255 HB; have HO261 := n0_; have BK253 := n1_; have BK254 := n2_; have BK255 := n3_; have HB := n4_; clear n0_ n1_ n2_ n3_ n4_; clear hb ho12; have hnb13 := NB253_254.out; have hnc13 := NB254_253.out; have hnb14 := NB253_255.out; have hnc14 := NB255_253.out; have hcz18_0 : w16.cell? ⟨gb253, 0, none⟩ = some (.slice A0_0 l0_0.length c0_0) := (blk_cell BK253.out 0).trans rfl; have hcz18_1 : w16.cell? ⟨gb253, 1, none⟩ = some (.int .i64 a0_1) := (blk_cell BK253.out 1).trans rfl; have hfz18_0 := blk_frozen BK253.out 0; have hfz18_1 := blk_frozen BK253.out 1) | ((with_reducible refine gate_store (t := 68) (p := 10) rfl ?_); refine store_event (t := 68) (p := 10) (v := ?vo_w19) (w1 := (w16.setCell ⟨gb253, 0, none⟩ (.slice Ao17 l0_0.length co17))) ?hg ?ho ?hn ?hr ?_; (case ho => rfl); (case hg => rfl); (case hn => rfl); (case hr => first | (go_simp; done) | (go_simp; rfl)); intro w19 hw; have n0_ : Aside0 (Kd.R k34 34 w19 w.heap.size (fun k_ => k_ ≠ gb254) (.slice Ao17 l0_0.length co17) l0_0) := ⟨(by rw [hw]; exact (by (with_reducible repeat (first | apply Kd.R_alloc | apply Kd.R_drewN | apply Kd.R_drew)); exact Kd.R_mono (Kd.R_far (p := ⟨gb253, 0, none⟩) (Kd.R_types HO261.out BK253.out (by decide)) (fun _ hk => hk.2) (.slice Ao17 l0_0.length co17)) (fun _ hk => hk.1)))⟩; have n1_ : Aside0 (w19.heap[gb253]? = some (.cells #[.slice Ao17 l0_0.length co17, .int .i64 a0_1] 70 (0, 0))) := ⟨(by rw [hw]; exact (by (with_reducible repeat (first | refine blk_drewN ?_ _ | refine blk_drew ?_ | refine blk_alloc ?_ _)); refine blk_put (cs := #[.slice A0_0 l0_0.length c0_0, .int .i64 a0_1]) ?_ 0 _ rfl; (with_reducible repeat (first | refine blk_drewN ?_ _ | refine blk_drew ?_ | refine blk_alloc ?_ _)); exact BK253.out))⟩; have n2_ : Aside0 (w19.heap[gb254]? = some (.cells #[.int .i64 a2_0, .int .i64 a2_1, .int .i64 a2_2, .bool a2_3, .int .i64 a2_4, .int .i64 a2_5, .int .i64 a2_6, .int .i64 a2_7, .int .i64 a2_8, .int .u32 a2_9, .int .i64 a2_10] 34 (0, 0))) := ⟨(by rw [hw]; exact (by (with_reducible repeat (first | refine blk_drewN ?_ _ | refine blk_drew ?_ | refine blk_alloc ?_ _)); refine blk_far ?_ NB254_253.out _; (with_reducible repeat (first | refine blk_drewN ?_ _ | refine blk_drew ?_ | refine blk_alloc ?_ _)); exact BK254.out))⟩; have n3_ : Aside0 (w19.heap[gb255]? = some (.cells #[.slice none 0 0, .int .i64 0] 70 (0, 0))) := ⟨(by rw [hw]; exact (by (with_reducible repeat (first | refine blk_drewN ?_ _ | refine blk_drew ?_ | refine blk_alloc ?_ _)); refine blk_far ?_ NB255_253.out _; (with_reducible repeat (first | refine blk_drewN ?_ _ | refine blk_drew ?_ | refine blk_alloc ?_ _)); exact BK255.out))⟩; have n4_ : Aside0 (Below w.heap.size w w19) := ⟨(by rw [hw]; exact (by repeat (first | (with_reducible first | exact HB.out | apply below_alloc | apply pw_below_drewN | apply below_drew1 | refine below_set ?_ GE253.out | refine below_set ?_ GE254.out | refine below_set ?_ GE255.out) | exact HB.out)))⟩; clear hw; clear HO261; clear BK253; clear BK254; clear BK255; clear HB; have HO261 := n0_; have BK253 := n1_; have BK254 := n2_; have BK255 := n3_; have HB := n4_; clear n0_ n1_ n2_ n3_ n4_; have hcz20_0 : w19.cell? ⟨gb253, 0, none⟩ = some (.slice Ao17 l0_0.length co17) := (blk_cell BK253.out 0).trans rfl; have hcz20_1 : w19.cell? ⟨gb253, 1, none⟩ = some (.int .i64 a0_1) := (blk_cell BK253.out 1).trans rfl; have hfz20_0 := blk_frozen BK253.out 0; have hfz20_1 := blk_frozen BK253.out 1; have hnb21 := NB254_255.out; have hnc21 := NB255_254.out; have hcz22_0 : w19.cell? ⟨gb254, 0, none⟩ = some (.int .i64 a2_0) := (blk_cell BK254.out 0).trans rfl; have hcz22_1 : w19.cell? ⟨gb254, 1, none⟩ = some (.int .i64 a2_1) := (blk_cell BK254.out 1).trans rfl; have hcz22_2 : w19.cell? ⟨gb254, 2, none⟩ = some (.int .i64 a2_2) := (blk_cell BK254.out 2).trans rfl; have hcz22_3 : w19.cell? ⟨gb254, 3, none⟩ = some (.bool a2_3) := (blk_cell BK254.out 3).trans rfl; have hcz22_4 : w19.cell? ⟨gb254, 4, none⟩ = some (.int .i64 a2_4) := (blk_cell BK254.out 4).trans rfl; have hcz22_5 : w19.cell? ⟨gb254, 5, none⟩ = some (.int .i64 a2_5) := (blk_cell BK254.out 5).trans rfl; have hcz22_6 : w19.cell? ⟨gb254, 6, none⟩ = some (.int .i64 a2_6) := (blk_cell BK254.out 6).trans rfl; have hcz22_7 : w19.cell? ⟨gb254, 7, none⟩ = some (.int .i64 a2_7) := (blk_cell BK254.out 7).trans rfl; have hcz22_8 : w19.cell? ⟨gb254, 8, none⟩ = some (.int .i64 a2_8) := (blk_cell BK254.out 8).trans rfl; have hcz22_9 : w19.cell? ⟨gb254, 9, none⟩ = some (.int .u32 a2_9) := (blk_cell BK254.out 9).trans rfl; have hcz22_10 : w19.cell? ⟨gb254, 10, none⟩ = some (.int .i64 a2_10) := (blk_cell BK254.out 10).trans rfl; have hfz22_0 := blk_frozen BK254.out 0; have hfz22_1 := blk_frozen BK254.out 1; have hfz22_2 := blk_frozen BK254.out 2; have hfz22_3 := blk_frozen BK254.out 3; have hfz22_4 := blk_frozen BK254.out 4; have hfz22_5 := blk_frozen BK254.out 5; have hfz22_6 := blk_frozen BK254.out 6; have hfz22_7 := blk_frozen BK254.out 7; have hfz22_8 := blk_frozen BK254.out 8; have hfz22_9 := blk_frozen BK254.out 9; have hfz22_10 := blk_frozen BK254.out 10; have p7 : 0 ≤ (a1 : Int) := of_decide_eq_true (by first | (with_reducible assumption) | assumption); have q7 : (a1 : Int) < ((l0_0.length : Int) : Int) := of_decide_eq_true (by first | (with_reducible assumption) | assumption); obtain ⟨go7, co7, eo7, gb7, gl7, cl7, HG7⟩ := Kd.R_form HO261.out (by omega); (first | cases eo7 | (injection eo7 with ea_ en_ ec_; (first | subst ea_ | (injection ea_ with ea_; subst ea_)); subst ec_; clear en_)); have GB7 := Aside0.mk gb7; have GG7 := Aside0.mk HG7; clear gb7 gl7 HG7; obtain ⟨ce7, hcl7, hM7, hcc7, hfr7⟩ := Kd.R_elem HO261.out z34 (a1 : Int) p7 q7; obtain rfl := k34_openM hM7; have hx7_0 : w19.cell? ⟨go7, (a1 : Int).toNat * 11, none⟩ = some (.int .i64 ((rd_T34 l0_0 a1).f0.f0)) := hcc7 0 _ rfl; have hx7_1 : w19.cell? ⟨go7, (a1 : Int).toNat * 11 + 1, none⟩ = some (.int .i64 ((rd_T34 l0_0 a1).f0.f1)) := hcc7 1 _ rfl; have hx7_2 : w19.cell? ⟨go7, (a1 : Int).toNat * 11 + 2, none⟩ = some (.int .i64 ((rd_T34 l0_0 a1).f0.f2)) := hcc7 2 _ rfl; have hx7_3 : w19.cell? ⟨go7, (a1 : Int).toNat * 11 + 3, none⟩ = some (.bool ((rd_T34 l0_0 a1).f0.f3)) := hcc7 3 _ rfl; have hx7_4 : w19.cell? ⟨go7, (a1 : Int).toNat * 11 + 4, none⟩ = some (.int .i64 ((rd_T34 l0_0 a1).f1.f0)) := hcc7 4 _ rfl; have hx7_5 : w19.cell? ⟨go7, (a1 : Int).toNat * 11 + 5, none⟩ = some (.int .i64 ((rd_T34 l0_0 a1).f1.f1)) := hcc7 5 _ rfl; have hx7_6 : w19.cell? ⟨go7, (a1 : Int).toNat * 11 + 6, none⟩ = some (.int .i64 ((rd_T34 l0_0 a1).f1.f2)) := hcc7 6 _ rfl; have hx7_7 : w19.cell? ⟨go7, (a1 : Int).toNat * 11 + 7, none⟩ = some (.int .i64 ((rd_T34 l0_0 a1).f2)) := hcc7 7 _ rfl; have hx7_8 : w19.cell? ⟨go7, (a1 : Int).toNat * 11 + 8, none⟩ = some (.int .i64 ((rd_T34 l0_0 a1).f3)) := hcc7 8 _ rfl; have hx7_9 : w19.cell? ⟨go7, (a1 : Int).toNat * 11 + 9, none⟩ = some (.int .u32 ((rd_T34 l0_0 a1).f4)) := hcc7 9 _ rfl; have hx7_10 : w19.cell? ⟨go7, (a1 : Int).toNat * 11 + 10, none⟩ = some (.int .i64 ((rd_T34 l0_0 a1).f5)) := hcc7 10 _ rfl; have hf7_0 : w19.frozen? ⟨go7, (a1 : Int).toNat * 11, none⟩ = false := hfr7 0; have hf7_1 : w19.frozen? ⟨go7, (a1 : Int).toNat * 11 + 1, none⟩ = false := hfr7 1; have hf7_2 : w19.frozen? ⟨go7, (a1 : Int).toNat * 11 + 2, none⟩ = false := hfr7 2; have hf7_3 : w19.frozen? ⟨go7, (a1 : Int).toNat * 11 + 3, none⟩ = false := hfr7 3; have hf7_4 : w19.frozen? ⟨go7, (a1 : Int).toNat * 11 + 4, none⟩ = false := hfr7 4; have hf7_5 : w19.frozen? ⟨go7, (a1 : Int).toNat * 11 + 5, none⟩ = false := hfr7 5; have hf7_6 : w19.frozen? ⟨go7, (a1 : Int).toNat * 11 + 6, none⟩ = false := hfr7 6; have hf7_7 : w19.frozen? ⟨go7, (a1 : Int).toNat * 11 + 7, none⟩ = false := hfr7 7; have hf7_8 : w19.frozen? ⟨go7, (a1 : Int).toNat * 11 + 8, none⟩ = false := hfr7 8; have hf7_9 : w19.frozen? ⟨go7, (a1 : Int).toNat * 11 + 9, none⟩ = false := hfr7 9; have hf7_10 : w19.frozen? ⟨go7, (a1 : Int).toNat * 11 + 10, none⟩ = false := hfr7 10; clear hcl7 hcc7 hfr7 hM7; replace p7 := eq_true p7; replace q7 := eq_true q7; have HX23 := Aside0.mk (show Kd.R k34 34 w19 w.heap.size (fun k_ => k_ ≠ gb254) (.slice (some ⟨go7, 0, none⟩) l0_0.length co17) l0_0 from (by (with_reducible repeat (first | apply Kd.R_alloc | apply Kd.R_drewN | apply Kd.R_drew)); exact HO261.out)); obtain ⟨ce23, hcl23, hM23, hcc23, hfr23⟩ := Kd.R_elem HX23.out z34 (a1 : Int) (of_decide_eq_true (by first | (with_reducible assumption) | assumption)) (by have h_ : (a1 : Int) < ((l0_0.length : Int) : Int) := of_decide_eq_true (by first | (with_reducible assumption) | assumption); first | exact h_ | (have e_ := (Kd.R_reads' HO261.out).1; omega) | simpa using h_); obtain rfl := k34_openM hM23; have HP23 := Kd.R_seg HX23.out (a1 : Int) (of_decide_eq_true (by first | (with_reducible assumption) | assumption)) (by have h_ : (a1 : Int) < ((l0_0.length : Int) : Int) := of_decide_eq_true (by first | (with_reducible assumption) | assumption); first | exact h_ | (have e_ := (Kd.R_reads' HO261.out).1; omega) | simpa using h_) (seg := [.int .i64 a2_0, .int .i64 a2_1, .int .i64 a2_2, .bool a2_3, .int .i64 a2_4, .int .i64 a2_5, .int .i64 a2_6, .int .i64 a2_7, .int .i64 a2_8, .int .u32 a2_9, .int .i64 a2_10]) (j := 0) hcl23 hcc23 (show 11 ≤ 11 from by decide) (x' := (⟨(⟨a2_0, a2_1, a2_2, a2_3⟩ : S31), (⟨a2_4, a2_5, a2_6⟩ : S32), a2_7, a2_8, a2_9, a2_10⟩ : S34)) (k34_mkM _ _ _ (⟨(⟨a2_0, a2_1, a2_2, a2_3⟩ : S31), (⟨a2_4, a2_5, a2_6⟩ : S32), a2_7, a2_8, a2_9, a2_10⟩ : S34) ) (fun _ hk => hk); have hx23_0 := hcc23 0 _ rfl; (try simp only [show (k34).sz = 11 from rfl, Nat.mul_one, Nat.add_zero] at hx23_0); have hf23_0 := hfr23 0; (try simp only [show (k34).sz = 11 from rfl, Nat.mul_one, Nat.add_zero] at hf23_0); have hx23_1 := hcc23 1 _ rfl; (try simp only [show (k34).sz = 11 from rfl, Nat.mul_one, Nat.add_zero] at hx23_1); have hf23_1 := hfr23 1; (try simp only [show (k34).sz = 11 from rfl, Nat.mul_one, Nat.add_zero] at hf23_1); have hx23_2 := hcc23 2 _ rfl; (try simp only [show (k34).sz = 11 from rfl, Nat.mul_one, Nat.add_zero] at hx23_2); have hf23_2 := hfr23 2; (try simp only [show (k34).sz = 11 from rfl, Nat.mul_one, Nat.add_zero] at hf23_2); have hx23_3 := hcc23 3 _ rfl; (try simp only [show (k34).sz = 11 from rfl, Nat.mul_one, Nat.add_zero] at hx23_3); have hf23_3 := hfr23 3; (try simp only [show (k34).sz = 11 from rfl, Nat.mul_one, Nat.add_zero] at hf23_3); have hx23_4 := hcc23 4 _ rfl; (try simp only [show (k34).sz = 11 from rfl, Nat.mul_one, Nat.add_zero] at hx23_4); have hf23_4 := hfr23 4; (try simp only [show (k34).sz = 11 from rfl, Nat.mul_one, Nat.add_zero] at hf23_4); have hx23_5 := hcc23 5 _ rfl; (try simp only [show (k34).sz = 11 from rfl, Nat.mul_one, Nat.add_zero] at hx23_5); have hf23_5 := hfr23 5; (try simp only [show (k34).sz = 11 from rfl, Nat.mul_one, Nat.add_zero] at hf23_5); have hx23_6 := hcc23 6 _ rfl; (try simp only [show (k34).sz = 11 from rfl, Nat.mul_one, Nat.add_zero] at hx23_6); have hf23_6 := hfr23 6; (try simp only [show (k34).sz = 11 from rfl, Nat.mul_one, Nat.add_zero] at hf23_6); have hx23_7 := hcc23 7 _ rfl; (try simp only [show (k34).sz = 11 from rfl, Nat.mul_one, Nat.add_zero] at hx23_7); have hf23_7 := hfr23 7; (try simp only [show (k34).sz = 11 from rfl, Nat.mul_one, Nat.add_zero] at hf23_7); have hx23_8 := hcc23 8 _ rfl; (try simp only [show (k34).sz = 11 from rfl, Nat.mul_one, Nat.add_zero] at hx23_8); have hf23_8 := hfr23 8; (try simp only [show (k34).sz = 11 from rfl, Nat.mul_one, Nat.add_zero] at hf23_8); have hx23_9 := hcc23 9 _ rfl; (try simp only [show (k34).sz = 11 from rfl, Nat.mul_one, Nat.add_zero] at hx23_9); have hf23_9 := hfr23 9; (try simp only [show (k34).sz = 11 from rfl, Nat.mul_one, Nat.add_zero] at hf23_9); have hx23_10 := hcc23 10 _ rfl; (try simp only [show (k34).sz = 11 from rfl, Nat.mul_one, Nat.add_zero] at hx23_10); have hf23_10 := hfr23 10; (try simp only [show (k34).sz = 11 from rfl, Nat.mul_one, Nat.add_zero] at hf23_10); clear hcl23 hcc23 hfr23 hM23) | ((with_reducible refine gate_store (t := 34) (p := 15) rfl ?_); refine store_event (t := 34) (p := 15) (v := ?vo_w24) (w1 := (((((((((((w19.setCell ⟨go7, (a1 : Int).toNat * 11, none⟩ (.int .i64 a2_0)).setCell ⟨go7, (a1 : Int).toNat * 11 + 1, none⟩ (.int .i64 a2_1)).setCell ⟨go7, (a1 : Int).toNat * 11 + 2, none⟩ (.int .i64 a2_2)).setCell ⟨go7, (a1 : Int).toNat * 11 + 3, none⟩ (.bool a2_3)).setCell ⟨go7, (a1 : Int).toNat * 11 + 4, none⟩ (.int .i64 a2_4)).setCell ⟨go7, (a1 : Int).toNat * 11 + 5, none⟩ (.int .i64 a2_5)).setCell ⟨go7, (a1 : Int).toNat * 11 + 6, none⟩ (.int .i64 a2_6)).setCell ⟨go7, (a1 : Int).toNat * 11 + 7, none⟩ (.int .i64 a2_7)).setCell ⟨go7, (a1 : Int).toNat * 11 + 8, none⟩ (.int .i64 a2_8)).setCell ⟨go7, (a1 : Int).toNat * 11 + 9, none⟩ (.int .u32 a2_9)).setCell ⟨go7, (a1 : Int).toNat * 11 + 10, none⟩ (.int .i64 a2_10))) ?hg ?ho ?hn ?hr ?_; (case ho => rfl); (case hg => rfl); (case hn => rfl); (case hr => first | (go_simp; done) | (go_simp; rfl)); intro w24 hw; have hg : w19.grownBy w24 (some go7) := (by rw [hw]; exact HP23.2); have hp_ : Kd.R k34 34 w24 w.heap.size (fun k_ => k_ ≠ gb254) (.slice (some ⟨go7, 0, none⟩) l0_0.length co17) y262 := (by rw [hw, Ny262.out]; exact HP23.1); clear HP23; have n0_ := Aside0.mk (blk_grown (g := gb253) (o := .cells #[.slice (some ⟨go7, 0, none⟩) l0_0.length co17, .int .i64 a0_1] 70 (0, 0)) (by (with_reducible repeat (first | refine blk_drewN ?_ _ | refine blk_drew ?_ | refine blk_alloc ?_ _)); exact BK253.out) hg (Kd.R_ne HO261.out BK253.out (by decide))); have n1_ := Aside0.mk (blk_grown (g := gb254) (o := .cells #[.int .i64 a2_0, .int .i64 a2_1, .int .i64 a2_2, .bool a2_3, .int .i64 a2_4, .int .i64 a2_5, .int .i64 a2_6, .int .i64 a2_7, .int .i64 a2_8, .int .u32 a2_9, .int .i64 a2_10] 34 (0, 0)) (by (with_reducible repeat (first | refine blk_drewN ?_ _ | refine blk_drew ?_ | refine blk_alloc ?_ _)); exact BK254.out) hg (Kd.R_away HO261.out (fun _ hk => hk))); have n2_ := Aside0.mk (blk_grown (g := gb255) (o := .cells #[.slice none 0 0, .int .i64 0] 70 (0, 0)) (by (with_reducible repeat (first | refine blk_drewN ?_ _ | refine blk_drew ?_ | refine blk_alloc ?_ _)); exact BK255.out) hg (Kd.R_ne HO261.out BK255.out (by decide))); have n3_ := Aside0.mk (hp_); have n4_ := Aside0.mk ((by rw [hw]; exact below_set (below_set (below_set (below_set (below_set (below_set (below_set (below_set (below_set (below_set (below_set (HB.out) GB7.out) GB7.out) GB7.out) GB7.out) GB7.out) GB7.out) GB7.out) GB7.out) GB7.out) GB7.out) GB7.out : Below w.heap.size w w24)); clear BK253; clear BK254; clear BK255; clear HO261; clear HB; have BK253 := n0_; have BK254 := n1_; have BK255 := n2_; have HO261 := n3_; have HB := n4_; clear n0_ n1_ n2_ n3_ n4_; clear hg hw hp_; have hcz25_0 : w24.cell? ⟨gb253, 0, none⟩ = some (.slice (some ⟨go7, 0, none⟩) l0_0.length co17) := (blk_cell BK253.out 0).trans rfl; have hcz25_1 : w24.cell? ⟨gb253, 1, none⟩ = some (.int .i64 a0_1) := (blk_cell BK253.out 1).trans rfl; have hfz25_0 := blk_frozen BK253.out 0; have hfz25_1 := blk_frozen BK253.out 1; have hcz26_0 : w24.cell? ⟨gb255, 0, none⟩ = some (.slice none 0 0) := (blk_cell BK255.out 0).trans rfl; have hcz26_1 : w24.cell? ⟨gb255, 1, none⟩ = some (.int .i64 0) := (blk_cell BK255.out 1).trans rfl; have hfz26_0 := blk_frozen BK255.out 0; have hfz26_1 := blk_frozen BK255.out 1))
  refine bodyPost_ret (results_cell_row rfl _ _ gb255 70 #[.slice (some ⟨go7, 0, none⟩) l0_0.length co17, .int .i64 a0_1] (0, 0) _ rfl (by (with_reducible repeat (first | refine blk_drewN ?_ _ | refine blk_drew ?_ | refine blk_alloc ?_ _)); refine blk_put (cs := #[.slice (some ⟨go7, 0, none⟩) l0_0.length co17, .int .i64 0]) ?_ 1 _ rfl; (with_reducible repeat (first | refine blk_drewN ?_ _ | refine blk_drew ?_ | refine blk_alloc ?_ _)); refine blk_put (cs := #[.slice none 0 0, .int .i64 0]) ?_ 0 _ rfl; (with_reducible repeat (first | refine blk_drewN ?_ _ | refine blk_drew ?_ | refine blk_alloc ?_ _)); exact BK255.out) Try.underlying70 rfl (by kernel_rfl)) rfl ?_
  exact ⟨_, by first | rfl | (simp [errW_none, errW_some] <;> rfl) | (simp [*, errW_none, errW_some] <;> rfl), by (with_reducible repeat (first | apply Kd.R_alloc | apply Kd.R_drewN | apply Kd.R_drew)); exact Kd.R_mono (Kd.R_far (p := ⟨gb255, 1, none⟩) (Kd.R_far (p := ⟨gb255, 0, none⟩) (Kd.R_types HO261.out BK255.out (by decide)) (fun _ hk => hk.2) (.slice (some ⟨go7, 0, none⟩) l0_0.length co17)) (fun _ hk => hk.2) (.int .i64 a0_1)) (fun _ hk => trivial), by repeat (first | (with_reducible first | exact HB.out | apply below_alloc | apply pw_below_drewN | apply below_drew1 | refine below_set ?_ GE253.out | refine below_set ?_ GE254.out | refine below_set ?_ GE255.out) | exact HB.out)⟩
theorem with_calls {w : World} {A : Option Addr} {c : Nat} {l : List S34} (hC : Kd.C k34 w A l.length l) (hc : l.length ≤ c) (hl : l.length ≤ 1048576) (p : Int) (i : Nat) (hi : i < l.length) (x : S34) :
    Calls Try.prog 82 #[.agg #[.slice A l.length c, .int .i64 p], .int .i64 i, .agg (cs34 x).toArray] w fun e w' => ∃ v : Value, e = .returned (.agg #[v, .int .i64 p]) ∧ Kd.R k34 34 w' w.heap.size (fun _ => True) v (l.set i x) ∧ Below w.heap.size w w' :=
  with_raw A c l p i _ _ _ _ _ _ _ _ _ _ _ w hC hc hl (by omega) (by omega)
end Go.Proofs.Ytblooffiggciiaa.Ps
/- PsG -/
namespace Go.Proofs.Ytblooffiggciiaa.Ps
open Go.RowKit Go.Proofs.Ytblooffiggciiaa.PPs Go.Proofs.YtblooffiggciiaaW.PrintWords Go.Proofs.YtblooffiggciiaaW.PrintLast Go.Proofs.YtblooffiggciiaaW.PrintMore Go.Proofs.Ytblooffiggciiaa.Sh
def SetR (w : World) (l : List S34) (q : Int) (er : Option Int) (e : Ending) (w' : World) : Prop :=
  ∃ v, e = .returned (.tuple #[.agg #[v, .int .i64 q], errW er]) ∧ Kd.R k34 34 w' w.heap.size (fun _ => True) v l ∧ Below w.heap.size w w'
theorem put2 {W : World} {g : Nat} {x y v : Value} {q : Value} (h : W.heap[g]? = some (.cells #[x, y] 70 (0, 0))) : ((W.setCell ⟨g, 0, none⟩ v).setCell ⟨g, 1, none⟩ q).heap[g]? = some (.cells #[v, q] 70 (0, 0)) :=
  blk_put (blk_put h 0 v rfl) 1 q rfl
theorem bel2 {w W : World} {g : Nat} {v q : Value} (h : Below w.heap.size w W) (hg : w.heap.size ≤ g) : Below w.heap.size w ((W.setCell ⟨g, 0, none⟩ v).setCell ⟨g, 1, none⟩ q) := below_set (below_set h hg) hg
theorem rr2 {W : World} {B g : Nat} {l : List S34} {x y u v q : Value} (hR : Kd.R k34 34 W B (fun _ => True) u l) (h : W.heap[g]? = some (.cells #[x, y] 70 (0, 0))) : Kd.R k34 34 ((W.setCell ⟨g, 0, none⟩ v).setCell ⟨g, 1, none⟩ q) B (fun _ => True) u l :=
  Kd.R_mono (Kd.R_far (p := ⟨g, 1, none⟩) (Kd.R_far (p := ⟨g, 0, none⟩) (Kd.R_types hR h (by decide)) (fun _ hk => hk.2) v) (fun _ hk => hk.2) q) (fun _ _ => trivial)
set_option maxHeartbeats 8000000 in
set_option maxRecDepth 100000 in
theorem put_bad {w : World} {A : Option Addr} {c : Nat} {l : List S34} (hC : Kd.C k34 w A l.length l) (p : Int) (x : S34) (hx : ¬ G x) :
    Calls Try.prog 37 #[.agg #[.slice A l.length c, .int .i64 p], .agg #[.int .i64 x.f0.f0, .int .i64 x.f0.f1, .int .i64 x.f0.f2, .bool x.f0.f3, .int .i64 x.f1.f0, .int .i64 x.f1.f1, .int .i64 x.f1.f2, .int .i64 x.f2, .int .i64 x.f3, .int .u32 x.f4, .int .i64 x.f5]] w (SetR w [] 0 (some 1)) := by
  have hB := b1 (b1 (b1 (Below.refl w.heap.size w) (.cells #[.slice A l.length c, .int .i64 p] 70)) (.cells (cs34 x).toArray 34)) (.cells #[.slice none 0 0, .int .i64 0] 70)
  have h1 := blk_new ((w.alloc (.cells #[.slice A l.length c, .int .i64 p] 70)).alloc (.cells (cs34 x).toArray 34)) (.cells #[.slice none 0 0, .int .i64 0] 70)
  have h2 := q3 (blk_new (w.alloc (.cells #[.slice A l.length c, .int .i64 p] 70)) (.cells (cs34 x).toArray 34)) (.cells #[.slice none 0 0, .int .i64 0] 70)
  rw [sz1, sz1] at h1
  rw [sz1] at h2
  obtain ⟨W3, hW⟩ : ∃ W3, W3 = ((w.alloc (.cells #[.slice A l.length c, .int .i64 p] 70)).alloc (.cells (cs34 x).toArray 34)).alloc (.cells #[.slice none 0 0, .int .i64 0] 70) := ⟨_, rfl⟩
  have HG := Aside0.mk (good_calls x W3)
  rw [decide_eq_false hx] at HG
  have hc := ck11 h2
  rw [← hW] at hB h1
  have HB := Aside0.mk hB
  have H1 := Aside0.mk h1
  have HW := Aside0.mk hW
  unfold cs34 at hc
  clear hB h1 h2 hW hC
  go_enter Try.func37, Try.ntmps37
  go_wp2_with fail
  rw [show ((w.alloc (.cells #[.slice A l.length c, .int .i64 p] 70)).alloc (.cells #[.int .i64 x.f0.f0, .int .i64 x.f0.f1, .int .i64 x.f0.f2, .bool x.f0.f3, .int .i64 x.f1.f0, .int .i64 x.f1.f1, .int .i64 x.f1.f2, .int .i64 x.f2, .int .i64 x.f3, .int .u32 x.f4, .int .i64 x.f5] 34)).alloc (.cells #[.slice none 0 0, .int .i64 0] 70) = W3 from HW.out.symm]
  refine HG.out.mono ?_
  rintro e w' ⟨rfl, hb⟩
  have BR := Aside0.mk (blk_below H1.out hb)
  have HB2 := Aside0.mk (below_step HB.out hb)
  have hz := cc2 BR.out
  clear hb hc
  go_wp2_with fail
  have hs : w.heap.size ≤ w.heap.size + 1 + 1 := by omega
  refine bodyPost_ret (results_ct rfl _ _ (w.heap.size + 1 + 1) 70 #[.slice none 0 0, .int .i64 0] (0, 0) _ rfl (put2 BR.out) Try.underlying70 rfl (by kernel_rfl)) rfl ?_
  exact ⟨_, rfl, Kd.R_nil _ _ _ _ _, bel2 HB2.out hs⟩
theorem plc_at (l : List S34) (a : Int) : plc l a = -1 ∨ ∃ i : Nat, i < l.length ∧ plc l a = i ∧ (l.getD i z34).f2 = a := by
  have key : ∀ (l : List S34) (k : Int), ixF (fun x => x.f2 == a) l k = -1 ∨ ∃ i : Nat, i < l.length ∧ ixF (fun x => x.f2 == a) l k = k + i ∧ (l.getD i z34).f2 = a := by
    intro l
    induction l with
    | nil => intro k; exact .inl rfl
    | cons x l ih =>
      intro k
      show (if (x.f2 == a) = true then k else ixF (fun x => x.f2 == a) l (k + 1)) = -1 ∨ ∃ i : Nat, i < l.length + 1 ∧ (if (x.f2 == a) = true then k else ixF (fun x => x.f2 == a) l (k + 1)) = k + i ∧ ((x :: l).getD i z34).f2 = a
      by_cases h : (x.f2 == a) = true
      · rw [if_pos h]
        exact .inr ⟨0, by omega, by simp, by simpa using h⟩
      · rw [if_neg h]
        rcases ih (k + 1) with h1 | ⟨i, h1, h2, h3⟩
        · exact .inl h1
        · exact .inr ⟨i + 1, by omega, by rw [h2]; simp; omega, by simpa using h3⟩
  rcases key l 0 with h | ⟨i, h1, h2, h3⟩
  · exact .inl h
  · exact .inr ⟨i, h1, by show ixF _ l 0 = _; rw [h2]; simp, h3⟩
theorem fnd_at (l : List S34) (p a : Int) : (∃ e, fnd l p a = (0, some e)) ∨ ∃ i : Nat, i < l.length ∧ fnd l p a = ((i : Int), none) ∧ gdb l p = true ∧ plc l a = i ∧ (l.getD i z34).f2 = a := by
  unfold fnd
  by_cases h : gdb l p = true
  · rw [if_pos h]
    rcases plc_at l a with h1 | ⟨i, h1, h2, h3⟩
    · rw [h1]; exact .inl ⟨4, rfl⟩
    · rw [h2, if_neg (by omega)]; exact .inr ⟨i, h1, rfl, h, rfl, h3⟩
  · rw [if_neg h]; exact .inl ⟨1, rfl⟩
set_option maxHeartbeats 8000000 in
set_option maxRecDepth 100000 in
theorem put_err {w : World} {A : Option Addr} {c : Nat} {l : List S34} (hC : Kd.C k34 w A l.length l) (p : Int) (x : S34) (hx : G x) (er : Int) (hf : fnd l p x.f2 = (0, some er)) :
    Calls Try.prog 37 #[.agg #[.slice A l.length c, .int .i64 p], .agg #[.int .i64 x.f0.f0, .int .i64 x.f0.f1, .int .i64 x.f0.f2, .bool x.f0.f3, .int .i64 x.f1.f0, .int .i64 x.f1.f1, .int .i64 x.f1.f2, .int .i64 x.f2, .int .i64 x.f3, .int .u32 x.f4, .int .i64 x.f5]] w (SetR w [] 0 (some er)) := by
  have hB := b1 (b1 (b1 (Below.refl w.heap.size w) (.cells #[.slice A l.length c, .int .i64 p] 70)) (.cells (cs34 x).toArray 34)) (.cells #[.slice none 0 0, .int .i64 0] 70)
  have h1 := blk_new ((w.alloc (.cells #[.slice A l.length c, .int .i64 p] 70)).alloc (.cells (cs34 x).toArray 34)) (.cells #[.slice none 0 0, .int .i64 0] 70)
  have h2 := q3 (blk_new (w.alloc (.cells #[.slice A l.length c, .int .i64 p] 70)) (.cells (cs34 x).toArray 34)) (.cells #[.slice none 0 0, .int .i64 0] 70)
  rw [sz1, sz1] at h1
  rw [sz1] at h2
  have hS := q3 (q3 (blk_new w (.cells #[.slice A l.length c, .int .i64 p] 70)) (.cells (cs34 x).toArray 34)) (.cells #[.slice none 0 0, .int .i64 0] 70)
  have hC3 := Kd.C_alloc (Kd.C_alloc (Kd.C_alloc hC (.cells #[.slice A l.length c, .int .i64 p] 70)) (.cells (cs34 x).toArray 34)) (.cells #[.slice none 0 0, .int .i64 0] 70)
  have HP := Aside0.mk h2
  obtain ⟨W3, hW⟩ : ∃ W3, W3 = ((w.alloc (.cells #[.slice A l.length c, .int .i64 p] 70)).alloc (.cells (cs34 x).toArray 34)).alloc (.cells #[.slice none 0 0, .int .i64 0] 70) := ⟨_, rfl⟩
  have HG := Aside0.mk (good_calls x W3)
  rw [decide_eq_true hx] at HG
  rw [← hW] at HP hS hC3
  have HS := Aside0.mk hS
  have HC := Aside0.mk hC3
  have HF := Aside0.mk hf
  clear hf hS hC3
  have hc := ck11 h2
  rw [← hW] at hB h1
  have HB := Aside0.mk hB
  have H1 := Aside0.mk h1
  have HW := Aside0.mk hW
  unfold cs34 at hc
  clear hB h1 h2 hW hC
  go_enter Try.func37, Try.ntmps37
  go_wp2_with fail
  rw [show ((w.alloc (.cells #[.slice A l.length c, .int .i64 p] 70)).alloc (.cells #[.int .i64 x.f0.f0, .int .i64 x.f0.f1, .int .i64 x.f0.f2, .bool x.f0.f3, .int .i64 x.f1.f0, .int .i64 x.f1.f1, .int .i64 x.f1.f2, .int .i64 x.f2, .int .i64 x.f3, .int .u32 x.f4, .int .i64 x.f5] 34)).alloc (.cells #[.slice none 0 0, .int .i64 0] 70) = W3 from HW.out.symm]
  refine HG.out.mono ?_
  rintro e w' ⟨rfl, hb⟩
  have BR := Aside0.mk (blk_below H1.out hb)
  have BS := Aside0.mk (blk_below HS.out hb)
  have BP := Aside0.mk (blk_below HP.out hb)
  have HF2 := Aside0.mk (find_calls (c := c) (Kd.C_below HC.out hb) p x.f2)
  rw [HF.out] at HF2
  have HB2 := Aside0.mk (below_step HB.out hb)
  have hz := ck2 BS.out
  have hy := ck11 BP.out
  clear hb hc
  go_wp2_with fail
  refine HF2.out.mono ?_
  rintro e w5 ⟨rfl, hb⟩
  have BR5 := Aside0.mk (blk_below BR.out hb)
  have HB5 := Aside0.mk (below_step HB2.out hb)
  clear hb hz hy
  have hz := cc2 BR5.out
  have he : errW (some er) = Value.iface 42 (.int .i64 er) := rfl
  show _
  simp only [he]
  clear he
  go_wp2_with fail
  have hs : w.heap.size ≤ w.heap.size + 1 + 1 := by omega
  refine bodyPost_ret (results_ct rfl _ _ (w.heap.size + 1 + 1) 70 #[.slice none 0 0, .int .i64 0] (0, 0) _ rfl (put2 BR5.out) Try.underlying70 rfl (by kernel_rfl)) rfl ?_
  exact ⟨_, rfl, Kd.R_nil _ _ _ _ _, bel2 HB5.out hs⟩
set_option maxHeartbeats 8000000 in
set_option maxRecDepth 100000 in
theorem put_ok {w : World} {A : Option Addr} {c : Nat} {l : List S34} (hC : Kd.C k34 w A l.length l) (p : Int) (x : S34) (hx : G x) (hcc : l.length ≤ c) (hl : l.length ≤ 1048576) (i : Nat) (hi : i < l.length) (hf : fnd l p x.f2 = ((i : Int), none)) :
    Calls Try.prog 37 #[.agg #[.slice A l.length c, .int .i64 p], .agg #[.int .i64 x.f0.f0, .int .i64 x.f0.f1, .int .i64 x.f0.f2, .bool x.f0.f3, .int .i64 x.f1.f0, .int .i64 x.f1.f1, .int .i64 x.f1.f2, .int .i64 x.f2, .int .i64 x.f3, .int .u32 x.f4, .int .i64 x.f5]] w (SetR w (l.set i x) p none) := by
  have hB := b1 (b1 (b1 (Below.refl w.heap.size w) (.cells #[.slice A l.length c, .int .i64 p] 70)) (.cells (cs34 x).toArray 34)) (.cells #[.slice none 0 0, .int .i64 0] 70)
  have h1 := blk_new ((w.alloc (.cells #[.slice A l.length c, .int .i64 p] 70)).alloc (.cells (cs34 x).toArray 34)) (.cells #[.slice none 0 0, .int .i64 0] 70)
  have h2 := q3 (blk_new (w.alloc (.cells #[.slice A l.length c, .int .i64 p] 70)) (.cells (cs34 x).toArray 34)) (.cells #[.slice none 0 0, .int .i64 0] 70)
  rw [sz1, sz1] at h1
  rw [sz1] at h2
  have hS := q3 (q3 (blk_new w (.cells #[.slice A l.length c, .int .i64 p] 70)) (.cells (cs34 x).toArray 34)) (.cells #[.slice none 0 0, .int .i64 0] 70)
  have hC3 := Kd.C_alloc (Kd.C_alloc (Kd.C_alloc hC (.cells #[.slice A l.length c, .int .i64 p] 70)) (.cells (cs34 x).toArray 34)) (.cells #[.slice none 0 0, .int .i64 0] 70)
  have HP := Aside0.mk h2
  obtain ⟨W3, hW⟩ : ∃ W3, W3 = ((w.alloc (.cells #[.slice A l.length c, .int .i64 p] 70)).alloc (.cells (cs34 x).toArray 34)).alloc (.cells #[.slice none 0 0, .int .i64 0] 70) := ⟨_, rfl⟩
  have HG := Aside0.mk (good_calls x W3)
  rw [decide_eq_true hx] at HG
  rw [← hW] at HP hS hC3
  have HS := Aside0.mk hS
  have HC := Aside0.mk hC3
  have HF := Aside0.mk hf
  clear hf hS hC3
  have hc := ck11 h2
  rw [← hW] at hB h1
  have HB := Aside0.mk hB
  have H1 := Aside0.mk h1
  have HW := Aside0.mk hW
  unfold cs34 at hc
  clear hB h1 h2 hW hC
  go_enter Try.func37, Try.ntmps37
  go_wp2_with fail
  rw [show ((w.alloc (.cells #[.slice A l.length c, .int .i64 p] 70)).alloc (.cells #[.int .i64 x.f0.f0, .int .i64 x.f0.f1, .int .i64 x.f0.f2, .bool x.f0.f3, .int .i64 x.f1.f0, .int .i64 x.f1.f1, .int .i64 x.f1.f2, .int .i64 x.f2, .int .i64 x.f3, .int .u32 x.f4, .int .i64 x.f5] 34)).alloc (.cells #[.slice none 0 0, .int .i64 0] 70) = W3 from HW.out.symm]
  refine HG.out.mono ?_
  rintro e w' ⟨rfl, hb⟩
  have BR := Aside0.mk (blk_below H1.out hb)
  have BS := Aside0.mk (blk_below HS.out hb)
  have BP := Aside0.mk (blk_below HP.out hb)
  have HF2 := Aside0.mk (find_calls (c := c) (Kd.C_below HC.out hb) p x.f2)
  rw [HF.out] at HF2
  have HB2 := Aside0.mk (below_step HB.out hb)
  have hz := ck2 BS.out
  have hy := ck11 BP.out
  have hb0 := hb
  clear hb hc
  go_wp2_with fail
  refine HF2.out.mono ?_
  rintro e w5 ⟨rfl, hb⟩
  have BR5 := Aside0.mk (blk_below BR.out hb)
  have HB5 := Aside0.mk (below_step HB2.out hb)
  have BS5 := Aside0.mk (blk_below BS.out hb)
  have BP5 := Aside0.mk (blk_below BP.out hb)
  have HW5 := Aside0.mk (with_calls (Kd.C_below (Kd.C_below HC.out hb0) hb) hcc hl p i hi x)
  clear hb hz hy hb0
  have hz := ck2 BS5.out
  have hy := ck11 BP5.out
  have he : errW none = Value.nilIface := rfl
  simp only [he]
  clear he
  go_wp2_with fail
  refine HW5.out.mono ?_
  rintro e w6 ⟨v, rfl, hR, hb⟩
  obtain ⟨A2, c2, rfl⟩ := Kd.R_slice hR
  rw [List.length_set] at hR
  have BR6 := Aside0.mk (blk_below BR5.out hb)
  have HB6 := Aside0.mk (below_step HB5.out hb)
  have HR := Aside0.mk (Kd.R_lower hR (below_size HB5.out))
  clear hb hz hy hR
  have hz := cc2 BR6.out
  go_wp2_with fail
  have hs : w.heap.size ≤ w.heap.size + 1 + 1 := by omega
  refine bodyPost_ret (results_ct rfl _ _ (w.heap.size + 1 + 1) 70 #[.slice A2 l.length c2, .int .i64 p] (0, 0) _ rfl (put2 BR6.out) Try.underlying70 rfl (by kernel_rfl)) rfl ?_
  exact ⟨_, rfl, rr2 HR.out BR6.out, bel2 HB6.out hs⟩
def putL (l : List S34) (p : Int) (x : S34) : List S34 × Int × Option Int :=
  if G x then (match fnd l p x.f2 with
    | (q, none) => (l.set q.toNat x, p, none)
    | (_, some e) => ([], 0, some e)) else ([], 0, some 1)
theorem put_calls {w : World} {A : Option Addr} {c : Nat} {l : List S34} (hC : Kd.C k34 w A l.length l) (hcc : l.length ≤ c) (hl : l.length ≤ 1048576) (p : Int) (x : S34) :
    Calls Try.prog 37 #[.agg #[.slice A l.length c, .int .i64 p], .agg (cs34 x).toArray] w (SetR w (putL l p x).1 (putL l p x).2.1 (putL l p x).2.2) := by
  unfold putL
  by_cases hx : G x
  · rw [if_pos hx]
    rcases fnd_at l p x.f2 with ⟨e, he⟩ | ⟨i, hi, he, _⟩
    · rw [he]; exact put_err hC p x hx e he
    · rw [he]; exact put_ok hC p x hx hcc hl i hi he
  · rw [if_neg hx]; exact put_bad hC p x hx
end Go.Proofs.Ytblooffiggciiaa.Ps
/- PsH -/
namespace Go.Proofs.Ytblooffiggciiaa.Ps
open Go.RowKit Go.Proofs.Ytblooffiggciiaa.PPs Go.Proofs.YtblooffiggciiaaW.PrintWords Go.Proofs.YtblooffiggciiaaW.PrintLast Go.Proofs.YtblooffiggciiaaW.PrintMore Go.Proofs.Ytblooffiggciiaa.Sh
attribute [local go_sem] Go.Proofs.Ytblooffiggciiaa.Aid.isSome_setCell
theorem take_one {l : List Int} {j : Nat} {y : Int} (hj : j < l.length) (hy : l.getD j 0 = y) : (l.take (j + 1)).map newS = (l.take j).map newS ++ [newS y] := by
  rw [List.take_add_one, List.getElem?_eq_getElem hj, List.map_append]
  rw [List.getD_eq_getElem?_getD, List.getElem?_eq_getElem hj] at hy
  simp only [Option.getD_some] at hy
  simp [hy]
def newL (l : List Int) : List S34 × Int × Option Int :=
  if l.length < 1 ∨ 4 < l.length then ([], 0, some 1) else if (∀ a ∈ l, addrP a) then (if tw (l.map newS) = true then ([], 0, some 12) else (l.map newS, 0, none)) else ([], 0, some 1)
set_option maxHeartbeats 8000000 in
set_option maxRecDepth 100000 in
theorem new_out {w : World} {A : Option Addr} {c : Nat} {l : List Int} (hC : Kd.C (Kd.int .i64) w A l.length l) (h : l.length < 1 ∨ 4 < l.length) :
    Calls Try.prog 39 #[.slice A l.length c] w (SetR w [] 0 (some 1)) := by
  have hB := b1 (Below.refl w.heap.size w) (.cells #[.slice none 0 0, .int .i64 0] 70)
  have h1 := blk_new w (.cells #[.slice none 0 0, .int .i64 0] 70)
  have hz := cc2 h1
  have HB := Aside0.mk hB
  have H1 := Aside0.mk h1
  clear hB h1 hC
  rcases h with h | h
  · have hl : (l.length : Int) = 0 := by omega
    rw [show l.length = 0 from by omega]
    go_enter Try.func39, Try.ntmps39
    go_wp2_with fail
    refine bodyPost_ret (results_ct rfl _ _ (w.heap.size) 70 #[.slice none 0 0, .int .i64 0] (0, 0) _ rfl H1.out Try.underlying70 rfl (by kernel_rfl)) rfl ?_
    exact ⟨_, rfl, Kd.R_nil _ _ _ _ _, HB.out⟩
  · have hl : ((4 : Int) < (l.length : Int)) := by omega
    have hl2 : ((l.length : Int) == 0) = false := beq_eq_false_iff_ne.mpr (by omega)
    go_enter Try.func39, Try.ntmps39
    go_wp2_with fail
    refine bodyPost_ret (results_ct rfl _ _ (w.heap.size) 70 #[.slice none 0 0, .int .i64 0] (0, 0) _ rfl H1.out Try.underlying70 rfl (by kernel_rfl)) rfl ?_
    exact ⟨_, rfl, Kd.R_nil _ _ _ _ _, HB.out⟩
set_option maxHeartbeats 8000000 in
set_option maxRecDepth 100000 in
theorem new_in {w : World} {A : Option Addr} {c : Nat} {l : List Int} (hC : Kd.C (Kd.int .i64) w A l.length l) (hl1 : 1 ≤ l.length) (hl4 : l.length ≤ 4) :
    Calls Try.prog 39 #[.slice A l.length c] w (SetR w (newL l).1 (newL l).2.1 (newL l).2.2) := by
  have hB := b1 (b1 (Below.refl w.heap.size w) (.cells #[.slice none 0 0, .int .i64 0] 70)) (.cells #[.slice none 0 0, .int .i64 0] 70)
  have h1 := q3 (blk_new w (.cells #[.slice none 0 0, .int .i64 0] 70)) (.cells #[.slice none 0 0, .int .i64 0] 70)
  have h2 := blk_new (w.alloc (.cells #[.slice none 0 0, .int .i64 0] 70)) (.cells #[.slice none 0 0, .int .i64 0] 70)
  rw [sz1] at h2
  have HB := Aside0.mk hB
  have H1 := Aside0.mk h1
  have H2 := Aside0.mk h2
  have HC := Aside0.mk hC
  clear hB h1 h2 hC
  have hl0 : ((l.length : Int) == 0) = false := beq_eq_false_iff_ne.mpr (by omega)
  have hl5 : ¬ ((4 : Int) < (l.length : Int)) := by omega
  go_enter Try.func39, Try.ntmps39
  go_wp2_with fail
  obtain ⟨g, hg⟩ : ∃ g, g = w.heap.size := ⟨_, rfl⟩
  have HG := Aside0.mk hg
  rw [← hg] at H1 H2
  rw [← hg]
  clear hg
  go_loopw [21] (fun i wr => ∃ (j : Nat) (v : Value) (xs : List S34), j ≤ l.length ∧ i = .int .i64 (j : Nat) ∧ Aside0 (Below w.heap.size w wr) ∧ Aside0 (wr.heap[g]? = some (.cells #[.slice none 0 0, .int .i64 0] 70 (0, 0))) ∧ Aside0 (wr.heap[g + 1]? = some (.cells #[v, .int .i64 0] 70 (0, 0))) ∧ Aside0 (Kd.R k34 34 wr w.heap.size (fun _ => True) v xs) ∧ Aside0 (xs = (l.take j).map newS) ∧ Aside0 (∀ k, k < j → addrP (l.getD k 0))) (fun i _ => l.length - (intOf i).toNat)
  case atStart => exact ⟨0, _, [], Nat.zero_le _, rfl, HB, H1, H2, ⟨Kd.R_nil _ _ _ _ _⟩, ⟨rfl⟩, ⟨fun k hk => absurd hk (by omega)⟩⟩
  case round =>
    obtain ⟨j, v, xs, hj, rfl, BW, BX, BV, HR, HXS, HZ⟩ := hrel
    have HL := Aside0.mk (show xs.length ≤ 4 by rw [HXS.out]; simp; omega)
    by_cases hlt : j < l.length
    · obtain ⟨ad, rfl, hcell⟩ := Kd.at_int (Kd.C_below HC.out BW.out) (j : Int) (by omega) (by omega)
      rw [Int.toNat_natCast] at hcell
      obtain ⟨y, hy⟩ : ∃ y, y = rd l (j : Int) := ⟨_, rfl⟩
      rw [← hy] at hcell
      have HY := Aside0.mk (show l.getD j 0 = y from by rw [hy]; unfold rd; rw [Int.toNat_natCast])
      clear hy
      have hji : (j : Int) < (l.length : Int) := by omega
      by_cases ha : addrP y
      · have HA := Aside0.mk ha
        clear ha
        go_wp2_with fail
        refine (new_calls y HA.out _).mono ?_
        rintro e w' ⟨rfl, hb⟩
        have BX2 := Aside0.mk (q3 (blk_below BX.out hb) (.cells (cs34 (newS y)).toArray 34))
        have BV2 := Aside0.mk (q3 (blk_below BV.out hb) (.cells (cs34 (newS y)).toArray 34))
        have HR2 := Aside0.mk (Kd.R_alloc (Kd.R_below HR.out hb) (.cells (cs34 (newS y)).toArray 34))
        have HB2 := Aside0.mk (b1 (below_step BW.out hb) (.cells (cs34 (newS y)).toArray 34))
        have hz := ck2 BV2.out
        have hp := ck11 (blk_new w' (.cells (cs34 (newS y)).toArray 34))
        clear hb
        unfold cs34 newS at hz hp
        unfold cs34 newS
        have he : errW none = Value.nilIface := rfl
        simp only [he]
        clear he
        obtain ⟨A2, c2, rfl⟩ := Kd.R_slice HR.out
        go_wp2_with (at_builtin; refine Kd.R_append k34 (w0 := w) w.heap.size rfl (.tmp 35) (.tmp 37) 68 34 (.agg (cs34 z34).toArray) 88 rfl Try.underlying68 info34 rfl (by decide) (by omega) (.slice A2 xs.length c2) xs (newS y) (cs34 (newS y)) (fun _ => True) (fun _ => False) rfl (by rw [sz1]; rfl) ?aP (fun _ hk => hk.elim) ?aF ?aO ?aB ?aS ?aL ?_; (case aP => exact k34_mkM _ _ _ (newS y)); (case aB => exact HB2.out); (case aF => exact (fun _ _ => trivial)); (case aO => exact HR2.out); (case aS => exact below_size HB2.out); (case aL => have := HL.out; omega); intro v2 w24 ho hb hg hat; have BX3 := Aside0.mk (blk_grown BX2.out hg (Kd.R_ne HR.out BX.out (by decide))); have BV3 := Aside0.mk (blk_grown BV2.out hg (Kd.R_ne HR.out BV.out (by decide))); have HR3 := Aside0.mk ho; have HB3 := Aside0.mk hb; clear ho hb hg hat hz hp; have hz := cc2 BV3.out; obtain ⟨A3, c3, rfl⟩ := Kd.R_slice HR3.out; rw [List.length_append, List.length_singleton] at HR3)
        go_roundw
        case rel =>
          refine ⟨j + 1, _, xs ++ [newS y], by omega, by go_num, ⟨below_set HB3.out (show w.heap.size ≤ g + 1 by rw [HG.out]; exact Nat.le_succ _)⟩, ⟨blk_far BX3.out (show g ≠ g + 1 by omega) _⟩, ⟨blk_put BV3.out 0 _ rfl⟩, ⟨?_⟩, ⟨?_⟩, ⟨fun k hk => ?_⟩⟩
          · exact Kd.R_mono (Kd.R_far (p := ⟨g + 1, 0, none⟩) (Kd.R_types HR3.out BV3.out (by decide)) (fun _ hk => hk.2) _) (fun _ _ => trivial)
          · rw [HXS.out, take_one hlt HY.out]
          · by_cases hkj : k = j
            · rw [hkj, HY.out]; exact HA.out
            · exact HZ.out k (by omega)
        case measure => simp [intOf]; omega
      · have HA := Aside0.mk ha
        clear ha
        go_wp2_with fail
        refine (new_bad y HA.out _).mono ?_
        rintro e w' ⟨rfl, hb⟩
        have BX2 := Aside0.mk (q3 (blk_below BX.out hb) (.cells (cs34 z34).toArray 34))
        have HB2 := Aside0.mk (b1 (below_step BW.out hb) (.cells (cs34 z34).toArray 34))
        have hz := cc2 BX2.out
        clear hb
        unfold cs34 z34 at hz
        unfold cs34 z34
        have he : errW (some 1) = Value.iface 42 (.int .i64 1) := rfl
        simp only [he]
        clear he
        go_wp2_with fail
        have hs : w.heap.size ≤ g := by rw [HG.out]; exact Nat.le_refl _
        have hno : ¬ ∀ a ∈ l, addrP a := fun h => HA.out (by
          rw [← HY.out, List.getD_eq_getElem?_getD, List.getElem?_eq_getElem hlt]
          exact h _ (List.getElem_mem hlt))
        unfold newL
        rw [if_neg (by omega), if_neg hno]
        refine bodyPost_ret (results_ct rfl _ _ g 70 #[.slice none 0 0, .int .i64 0] (0, 0) _ rfl (put2 BX2.out) Try.underlying70 rfl (by kernel_rfl)) rfl ?_
        exact ⟨_, rfl, Kd.R_nil _ _ _ _ _, bel2 HB2.out hs⟩
    · obtain rfl : j = l.length := by omega
      have hx : xs = l.map newS := by rw [HXS.out, List.take_length]
      obtain ⟨A2, c2, rfl⟩ := Kd.R_slice HR.out
      have HT := Aside0.mk (twice_calls (c := c2) (Kd.R_reads' HR.out).2.2 0)
      have hz := cc2 BV.out
      have hall : ∀ a ∈ l, addrP a := fun a ha => by
        obtain ⟨k, hk, rfl⟩ := List.getElem_of_mem ha
        have := HZ.out k hk
        rw [List.getD_eq_getElem?_getD, List.getElem?_eq_getElem hk] at this
        exact this
      have HN := Aside0.mk (show newL l = if tw xs = true then ([], 0, some 12) else (xs, 0, none) by
        unfold newL
        rw [if_neg (by omega), if_pos hall, ← hx])
      clear hx hall
      cases ht : tw xs with
      | true =>
        rw [ht] at HT
        rw [ht, if_pos rfl] at HN
        clear ht
        go_wp2_with fail
        refine HT.out.mono ?_
        rintro e w5 ⟨rfl, hb⟩
        have BX5 := Aside0.mk (blk_below BX.out hb)
        have HB5 := Aside0.mk (below_step BW.out hb)
        clear hb hz
        have hz := cc2 BX5.out
        go_wp2_with fail
        have hs : w.heap.size ≤ g := by rw [HG.out]; exact Nat.le_refl _
        refine bodyPost_ret (results_ct rfl _ _ g 70 #[.slice none 0 0, .int .i64 0] (0, 0) _ rfl (put2 BX5.out) Try.underlying70 rfl (by kernel_rfl)) rfl ?_
        rw [HN.out]
        exact ⟨_, rfl, Kd.R_nil _ _ _ _ _, bel2 HB5.out hs⟩
      | false =>
        rw [ht] at HT
        rw [ht, if_neg (by simp)] at HN
        clear ht
        go_wp2_with fail
        refine HT.out.mono ?_
        rintro e w5 ⟨rfl, hb⟩
        have BX5 := Aside0.mk (blk_below BX.out hb)
        have BV5 := Aside0.mk (blk_below BV.out hb)
        have HB5 := Aside0.mk (below_step BW.out hb)
        have HR5 := Aside0.mk (Kd.R_below HR.out hb)
        clear hb hz
        have hz := cc2 BX5.out
        have hy := cc2 BV5.out
        go_wp2_with fail
        have hs : w.heap.size ≤ g := by rw [HG.out]; exact Nat.le_refl _
        refine bodyPost_ret (results_ct rfl _ _ g 70 #[.slice A2 xs.length c2, .int .i64 0] (0, 0) _ rfl (put2 BX5.out) Try.underlying70 rfl (by kernel_rfl)) rfl ?_
        rw [HN.out]
        exact ⟨_, rfl, rr2 HR5.out BX5.out, bel2 HB5.out hs⟩
theorem setnew_calls {w : World} {A : Option Addr} {c : Nat} {l : List Int} (hC : Kd.C (Kd.int .i64) w A l.length l) :
    Calls Try.prog 39 #[.slice A l.length c] w (SetR w (newL l).1 (newL l).2.1 (newL l).2.2) := by
  by_cases h : l.length < 1 ∨ 4 < l.length
  · have e : newL l = ([], 0, some 1) := if_pos h
    rw [e]
    exact new_out hC h
  · exact new_in hC (by omega) (by omega)
end Go.Proofs.Ytblooffiggciiaa.Ps
/- PsI -/
namespace Go.Proofs.Ytblooffiggciiaa.Ps
open Go.RowKit Go.Proofs.Ytblooffiggciiaa.PPs Go.Proofs.YtblooffiggciiaaW.PrintWords Go.Proofs.YtblooffiggciiaaW.PrintLast Go.Proofs.YtblooffiggciiaaW.PrintMore Go.Proofs.Ytblooffiggciiaa.Sh
attribute [local go_sem] Go.Proofs.Ytblooffiggciiaa.Aid.isSome_setCell
theorem far2 {W : World} {g g' t : Nat} {cs : Array Value} {v q : Value} (h : W.heap[g']? = some (.cells cs t (0, 0))) (hn : g' ≠ g) : ((W.setCell ⟨g, 0, none⟩ v).setCell ⟨g, 1, none⟩ q).heap[g']? = some (.cells cs t (0, 0)) :=
  blk_far (blk_far h hn v) hn q
set_option maxHeartbeats 2000000 in
set_option maxRecDepth 100000 in
theorem prime_err {w : World} {A : Option Addr} {c : Nat} {l : List S34} (hC : Kd.C k34 w A l.length l) (p a er : Int) (hf : fnd l p a = (0, some er)) :
    Calls Try.prog 60 #[.agg #[.slice A l.length c, .int .i64 p], .int .i64 a] w (SetR w [] 0 (some er)) := by
  have hB := b1 (b1 (Below.refl w.heap.size w) (.cells #[.slice A l.length c, .int .i64 p] 70)) (.cells #[.slice none 0 0, .int .i64 0] 70)
  have h1 := blk_new (w.alloc (.cells #[.slice A l.length c, .int .i64 p] 70)) (.cells #[.slice none 0 0, .int .i64 0] 70)
  rw [sz1] at h1
  have hS := q3 (blk_new w (.cells #[.slice A l.length c, .int .i64 p] 70)) (.cells #[.slice none 0 0, .int .i64 0] 70)
  have HC := Aside0.mk (Kd.C_alloc (Kd.C_alloc hC (.cells #[.slice A l.length c, .int .i64 p] 70)) (.cells #[.slice none 0 0, .int .i64 0] 70))
  have HF := Aside0.mk (find_calls (c := c) HC.out p a)
  rw [hf] at HF
  have hz := ck2 hS
  have HB := Aside0.mk hB
  have H1 := Aside0.mk h1
  have HS := Aside0.mk hS
  clear hB h1 hS hC hf
  go_enter Try.func60, Try.ntmps60
  go_wp2_with fail
  refine HF.out.mono ?_
  rintro e w5 ⟨rfl, hb⟩
  have BR5 := Aside0.mk (blk_below H1.out hb)
  have HB5 := Aside0.mk (below_step HB.out hb)
  clear hb hz
  have hz := cc2 BR5.out
  have he : errW (some er) = Value.iface 42 (.int .i64 er) := rfl
  simp only [he]
  clear he
  go_wp2_with fail
  have hs : w.heap.size ≤ w.heap.size + 1 := by omega
  refine bodyPost_ret (results_ct rfl _ _ (w.heap.size + 1) 70 #[.slice none 0 0, .int .i64 0] (0, 0) _ rfl (put2 BR5.out) Try.underlying70 rfl (by kernel_rfl)) rfl ?_
  exact ⟨_, rfl, Kd.R_nil _ _ _ _ _, bel2 HB5.out hs⟩
set_option maxHeartbeats 2000000 in
set_option maxRecDepth 100000 in
theorem prime_ok {w : World} {A : Option Addr} {c : Nat} {l : List S34} (hC : Kd.C k34 w A l.length l) (p a : Int) (hcc : l.length ≤ c) (hl : l.length ≤ 1048576) (i : Nat) (hf : fnd l p a = ((i : Int), none)) :
    Calls Try.prog 60 #[.agg #[.slice A l.length c, .int .i64 p], .int .i64 a] w (SetR w l i none) := by
  have hB := b1 (b1 (Below.refl w.heap.size w) (.cells #[.slice A l.length c, .int .i64 p] 70)) (.cells #[.slice none 0 0, .int .i64 0] 70)
  have h1 := blk_new (w.alloc (.cells #[.slice A l.length c, .int .i64 p] 70)) (.cells #[.slice none 0 0, .int .i64 0] 70)
  rw [sz1] at h1
  have hS := q3 (blk_new w (.cells #[.slice A l.length c, .int .i64 p] 70)) (.cells #[.slice none 0 0, .int .i64 0] 70)
  have HC := Aside0.mk (Kd.C_alloc (Kd.C_alloc hC (.cells #[.slice A l.length c, .int .i64 p] 70)) (.cells #[.slice none 0 0, .int .i64 0] 70))
  have HF := Aside0.mk (find_calls (c := c) HC.out p a)
  rw [hf] at HF
  have hz := ck2 hS
  have HB := Aside0.mk hB
  have H1 := Aside0.mk h1
  have HS := Aside0.mk hS
  clear hB h1 hS hC hf
  go_enter Try.func60, Try.ntmps60
  go_wp2_with fail
  refine HF.out.mono ?_
  rintro e w5 ⟨rfl, hb⟩
  have BR5 := Aside0.mk (blk_below H1.out hb)
  have BS5 := Aside0.mk (blk_below HS.out hb)
  have HB5 := Aside0.mk (below_step HB.out hb)
  have HCl := Aside0.mk (clone_calls _ A c l hcc (Kd.C_below HC.out hb) hl)
  clear hb hz
  have hz := cc2 BS5.out
  have he : errW none = Value.nilIface := rfl
  simp only [he]
  clear he
  go_wp2_with fail
  refine HCl.out.mono ?_
  rintro e w6 ⟨A2, c2, rfl, hR, hb⟩
  have BR6 := Aside0.mk (blk_below BR5.out hb)
  have BS6 := Aside0.mk (blk_below BS5.out hb)
  have HB6 := Aside0.mk (below_step HB5.out hb)
  have HR := Aside0.mk (Kd.R_lower hR (below_size HB5.out))
  clear hb hz hR
  have hz := cc2 BS6.out
  have hy := cc2 BR6.out
  go_wp2_with fail
  have hs : w.heap.size ≤ w.heap.size + 1 := by omega
  have BR7 := Aside0.mk (far2 (v := .slice A2 l.length c2) (q := .int .i64 i) BR6.out (show w.heap.size + 1 ≠ w.heap.size by omega))
  refine bodyPost_ret (results_ct rfl _ _ (w.heap.size + 1) 70 #[.slice A2 l.length c2, .int .i64 i] (0, 0) _ rfl (put2 BR7.out) Try.underlying70 rfl (by kernel_rfl)) rfl ?_
  exact ⟨_, rfl, rr2 (rr2 HR.out BS6.out) BR7.out, bel2 (bel2 HB6.out (Nat.le_refl _)) hs⟩
def primeL (l : List S34) (p a : Int) : List S34 × Int × Option Int :=
  match fnd l p a with
  | (q, none) => (l, q, none)
  | (_, some e) => ([], 0, some e)
theorem prime_calls {w : World} {A : Option Addr} {c : Nat} {l : List S34} (hC : Kd.C k34 w A l.length l) (hcc : l.length ≤ c) (hl : l.length ≤ 1048576) (p a : Int) :
    Calls Try.prog 60 #[.agg #[.slice A l.length c, .int .i64 p], .int .i64 a] w (SetR w (primeL l p a).1 (primeL l p a).2.1 (primeL l p a).2.2) := by
  unfold primeL
  rcases fnd_at l p a with ⟨e, he⟩ | ⟨i, hi, he, _⟩
  · rw [he]; exact prime_err hC p a e he
  · rw [he]; exact prime_ok hC p a hcc hl i he
end Go.Proofs.Ytblooffiggciiaa.Ps
/- PsJ -/
namespace Go.Proofs.Ytblooffiggciiaa.Ps
open Go.RowKit Go.Proofs.Ytblooffiggciiaa.PPs Go.Proofs.YtblooffiggciiaaW.PrintWords Go.Proofs.YtblooffiggciiaaW.PrintLast Go.Proofs.YtblooffiggciiaaW.PrintMore Go.Proofs.Ytblooffiggciiaa.Sh
attribute [local go_sem] Go.Proofs.Ytblooffiggciiaa.Aid.isSome_setCell
theorem put11 {w : World} {g : Nat} {t : TypeId} {x0 x1 x2 x3 x4 x5 x6 x7 x8 x9 x10 y0 y1 y2 y3 y4 y5 y6 y7 y8 y9 y10 : Value} (h : w.heap[g]? = some (.cells #[x0, x1, x2, x3, x4, x5, x6, x7, x8, x9, x10] t (0, 0))) :
    (((((((((((w.setCell ⟨g, 0, none⟩ y0).setCell ⟨g, 1, none⟩ y1).setCell ⟨g, 2, none⟩ y2).setCell ⟨g, 3, none⟩ y3).setCell ⟨g, 4, none⟩ y4).setCell ⟨g, 5, none⟩ y5).setCell ⟨g, 6, none⟩ y6).setCell ⟨g, 7, none⟩ y7).setCell ⟨g, 8, none⟩ y8).setCell ⟨g, 9, none⟩ y9).setCell ⟨g, 10, none⟩ y10).heap[g]? = some (.cells #[y0, y1, y2, y3, y4, y5, y6, y7, y8, y9, y10] t (0, 0)) := by
  have h0 := blk_put (cs' := #[y0, x1, x2, x3, x4, x5, x6, x7, x8, x9, x10]) h 0 y0 rfl
  have h1 := blk_put (cs' := #[y0, y1, x2, x3, x4, x5, x6, x7, x8, x9, x10]) h0 1 y1 rfl
  have h2 := blk_put (cs' := #[y0, y1, y2, x3, x4, x5, x6, x7, x8, x9, x10]) h1 2 y2 rfl
  have h3 := blk_put (cs' := #[y0, y1, y2, y3, x4, x5, x6, x7, x8, x9, x10]) h2 3 y3 rfl
  have h4 := blk_put (cs' := #[y0, y1, y2, y3, y4, x5, x6, x7, x8, x9, x10]) h3 4 y4 rfl
  have h5 := blk_put (cs' := #[y0, y1, y2, y3, y4, y5, x6, x7, x8, x9, x10]) h4 5 y5 rfl
  have h6 := blk_put (cs' := #[y0, y1, y2, y3, y4, y5, y6, x7, x8, x9, x10]) h5 6 y6 rfl
  have h7 := blk_put (cs' := #[y0, y1, y2, y3, y4, y5, y6, y7, x8, x9, x10]) h6 7 y7 rfl
  have h8 := blk_put (cs' := #[y0, y1, y2, y3, y4, y5, y6, y7, y8, x9, x10]) h7 8 y8 rfl
  have h9 := blk_put (cs' := #[y0, y1, y2, y3, y4, y5, y6, y7, y8, y9, x10]) h8 9 y9 rfl
  have h10 := blk_put (cs' := #[y0, y1, y2, y3, y4, y5, y6, y7, y8, y9, y10]) h9 10 y10 rfl
  exact h10
theorem bel11 {W w : World} {g : Nat} {y0 y1 y2 y3 y4 y5 y6 y7 y8 y9 y10 : Value} (h : Below W.heap.size W w) (hg : W.heap.size ≤ g) : Below W.heap.size W (((((((((((w.setCell ⟨g, 0, none⟩ y0).setCell ⟨g, 1, none⟩ y1).setCell ⟨g, 2, none⟩ y2).setCell ⟨g, 3, none⟩ y3).setCell ⟨g, 4, none⟩ y4).setCell ⟨g, 5, none⟩ y5).setCell ⟨g, 6, none⟩ y6).setCell ⟨g, 7, none⟩ y7).setCell ⟨g, 8, none⟩ y8).setCell ⟨g, 9, none⟩ y9).setCell ⟨g, 10, none⟩ y10) :=
  below_set (below_set (below_set (below_set (below_set (below_set (below_set (below_set (below_set (below_set (below_set h hg) hg) hg) hg) hg) hg) hg) hg) hg) hg) hg
set_option maxHeartbeats 2000000 in
set_option maxRecDepth 100000 in
theorem get_err {w : World} {A : Option Addr} {c : Nat} {l : List S34} (hC : Kd.C k34 w A l.length l) (p a er : Int) (hf : fnd l p a = (0, some er)) :
    Calls Try.prog 47 #[.agg #[.slice A l.length c, .int .i64 p], .int .i64 a] w fun e w' => e = .returned (.tuple #[.agg (cs34 z34).toArray, .bool false]) ∧ Below w.heap.size w w' := by
  have hB := b1 (b1 (Below.refl w.heap.size w) (.cells #[.slice A l.length c, .int .i64 p] 70)) (.cells #[.int .i64 0, .int .i64 0, .int .i64 0, .bool false, .int .i64 0, .int .i64 0, .int .i64 0, .int .i64 0, .int .i64 0, .int .u32 0, .int .i64 0] 34)
  have h1 := blk_new (w.alloc (.cells #[.slice A l.length c, .int .i64 p] 70)) (.cells #[.int .i64 0, .int .i64 0, .int .i64 0, .bool false, .int .i64 0, .int .i64 0, .int .i64 0, .int .i64 0, .int .i64 0, .int .u32 0, .int .i64 0] 34)
  rw [sz1] at h1
  have hS := q3 (blk_new w (.cells #[.slice A l.length c, .int .i64 p] 70)) (.cells #[.int .i64 0, .int .i64 0, .int .i64 0, .bool false, .int .i64 0, .int .i64 0, .int .i64 0, .int .i64 0, .int .i64 0, .int .u32 0, .int .i64 0] 34)
  have HC := Aside0.mk (Kd.C_alloc (Kd.C_alloc hC (.cells #[.slice A l.length c, .int .i64 p] 70)) (.cells #[.int .i64 0, .int .i64 0, .int .i64 0, .bool false, .int .i64 0, .int .i64 0, .int .i64 0, .int .i64 0, .int .i64 0, .int .u32 0, .int .i64 0] 34))
  have HF := Aside0.mk (find_calls (c := c) HC.out p a)
  rw [hf] at HF
  have hz := ck2 hS
  have HB := Aside0.mk hB
  have H1 := Aside0.mk h1
  have HS := Aside0.mk hS
  clear hB h1 hS hC hf
  go_enter Try.func47, Try.ntmps47
  go_wp2_with fail
  refine HF.out.mono ?_
  rintro e w5 ⟨rfl, hb⟩
  have BR5 := Aside0.mk (blk_below H1.out hb)
  have HB5 := Aside0.mk (below_step HB.out hb)
  clear hb hz
  have hz := cc11 BR5.out
  have he : errW (some er) = Value.iface 42 (.int .i64 er) := rfl
  simp only [he]
  clear he
  go_wp2_with fail
  have hs : w.heap.size ≤ w.heap.size + 1 := by omega
  refine bodyPost_ret (results_ct rfl _ _ (w.heap.size + 1) 34 #[.int .i64 0, .int .i64 0, .int .i64 0, .bool false, .int .i64 0, .int .i64 0, .int .i64 0, .int .i64 0, .int .i64 0, .int .u32 0, .int .i64 0] (0, 0) _ rfl (put11 BR5.out) Try.underlying34 rfl (by kernel_rfl)) rfl ?_
  exact ⟨rfl, bel11 HB5.out hs⟩
set_option maxHeartbeats 2000000 in
set_option maxRecDepth 100000 in
theorem get_ok {w : World} {A : Option Addr} {c : Nat} {l : List S34} (hC : Kd.C k34 w A l.length l) (p a : Int) (i : Nat) (hi : i < l.length) (hf : fnd l p a = ((i : Int), none)) :
    Calls Try.prog 47 #[.agg #[.slice A l.length c, .int .i64 p], .int .i64 a] w fun e w' => e = .returned (.tuple #[.agg (cs34 (l.getD i z34)).toArray, .bool true]) ∧ Below w.heap.size w w' := by
  have hB := b1 (b1 (Below.refl w.heap.size w) (.cells #[.slice A l.length c, .int .i64 p] 70)) (.cells #[.int .i64 0, .int .i64 0, .int .i64 0, .bool false, .int .i64 0, .int .i64 0, .int .i64 0, .int .i64 0, .int .i64 0, .int .u32 0, .int .i64 0] 34)
  have h1 := blk_new (w.alloc (.cells #[.slice A l.length c, .int .i64 p] 70)) (.cells #[.int .i64 0, .int .i64 0, .int .i64 0, .bool false, .int .i64 0, .int .i64 0, .int .i64 0, .int .i64 0, .int .i64 0, .int .u32 0, .int .i64 0] 34)
  rw [sz1] at h1
  have hS := q3 (blk_new w (.cells #[.slice A l.length c, .int .i64 p] 70)) (.cells #[.int .i64 0, .int .i64 0, .int .i64 0, .bool false, .int .i64 0, .int .i64 0, .int .i64 0, .int .i64 0, .int .i64 0, .int .u32 0, .int .i64 0] 34)
  have HC := Aside0.mk (Kd.C_alloc (Kd.C_alloc hC (.cells #[.slice A l.length c, .int .i64 p] 70)) (.cells #[.int .i64 0, .int .i64 0, .int .i64 0, .bool false, .int .i64 0, .int .i64 0, .int .i64 0, .int .i64 0, .int .i64 0, .int .u32 0, .int .i64 0] 34))
  have HF := Aside0.mk (find_calls (c := c) HC.out p a)
  rw [hf] at HF
  have hz := ck2 hS
  have HB := Aside0.mk hB
  have H1 := Aside0.mk h1
  have HS := Aside0.mk hS
  clear hB h1 hS hC hf
  go_enter Try.func47, Try.ntmps47
  go_wp2_with fail
  refine HF.out.mono ?_
  rintro e w5 ⟨rfl, hb⟩
  have BR5 := Aside0.mk (blk_below H1.out hb)
  have BS5 := Aside0.mk (blk_below HS.out hb)
  have HB5 := Aside0.mk (below_step HB.out hb)
  obtain ⟨ad, rfl, h0, h1, h2, h3, h4, h5, h6, h7, h8, h9, h10⟩ := at_T34 (Kd.C_below HC.out hb) (i : Int) (by omega) (by omega)
  obtain ⟨y, hy⟩ : ∃ y, y = rd_T34 l (i : Int) := ⟨_, rfl⟩
  rw [← hy] at h0 h1 h2 h3 h4 h5 h6 h7 h8 h9 h10
  have HY := Aside0.mk (show l.getD i z34 = y from by rw [hy]; unfold rd_T34; rw [Int.toNat_natCast])
  rw [Int.toNat_natCast] at h0 h1 h2 h3 h4 h5 h6 h7 h8 h9 h10
  have hji : (i : Int) < (l.length : Int) := by omega
  clear hb hz hy
  have hz := ck2 BS5.out
  have hx := cc11 BR5.out
  have he : errW none = Value.nilIface := rfl
  simp only [he]
  clear he
  go_wp2_with fail
  have hs : w.heap.size ≤ w.heap.size + 1 := by omega
  refine bodyPost_ret (results_ct rfl _ _ (w.heap.size + 1) 34 #[.int .i64 y.f0.f0, .int .i64 y.f0.f1, .int .i64 y.f0.f2, .bool y.f0.f3, .int .i64 y.f1.f0, .int .i64 y.f1.f1, .int .i64 y.f1.f2, .int .i64 y.f2, .int .i64 y.f3, .int .u32 y.f4, .int .i64 y.f5] (0, 0) _ rfl (put11 BR5.out) Try.underlying34 rfl (by kernel_rfl)) rfl ?_
  rw [HY.out]
  exact ⟨rfl, bel11 HB5.out hs⟩
def getL (l : List S34) (p a : Int) : S34 × Bool :=
  match fnd l p a with
  | (q, none) => (l.getD q.toNat z34, true)
  | (_, some _) => (z34, false)
theorem get_calls {w : World} {A : Option Addr} {c : Nat} {l : List S34} (hC : Kd.C k34 w A l.length l) (p a : Int) :
    Calls Try.prog 47 #[.agg #[.slice A l.length c, .int .i64 p], .int .i64 a] w fun e w' => e = .returned (.tuple #[.agg (cs34 (getL l p a).1).toArray, .bool (getL l p a).2]) ∧ Below w.heap.size w w' := by
  unfold getL
  rcases fnd_at l p a with ⟨e, he⟩ | ⟨i, hi, he, _⟩
  · rw [he]; exact get_err hC p a e he
  · rw [he]; exact get_ok hC p a i hi he
end Go.Proofs.Ytblooffiggciiaa.Ps
/- PsV -/
namespace Go.Proofs.Ytblooffiggciiaa.Ps
open Go.RowKit Go.Shelf Go.Proofs.Ytblooffiggciiaa.PPs Go.Proofs.YtblooffiggciiaaW.PrintWords Go.Proofs.YtblooffiggciiaaW.PrintLast Go.Proofs.YtblooffiggciiaaW.PrintMore Go.Proofs.Ytblooffiggciiaa.Sh
theorem wide_fn (f : FuncId) : Fence.wide.fn f = True := rfl
attribute [local go_sem] Oper.semAt_some wide_fn
def seqF (xs : List S34) (i : Nat) : List S34 := (List.range' 1 (xs.length - 1)).map fun k => xs.getD ((i + k) % xs.length) z34
theorem seqF_len (xs : List S34) (i : Nat) : (seqF xs i).length = xs.length - 1 := by simp [seqF]
theorem seqF_take (xs : List S34) (i k : Nat) (h : k + 1 < xs.length) : (seqF xs i).take (k + 1) = (seqF xs i).take k ++ [xs.getD ((i + (k + 1)) % xs.length) z34] := by
  have hl : k < (seqF xs i).length := by rw [seqF_len]; omega
  rw [List.take_succ_eq_append_getElem hl]
  congr 2
  simp [seqF, Nat.add_comm 1 k]
set_option maxRecDepth 100000 in
set_option maxHeartbeats 4000000 in
theorem from_in (n : Nat) (hn : 1 ≤ n) (l Bs Bi : Nat) (w0 : World) (A : Option Addr) (c : Nat) (xs : List S34) (p : Int) (i : Nat) (hi : i < xs.length) (hl : xs.length ≤ 1000) (J Jx : List S34 → World → Prop)
    (hY : ∀ pre x W, J pre W → pre.length < xs.length - 1 → YieldAt Fence.wide (n - 1) Try.prog l #[.agg (cs34 x).toArray] W fun e W' =>
      (e = .returned (.bool true) ∧ J (pre ++ [x]) W' ∧ Below w0.heap.size W W') ∨ (e = .returned (.bool false) ∧ Jx (pre ++ [x]) W'))
    (W : World) (hW : Below w0.heap.size w0 W) (hBs : w0.heap[Bs]? = some (.cells #[.slice A xs.length c, .int .i64 p] 70 (0, 0))) (hBi : w0.heap[Bi]? = some (.cells #[.int .i64 i] 3 (0, 0))) (hC : Kd.C k34 w0 A xs.length xs) (h0 : J [] W) (hJd : ∀ pre W m, J pre W → J pre (W.drewN m)) :
    CallsIn Fence.wide n Try.prog 104 #[.func (.yield l) #[] #[], .pointer (some ⟨Bs, 0, none⟩), .pointer (some ⟨Bi, 0, none⟩)] W fun e W' => (∃ v, e = .returned v) ∧
      ((∃ ys, ys = seqF xs i ∧ J ys W') ∨ (∃ pre, (∃ k, k ≤ (seqF xs i).length ∧ pre = (seqF xs i).take k) ∧ Jx pre W')) := by
  have HY := Aside0.mk hY
  have HJD := Aside0.mk hJd
  have HC := Aside0.mk hC
  have H0 := Aside0.mk h0
  have HBS := Aside0.mk hBs
  have HBI := Aside0.mk hBi
  have HW := Aside0.mk hW
  clear hY hJd hBs hBi hC h0 hW
  refine callsIn_of_wp Try.func104 rfl (by trivial) ?_ rfl
  simp only [Try.ntmps104, List.size_toArray, List.length_cons, List.length_nil, Nat.reduceAdd, Nat.reduceSub, Array.replicate_succ, Array.replicate_zero, List.push_toArray, List.append_toArray, List.nil_append, List.cons_append]
  gi_wp2
  gi_loopw [4] (fun v wr => ∃ (k : Nat), k + 1 ≤ xs.length ∧ v = .int .i64 ((k + 1 : Nat) : Int) ∧ Aside0 (J ((seqF xs i).take k) wr) ∧ Aside0 (Below w0.heap.size w0 wr))
    (fun v _ => xs.length - (intOf v).toNat)
  case atStart => exact ⟨0, by omega, rfl, H0, HW⟩
  case round =>
    obtain ⟨k, hk, rfl, HJ, HN⟩ := hrel
    have hb1 := ck2 (blk_below HBS.out HN.out)
    have hb2 := ck1 (blk_below HBI.out HN.out)
    by_cases hlt : k + 1 < xs.length
    · have hlt2 : ((k + 1 : Nat) : Int) < (xs.length : Int) := by omega
      have hd : decide (((k + 1 : Nat) : Int) < (xs.length : Int)) = true := decide_eq_true hlt2
      obtain ⟨r, hr⟩ : ∃ r, r = (i + (k + 1)) % xs.length := ⟨_, rfl⟩
      have hrl : r < xs.length := by rw [hr]; exact Nat.mod_lt _ (by omega)
      have hrw : Int.tmod ((i : Int) + ((k + 1 : Nat) : Int)) (xs.length : Int) = (r : Int) := by
        rw [hr, Int.tmod_eq_emod_of_nonneg (by omega)]; norm_cast
      obtain ⟨ad, rfl, h0, h1, h2, h3, h4, h5, h6, h7, h8, h9, h10⟩ := at_T34 (Kd.C_below HC.out HN.out) (r : Int) (by omega) (by omega)
      obtain ⟨y, hy⟩ : ∃ y, y = rd_T34 xs (r : Int) := ⟨_, rfl⟩
      rw [← hy] at h0 h1 h2 h3 h4 h5 h6 h7 h8 h9 h10
      have HTK := Aside0.mk (show (seqF xs i).take (k + 1) = (seqF xs i).take k ++ [y] by
        rw [seqF_take xs i k hlt, ← hr, hy]; unfold rd_T34; rw [Int.toNat_natCast])
      rw [Int.toNat_natCast] at h0 h1 h2 h3 h4 h5 h6 h7 h8 h9 h10
      clear hy hr
      have HYK := Aside0.mk (HY.out ((seqF xs i).take k) y (wr.drewN 1) (HJD.out _ _ _ HJ.out) (by rw [List.length_take, seqF_len]; omega))
      obtain ⟨fn, tmps, assign, body, hy, hR⟩ := HYK.out
      have hR2 := Aside0.mk (hR.mono (fun e W' h => (show ∃ b : Bool, e = .returned (.bool b) ∧ Aside0 ((b = true ∧ J ((seqF xs i).take k ++ [y]) W' ∧ Below w0.heap.size (wr.drewN 1) W') ∨ (b = false ∧ Jx ((seqF xs i).take k ++ [y]) W')) from by
        rcases h with ⟨rfl, h1, h2⟩ | ⟨rfl, h⟩
        · exact ⟨true, rfl, ⟨.inl ⟨rfl, h1, h2⟩⟩⟩
        · exact ⟨false, rfl, ⟨.inr ⟨rfl, h⟩⟩⟩)))
      have hy2 : Sem.run Try.prog (Instr.yield l #[.agg #[.int .i64 y.f0.f0, .int .i64 y.f0.f1, .int .i64 y.f0.f2, .bool y.f0.f3, .int .i64 y.f1.f0, .int .i64 y.f1.f1, .int .i64 y.f1.f2, .int .i64 y.f2, .int .i64 y.f3, .int .u32 y.f4, .int .i64 y.f5]]) wr.drew = .ok (.round l fn tmps assign body) wr.drew := hy
      clear hR HYK hy
      obtain ⟨K, hK⟩ : ∃ K : Int, K = ((k + 1 : Nat) : Int) := ⟨_, rfl⟩
      rw [← hK] at hlt2 hrw hd
      rw [← hK]
      have HK := Aside0.mk hK
      obtain ⟨S, hS⟩ : ∃ S : Int, S = (i : Int) + K := ⟨_, rfl⟩
      have hsum : IntKind.i64.wrap ((i : Int) + K) = S := by rw [IntKind.wrap_i64, hS]; omega
      have hsum2 : wrap64 ((i : Int) + K) = S := by unfold wrap64; omega
      rw [← hS] at hrw
      have hm1 : IntKind.i64.wrap (Int.tmod S (xs.length : Int)) = (r : Int) := by rw [hrw, IntKind.wrap_i64]; omega
      have hm2 : wrap64 (Int.tmod S (xs.length : Int)) = (r : Int) := by rw [hrw]; unfold wrap64; omega
      have hr0 : (0 : Int) ≤ (r : Int) := by omega
      have hr1 : (r : Int) < (xs.length : Int) := by omega
      have HKK := Aside0.mk (show wrap64 (K + 1) = ((k + 1 + 1 : Nat) : Int) by rw [hK]; unfold wrap64; omega)
      clear hK hS
      have hne0 : ¬ ((xs.length : Int) = 0) := by omega
      have hne1 : ((xs.length : Int) == 0) = false := beq_eq_false_iff_ne.mpr hne0
      have hne2 : ¬ xs = [] := fun h => by rw [h] at hlt; exact absurd hlt (by simp)
      have hne3 : ¬ (xs.length = 0) := by omega
      gi_wp2
      gi_region_with (first | (refine hR2.out.mono ?_; rintro e W3 ⟨b, rfl, HB3⟩))
      all_goals (rcases HB3.out with ⟨rfl, hJ3, hk3⟩ | ⟨rfl, hJx3⟩)
      all_goals gi_wp2
      all_goals first
        | (refine bodyPost_ret (results_none rfl _ _ _) rfl ?_; exact ⟨⟨_, rfl⟩, .inr ⟨(seqF xs i).take (k + 1), ⟨k + 1, by rw [seqF_len]; omega, rfl⟩, by rw [HTK.out]; exact hJx3⟩⟩)
        | exact ⟨⟨k + 1, by omega, (by rw [HKK.out]), ⟨by rw [HTK.out]; exact hJ3⟩, ⟨(HN.out.trans (pw_below_drewN (Below.refl _ _) 1)).trans hk3⟩⟩, by rw [HKK.out, HK.out]; simp [intOf]; omega⟩
        | trace_state
    · have hke : k + 1 = xs.length := by omega
      have hJe : J (seqF xs i) wr := by
        have h := HJ.out
        rw [List.take_of_length_le (by rw [seqF_len]; omega)] at h
        exact h
      have HJe := Aside0.mk hJe
      have HKE := Aside0.mk hke
      obtain ⟨K, hK⟩ : ∃ K : Int, K = ((k + 1 : Nat) : Int) := ⟨_, rfl⟩
      rw [← hK]
      have hlt2 : ¬ (K < (xs.length : Int)) := by omega
      clear hJe hke hK
      gi_wp2
      go_end0
      exact ⟨⟨_, rfl⟩, .inl HJe.out⟩
end Go.Proofs.Ytblooffiggciiaa.Ps
/- PsW -/
namespace Go.Proofs.Ytblooffiggciiaa.Ps
open Go.RowKit Go.Shelf Go.Proofs.Ytblooffiggciiaa.PPs Go.Proofs.YtblooffiggciiaaW.PrintWords Go.Proofs.YtblooffiggciiaaW.PrintLast Go.Proofs.YtblooffiggciiaaW.PrintMore Go.Proofs.Ytblooffiggciiaa.Sh
attribute [local go_sem] Oper.semAt_some wide_fn
theorem from_calls (w : World) (A : Option Addr) (m c : Nat) (p i : Int) : Calls Try.prog 99 #[.agg #[.slice A m c, .int .i64 p], .int .i64 i] w fun e w' => e = .returned (.func (.func 104) #[] #[.pointer (some ⟨w.heap.size, 0, none⟩), .pointer (some ⟨w.heap.size + 1, 0, none⟩)]) ∧ w' = (w.alloc (.cells #[.slice A m c, .int .i64 p] 70)).alloc (.cells #[.int .i64 i] 3) := by
  go_enter Try.func99, Try.ntmps99
  go_wp2
  go_ret
  exact ⟨rfl, rfl⟩
theorem gb_drewN (W : World) (m : Nat) : W.grownBy (W.drewN m) none := ⟨rfl, rfl, rfl, Nat.le_refl _, fun _ _ _ => rfl⟩
theorem from_stops (n : Nat) (hn : 1 ≤ n) {Bs Bi : Nat} {w0 : World} {A : Option Addr} {c : Nat} {xs : List S34} {p : Int} {i : Nat} (hi : i < xs.length) (hl : xs.length ≤ 1000)
    (hBs : w0.heap[Bs]? = some (.cells #[.slice A xs.length c, .int .i64 p] 70 (0, 0))) (hBi : w0.heap[Bi]? = some (.cells #[.int .i64 i] 3 (0, 0))) (hC : Kd.C k34 w0 A xs.length xs) :
    SeqStopsK Fence.wide n Try.prog 104 #[.pointer (some ⟨Bs, 0, none⟩), .pointer (some ⟨Bi, 0, none⟩)] (fun x : S34 => #[.agg (cs34 x).toArray]) (fun W W' => Below w0.heap.size W W') (fun ys => ys = seqF xs i) (fun pre => ∃ k, k ≤ (seqF xs i).length ∧ pre = (seqF xs i).take k) (xs.length - 1) w0 :=
  fun l J Jx W hW hJ _ hY h0 => from_in n hn l Bs Bi w0 A c xs p i hi hl J Jx hY W hW hBs hBi hC h0
    (fun pre W m h => hJ pre W _ none h (gb_drewN W m) (fun r e => by cases e))
def otherL (xs : List S34) (i : Nat) : S34 := ((seqF xs i).find? fun x => decide (Ac x)).getD (xs.getD i z34)
theorem gb_blk {a b : World} {r : Option Nat} (h : a.grownBy b r) {k : Nat} {o : Obj} (hk : a.heap[k]? = some o) (hn : some k ≠ r) : b.heap[k]? = some o := (h.block k (blk_lt hk) hn).trans hk
end Go.Proofs.Ytblooffiggciiaa.Ps
/- PsX -/
namespace Go.Proofs.Ytblooffiggciiaa.Ps
open Go.RowKit Go.Shelf Go.Proofs.Ytblooffiggciiaa.PPs Go.Proofs.YtblooffiggciiaaW.PrintWords Go.Proofs.YtblooffiggciiaaW.PrintLast Go.Proofs.YtblooffiggciiaaW.PrintMore Go.Proofs.Ytblooffiggciiaa.Sh
attribute [local go_sem] Oper.semAt_some wide_fn
theorem far11 {W : World} {g g' : Nat} {o : Obj} {y0 y1 y2 y3 y4 y5 y6 y7 y8 y9 y10 : Value} (h : W.heap[g']? = some o) (hn : g' ≠ g) : (((((((((((W.setCell ⟨g, 0, none⟩ y0).setCell ⟨g, 1, none⟩ y1).setCell ⟨g, 2, none⟩ y2).setCell ⟨g, 3, none⟩ y3).setCell ⟨g, 4, none⟩ y4).setCell ⟨g, 5, none⟩ y5).setCell ⟨g, 6, none⟩ y6).setCell ⟨g, 7, none⟩ y7).setCell ⟨g, 8, none⟩ y8).setCell ⟨g, 9, none⟩ y9).setCell ⟨g, 10, none⟩ y10).heap[g']? = some o := by
  iterate 11 refine (Below.heap_setCell _ _ _ g' hn).trans ?_
  exact h
theorem kf_below {W W' : World} (B : Nat) (h : Below W.heap.size W W') : KeepsFrom B W W' := ⟨h.size, fun k o _ hk _ => (h.block k (blk_lt hk)).trans hk⟩
theorem kf_set {B : Nat} {W W' : World} (h : KeepsFrom B W W') {q : Addr} (hq : q.block < B) (v : Value) : KeepsFrom B W (W'.setCell q v) :=
  ⟨by have := h.size; simpa [World.setCell] using this, fun k o hk h1 h2 => (Below.heap_setCell W' q v k (by omega)).trans (h.same k o hk h1 h2)⟩
theorem kf11 {B : Nat} {W w : World} {g : Nat} {y0 y1 y2 y3 y4 y5 y6 y7 y8 y9 y10 : Value} (h : KeepsFrom B W w) (hg : g < B) : KeepsFrom B W (((((((((((w.setCell ⟨g, 0, none⟩ y0).setCell ⟨g, 1, none⟩ y1).setCell ⟨g, 2, none⟩ y2).setCell ⟨g, 3, none⟩ y3).setCell ⟨g, 4, none⟩ y4).setCell ⟨g, 5, none⟩ y5).setCell ⟨g, 6, none⟩ y6).setCell ⟨g, 7, none⟩ y7).setCell ⟨g, 8, none⟩ y8).setCell ⟨g, 9, none⟩ y9).setCell ⟨g, 10, none⟩ y10) :=
  kf_set (kf_set (kf_set (kf_set (kf_set (kf_set (kf_set (kf_set (kf_set (kf_set (kf_set h hg _) hg _) hg _) hg _) hg _) hg _) hg _) hg _) hg _) hg _) hg _
theorem bg11 {B : Nat} {W w : World} {g : Nat} {y0 y1 y2 y3 y4 y5 y6 y7 y8 y9 y10 : Value} (h : Below B W w) (hg : B ≤ g) : Below B W (((((((((((w.setCell ⟨g, 0, none⟩ y0).setCell ⟨g, 1, none⟩ y1).setCell ⟨g, 2, none⟩ y2).setCell ⟨g, 3, none⟩ y3).setCell ⟨g, 4, none⟩ y4).setCell ⟨g, 5, none⟩ y5).setCell ⟨g, 6, none⟩ y6).setCell ⟨g, 7, none⟩ y7).setCell ⟨g, 8, none⟩ y8).setCell ⟨g, 9, none⟩ y9).setCell ⟨g, 10, none⟩ y10) :=
  Below.setCell (Below.setCell (Below.setCell (Below.setCell (Below.setCell (Below.setCell (Below.setCell (Below.setCell (Below.setCell (Below.setCell (Below.setCell h hg _) hg _) hg _) hg _) hg _) hg _) hg _) hg _) hg _) hg _) hg _
set_option maxRecDepth 100000 in
set_option maxHeartbeats 4000000 in
theorem other_calls {w : World} {A : Option Addr} {c : Nat} {xs : List S34} (hC : Kd.C k34 w A xs.length xs) (p : Int) (i : Nat) (hi : i < xs.length) (hl : xs.length ≤ 1000) :
    Calls Try.prog 87 #[.agg #[.slice A xs.length c, .int .i64 p], .int .i64 i] w fun e w' => e = .returned (.agg (cs34 (otherL xs i)).toArray) ∧ Below w.heap.size w w' := by
  have hB := b1 (b1 (b1 (b1 (Below.refl w.heap.size w) (.cells #[.slice A xs.length c, .int .i64 p] 70)) (.cells #[.int .i64 0, .int .i64 0, .int .i64 0, .bool false, .int .i64 0, .int .i64 0, .int .i64 0, .int .i64 0, .int .i64 0, .int .u32 0, .int .i64 0] 34)) (.cells #[.slice A xs.length c, .int .i64 p] 70)) (.cells #[.int .i64 i] 3)
  have h3 := q3 (q3 (q3 (blk_new w (.cells #[.slice A xs.length c, .int .i64 p] 70)) (.cells #[.int .i64 0, .int .i64 0, .int .i64 0, .bool false, .int .i64 0, .int .i64 0, .int .i64 0, .int .i64 0, .int .i64 0, .int .u32 0, .int .i64 0] 34)) (.cells #[.slice A xs.length c, .int .i64 p] 70)) (.cells #[.int .i64 i] 3)
  have h4 := q3 (q3 (blk_new (w.alloc (.cells #[.slice A xs.length c, .int .i64 p] 70)) (.cells #[.int .i64 0, .int .i64 0, .int .i64 0, .bool false, .int .i64 0, .int .i64 0, .int .i64 0, .int .i64 0, .int .i64 0, .int .u32 0, .int .i64 0] 34)) (.cells #[.slice A xs.length c, .int .i64 p] 70)) (.cells #[.int .i64 i] 3)
  have h5 := q3 (blk_new ((w.alloc (.cells #[.slice A xs.length c, .int .i64 p] 70)).alloc (.cells #[.int .i64 0, .int .i64 0, .int .i64 0, .bool false, .int .i64 0, .int .i64 0, .int .i64 0, .int .i64 0, .int .i64 0, .int .u32 0, .int .i64 0] 34)) (.cells #[.slice A xs.length c, .int .i64 p] 70)) (.cells #[.int .i64 i] 3)
  have h6 := blk_new (((w.alloc (.cells #[.slice A xs.length c, .int .i64 p] 70)).alloc (.cells #[.int .i64 0, .int .i64 0, .int .i64 0, .bool false, .int .i64 0, .int .i64 0, .int .i64 0, .int .i64 0, .int .i64 0, .int .u32 0, .int .i64 0] 34)).alloc (.cells #[.slice A xs.length c, .int .i64 p] 70)) (.cells #[.int .i64 i] 3)
  have hz := ck2 (q3 (blk_new w (.cells #[.slice A xs.length c, .int .i64 p] 70)) (.cells #[.int .i64 0, .int .i64 0, .int .i64 0, .bool false, .int .i64 0, .int .i64 0, .int .i64 0, .int .i64 0, .int .i64 0, .int .u32 0, .int .i64 0] 34))
  have hsz : ((((w.alloc (.cells #[.slice A xs.length c, .int .i64 p] 70)).alloc (.cells #[.int .i64 0, .int .i64 0, .int .i64 0, .bool false, .int .i64 0, .int .i64 0, .int .i64 0, .int .i64 0, .int .i64 0, .int .u32 0, .int .i64 0] 34)).alloc (.cells #[.slice A xs.length c, .int .i64 p] 70)).alloc (.cells #[.int .i64 i] 3)).heap.size = w.heap.size + 4 := by simp only [sz1]
  simp only [sz1] at h4 h5 h6
  have HC := Aside0.mk (Kd.C_alloc (Kd.C_alloc (Kd.C_alloc (Kd.C_alloc hC (.cells #[.slice A xs.length c, .int .i64 p] 70)) (.cells #[.int .i64 0, .int .i64 0, .int .i64 0, .bool false, .int .i64 0, .int .i64 0, .int .i64 0, .int .i64 0, .int .i64 0, .int .u32 0, .int .i64 0] 34)) (.cells #[.slice A xs.length c, .int .i64 p] 70)) (.cells #[.int .i64 i] 3))
  have HX := Aside0.mk (And.intro hB (And.intro h3 (And.intro h4 (And.intro h5 (And.intro h6 hsz)))))
  clear hB h3 h4 h5 h6 hsz hC
  refine (callsIn_wide (n := 10)).1 ?_
  refine callsIn_of_wp_marks Try.func87 rfl (by trivial) ?_ rfl
  refine wpIn_wide.2 ?_
  simp only [Try.ntmps87, List.size_toArray, List.length_cons, List.length_nil, Nat.reduceAdd, Nat.reduceSub, Array.replicate_succ, Array.replicate_zero, List.push_toArray, List.append_toArray, List.nil_append, List.cons_append]
  go_wp2_with (first | (go_at_call 99; refine (from_calls _ _ _ _ _ _).mono ?_; rintro e w' ⟨rfl, rfl⟩))
  obtain ⟨hB, h3, h4, h5, h6, hsz⟩ := HX.out
  have HCo := HC.out
  obtain ⟨W1, hW⟩ : ∃ W1, W1 = ((((w.alloc (.cells #[.slice A xs.length c, .int .i64 p] 70)).alloc (.cells #[.int .i64 0, .int .i64 0, .int .i64 0, .bool false, .int .i64 0, .int .i64 0, .int .i64 0, .int .i64 0, .int .i64 0, .int .u32 0, .int .i64 0] 34)).alloc (.cells #[.slice A xs.length c, .int .i64 p] 70)).alloc (.cells #[.int .i64 i] 3)) := ⟨_, rfl⟩
  rw [← hW] at hB h3 h4 h5 h6 hsz HCo ⊢
  clear hz HX HC hW
  obtain ⟨g, hg⟩ : ∃ g, g = w.heap.size := ⟨_, rfl⟩
  have HG := Aside0.mk hg
  rw [← hg] at hB h3 h4 h5 h6 hsz ⊢
  clear hg
  refine (wpIn_wide (n := 10)).1 ?_
  refine wpIn_rangeFunc_ownH (n := 10) rfl (by decide) (gf := 104) (lb := #[.pointer (some ⟨g + 1 + 1, 0, none⟩), .pointer (some ⟨g + 1 + 1 + 1, 0, none⟩)]) rfl (by trivial) (enters_of Try.func104 (by kernel_rfl) rfl)
    (from_stops 9 (by decide) hi hl h5 h6 HCo)
    (fun h h' => h.trans h') (fun W l o o' hle ho hc hw => belowK_b (w := W1) (Nat.le_refl _) W l o o' hle ho hc hw) (Below.refl _ _) (fun _ => rfl)
    (fun pre W => (((∀ x ∈ pre, ¬ Ac x) ∧ W.heap[g]? = some (.cells #[.slice A xs.length c, .int .i64 p] 70 (0, 0)) ∧ W.heap[g + 1]? = some (.cells #[.int .i64 0, .int .i64 0, .int .i64 0, .bool false, .int .i64 0, .int .i64 0, .int .i64 0, .int .i64 0, .int .i64 0, .int .u32 0, .int .i64 0] 34 (0, 0))) ∧ Below g w W) ∧ Below W1.heap.size W1 W)
    (fun e pre W => (e = .ret ∧ ∃ ys x, pre = ys ++ [x] ∧ (∀ y ∈ ys, ¬ Ac y) ∧ Ac x ∧ W.heap[g + 1]? = some (.cells (cs34 x).toArray 34 (0, 0))) ∧ Below g w W)
    (OwnFrom.and (OwnFrom.and (fun s A B row hs hg hr => ⟨hs.1, gb_blk hg hs.2.1 (fun e => by have := (hr _ e.symm).1; omega), gb_blk hg hs.2.2 (fun e => by have := (hr _ e.symm).1; omega)⟩) (ownFrom_below (Nat.le_of_eq HG.out) (by omega))) (ownFrom_below (Nat.le_refl _) (Nat.le_refl _)))
    (fun e => OwnFrom.and (fun s A B row hs hg hr => ⟨hs.1, by obtain ⟨ys, x, h1, h2, h3, h4⟩ := hs.2; exact ⟨ys, x, h1, h2, h3, gb_blk hg h4 (fun e => by have := (hr _ e.symm).1; omega)⟩⟩) (ownFrom_below (Nat.le_of_eq HG.out) (by omega)))
    ⟨⟨⟨fun x hx => absurd hx (by simp), h3, h4⟩, hB⟩, Below.refl _ _⟩
    (fun x a' W => ∃ B, W1.heap.size ≤ B ∧ a' = ({ tmps := #[.agg #[.slice A xs.length c, .int .i64 p], .int .i64 i, .pointer (some ⟨g, 0, none⟩), undef, .pointer (some ⟨g + 1, 0, none⟩), .pointer (some ⟨B, 0, none⟩), .agg #[.slice A xs.length c, .int .i64 p], .int .i64 i, .func (.func 104) #[] #[.pointer (some ⟨g + 1 + 1, 0, none⟩), .pointer (some ⟨g + 1 + 1 + 1, 0, none⟩)], .agg (cs34 x).toArray, undef, undef, undef, undef, undef, undef, undef, undef], defers := [] } : Act) ∧ W.heap[B]? = some (.cells (cs34 x).toArray 34 (0, 0)))
    (fun x a' => fun s A B row hs hg hr => by obtain ⟨D, h1, h2, h3⟩ := hs; exact ⟨D, h1, h2, gb_blk hg h3 (fun e => by obtain ⟨_, o, ho, hc⟩ := hr _ e.symm; rw [h3] at ho; injection ho with ho; subst ho; exact Bool.noConfusion (show true = false from hc))⟩)
    ?assign ?body ?done ?stop
  case assign =>
    intro l pre x W K hI hK
    have hs := hI.2.size
    have hgs : g ≤ W.heap.size := by omega
    unfold cs34 at hK ⊢
    gi_wp2
    refine hK _ _ (KeepsFrom.of_grownBy (World.grownBy_alloc W _ none) (fun _ e => by cases e)) ((Below.refl _ W).alloc hs _) ⟨⟨⟨hI.1.1.1, blk_alloc hI.1.1.2.1 _, blk_alloc hI.1.1.2.2 _⟩, hI.1.2.alloc hgs _⟩, hI.2.alloc hs _⟩ ⟨W.heap.size, hs, rfl, blk_new W _⟩
  case body =>
    rintro l pre x a' W hl ⟨r, hr⟩ hI ⟨D, hD, rfl, hP⟩ hpl
    have hp := ck11 hP
    have hx := cc11 hI.1.1.2.2
    have HA := Aside0.mk (active_calls x W)
    have hs := hI.2.size
    have hgs : g ≤ W.heap.size := by omega
    have hne : D ≠ g + 1 := by omega
    by_cases hax : Ac x
    · rw [decide_eq_true hax] at HA
      have HAX := Aside0.mk hax
      unfold cs34 at HA ⊢
      gi_wp2_with (first | (gi_at_call 21; refine (callsIn_wide.2 HA.out).mono ?_; rintro e w7 ⟨rfl, hb⟩; have BS := Aside0.mk (blk_below hI.1.1.2.1 hb); have BP := Aside0.mk (blk_below hP hb); have BR := Aside0.mk (blk_below hI.1.1.2.2 hb); have HB7 := Aside0.mk hb; have hp7 := ck11 BP.out; have hx7 := cc11 BR.out; clear hb))
      exact ⟨kf11 (kf_below _ HB7.out) (by omega), ⟨rfl, pre, x, rfl, hI.1.1.1, HAX.out, put11 BR.out⟩, bg11 (hI.1.2.trans (HB7.out.mono hgs)) (Nat.le_succ g)⟩
    · rw [decide_eq_false hax] at HA
      have HAX := Aside0.mk hax
      unfold cs34 at HA ⊢
      gi_wp2_with (first | (gi_at_call 21; refine (callsIn_wide.2 HA.out).mono ?_; rintro e w7 ⟨rfl, hb⟩; have BS := Aside0.mk (blk_below hI.1.1.2.1 hb); have BP := Aside0.mk (blk_below hP hb); have BR := Aside0.mk (blk_below hI.1.1.2.2 hb); have HB7 := Aside0.mk hb; have hp7 := ck11 BP.out; have hx7 := cc11 BR.out; clear hb))
      refine ⟨kf_below _ HB7.out, HB7.out.mono hs, ⟨⟨fun y hy => ?_, BS.out, BR.out⟩, hI.1.2.trans (HB7.out.mono hgs)⟩, hI.2.trans (HB7.out.mono hs)⟩
      rcases List.mem_append.1 hy with h | h
      · exact hI.1.1.1 y h
      · rw [List.mem_singleton] at h; rw [h]; exact HAX.out
  case done =>
    rintro D ys W hD hys hI hK
    obtain ⟨ad, rfl, e0, e1, e2, e3, e4, e5, e6, e7, e8, e9, e10⟩ := at_T34 (Kd.C_below HCo hI.2) (i : Int) (by omega) (by omega)
    obtain ⟨y, hy⟩ : ∃ y, y = rd_T34 xs (i : Int) := ⟨_, rfl⟩
    rw [← hy] at e0 e1 e2 e3 e4 e5 e6 e7 e8 e9 e10
    have HO := Aside0.mk (show otherL xs i = y from by
      unfold otherL
      rw [← hys, List.find?_eq_none.2 (fun z hz => by simpa using hI.1.1.1 z hz), hy]
      unfold rd_T34; rw [Int.toNat_natCast]; rfl)
    rw [Int.toNat_natCast] at e0 e1 e2 e3 e4 e5 e6 e7 e8 e9 e10
    have hx := ck2 hI.1.1.2.1
    have hr := cc11 hI.1.1.2.2
    have HR := Aside0.mk hI.1.1.2.2
    have HB := Aside0.mk hI.1.2
    have HK := Aside0.mk hK
    have hi2 : (i : Int) < (xs.length : Int) := by omega
    have hD2 : D ≠ g + 1 := by omega
    have hD3 : g ≤ D := by omega
    clear hK hI hys hy h3 h4 h5 h6 hB HCo
    go_wp2_with fail
    refine ⟨by simp, .inl ⟨_, _, rfl, run_takeDeferred (far11 HK.out hD2), ?_⟩⟩
    refine ⟨.agg #[.int .i64 y.f0.f0, .int .i64 y.f0.f1, .int .i64 y.f0.f2, .bool y.f0.f3, .int .i64 y.f1.f0, .int .i64 y.f1.f1, .int .i64 y.f1.f2, .int .i64 y.f2, .int .i64 y.f3, .int .u32 y.f4, .int .i64 y.f5], results_cell_row rfl _ _ (g + 1) 34 #[.int .i64 y.f0.f0, .int .i64 y.f0.f1, .int .i64 y.f0.f2, .bool y.f0.f3, .int .i64 y.f1.f0, .int .i64 y.f1.f1, .int .i64 y.f1.f2, .int .i64 y.f2, .int .i64 y.f3, .int .u32 y.f4, .int .i64 y.f5] (0, 0) _ rfl ((World.putObj_heap_other (show g + 1 ≠ D by omega)).trans (put11 HR.out)) Try.underlying34 rfl (by kernel_rfl), ?_, ?_⟩
    · rw [HO.out]; rfl
    · rw [← HG.out]
      exact (bg11 HB.out (Nat.le_succ g)).trans (belowK_b (w := W1) (by omega) _ D _ _ hD (far11 HK.out hD2) rfl rfl)
  case stop =>
    rintro D c2 pre W hD ⟨k, hk, hpre⟩ ⟨⟨rfl, ys, x, h1, h2, h3, h4⟩, hB⟩ hK
    have HO := Aside0.mk (show otherL xs i = x from by
      unfold otherL
      rw [← List.take_append_drop k (seqF xs i), ← hpre, h1, List.append_assoc, List.find?_append, List.find?_eq_none.2 (fun z hz => by simpa using h2 z hz)]
      simp [h3])
    have HK := Aside0.mk hK
    have HB := Aside0.mk hB
    have H4 := Aside0.mk h4
    have hD2 : D ≠ g + 1 := by omega
    clear hK hB h4 h1 h2 h3 hpre h5 h6 HCo
    gi_wp2
    refine ⟨by simp, .inl ⟨_, _, rfl, run_takeDeferred HK.out, ?_⟩⟩
    refine ⟨.agg (cs34 x).toArray, results_cell_row rfl _ _ (g + 1) 34 (cs34 x).toArray (0, 0) _ rfl ((World.putObj_heap_other (show g + 1 ≠ D by omega)).trans H4.out) Try.underlying34 rfl (by kernel_rfl), ?_, ?_⟩
    · rw [HO.out]
    · rw [← HG.out]
      exact HB.out.trans (belowK_b (w := W1) (by omega) _ D _ _ hD HK.out rfl rfl)
end Go.Proofs.Ytblooffiggciiaa.Ps
/- PsY -/
namespace Go.Proofs.Ytblooffiggciiaa.Ps
open Go.RowKit Go.Proofs.Ytblooffiggciiaa.PPs Go.Proofs.YtblooffiggciiaaW.PrintWords Go.Proofs.YtblooffiggciiaaW.PrintLast Go.Proofs.YtblooffiggciiaaW.PrintMore Go.Proofs.Ytblooffiggciiaa.Sh
attribute [local go_sem] Go.Proofs.Ytblooffiggciiaa.Aid.isSome_setCell
def PathR (w : World) (x : S34) (er : Option Int) (e : Ending) (w' : World) : Prop := e = .returned (.tuple #[.agg (cs34 x).toArray, errW er]) ∧ Below w.heap.size w w'
set_option maxHeartbeats 2000000 in
set_option maxRecDepth 100000 in
theorem use_err {w : World} {A : Option Addr} {c : Nat} {l : List S34} (hC : Kd.C k34 w A l.length l) (p : Int) (hg : gdb l p = false) :
    Calls Try.prog 45 #[.agg #[.slice A l.length c, .int .i64 p]] w (PathR w z34 (some 1)) := by
  have hB := b1 (b1 (Below.refl w.heap.size w) (.cells #[.slice A l.length c, .int .i64 p] 70)) (.cells #[.int .i64 0, .int .i64 0, .int .i64 0, .bool false, .int .i64 0, .int .i64 0, .int .i64 0, .int .i64 0, .int .i64 0, .int .u32 0, .int .i64 0] 34)
  have h1 := blk_new (w.alloc (.cells #[.slice A l.length c, .int .i64 p] 70)) (.cells #[.int .i64 0, .int .i64 0, .int .i64 0, .bool false, .int .i64 0, .int .i64 0, .int .i64 0, .int .i64 0, .int .i64 0, .int .u32 0, .int .i64 0] 34)
  rw [sz1] at h1
  have hS := q3 (blk_new w (.cells #[.slice A l.length c, .int .i64 p] 70)) (.cells #[.int .i64 0, .int .i64 0, .int .i64 0, .bool false, .int .i64 0, .int .i64 0, .int .i64 0, .int .i64 0, .int .i64 0, .int .u32 0, .int .i64 0] 34)
  have HC := Aside0.mk (Kd.C_alloc (Kd.C_alloc hC (.cells #[.slice A l.length c, .int .i64 p] 70)) (.cells #[.int .i64 0, .int .i64 0, .int .i64 0, .bool false, .int .i64 0, .int .i64 0, .int .i64 0, .int .i64 0, .int .i64 0, .int .u32 0, .int .i64 0] 34))
  have HF := Aside0.mk (setgood_calls (c := c) HC.out p)
  rw [hg] at HF
  have hz := ck2 hS
  have HB := Aside0.mk hB
  have H1 := Aside0.mk h1
  have HS := Aside0.mk hS
  clear hB h1 hS hC hg
  go_enter Try.func45, Try.ntmps45
  go_wp2_with fail
  refine HF.out.mono ?_
  rintro e w5 ⟨rfl, hb⟩
  have BR5 := Aside0.mk (blk_below H1.out hb)
  have BS5 := Aside0.mk (blk_below HS.out hb)
  have HB5 := Aside0.mk (below_step HB.out hb)
  have HC5 := Aside0.mk (Kd.C_below HC.out hb)
  clear hb hz
  have hz := cc11 BR5.out
  go_wp2_with fail
  have hs : w.heap.size ≤ w.heap.size + 1 := by omega
  refine bodyPost_ret (results_ct rfl _ _ (w.heap.size + 1) 34 #[.int .i64 0, .int .i64 0, .int .i64 0, .bool false, .int .i64 0, .int .i64 0, .int .i64 0, .int .i64 0, .int .i64 0, .int .u32 0, .int .i64 0] (0, 0) _ rfl (put11 BR5.out) Try.underlying34 rfl (by kernel_rfl)) rfl ?_
  exact ⟨rfl, bel11 HB5.out hs⟩
set_option maxHeartbeats 2000000 in
set_option maxRecDepth 100000 in
theorem use_prim {w : World} {A : Option Addr} {c : Nat} {l : List S34} (hC : Kd.C k34 w A l.length l) (p : Int) (hg : gdb l p = true) (hp0 : 0 ≤ p) (hp1 : p < l.length) (HA : Aside0 (Ac (l.getD p.toNat z34))) :
    Calls Try.prog 45 #[.agg #[.slice A l.length c, .int .i64 p]] w (PathR w (l.getD p.toNat z34) none) := by
  have hB := b1 (b1 (Below.refl w.heap.size w) (.cells #[.slice A l.length c, .int .i64 p] 70)) (.cells #[.int .i64 0, .int .i64 0, .int .i64 0, .bool false, .int .i64 0, .int .i64 0, .int .i64 0, .int .i64 0, .int .i64 0, .int .u32 0, .int .i64 0] 34)
  have h1 := blk_new (w.alloc (.cells #[.slice A l.length c, .int .i64 p] 70)) (.cells #[.int .i64 0, .int .i64 0, .int .i64 0, .bool false, .int .i64 0, .int .i64 0, .int .i64 0, .int .i64 0, .int .i64 0, .int .u32 0, .int .i64 0] 34)
  rw [sz1] at h1
  have hS := q3 (blk_new w (.cells #[.slice A l.length c, .int .i64 p] 70)) (.cells #[.int .i64 0, .int .i64 0, .int .i64 0, .bool false, .int .i64 0, .int .i64 0, .int .i64 0, .int .i64 0, .int .i64 0, .int .u32 0, .int .i64 0] 34)
  have HC := Aside0.mk (Kd.C_alloc (Kd.C_alloc hC (.cells #[.slice A l.length c, .int .i64 p] 70)) (.cells #[.int .i64 0, .int .i64 0, .int .i64 0, .bool false, .int .i64 0, .int .i64 0, .int .i64 0, .int .i64 0, .int .i64 0, .int .u32 0, .int .i64 0] 34))
  have HF := Aside0.mk (setgood_calls (c := c) HC.out p)
  rw [hg] at HF
  have hz := ck2 hS
  have HB := Aside0.mk hB
  have H1 := Aside0.mk h1
  have HS := Aside0.mk hS
  clear hB h1 hS hC hg
  go_enter Try.func45, Try.ntmps45
  go_wp2_with fail
  refine HF.out.mono ?_
  rintro e w5 ⟨rfl, hb⟩
  have BR5 := Aside0.mk (blk_below H1.out hb)
  have BS5 := Aside0.mk (blk_below HS.out hb)
  have HB5 := Aside0.mk (below_step HB.out hb)
  have HC5 := Aside0.mk (Kd.C_below HC.out hb)
  clear hb hz
  obtain ⟨i, rfl⟩ : ∃ i : Nat, p = i := ⟨p.toNat, by omega⟩
  obtain ⟨ad, rfl, h0, h1, h2, h3, h4, h5, h6, h7, h8, h9, h10⟩ := at_T34 HC5.out (i : Int) (by omega) (by omega)
  obtain ⟨y, hy⟩ : ∃ y, y = rd_T34 l (i : Int) := ⟨_, rfl⟩
  rw [← hy] at h0 h1 h2 h3 h4 h5 h6 h7 h8 h9 h10
  have hy2 : l.getD (i : Int).toNat z34 = y := by rw [hy]; rfl
  rw [hy2] at HA
  have HY := Aside0.mk hy2
  rw [Int.toNat_natCast] at h0 h1 h2 h3 h4 h5 h6 h7 h8 h9 h10
  have hji : (i : Int) < (l.length : Int) := by omega
  clear hy hy2
  have hz := ck2 BS5.out
  have HAc := Aside0.mk (active_calls y (w5.alloc (.cells #[.int .i64 y.f0.f0, .int .i64 y.f0.f1, .int .i64 y.f0.f2, .bool y.f0.f3, .int .i64 y.f1.f0, .int .i64 y.f1.f1, .int .i64 y.f1.f2, .int .i64 y.f2, .int .i64 y.f3, .int .u32 y.f4, .int .i64 y.f5] 34)))
  rw [decide_eq_true HA.out] at HAc
  go_wp2_with fail
  refine HAc.out.mono ?_
  rintro e w6 ⟨rfl, hb⟩
  have BR6 := Aside0.mk (blk_below (q3 BR5.out _) hb)
  have BP6 := Aside0.mk (blk_below (blk_new w5 (.cells #[.int .i64 y.f0.f0, .int .i64 y.f0.f1, .int .i64 y.f0.f2, .bool y.f0.f3, .int .i64 y.f1.f0, .int .i64 y.f1.f1, .int .i64 y.f1.f2, .int .i64 y.f2, .int .i64 y.f3, .int .u32 y.f4, .int .i64 y.f5] 34)) hb)
  have HB6 := Aside0.mk (below_step (b1 HB5.out _) hb)
  clear hb hz h0 h1 h2 h3 h4 h5 h6 h7 h8 h9 h10
  have hz := ck11 BP6.out
  have hx := cc11 BR6.out
  go_wp2_with fail
  have hs : w.heap.size ≤ w.heap.size + 1 := by omega
  refine bodyPost_ret (results_ct rfl _ _ (w.heap.size + 1) 34 #[.int .i64 y.f0.f0, .int .i64 y.f0.f1, .int .i64 y.f0.f2, .bool y.f0.f3, .int .i64 y.f1.f0, .int .i64 y.f1.f1, .int .i64 y.f1.f2, .int .i64 y.f2, .int .i64 y.f3, .int .u32 y.f4, .int .i64 y.f5] (0, 0) _ rfl (put11 BR6.out) Try.underlying34 rfl (by kernel_rfl)) rfl ?_
  rw [HY.out]
  exact ⟨rfl, bel11 HB6.out hs⟩
set_option maxHeartbeats 2000000 in
set_option maxRecDepth 100000 in
theorem use_other {w : World} {A : Option Addr} {c : Nat} {l : List S34} (hC : Kd.C k34 w A l.length l) (p : Int) (hg : gdb l p = true) (hp0 : 0 ≤ p) (hp1 : p < l.length) (hl : l.length ≤ 1000) (HA : Aside0 (¬ Ac (l.getD p.toNat z34))) :
    Calls Try.prog 45 #[.agg #[.slice A l.length c, .int .i64 p]] w (PathR w (otherL l p.toNat) none) := by
  have hB := b1 (b1 (Below.refl w.heap.size w) (.cells #[.slice A l.length c, .int .i64 p] 70)) (.cells #[.int .i64 0, .int .i64 0, .int .i64 0, .bool false, .int .i64 0, .int .i64 0, .int .i64 0, .int .i64 0, .int .i64 0, .int .u32 0, .int .i64 0] 34)
  have h1 := blk_new (w.alloc (.cells #[.slice A l.length c, .int .i64 p] 70)) (.cells #[.int .i64 0, .int .i64 0, .int .i64 0, .bool false, .int .i64 0, .int .i64 0, .int .i64 0, .int .i64 0, .int .i64 0, .int .u32 0, .int .i64 0] 34)
  rw [sz1] at h1
  have hS := q3 (blk_new w (.cells #[.slice A l.length c, .int .i64 p] 70)) (.cells #[.int .i64 0, .int .i64 0, .int .i64 0, .bool false, .int .i64 0, .int .i64 0, .int .i64 0, .int .i64 0, .int .i64 0, .int .u32 0, .int .i64 0] 34)
  have HC := Aside0.mk (Kd.C_alloc (Kd.C_alloc hC (.cells #[.slice A l.length c, .int .i64 p] 70)) (.cells #[.int .i64 0, .int .i64 0, .int .i64 0, .bool false, .int .i64 0, .int .i64 0, .int .i64 0, .int .i64 0, .int .i64 0, .int .u32 0, .int .i64 0] 34))
  have HF := Aside0.mk (setgood_calls (c := c) HC.out p)
  rw [hg] at HF
  have hz := ck2 hS
  have HB := Aside0.mk hB
  have H1 := Aside0.mk h1
  have HS := Aside0.mk hS
  clear hB h1 hS hC hg
  go_enter Try.func45, Try.ntmps45
  go_wp2_with fail
  refine HF.out.mono ?_
  rintro e w5 ⟨rfl, hb⟩
  have BR5 := Aside0.mk (blk_below H1.out hb)
  have BS5 := Aside0.mk (blk_below HS.out hb)
  have HB5 := Aside0.mk (below_step HB.out hb)
  have HC5 := Aside0.mk (Kd.C_below HC.out hb)
  clear hb hz
  obtain ⟨i, rfl⟩ : ∃ i : Nat, p = i := ⟨p.toNat, by omega⟩
  obtain ⟨ad, rfl, h0, h1, h2, h3, h4, h5, h6, h7, h8, h9, h10⟩ := at_T34 HC5.out (i : Int) (by omega) (by omega)
  obtain ⟨y, hy⟩ : ∃ y, y = rd_T34 l (i : Int) := ⟨_, rfl⟩
  rw [← hy] at h0 h1 h2 h3 h4 h5 h6 h7 h8 h9 h10
  have hy2 : l.getD (i : Int).toNat z34 = y := by rw [hy]; rfl
  rw [hy2] at HA
  have HY := Aside0.mk hy2
  rw [Int.toNat_natCast] at h0 h1 h2 h3 h4 h5 h6 h7 h8 h9 h10
  have hji : (i : Int) < (l.length : Int) := by omega
  clear hy hy2
  have hz := ck2 BS5.out
  have HAc := Aside0.mk (active_calls y (w5.alloc (.cells #[.int .i64 y.f0.f0, .int .i64 y.f0.f1, .int .i64 y.f0.f2, .bool y.f0.f3, .int .i64 y.f1.f0, .int .i64 y.f1.f1, .int .i64 y.f1.f2, .int .i64 y.f2, .int .i64 y.f3, .int .u32 y.f4, .int .i64 y.f5] 34)))
  rw [decide_eq_false HA.out] at HAc
  go_wp2_with fail
  refine HAc.out.mono ?_
  rintro e w6 ⟨rfl, hb⟩
  have BR6 := Aside0.mk (blk_below (q3 BR5.out _) hb)
  have BS6 := Aside0.mk (blk_below (q3 BS5.out _) hb)
  have HB6 := Aside0.mk (below_step (b1 HB5.out _) hb)
  have HO := Aside0.mk (other_calls (c := c) (Kd.C_below (Kd.C_alloc HC5.out _) hb) (i : Int) i (by omega) hl)
  obtain ⟨u, hu⟩ : ∃ u, u = otherL l i := ⟨_, rfl⟩
  rw [← hu] at HO
  have HU := Aside0.mk hu
  clear hu hb hz h0 h1 h2 h3 h4 h5 h6 h7 h8 h9 h10
  have hz := ck2 BS6.out
  go_wp2_with fail
  refine HO.out.mono ?_
  rintro e w7 ⟨rfl, hb⟩
  have BR7 := Aside0.mk (blk_below BR6.out hb)
  have HB7 := Aside0.mk (below_step HB6.out hb)
  clear hb hz
  have hx := cc11 BR7.out
  unfold cs34
  go_wp2_with fail
  have hs : w.heap.size ≤ w.heap.size + 1 := by omega
  refine bodyPost_ret (results_ct rfl _ _ (w.heap.size + 1) 34 #[.int .i64 u.f0.f0, .int .i64 u.f0.f1, .int .i64 u.f0.f2, .bool u.f0.f3, .int .i64 u.f1.f0, .int .i64 u.f1.f1, .int .i64 u.f1.f2, .int .i64 u.f2, .int .i64 u.f3, .int .u32 u.f4, .int .i64 u.f5] (0, 0) _ rfl (put11 BR7.out) Try.underlying34 rfl (by kernel_rfl)) rfl ?_
  rw [Int.toNat_natCast, ← HU.out]
  exact ⟨rfl, bel11 HB7.out hs⟩
def useL (l : List S34) (p : Int) : S34 × Option Int :=
  if gdb l p = true then (if Ac (l.getD p.toNat z34) then (l.getD p.toNat z34, none) else (otherL l p.toNat, none)) else (z34, some 1)
theorem use_calls {w : World} {A : Option Addr} {c : Nat} {l : List S34} (hC : Kd.C k34 w A l.length l) (p : Int) (hl : l.length ≤ 1000) :
    Calls Try.prog 45 #[.agg #[.slice A l.length c, .int .i64 p]] w (PathR w (useL l p).1 (useL l p).2) := by
  unfold useL
  cases hg : gdb l p with
  | false => rw [if_neg (by simp)]; exact use_err hC p hg
  | true =>
    rw [if_pos rfl]
    have hp : 0 ≤ p ∧ p < l.length := by
      have h := hg
      unfold gdb at h
      simp only [Bool.and_eq_true, decide_eq_true_eq] at h
      exact h.1.1.2
    by_cases ha : Ac (l.getD p.toNat z34)
    · rw [if_pos ha]; exact use_prim hC p hg hp.1 hp.2 ⟨ha⟩
    · rw [if_neg ha]; exact use_other hC p hg hp.1 hp.2 hl ⟨ha⟩
end Go.Proofs.Ytblooffiggciiaa.Ps
/- PsZ -/
namespace Go.Proofs.Ytblooffiggciiaa.Ps
open Go.RowKit Go.Proofs.Ytblooffiggciiaa.PPs Go.Proofs.YtblooffiggciiaaW.PrintWords Go.Proofs.YtblooffiggciiaaW.PrintLast Go.Proofs.YtblooffiggciiaaW.PrintMore Go.Proofs.Ytblooffiggciiaa.Sh
attribute [local go_sem] Go.Proofs.Ytblooffiggciiaa.Aid.isSome_setCell
set_option maxHeartbeats 2000000 in
set_option maxRecDepth 100000 in
theorem again_err {w : World} {A : Option Addr} {c : Nat} {l : List S34} (hC : Kd.C k34 w A l.length l) (p a er : Int) (hl : l.length ≤ 1000) (hf : fnd l p a = (0, some er)) :
    Calls Try.prog 46 #[.agg #[.slice A l.length c, .int .i64 p], .int .i64 a] w (PathR w (useL l p).1 (useL l p).2) := by
  have hB := b1 (b1 (Below.refl w.heap.size w) (.cells #[.slice A l.length c, .int .i64 p] 70)) (.cells #[.int .i64 0, .int .i64 0, .int .i64 0, .bool false, .int .i64 0, .int .i64 0, .int .i64 0, .int .i64 0, .int .i64 0, .int .u32 0, .int .i64 0] 34)
  have h1 := blk_new (w.alloc (.cells #[.slice A l.length c, .int .i64 p] 70)) (.cells #[.int .i64 0, .int .i64 0, .int .i64 0, .bool false, .int .i64 0, .int .i64 0, .int .i64 0, .int .i64 0, .int .i64 0, .int .u32 0, .int .i64 0] 34)
  rw [sz1] at h1
  have hS := q3 (blk_new w (.cells #[.slice A l.length c, .int .i64 p] 70)) (.cells #[.int .i64 0, .int .i64 0, .int .i64 0, .bool false, .int .i64 0, .int .i64 0, .int .i64 0, .int .i64 0, .int .i64 0, .int .u32 0, .int .i64 0] 34)
  have HC := Aside0.mk (Kd.C_alloc (Kd.C_alloc hC (.cells #[.slice A l.length c, .int .i64 p] 70)) (.cells #[.int .i64 0, .int .i64 0, .int .i64 0, .bool false, .int .i64 0, .int .i64 0, .int .i64 0, .int .i64 0, .int .i64 0, .int .u32 0, .int .i64 0] 34))
  have HF := Aside0.mk (find_calls (c := c) HC.out p a)
  rw [hf] at HF
  have hz := ck2 hS
  have HB := Aside0.mk hB
  have H1 := Aside0.mk h1
  have HS := Aside0.mk hS
  clear hB h1 hS hC hf
  go_enter Try.func46, Try.ntmps46
  go_wp2_with fail
  refine HF.out.mono ?_
  rintro e w5 ⟨rfl, hb⟩
  have BR5 := Aside0.mk (blk_below H1.out hb)
  have BS5 := Aside0.mk (blk_below HS.out hb)
  have HB5 := Aside0.mk (below_step HB.out hb)
  have HC5 := Aside0.mk (Kd.C_below HC.out hb)
  clear hb hz
  have hz := ck2 BS5.out
  have HO := Aside0.mk (use_calls (c := c) HC5.out p hl)
  obtain ⟨u, hu⟩ : ∃ u, u = (useL l p).1 := ⟨_, rfl⟩
  obtain ⟨v, hv⟩ : ∃ v, v = errW (useL l p).2 := ⟨_, rfl⟩
  unfold PathR at HO
  rw [← hu, ← hv] at HO
  have HU := Aside0.mk hu
  have HV := Aside0.mk hv
  clear hu hv
  have he : errW (some er) = Value.iface 42 (.int .i64 er) := rfl
  simp only [he]
  clear he
  go_wp2_with fail
  refine HO.out.mono ?_
  rintro e w7 ⟨rfl, hb⟩
  have BR7 := Aside0.mk (blk_below BR5.out hb)
  have HB7 := Aside0.mk (below_step HB5.out hb)
  clear hb hz
  have hx := cc11 BR7.out
  unfold cs34
  go_wp2_with fail
  have hs : w.heap.size ≤ w.heap.size + 1 := by omega
  refine bodyPost_ret (results_ct rfl _ _ (w.heap.size + 1) 34 #[.int .i64 u.f0.f0, .int .i64 u.f0.f1, .int .i64 u.f0.f2, .bool u.f0.f3, .int .i64 u.f1.f0, .int .i64 u.f1.f1, .int .i64 u.f1.f2, .int .i64 u.f2, .int .i64 u.f3, .int .u32 u.f4, .int .i64 u.f5] (0, 0) _ rfl (put11 BR7.out) Try.underlying34 rfl (by kernel_rfl)) rfl ?_
  unfold PathR
  rw [← HU.out, ← HV.out]
  exact ⟨rfl, bel11 HB7.out hs⟩
set_option maxHeartbeats 2000000 in
set_option maxRecDepth 100000 in
theorem again_ok {w : World} {A : Option Addr} {c : Nat} {l : List S34} (hC : Kd.C k34 w A l.length l) (p a : Int) (hl : l.length ≤ 1000) (i : Nat) (hi : i < l.length) (hf : fnd l p a = ((i : Int), none)) :
    Calls Try.prog 46 #[.agg #[.slice A l.length c, .int .i64 p], .int .i64 a] w (PathR w (otherL l i) none) := by
  have hB := b1 (b1 (Below.refl w.heap.size w) (.cells #[.slice A l.length c, .int .i64 p] 70)) (.cells #[.int .i64 0, .int .i64 0, .int .i64 0, .bool false, .int .i64 0, .int .i64 0, .int .i64 0, .int .i64 0, .int .i64 0, .int .u32 0, .int .i64 0] 34)
  have h1 := blk_new (w.alloc (.cells #[.slice A l.length c, .int .i64 p] 70)) (.cells #[.int .i64 0, .int .i64 0, .int .i64 0, .bool false, .int .i64 0, .int .i64 0, .int .i64 0, .int .i64 0, .int .i64 0, .int .u32 0, .int .i64 0] 34)
  rw [sz1] at h1
  have hS := q3 (blk_new w (.cells #[.slice A l.length c, .int .i64 p] 70)) (.cells #[.int .i64 0, .int .i64 0, .int .i64 0, .bool false, .int .i64 0, .int .i64 0, .int .i64 0, .int .i64 0, .int .i64 0, .int .u32 0, .int .i64 0] 34)
  have HC := Aside0.mk (Kd.C_alloc (Kd.C_alloc hC (.cells #[.slice A l.length c, .int .i64 p] 70)) (.cells #[.int .i64 0, .int .i64 0, .int .i64 0, .bool false, .int .i64 0, .int .i64 0, .int .i64 0, .int .i64 0, .int .i64 0, .int .u32 0, .int .i64 0] 34))
  have HF := Aside0.mk (find_calls (c := c) HC.out p a)
  rw [hf] at HF
  have hz := ck2 hS
  have HB := Aside0.mk hB
  have H1 := Aside0.mk h1
  have HS := Aside0.mk hS
  clear hB h1 hS hC hf
  go_enter Try.func46, Try.ntmps46
  go_wp2_with fail
  refine HF.out.mono ?_
  rintro e w5 ⟨rfl, hb⟩
  have BR5 := Aside0.mk (blk_below H1.out hb)
  have BS5 := Aside0.mk (blk_below HS.out hb)
  have HB5 := Aside0.mk (below_step HB.out hb)
  have HC5 := Aside0.mk (Kd.C_below HC.out hb)
  clear hb hz
  have hz := ck2 BS5.out
  have HO := Aside0.mk (other_calls (c := c) HC5.out p i hi hl)
  obtain ⟨u, hu⟩ : ∃ u, u = otherL l i := ⟨_, rfl⟩
  rw [← hu] at HO
  have HU := Aside0.mk hu
  clear hu
  have he : errW none = Value.nilIface := rfl
  simp only [he]
  clear he
  go_wp2_with fail
  refine HO.out.mono ?_
  rintro e w7 ⟨rfl, hb⟩
  have BR7 := Aside0.mk (blk_below BR5.out hb)
  have HB7 := Aside0.mk (below_step HB5.out hb)
  clear hb hz
  have hx := cc11 BR7.out
  unfold cs34
  go_wp2_with fail
  have hs : w.heap.size ≤ w.heap.size + 1 := by omega
  refine bodyPost_ret (results_ct rfl _ _ (w.heap.size + 1) 34 #[.int .i64 u.f0.f0, .int .i64 u.f0.f1, .int .i64 u.f0.f2, .bool u.f0.f3, .int .i64 u.f1.f0, .int .i64 u.f1.f1, .int .i64 u.f1.f2, .int .i64 u.f2, .int .i64 u.f3, .int .u32 u.f4, .int .i64 u.f5] (0, 0) _ rfl (put11 BR7.out) Try.underlying34 rfl (by kernel_rfl)) rfl ?_
  rw [← HU.out]
  exact ⟨rfl, bel11 HB7.out hs⟩
def againL (l : List S34) (p a : Int) : S34 × Option Int :=
  match fnd l p a with
  | (q, none) => (otherL l q.toNat, none)
  | (_, some _) => useL l p
theorem again_calls {w : World} {A : Option Addr} {c : Nat} {l : List S34} (hC : Kd.C k34 w A l.length l) (p a : Int) (hl : l.length ≤ 1000) :
    Calls Try.prog 46 #[.agg #[.slice A l.length c, .int .i64 p], .int .i64 a] w (PathR w (againL l p a).1 (againL l p a).2) := by
  unfold againL
  rcases fnd_at l p a with ⟨e, he⟩ | ⟨i, hi, he, _⟩
  · rw [he]; exact again_err hC p a e hl he
  · rw [he]; exact again_ok hC p a hl i hi he
end Go.Proofs.Ytblooffiggciiaa.Ps
/- PsAa -/
namespace Go.Proofs.Ytblooffiggciiaa.Ps
open Go.RowKit Go.Proofs.Ytblooffiggciiaa.PPs
set_option maxRecDepth 100000
theorem ex_new : newL [1, 2, 3] = ([newS 1, newS 2, newS 3], 0, none) := by
  unfold newL
  rw [if_neg (by decide), if_pos (by intro a ha; simp at ha; rcases ha with rfl | rfl | rfl <;> decide), if_neg (by decide)]
  rfl
def six (x : S34) : S34 := failedS (failedS (failedS (failedS (failedS (failedS x)))))
def exP : S34 := six (newS 1)
theorem ex_put : putL [newS 1, newS 2, newS 3] 0 exP = ([exP, newS 2, newS 3], 0, none) := by kernel_rfl
theorem ex_use : useL [exP, newS 2, newS 3] 0 = (newS 2, none) := by kernel_rfl
theorem ex_again : againL [exP, newS 2, newS 3] 0 2 = (newS 3, none) := by kernel_rfl
end Go.Proofs.Ytblooffiggciiaa.Ps
/- PsAb -/
namespace Go.Proofs.Ytblooffiggciiaa.Ps
open Go.RowKit Go.Proofs.Ytblooffiggciiaa.PPs Go.Proofs.YtblooffiggciiaaW.PrintWords Go.Proofs.YtblooffiggciiaaW.PrintLast Go.Proofs.YtblooffiggciiaaW.PrintMore Go.Proofs.Ytblooffiggciiaa.Sh
attribute [local go_sem] Go.Proofs.Ytblooffiggciiaa.Aid.isSome_setCell
theorem ex_row (w : World) : Kd.C (Kd.int .i64) (w.alloc (.cells #[.int .i64 1, .int .i64 2, .int .i64 3] 26)) (some ⟨w.heap.size, 0, none⟩) [1, 2, 3].length [1, 2, 3] := by
  have hz := ck3 (blk_new w (.cells #[.int .i64 1, .int .i64 2, .int .i64 3] 26))
  refine ⟨rfl, by simp, fun _ => ⟨_, rfl, ?_⟩⟩
  intro j p hp
  refine ⟨[.int .i64 p], rfl, rfl, ?_⟩
  intro i u hu
  have hi : i = 0 ∧ u = .int .i64 p := by
    cases i with
    | zero => exact ⟨rfl, (Option.some.inj hu).symm⟩
    | succ i => simp at hu
  obtain ⟨rfl, rfl⟩ := hi
  rcases j with _ | _ | _ | j
  · cases hp; exact hz.1
  · cases hp; exact hz.2.1
  · cases hp; exact hz.2.2
  · simp at hp
def fl : Nat → S34 → S34
  | 0, x => x
  | k + 1, x => failedS (fl k x)
theorem fl_six (x : S34) : fl 6 x = six x := rfl
set_option maxHeartbeats 4000000 in
set_option maxRecDepth 100000 in
theorem alive_calls (w : World) : Calls Try.prog 35 #[] w fun e w' => e = .returned (.bool true) ∧ Below w.heap.size w w' := by
  have HN := Aside0.mk (setnew_calls (c := 3) (ex_row w))
  rw [ex_new] at HN
  have HB := Aside0.mk (b1 (Below.refl w.heap.size w) (.cells #[.int .i64 1, .int .i64 2, .int .i64 3] 26))
  go_enter Try.func35, Try.ntmps35
  go_wp2_with fail
  refine HN.out.mono ?_
  rintro e w1 ⟨v, rfl, hR, hb⟩
  obtain ⟨A, c, rfl⟩ := Kd.R_slice hR
  have HC1 := Aside0.mk (Kd.R_reads' hR).2.2
  have Hcc := Aside0.mk (Kd.R_reads' hR).2.1
  have HB1 := Aside0.mk (below_step HB.out hb)
  clear hb hR
  have he : errW none = Value.nilIface := rfl
  simp only [he]
  clear he
  have HX := Aside0.mk (blk_new w1 (.cells #[.slice A [newS 1, newS 2, newS 3].length c, .int .i64 0] 70))
  have HCa := Aside0.mk (Kd.C_alloc HC1.out (.cells #[.slice A [newS 1, newS 2, newS 3].length c, .int .i64 0] 70))
  obtain ⟨ad, rfl, h0, h1, h2, h3, h4, h5, h6, h7, h8, h9, h10⟩ := at_T34 HCa.out 0 (by decide) (by decide)
  have hadd : ad.add ((0 : Int).toNat * 11) = ad := by cases ad; rfl
  rw [hadd] at h0 h1 h2 h3 h4 h5 h6 h7 h8 h9 h10
  clear hadd
  obtain ⟨y, hy⟩ : ∃ y, y = rd_T34 [newS 1, newS 2, newS 3] 0 := ⟨_, rfl⟩
  rw [← hy] at h0 h1 h2 h3 h4 h5 h6 h7 h8 h9 h10
  have HY := Aside0.mk (show y = newS 1 from hy)
  obtain ⟨l, hl⟩ : ∃ l, l = [newS 1, newS 2, newS 3] := ⟨_, rfl⟩
  rw [← hl] at HX HC1 HCa Hcc h0 h1 h2 h3 h4 h5 h6 h7 h8 h9 h10 ⊢
  have hn : l.length = 3 := by rw [hl]; rfl
  rw [hn] at HX HC1 HCa Hcc h0 h1 h2 h3 h4 h5 h6 h7 h8 h9 h10 ⊢
  have HL := Aside0.mk hl
  clear hl hy hn
  have hz := ck2 HX.out
  go_wp2_with fail
  have BX0 := q3 HX.out (.cells (cs34 y).toArray 34)
  have BP0 := blk_new (w1.alloc (.cells #[.slice (some ad) 3 c, .int .i64 0] 70)) (.cells (cs34 y).toArray 34)
  have HB0 := b1 (b1 (Below.refl w1.heap.size w1) (.cells #[.slice (some ad) 3 c, .int .i64 0] 70)) (.cells (cs34 y).toArray 34)
  rw [sz1] at BP0
  unfold cs34 at BX0 BP0 HB0
  obtain ⟨W0, hW⟩ : ∃ W0, W0 = (w1.alloc (.cells #[.slice (some ad) 3 c, .int .i64 0] 70)).alloc (.cells #[.int .i64 y.f0.f0, .int .i64 y.f0.f1, .int .i64 y.f0.f2, .bool y.f0.f3, .int .i64 y.f1.f0, .int .i64 y.f1.f1, .int .i64 y.f1.f2, .int .i64 y.f2, .int .i64 y.f3, .int .u32 y.f4, .int .i64 y.f5] 34) := ⟨_, rfl⟩
  rw [← hW] at BX0 BP0 HB0 ⊢
  clear hW
  obtain ⟨g, hg⟩ : ∃ g, g = w1.heap.size := ⟨_, rfl⟩
  rw [← hg] at BX0 BP0 ⊢
  have HG := Aside0.mk hg
  clear HX h0 h1 h2 h3 h4 h5 h6 h7 h8 h9 h10 hz HCa hg
  go_loopw [25] (fun i wr => ∃ (j : Nat) (x : S34), j ≤ 6 ∧ i = .int .i64 (j : Nat) ∧ Aside0 (x = fl j y) ∧ Aside0 (Below w1.heap.size w1 wr) ∧ Aside0 (wr.heap[g]? = some (.cells #[.slice (some ad) 3 c, .int .i64 0] 70 (0, 0))) ∧ Aside0 (wr.heap[g + 1]? = some (.cells (cs34 x).toArray 34 (0, 0)))) (fun i _ => 6 - (intOf i).toNat)
  case atStart => exact ⟨0, y, by omega, rfl, ⟨rfl⟩, ⟨HB0⟩, ⟨BX0⟩, ⟨BP0⟩⟩
  case round =>
    clear BX0 BP0 HB0
    obtain ⟨j, x, hj, rfl, HF, HBr, BX, BP⟩ := hrel
    have hp := cc11 BP.out
    by_cases hlt : j < 6
    · have HFa := Aside0.mk (failed_calls x wr)
      obtain ⟨u, hu⟩ : ∃ u, u = failedS x := ⟨_, rfl⟩
      rw [← hu] at HFa
      have HU := Aside0.mk hu
      clear hu
      unfold cs34 at HFa
      have hj6 : (j : Int) < 6 := by omega
      go_wp2_with fail
      refine HFa.out.mono ?_
      rintro e w5 ⟨rfl, hb⟩
      have BX5 := Aside0.mk (blk_below BX.out hb)
      have BP5 := Aside0.mk (blk_below BP.out hb)
      have HB5 := Aside0.mk (below_step HBr.out hb)
      clear hb hp
      have hp := cc11 BP5.out
      go_wp2_with fail
      go_roundw
      case rel =>
        have hs : w1.heap.size ≤ g + 1 := by rw [HG.out]; omega
        refine ⟨j + 1, u, by omega, by go_num, ⟨?_⟩, ⟨bel11 HB5.out hs⟩, ⟨far11 BX5.out (by omega)⟩, ⟨put11 BP5.out⟩⟩
        rw [HU.out, HF.out]; rfl
      case measure => simp [intOf]; omega
    · obtain rfl : j = 6 := by omega
      have HE := Aside0.mk (show x = exP from by rw [HF.out, fl_six, HY.out]; rfl)
      have HLn := Aside0.mk (show l.length = 3 from by rw [HL.out]; rfl)
      have HPu := Aside0.mk (put_calls (w := wr) (A := some ad) (l := l) (c := c) (by rw [HLn.out]; exact Kd.C_below HC1.out HBr.out) (by rw [HLn.out]; exact Hcc.out) (by rw [HLn.out]; decide) 0 x)
      rw [HLn.out] at HPu
      rw [show putL l 0 x = ([exP, newS 2, newS 3], 0, none) from by rw [HL.out, HE.out]; exact ex_put] at HPu
      have hx := cc2 BX.out
      unfold cs34 at HPu
      go_wp2_with fail
      refine HPu.out.mono ?_
      rintro e w6 ⟨v2, rfl, hR, hb⟩
      obtain ⟨A2, c2, rfl⟩ := Kd.R_slice hR
      have BX6 := Aside0.mk (blk_below BX.out hb)
      have HB6 := Aside0.mk (below_step HBr.out hb)
      have hC7 := (Kd.R_reads' (rr2 (v := .slice A2 [exP, newS 2, newS 3].length c2) (q := .int .i64 0) hR BX6.out)).2.2
      have BX7 := Aside0.mk (put2 (v := .slice A2 [exP, newS 2, newS 3].length c2) (q := .int .i64 0) BX6.out)
      have HB7 := Aside0.mk (bel2 (v := .slice A2 [exP, newS 2, newS 3].length c2) (q := .int .i64 0) HB6.out (show w1.heap.size ≤ g from Nat.le_of_eq HG.out.symm))
      have HUs := use_calls (c := c2) hC7 0 (by decide)
      rw [ex_use] at HUs
      have HUs := Aside0.mk HUs
      have HC7 := Aside0.mk hC7
      clear hb hR hp hx hC7
      have hx := cc2 BX6.out
      have he : errW none = Value.nilIface := rfl
      simp only [he]
      clear he
      go_wp2_with fail
      refine HUs.out.mono ?_
      rintro e w8 ⟨rfl, hb⟩
      have BX8 := Aside0.mk (q3 (blk_below BX7.out hb) (.cells (cs34 (newS 2)).toArray 34))
      have BU8 := Aside0.mk (blk_new w8 (.cells (cs34 (newS 2)).toArray 34))
      have HB8 := Aside0.mk (b1 (below_step HB7.out hb) (.cells (cs34 (newS 2)).toArray 34))
      have hC8 := Kd.C_alloc (Kd.C_below HC7.out hb) (.cells (cs34 (newS 2)).toArray 34)
      have HAs := again_calls (c := c2) hC8 0 2 (by decide)
      rw [ex_again] at HAs
      have HAs := Aside0.mk HAs
      clear hb hx hC8
      unfold cs34 newS at BX8 BU8 HB8 HAs
      have hx := cc2 BX8.out
      unfold cs34 newS
      have he : errW none = Value.nilIface := rfl
      simp only [he]
      clear he
      go_wp2_with fail
      refine HAs.out.mono ?_
      rintro e w9 ⟨rfl, hb⟩
      have BU9 := Aside0.mk (q3 (blk_below BU8.out hb) (.cells (cs34 (newS 3)).toArray 34))
      have BV9 := Aside0.mk (blk_new w9 (.cells (cs34 (newS 3)).toArray 34))
      have HB9 := Aside0.mk (b1 (below_step HB8.out hb) (.cells (cs34 (newS 3)).toArray 34))
      clear hb hx
      unfold cs34 newS at BU9 BV9 HB9
      have hx := cc11 BU9.out
      have hy := cc11 BV9.out
      unfold cs34
      have he : errW none = Value.nilIface := rfl
      simp only [he]
      clear he
      go_wp2_with fail
      go_ret
      exact ⟨rfl, HB1.out.trans (HB9.out.mono (below_size HB1.out))⟩
end Go.Proofs.Ytblooffiggciiaa.Ps
/- PPsx42 -/
namespace Go.Proofs.Ytblooffiggciiaa.PPs
open Go.RowKit Go.Proofs.YtblooffiggciiaaW.PrintWords Go.Proofs.YtblooffiggciiaaW.PrintLast Go.Proofs.YtblooffiggciiaaW.PrintMore
attribute [local go_sem] max2_int min2_int max_two min_two max_three min_three max_four min_four   -- for this text's walks alone
attribute [local go_sem] Go.Proofs.Ytblooffiggciiaa.Aid.isSome_setCell
def weftlineref14_find.l0 : Nat → Int → Int → List (S29) → Int → Option (Int)
  | 0, _, _, _, _ => none
  | k + 1, x1, x5, x247000, x247001 => if x5 < (x247000.length : Int) then (if 0 ≤ x5 then (if ((rd_T29 x247000 x5).f2) = x1 then (some x5) else (weftlineref14_find.l0 k x1 (wrap64 (x5 + 1)) x247000 x247001)) else (none)) else (some (-1))
def weftlineref14_find.f (k : Nat) (l0_0 : List (S29)) (a0_1 : Int) (a1 : Int) : Option (Int) := weftlineref14_find.l0 k a1 0 l0_0 a0_1
end Go.Proofs.Ytblooffiggciiaa.PPs
/- PPsx43 -/
namespace Go.Proofs.Ytblooffiggciiaa.PPs
open Go.RowKit Go.Proofs.YtblooffiggciiaaW.PrintWords Go.Proofs.YtblooffiggciiaaW.PrintLast Go.Proofs.YtblooffiggciiaaW.PrintMore
attribute [local go_sem] max2_int min2_int max_two min_two max_three min_three max_four min_four   -- for this text's walks alone
attribute [local go_sem] Go.Proofs.Ytblooffiggciiaa.Aid.isSome_setCell
mutual
def weftlineref14_Good.j0 : Nat → Bool → List (S29) → Int → Option (Bool)
  | 0, _, _, _ => none
  | k + 1, x26, x249000, x249001 => if x26 = true then (some false) else (weftlineref14_Good.l0 k 0 x249000 x249001)
def weftlineref14_Good.l0 : Nat → Int → List (S29) → Int → Option (Bool)
  | 0, _, _, _ => none
  | k + 1, x3, x249000, x249001 => if x3 < (x249000.length : Int) then (if 0 ≤ x3 then ((weftlineref13_Good.f k ((rd_T29 x249000 x3).f0.f0) ((rd_T29 x249000 x3).f0.f1) ((rd_T29 x249000 x3).f0.f2) ((rd_T29 x249000 x3).f0.f3) ((rd_T29 x249000 x3).f1.f0) ((rd_T29 x249000 x3).f1.f1) ((rd_T29 x249000 x3).f1.f2) ((rd_T29 x249000 x3).f2) ((rd_T29 x249000 x3).f3) ((rd_T29 x249000 x3).f4) ((rd_T29 x249000 x3).f5)).bind fun t250 => (if t250 = true then ((weftlineref14_find.f k x249000 x249001 ((rd_T29 x249000 x3).f2)).bind fun t252 => (if t252 < x3 then (some false) else (weftlineref14_Good.l0 k (wrap64 (x3 + 1)) x249000 x249001))) else (some false))) else (none)) else (some true)
end
def weftlineref14_Good.f (k : Nat) (l0_0 : List (S29)) (a0_1 : Int) : Option (Bool) := if (l0_0.length : Int) < 1 then (weftlineref14_Good.j0 k true l0_0 a0_1) else (if (l0_0.length : Int) > 4 then (weftlineref14_Good.j0 k true l0_0 a0_1) else (if a0_1 < 0 then (weftlineref14_Good.j0 k true l0_0 a0_1) else (weftlineref14_Good.j0 k (decide (a0_1 ≥ (l0_0.length : Int))) l0_0 a0_1)))
end Go.Proofs.Ytblooffiggciiaa.PPs
/- PPsx1 -/
namespace Go.Proofs.Ytblooffiggciiaa.PPs
open Go.RowKit Go.Proofs.YtblooffiggciiaaW.PrintWords Go.Proofs.YtblooffiggciiaaW.PrintLast Go.Proofs.YtblooffiggciiaaW.PrintMore
attribute [local go_sem] max2_int min2_int max_two min_two max_three min_three max_four min_four   -- for this text's walks alone
attribute [local go_sem] Go.Proofs.Ytblooffiggciiaa.Aid.isSome_setCell
theorem eqA23 (d : Nat) (w : World) (x0 y0 : Int) (x1 y1 : Int) (x2 y2 : Int) (x3 y3 : Bool) :
    (Op.equalIn (d + 2) 23 (.agg #[.int .i64 x0, .int .i64 x1, .int .i64 x2, .bool x3]) (.agg #[.int .i64 y0, .int .i64 y1, .int .i64 y2, .bool y3])).run Try.prog w = .ok (x0 == y0 && (x1 == y1 && (x2 == y2 && (x3 == y3)))) w := by
  refine eqA_of Try.underlying23 (by kernel_rfl) ?_
  refine eqf_cons (by rfl) (by go_simp; rfl) (by go_simp; rfl) (by go_simp) ?_
  refine eqf_cons (by rfl) (by go_simp; rfl) (by go_simp; rfl) (by go_simp) ?_
  refine eqf_cons (by rfl) (by go_simp; rfl) (by go_simp; rfl) (by go_simp) ?_
  exact eqf_last (by rfl) (by go_simp; rfl) (by go_simp; rfl) (by go_simp)
theorem eqA25 (d : Nat) (w : World) (x0 y0 : Int) (x1 y1 : Int) (x2 y2 : Int) :
    (Op.equalIn (d + 2) 25 (.agg #[.int .i64 x0, .int .i64 x1, .int .i64 x2]) (.agg #[.int .i64 y0, .int .i64 y1, .int .i64 y2])).run Try.prog w = .ok (x0 == y0 && (x1 == y1 && (x2 == y2))) w := by
  refine eqA_of Try.underlying25 (by kernel_rfl) ?_
  refine eqf_cons (by rfl) (by go_simp; rfl) (by go_simp; rfl) (by go_simp) ?_
  refine eqf_cons (by rfl) (by go_simp; rfl) (by go_simp; rfl) (by go_simp) ?_
  exact eqf_last (by rfl) (by go_simp; rfl) (by go_simp; rfl) (by go_simp)
theorem eqA29 (d : Nat) (w : World) (x0 y0 : Int) (x1 y1 : Int) (x2 y2 : Int) (x3 y3 : Bool) (x4 y4 : Int) (x5 y5 : Int) (x6 y6 : Int) (x7 y7 : Int) (x8 y8 : Int) (x9 y9 : Int) (x10 y10 : Int) :
    (Op.equalIn (d + 3) 29 (.agg #[.int .i64 x0, .int .i64 x1, .int .i64 x2, .bool x3, .int .i64 x4, .int .i64 x5, .int .i64 x6, .int .i64 x7, .int .i64 x8, .int .u32 x9, .int .i64 x10]) (.agg #[.int .i64 y0, .int .i64 y1, .int .i64 y2, .bool y3, .int .i64 y4, .int .i64 y5, .int .i64 y6, .int .i64 y7, .int .i64 y8, .int .u32 y9, .int .i64 y10])).run Try.prog w = .ok ((x0 == y0 && (x1 == y1 && (x2 == y2 && (x3 == y3)))) && ((x4 == y4 && (x5 == y5 && (x6 == y6))) && (x7 == y7 && (x8 == y8 && (x9 == y9 && (x10 == y10)))))) w := by
  refine eqA_of Try.underlying29 (by kernel_rfl) ?_
  refine eqf_cons (by rfl) (by go_simp) (by go_simp) (eqA23 (d + 0) w _ _ _ _ _ _ _ _) ?_
  refine eqf_cons (by rfl) (by go_simp) (by go_simp) (eqA25 (d + 0) w _ _ _ _ _ _) ?_
  refine eqf_cons (by rfl) (by go_simp; rfl) (by go_simp; rfl) (by go_simp) ?_
  refine eqf_cons (by rfl) (by go_simp; rfl) (by go_simp; rfl) (by go_simp) ?_
  refine eqf_cons (by rfl) (by go_simp; rfl) (by go_simp; rfl) (by go_simp) ?_
  exact eqf_last (by rfl) (by go_simp; rfl) (by go_simp; rfl) (by go_simp)
end Go.Proofs.Ytblooffiggciiaa.PPs
/- PPsxe -/
namespace Go.Proofs.Ytblooffiggciiaa.PPs
open Go.RowKit Go.Proofs.YtblooffiggciiaaW.PrintWords Go.Proofs.YtblooffiggciiaaW.PrintLast Go.Proofs.YtblooffiggciiaaW.PrintMore
theorem eqA60 (d : Nat) (w : World) (x0 y0 : Int) (x1 y1 : Int) (x2 y2 : Int) (x3 y3 : Int) :
    (Op.equalIn (d + 2) 60 (.agg #[.int .i64 x0, .int .i64 x1, .int .i64 x2, .int .i64 x3]) (.agg #[.int .i64 y0, .int .i64 y1, .int .i64 y2, .int .i64 y3])).run Try.prog w = .ok (x0 == y0 && (x1 == y1 && (x2 == y2 && (x3 == y3)))) w := by
  refine eqA_of Try.underlying60 (by kernel_rfl) ?_
  refine eqf_cons (by rfl) (by go_simp; rfl) (by go_simp; rfl) (by go_simp) ?_
  refine eqf_cons (by rfl) (by go_simp; rfl) (by go_simp; rfl) (by go_simp) ?_
  refine eqf_cons (by rfl) (by go_simp; rfl) (by go_simp; rfl) (by go_simp) ?_
  exact eqf_last (by rfl) (by go_simp; rfl) (by go_simp; rfl) (by go_simp)
end Go.Proofs.Ytblooffiggciiaa.PPs
/- PPsx51 -/
namespace Go.Proofs.Ytblooffiggciiaa.PPs
open Go.RowKit Go.Proofs.YtblooffiggciiaaW.PrintWords Go.Proofs.YtblooffiggciiaaW.PrintLast Go.Proofs.YtblooffiggciiaaW.PrintMore
attribute [local go_sem] max2_int min2_int max_two min_two max_three min_three max_four min_four   -- for this text's walks alone
attribute [local go_sem] Go.Proofs.Ytblooffiggciiaa.Aid.isSome_setCell
attribute [local go_sem high] eqA29 eqA60
mutual
def weftlineref14_Same.j0 : Nat → Bool → List (S29) → Int → List (S29) → Int → Option (Bool)
  | 0, _, _, _, _, _ => none
  | k + 1, x19, x306000, x306001, x307000, x307001 => if x19 = true then (some false) else (weftlineref14_Same.l0 k 0 x306000 x306001 x307000 x307001)
def weftlineref14_Same.l0 : Nat → Int → List (S29) → Int → List (S29) → Int → Option (Bool)
  | 0, _, _, _, _, _ => none
  | k + 1, x5, x306000, x306001, x307000, x307001 => if x5 < (x306000.length : Int) then (if 0 ≤ x5 then (if x5 < (x307000.length : Int) then (if ((!(((rd_T29 x306000 x5).f0.f0) == ((rd_T29 x307000 x5).f0.f0)) || (!(((rd_T29 x306000 x5).f0.f1) == ((rd_T29 x307000 x5).f0.f1)) || (!(((rd_T29 x306000 x5).f0.f2) == ((rd_T29 x307000 x5).f0.f2)) || (!(((rd_T29 x306000 x5).f0.f3) == ((rd_T29 x307000 x5).f0.f3)))))) || ((!(((rd_T29 x306000 x5).f1.f0) == ((rd_T29 x307000 x5).f1.f0)) || (!(((rd_T29 x306000 x5).f1.f1) == ((rd_T29 x307000 x5).f1.f1)) || (!(((rd_T29 x306000 x5).f1.f2) == ((rd_T29 x307000 x5).f1.f2))))) || (!(((rd_T29 x306000 x5).f2) == ((rd_T29 x307000 x5).f2)) || (!(((rd_T29 x306000 x5).f3) == ((rd_T29 x307000 x5).f3)) || (!(((rd_T29 x306000 x5).f4) == ((rd_T29 x307000 x5).f4)) || (!(((rd_T29 x306000 x5).f5) == ((rd_T29 x307000 x5).f5)))))))) = true then (some false) else (weftlineref14_Same.l0 k (wrap64 (x5 + 1)) x306000 x306001 x307000 x307001)) else (none)) else (none)) else (some true)
end
end Go.Proofs.Ytblooffiggciiaa.PPs
/- PPsx44 -/
namespace Go.Proofs.Ytblooffiggciiaa.PPs
open Go.RowKit Go.Proofs.YtblooffiggciiaaW.PrintWords Go.Proofs.YtblooffiggciiaaW.PrintLast Go.Proofs.YtblooffiggciiaaW.PrintMore
attribute [local go_sem] max2_int min2_int max_two min_two max_three min_three max_four min_four   -- for this text's walks alone
attribute [local go_sem] Go.Proofs.Ytblooffiggciiaa.Aid.isSome_setCell
def weftlineref14_set.f (l0_0 : List (S29)) (a0_1 : Int) (a1 : Int) (a2_0 : Int) (a2_1 : Int) (a2_2 : Int) (a2_3 : Bool) (a2_4 : Int) (a2_5 : Int) (a2_6 : Int) (a2_7 : Int) (a2_8 : Int) (a2_9 : Int) (a2_10 : Int) : Option ((List (S29)) × Int) := (some (([] : List (S29)) : List (S29))).bind fun y256 => (if y256.length + l0_0.length < 1599289640401 then ((some (y256 ++ l0_0 : List (S29))).bind fun y259 => (if 0 ≤ a1 then (if a1 < (y259.length : Int) then (some ((y259.set (a1 : Int).toNat (⟨(⟨a2_0, a2_1, a2_2, a2_3⟩ : S23), (⟨a2_4, a2_5, a2_6⟩ : S25), a2_7, a2_8, a2_9, a2_10⟩ : S29)), a0_1)) else (none)) else (none))) else (none))
end Go.Proofs.Ytblooffiggciiaa.PPs
/- PPsx45 -/
namespace Go.Proofs.Ytblooffiggciiaa.PPs
open Go.RowKit Go.Proofs.YtblooffiggciiaaW.PrintWords Go.Proofs.YtblooffiggciiaaW.PrintLast Go.Proofs.YtblooffiggciiaaW.PrintMore
attribute [local go_sem] max2_int min2_int max_two min_two max_three min_three max_four min_four   -- for this text's walks alone
attribute [local go_sem] Go.Proofs.Ytblooffiggciiaa.Aid.isSome_setCell
def weftlineref14_Put.j0 : Nat → Bool → List (S29) → Int → Int → Int → Int → Bool → Int → Int → Int → Int → Int → Int → Int → Option ((List (S29)) × Int × Int)
  | 0, _, _, _, _, _, _, _, _, _, _, _, _, _, _ => none
  | k + 1, x14, x264000, x264001, x265000, x265001, x265002, x265003, x265004, x265005, x265006, x265007, x265008, x265009, x265010 => if x14 = true then (some (([] : List (S29)), 0, 1)) else ((weftlineref14_find.f k x264000 x264001 x265007).bind fun t268 => (if t268 < 0 then (some (([] : List (S29)), 0, 4)) else ((weftlineref14_set.f x264000 x264001 t268 x265000 x265001 x265002 x265003 x265004 x265005 x265006 x265007 x265008 x265009 x265010).bind fun bt269 => (some (bt269.1, bt269.2, 0)))))
end Go.Proofs.Ytblooffiggciiaa.PPs
/- PPsx49 -/
namespace Go.Proofs.Ytblooffiggciiaa.PPs
open Go.RowKit Go.Proofs.YtblooffiggciiaaW.PrintWords Go.Proofs.YtblooffiggciiaaW.PrintLast Go.Proofs.YtblooffiggciiaaW.PrintMore
attribute [local go_sem] max2_int min2_int max_two min_two max_three min_three max_four min_four   -- for this text's walks alone
attribute [local go_sem] Go.Proofs.Ytblooffiggciiaa.Aid.isSome_setCell
mutual
def weftlineref14_New.j0 : Nat → List Int → Bool → Option ((List (S29)) × Int × Int)
  | 0, _, _ => none
  | k + 1, x0, x14 => if x14 = true then (some (([] : List (S29)), 0, 1)) else (weftlineref14_New.l0 k x0 0 0)
def weftlineref14_New.l0 : Nat → List Int → Int → Int → Option ((List (S29)) × Int × Int)
  | 0, _, _, _ => none
  | k + 1, x0, x5, x285001 => if x5 < (x0.length : Int) then (if 0 ≤ x5 then ((weftlineref13_Addr.f (rd x0 x5)).bind fun t286 => (if t286 = true then (weftlineref14_New.l0 k x0 (wrap64 (x5 + 1)) x285001) else (some (([] : List (S29)), 0, 1)))) else (none)) else (weftlineref14_New.l1 k x0 0 ([] : List (S29)) x285001)
def weftlineref14_New.l1 : Nat → List Int → Int → List (S29) → Int → Option ((List (S29)) × Int × Int)
  | 0, _, _, _, _ => none
  | k + 1, x0, x6, x285000, x285001 => if x6 < (x0.length : Int) then (if 0 ≤ x6 then ((weftlineref14_find.f k x285000 x285001 (rd x0 x6)).bind fun t288 => (if t288 ≥ 0 then (some (([] : List (S29)), 0, 12)) else ((weftlineref13_New.f (rd x0 x6)).bind fun bt290 => (if x285000.length < 1599289640401 then (weftlineref14_New.l1 k x0 (wrap64 (x6 + 1)) (x285000 ++ [(⟨(⟨bt290.1, bt290.2.1, bt290.2.2.1, bt290.2.2.2.1⟩ : S23), (⟨bt290.2.2.2.2.1, bt290.2.2.2.2.2.1, bt290.2.2.2.2.2.2.1⟩ : S25), bt290.2.2.2.2.2.2.2.1, bt290.2.2.2.2.2.2.2.2.1, bt290.2.2.2.2.2.2.2.2.2.1, bt290.2.2.2.2.2.2.2.2.2.2⟩ : S29)]) x285001) else (none))))) else (none)) else (some (x285000, x285001, 0))
end
end Go.Proofs.Ytblooffiggciiaa.PPs
/- PsAc -/
namespace Go.Proofs.Ytblooffiggciiaa.Ps
open Go.RowKit Go.Proofs.Ytblooffiggciiaa.PPs Go.Proofs.YtblooffiggciiaaW.PrintWords Go.Proofs.YtblooffiggciiaaW.PrintLast Go.Proofs.YtblooffiggciiaaW.PrintMore Go.Proofs.Ytblooffiggciiaa.Sh
def df34 (x y : S34) : Bool := ((!((x.f0.f0) == (y.f0.f0)) || (!((x.f0.f1) == (y.f0.f1)) || (!((x.f0.f2) == (y.f0.f2)) || (!((x.f0.f3) == (y.f0.f3)))))) || ((!((x.f1.f0) == (y.f1.f0)) || (!((x.f1.f1) == (y.f1.f1)) || (!((x.f1.f2) == (y.f1.f2))))) || (!((x.f2) == (y.f2)) || (!((x.f3) == (y.f3)) || (!((x.f4) == (y.f4)) || (!((x.f5) == (y.f5))))))))
section
variable {w : World} {A B : Option Addr} {c d : Nat}
end
end Go.Proofs.Ytblooffiggciiaa.Ps
/- PsAf -/
namespace Go.Proofs.Ytblooffiggciiaa.Ps
open Go.RowKit Go.Shelf Go.Proofs.Ytblooffiggciiaa.PPs Go.Proofs.YtblooffiggciiaaW.PrintWords Go.Proofs.YtblooffiggciiaaW.PrintLast Go.Proofs.YtblooffiggciiaaW.PrintMore Go.Proofs.Ytblooffiggciiaa.Sh
attribute [local go_sem] Oper.semAt_some wide_fn
def Kp2 (n₀ a b : Nat) (W W' : World) : Prop := Below n₀ W W' ∧ W'.heap[a]? = W.heap[a]? ∧ W'.heap[b]? = W.heap[b]?
theorem Kp2.trans {n₀ a b : Nat} {A B C : World} (h : Kp2 n₀ a b A B) (h' : Kp2 n₀ a b B C) : Kp2 n₀ a b A C := ⟨h.1.trans h'.1, h'.2.1.trans h.2.1, h'.2.2.trans h.2.2⟩
theorem Kp2.refl (n₀ a b : Nat) (W : World) : Kp2 n₀ a b W W := ⟨Below.refl _ _, rfl, rfl⟩
structure HeldP (W : World) (gb : Nat) (A : Option Addr) (xs : List S34) : Prop where
  row : Kd.C k34 W A xs.length xs
  at_ : ∀ ad, A = some ad → ad.block = gb
  blk : ∃ o, W.heap[gb]? = some o
theorem HeldP.kept {W W' : World} {gb : Nat} {A : Option Addr} {xs : List S34} (h : HeldP W gb A xs) (hg : W'.heap[gb]? = W.heap[gb]?) : HeldP W' gb A xs := by
  obtain ⟨⟨h1, h2, h3⟩, h4, o, h5⟩ := h
  refine ⟨⟨h1, h2, fun h0 => ?_⟩, h4, o, hg.trans h5⟩
  obtain ⟨ad, e, hc⟩ := h3 h0
  refine ⟨ad, e, fun j p hp => ?_⟩
  obtain ⟨c, a1, a2, a3⟩ := hc j p hp
  refine ⟨c, a1, ?_, fun i u hu => ?_⟩
  · obtain rfl := k34_open a2
    exact k34_mk W' p
  · have h := a3 i u hu
    have hb : (ad.add (j * k34.sz + i)).block = gb := by rw [← h4 ad e]; first | rfl | (unfold Addr.add; split <;> rfl)
    unfold World.cell? at h ⊢
    rw [hb] at h ⊢
    rw [hg]
    exact h
set_option maxRecDepth 100000 in
set_option maxHeartbeats 4000000 in
theorem values_in (n : Nat) (hn : 1 ≤ n) (l Bs gb n₀ : Nat) (A : Option Addr) (c : Nat) (xs : List S34) (hl : xs.length ≤ 1000) (J Jx : List S34 → World → Prop)
    (hY : ∀ pre x W, J pre W → pre.length < xs.length → YieldAt Fence.wide (n - 1) Try.prog l #[.agg (cs34 x).toArray] W fun e W' =>
      (e = .returned (.bool true) ∧ J (pre ++ [x]) W' ∧ Kp2 n₀ Bs gb W W') ∨ (e = .returned (.bool false) ∧ Jx (pre ++ [x]) W'))
    (W : World) (hn0 : n₀ ≤ W.heap.size) (hBs : W.heap[Bs]? = some (.cells #[.slice A xs.length c] 68 (0, 0))) (hH : HeldP W gb A xs) (h0 : J [] W)
    (hJd : ∀ pre W o, J pre W → J pre (W.alloc o)) :
    CallsIn Fence.wide n Try.prog 100 #[.func (.yield l) #[] #[], .pointer (some ⟨Bs, 0, none⟩)] W fun e W' => (∃ v, e = .returned v) ∧
      ((∃ ys, ys = xs ∧ J ys W') ∨ (∃ pre, (∃ k, k ≤ xs.length ∧ pre = xs.take k) ∧ Jx pre W')) := by
  have HY := Aside0.mk hY
  have HH := Aside0.mk hH
  have HBS := Aside0.mk hBs
  have H0 := Aside0.mk h0
  have HJD := Aside0.mk hJd
  have hb0 := ck1 hBs
  clear hY hJd hBs hH h0
  refine callsIn_of_wp Try.func100 rfl (by trivial) ?_ rfl
  simp only [Try.ntmps100, List.size_toArray, List.length_cons, List.length_nil, Nat.reduceAdd, Nat.reduceSub, Array.replicate_succ, Array.replicate_zero, List.push_toArray, List.append_toArray, List.nil_append, List.cons_append]
  gi_wp2
  gi_loopw [7] (fun i wr => ∃ (k : Nat), k ≤ xs.length ∧ i = .int .i64 (k : Nat) ∧ Aside0 (J (xs.take k) wr) ∧ Aside0 (Kp2 n₀ Bs gb W wr))
    (fun i _ => xs.length - (intOf i).toNat)
  case atStart => exact ⟨0, Nat.zero_le _, rfl, H0, ⟨Kp2.refl _ _ _ _⟩⟩
  case round =>
    obtain ⟨k, hk, rfl, HJ, HN⟩ := hrel
    by_cases hlt : k < xs.length
    · have hlt2 : (k : Int) < (xs.length : Int) := by omega
      have HHr := Aside0.mk (HH.out.kept HN.out.2.2)
      have hBr := HN.out.2.1.trans HBS.out
      have hnr : n₀ ≤ wr.heap.size := Nat.le_trans hn0 HN.out.1.size
      obtain ⟨ad, rfl, h0, h1, h2, h3, h4, h5, h6, h7, h8, h9, h10⟩ := at_T34 HHr.out.row (k : Int) (by omega) (by omega)
      obtain ⟨y, hy⟩ : ∃ y, y = rd_T34 xs (k : Int) := ⟨_, rfl⟩
      rw [← hy] at h0 h1 h2 h3 h4 h5 h6 h7 h8 h9 h10
      have HTK := Aside0.mk (show xs.take (k + 1) = xs.take k ++ [y] by
        rw [List.take_succ_eq_append_getElem hlt, hy]
        unfold rd_T34
        rw [Int.toNat_natCast]
        simp [List.getD_eq_getElem?_getD, List.getElem?_eq_getElem hlt])
      rw [Int.toNat_natCast] at h0 h1 h2 h3 h4 h5 h6 h7 h8 h9 h10
      clear hy
      have HKa := Aside0.mk (show Kp2 n₀ Bs gb wr (wr.alloc (.cells (cs34 y).toArray 34)) from
        ⟨(Below.refl n₀ wr).alloc hnr _, Below.heap_alloc wr _ Bs (blk_lt hBr), by obtain ⟨o, ho⟩ := HHr.out.blk; exact Below.heap_alloc wr _ gb (blk_lt ho)⟩)
      have HYK := Aside0.mk (HY.out (xs.take k) y (wr.alloc (.cells (cs34 y).toArray 34)) (HJD.out _ _ _ HJ.out) (by rw [List.length_take]; omega))
      clear hBr
      obtain ⟨fn, tmps, assign, body, hy, hR⟩ := HYK.out
      have hR2 := Aside0.mk (hR.mono (fun e W' h => (show ∃ b : Bool, e = .returned (.bool b) ∧ Aside0 ((b = true ∧ J (xs.take k ++ [y]) W' ∧ Kp2 n₀ Bs gb (wr.alloc (.cells (cs34 y).toArray 34)) W') ∨ (b = false ∧ Jx (xs.take k ++ [y]) W')) from by
        rcases h with ⟨rfl, h1, h2⟩ | ⟨rfl, h⟩
        · exact ⟨true, rfl, ⟨.inl ⟨rfl, h1, h2⟩⟩⟩
        · exact ⟨false, rfl, ⟨.inr ⟨rfl, h⟩⟩⟩)))
      have hy2 : Sem.run Try.prog (Instr.yield l #[.agg #[.int .i64 y.f0.f0, .int .i64 y.f0.f1, .int .i64 y.f0.f2, .bool y.f0.f3, .int .i64 y.f1.f0, .int .i64 y.f1.f1, .int .i64 y.f1.f2, .int .i64 y.f2, .int .i64 y.f3, .int .u32 y.f4, .int .i64 y.f5]]) (wr.alloc (.cells #[.int .i64 y.f0.f0, .int .i64 y.f0.f1, .int .i64 y.f0.f2, .bool y.f0.f3, .int .i64 y.f1.f0, .int .i64 y.f1.f1, .int .i64 y.f1.f2, .int .i64 y.f2, .int .i64 y.f3, .int .u32 y.f4, .int .i64 y.f5] 34)) = .ok (.round l fn tmps assign body) (wr.alloc (.cells #[.int .i64 y.f0.f0, .int .i64 y.f0.f1, .int .i64 y.f0.f2, .bool y.f0.f3, .int .i64 y.f1.f0, .int .i64 y.f1.f1, .int .i64 y.f1.f2, .int .i64 y.f2, .int .i64 y.f3, .int .u32 y.f4, .int .i64 y.f5] 34)) := hy
      have hx := ck11 (blk_new wr (.cells #[.int .i64 y.f0.f0, .int .i64 y.f0.f1, .int .i64 y.f0.f2, .bool y.f0.f3, .int .i64 y.f1.f0, .int .i64 y.f1.f1, .int .i64 y.f1.f2, .int .i64 y.f2, .int .i64 y.f3, .int .u32 y.f4, .int .i64 y.f5] 34))
      clear hR HYK hy
      gi_wp2_with (first | (refine hR2.out.mono ?_; rintro e W3 ⟨b, rfl, HB3⟩))
      all_goals (rcases HB3.out with ⟨hb, hJ3, hk3⟩ | ⟨hb, hJx3⟩)
      all_goals first
        | (rename_i hbn; rw [hb] at hbn; exact absurd hbn (by decide))
        | (refine bodyPost_ret (results_none rfl _ _ _) rfl ?_; exact ⟨⟨_, rfl⟩, .inr ⟨xs.take (k + 1), ⟨k + 1, by omega, rfl⟩, by rw [HTK.out]; exact hJx3⟩⟩)
        | exact ⟨⟨k + 1, by omega, by go_num, ⟨by rw [HTK.out]; exact hJ3⟩, ⟨(HN.out.trans HKa.out).trans hk3⟩⟩, by simp [intOf]; omega⟩
    · obtain rfl : k = xs.length := by omega
      have hlt2 : ¬ ((xs.length : Int) < (xs.length : Int)) := Int.lt_irrefl _
      gi_wp2
      go_end0
      refine ⟨⟨_, rfl⟩, .inl ?_⟩
      have h := HJ.out
      rw [List.take_length] at h
      exact h
theorem values_stops (n : Nat) (hn : 1 ≤ n) {w' : World} {Bs gb n₀ c : Nat} {A : Option Addr} {xs : List S34} (hB : w'.heap[Bs]? = some (.cells #[.slice A xs.length c] 68 (0, 0))) (hH : HeldP w' gb A xs) (hn0 : n₀ ≤ w'.heap.size) (hl : xs.length ≤ 1000) :
    SeqStopsK Fence.wide n Try.prog 100 #[.pointer (some ⟨Bs, 0, none⟩)] (fun x : S34 => #[.agg (cs34 x).toArray]) (Kp2 n₀ Bs gb) (fun ys => ys = xs) (fun pre => ∃ k, k ≤ xs.length ∧ pre = xs.take k) xs.length w' :=
  fun l J Jx W hW hJ _ hY h0 => values_in n hn l Bs gb n₀ A c xs hl J Jx hY W (Nat.le_trans hn0 hW.size) ((hW.block Bs (blk_lt hB)).trans hB) (hH.kept (hW.block gb (by obtain ⟨o, ho⟩ := hH.blk; exact blk_lt ho))) h0
    (fun pre W o h => hJ pre W _ none h (World.grownBy_alloc W o none) (fun r e => by cases e))
theorem val_calls (w : World) (A : Option Addr) (n c : Nat) : Calls Try.prog 89 #[.slice A n c] w fun e w' => e = .returned (.func (.func 100) #[] #[.pointer (some ⟨w.heap.size, 0, none⟩)]) ∧ w' = w.alloc (.cells #[.slice A n c] 68) := by
  go_enter Try.func89, Try.ntmps89
  go_wp2
  go_ret
  exact ⟨rfl, rfl⟩
def allL (l : List S34) (p : Int) : List S34 := if gdb l p = true then l else []
structure AllR (w w' : World) (Bs gb : Nat) (A : Option Addr) (c : Nat) (xs : List S34) : Prop where
  box : w'.heap[Bs]? = some (.cells #[.slice A xs.length c] 68 (0, 0))
  held : HeldP w' gb A xs
  bel : Below w.heap.size w w'
  hBs : w.heap.size ≤ Bs
  hgb : w.heap.size ≤ gb
  gcell : ∃ cs t, w'.heap[gb]? = some (.cells cs t (0, 0))
set_option maxRecDepth 100000 in
set_option maxHeartbeats 4000000 in
theorem all_calls {w : World} {A : Option Addr} {c : Nat} {l : List S34} (hC : Kd.C k34 w A l.length l) (hcc : l.length ≤ c) (hl : l.length ≤ 1000) (p : Int) :
    Calls Try.prog 51 #[.agg #[.slice A l.length c, .int .i64 p]] w fun e w' => ∃ Bs gb A' c', e = .returned (.func (.func 100) #[] #[.pointer (some ⟨Bs, 0, none⟩)]) ∧ AllR w w' Bs gb A' c' (allL l p) := by
  have HB := Aside0.mk (b1 (Below.refl w.heap.size w) (.cells #[.slice A l.length c, .int .i64 p] 70))
  have HX := Aside0.mk (blk_new w (.cells #[.slice A l.length c, .int .i64 p] 70))
  have HC := Aside0.mk (Kd.C_alloc hC (.cells #[.slice A l.length c, .int .i64 p] 70))
  have HG := Aside0.mk (setgood_calls (c := c) HC.out p)
  have hx := ck2 HX.out
  unfold allL
  cases hg : gdb l p with
  | false =>
    rw [hg] at HG
    rw [if_neg (by simp)]
    clear hg hC
    go_enter Try.func51, Try.ntmps51
    go_wp2_with fail
    refine HG.out.mono ?_
    rintro e w1 ⟨rfl, hb⟩
    have HB1 := Aside0.mk (below_step HB.out hb)
    clear hb hx
    go_wp2_with fail
    refine (val_calls _ _ _ _).mono ?_
    rintro e w2 ⟨rfl, rfl⟩
    go_wp2_with fail
    go_ret
    have hbx := blk_new w1 (.cells #[.slice none 0 0] 68)
    exact ⟨w1.heap.size, w1.heap.size, none, 0, rfl, hbx, ⟨Kd.C_nil _ _, fun ad e => (by cases e), _, hbx⟩, below_alloc HB1.out _, HB1.out.size, HB1.out.size, _, _, hbx⟩
  | true =>
    rw [hg] at HG
    rw [if_pos rfl]
    clear hg hC
    go_enter Try.func51, Try.ntmps51
    go_wp2_with fail
    refine HG.out.mono ?_
    rintro e w1 ⟨rfl, hb⟩
    have HB1 := Aside0.mk (below_step HB.out hb)
    have HX1 := Aside0.mk (blk_below HX.out hb)
    have HC1 := Aside0.mk (clone_calls w1 A c l hcc (Kd.C_below HC.out hb) (by omega))
    clear hb hx
    have hx := ck2 HX1.out
    go_wp2_with fail
    refine HC1.out.mono ?_
    rintro e w2 ⟨A2, c2, rfl, hR, hb⟩
    have HB2 := Aside0.mk (below_step HB1.out hb)
    have HR2 := Aside0.mk hR
    clear hb hx hR
    go_wp2_with fail
    refine (val_calls _ _ _ _).mono ?_
    rintro e w3 ⟨rfl, rfl⟩
    go_wp2_with fail
    go_ret
    have hbx := blk_new w2 (.cells #[.slice A2 l.length c2] 68)
    have hCr := Kd.C_alloc (Kd.R_reads' HR2.out).2.2 (.cells #[.slice A2 l.length c2] 68)
    obtain ⟨inner, ho⟩ := Kd.R_own HR2.out
    rcases ho.2 with ⟨he, hn⟩ | ⟨g, cap, cur, he, hbg, hh, _⟩
    · injection he with he1 he2
      subst he1
      exact ⟨w2.heap.size, w2.heap.size, none, c2, rfl, hbx, ⟨hCr, fun ad e => (by cases e), _, hbx⟩, below_alloc HB2.out _, HB2.out.size, HB2.out.size, _, _, hbx⟩
    · injection he with he1
      subst he1
      have hg2 := blk_alloc hh (.cells #[.slice (some ⟨g, 0, none⟩) l.length c2] 68)
      exact ⟨w2.heap.size, g, _, c2, rfl, hbx, ⟨hCr, fun ad e => (by cases e; rfl), _, hg2⟩, below_alloc HB2.out _, HB2.out.size, Nat.le_trans HB1.out.size hbg, _, _, hg2⟩
end Go.Proofs.Ytblooffiggciiaa.Ps
