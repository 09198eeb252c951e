/- PathBeats: for every input the law returns true, and its arguments read as before: the row, out of the walk; no condition. -/
import Derived.Test.YtblooffiggciiaaZPathBeats1
import Derived.WalkKit
import Derived.Test.YtblooffiggciiaaWWords
import Derived.Test.YtblooffiggciiaaWArr
import Derived.ProofKit
import Derived.OpenShut
import Derived.Deep.Slices
import Derived.ChangeArms
import Derived.Test.YtblooffiggciiaaRows
import Derived.ShutString
import Derived.ChangeOld
import Derived.Below
import Derived.SizedLaws
import Derived.Carry
/- PAllx20 -/
namespace Go.Proofs.Ytblooffiggciiaa.PAll
open Go.RowKit Go.Proofs.YtblooffiggciiaaW.PrintWords Go.Proofs.YtblooffiggciiaaW.PrintLast Go.Proofs.YtblooffiggciiaaW.PrintMore Go.Proofs.Ytblooffiggciiaa.Sh
attribute [local go_sem] max2_int min2_int max_two min_two max_three min_three max_four min_four   -- for this text's walks alone
attribute [local go_sem] Go.Proofs.Ytblooffiggciiaa.Aid.isSome_setCell
set_option linter.unusedVariables false
set_option linter.unusedSimpArgs false
def weftlinelaw13_alive.l0 : Nat → Int → Int → Int → Int → Bool → Int → Int → Int → Int → Int → Int → Int → Option (Bool)
  | 0, _, _, _, _, _, _, _, _, _, _, _, _ => none
  | k + 1, x10, x192000, x192001, x192002, x192003, x192004, x192005, x192006, x192007, x192008, x192009, x192010 => if x10 < 5 then ((path_Path_Failed.f k x192000 x192001 x192002 x192003 x192004 x192005 x192006 x192007 x192008 x192009 x192010).bind fun bt193 => (weftlinelaw13_alive.l0 k (wrap64 (x10 + 1)) bt193.1 bt193.2.1 bt193.2.2.1 bt193.2.2.2.1 bt193.2.2.2.2.1 bt193.2.2.2.2.2.1 bt193.2.2.2.2.2.2.1 bt193.2.2.2.2.2.2.2.1 bt193.2.2.2.2.2.2.2.2.1 bt193.2.2.2.2.2.2.2.2.2.1 bt193.2.2.2.2.2.2.2.2.2.2)) else ((path_Path_Active.f k x192000 x192001 x192002 x192003 x192004 x192005 x192006 x192007 x192008 x192009 x192010).bind fun t204 => ((path_Path_Failed.f k x192000 x192001 x192002 x192003 x192004 x192005 x192006 x192007 x192008 x192009 x192010).bind fun bt205 => (if t204 = true then ((path_Path_Active.f k bt205.1 bt205.2.1 bt205.2.2.1 bt205.2.2.2.1 bt205.2.2.2.2.1 bt205.2.2.2.2.2.1 bt205.2.2.2.2.2.2.1 bt205.2.2.2.2.2.2.2.1 bt205.2.2.2.2.2.2.2.2.1 bt205.2.2.2.2.2.2.2.2.2.1 bt205.2.2.2.2.2.2.2.2.2.2).bind fun t216 => (if t216 = true then (some false) else ((path_Path_Heard.f k bt205.1 bt205.2.1 bt205.2.2.1 bt205.2.2.2.1 bt205.2.2.2.2.1 bt205.2.2.2.2.2.1 bt205.2.2.2.2.2.2.1 bt205.2.2.2.2.2.2.2.1 bt205.2.2.2.2.2.2.2.2.1 bt205.2.2.2.2.2.2.2.2.2.1 bt205.2.2.2.2.2.2.2.2.2.2).bind fun bt217 => ((path_Path_Active.f k bt217.1 bt217.2.1 bt217.2.2.1 bt217.2.2.2.1 bt217.2.2.2.2.1 bt217.2.2.2.2.2.1 bt217.2.2.2.2.2.2.1 bt217.2.2.2.2.2.2.2.1 bt217.2.2.2.2.2.2.2.2.1 bt217.2.2.2.2.2.2.2.2.2.1 bt217.2.2.2.2.2.2.2.2.2.2).bind fun t228 => (some t228))))) else (some false))))
def weftlinelaw13_alive.f (k : Nat)  : Option (Bool) := (path_New.f 7).bind fun bt179 => (if bt179.2.2.2.2.2.2.2.2.2.2.2.isNone = true then (weftlinelaw13_alive.l0 k 0 bt179.1 bt179.2.1 bt179.2.2.1 bt179.2.2.2.1 bt179.2.2.2.2.1 bt179.2.2.2.2.2.1 bt179.2.2.2.2.2.2.1 bt179.2.2.2.2.2.2.2.1 bt179.2.2.2.2.2.2.2.2.1 bt179.2.2.2.2.2.2.2.2.2.1 bt179.2.2.2.2.2.2.2.2.2.2.1) else (some false))
theorem weftlinelaw13_alive.mono_l : ∀ k, (∀ y0 y1 y2 y3 y4 y5 y6 y7 y8 y9 y10 y11, LeO (weftlinelaw13_alive.l0 k y0 y1 y2 y3 y4 y5 y6 y7 y8 y9 y10 y11) (weftlinelaw13_alive.l0 (k + 1) y0 y1 y2 y3 y4 y5 y6 y7 y8 y9 y10 y11))
  | 0 => fun _ _ _ _ _ _ _ _ _ _ _ _ r h => by simp [weftlinelaw13_alive.l0] at h
  | k + 1 => by
    have ih0 := weftlinelaw13_alive.mono_l k
    · intro y0 y1 y2 y3 y4 y5 y6 y7 y8 y9 y10 y11
      unfold weftlinelaw13_alive.l0
      repeat' first
      | (with_reducible exact ih0 _ _ _ _ _ _ _ _ _ _ _ _)
      | (with_reducible exact path_Path_Active.mono _ _ _ _ _ _ _ _ _ _ _ _)
      | (with_reducible exact path_Path_Failed.mono _ _ _ _ _ _ _ _ _ _ _ _)
      | (with_reducible exact path_Path_Heard.mono _ _ _ _ _ _ _ _ _ _ _ _)
      | (with_reducible exact LeO.refl _)
      | (with_reducible exact LeO.none _)
      | (with_reducible refine LeO.ite ?_ ?_)
      | (with_reducible refine LeO.bind ?_ (fun _ => ?_))
      | exact ih0 _ _ _ _ _ _ _ _ _ _ _ _
      | exact path_Path_Active.mono _ _ _ _ _ _ _ _ _ _ _ _
      | exact path_Path_Failed.mono _ _ _ _ _ _ _ _ _ _ _ _
      | exact path_Path_Heard.mono _ _ _ _ _ _ _ _ _ _ _ _
      | exact LeO.none _
      | refine LeO.ite ?_ ?_
      | refine LeO.bind ?_ (fun _ => ?_)
theorem weftlinelaw13_alive.mono : ∀ k, LeO (weftlinelaw13_alive.f k ) (weftlinelaw13_alive.f (k + 1) ) := by
  intro  k
  have ih0 := weftlinelaw13_alive.mono_l k
  unfold weftlinelaw13_alive.f
  repeat' first
      | (with_reducible exact ih0 _ _ _ _ _ _ _ _ _ _ _ _)
      | (with_reducible exact path_Path_Active.mono _ _ _ _ _ _ _ _ _ _ _ _)
      | (with_reducible exact path_Path_Failed.mono _ _ _ _ _ _ _ _ _ _ _ _)
      | (with_reducible exact path_Path_Heard.mono _ _ _ _ _ _ _ _ _ _ _ _)
      | (with_reducible exact LeO.refl _)
      | (with_reducible exact LeO.none _)
      | (with_reducible refine LeO.ite ?_ ?_)
      | (with_reducible refine LeO.bind ?_ (fun _ => ?_))
      | exact ih0 _ _ _ _ _ _ _ _ _ _ _ _
      | exact path_Path_Active.mono _ _ _ _ _ _ _ _ _ _ _ _
      | exact path_Path_Failed.mono _ _ _ _ _ _ _ _ _ _ _ _
      | exact path_Path_Heard.mono _ _ _ _ _ _ _ _ _ _ _ _
      | exact LeO.none _
      | refine LeO.ite ?_ ?_
      | refine LeO.bind ?_ (fun _ => ?_)
set_option maxHeartbeats 8000000 in
set_option maxRecDepth 100000 in
theorem weftlinelaw13_alive.calls (k : Nat)  (r : Bool) (w : World) (h : weftlinelaw13_alive.f k  = some r) :
    Calls Try.prog 11 #[] w fun e w' => e = .returned (.bool r) ∧ Below w.heap.size w w' := by
  have hu34 := Try.underlying34
  have hu37 := Try.underlying37
  have hu42 := Try.underlying42
  have HB := A0 (Below.refl w.heap.size w)
  have H : ((path_New.f 7).bind fun bt179 => (if bt179.2.2.2.2.2.2.2.2.2.2.2.isNone = true then (weftlinelaw13_alive.l0 k 0 bt179.1 bt179.2.1 bt179.2.2.1 bt179.2.2.2.1 bt179.2.2.2.2.1 bt179.2.2.2.2.2.1 bt179.2.2.2.2.2.2.1 bt179.2.2.2.2.2.2.2.1 bt179.2.2.2.2.2.2.2.2.1 bt179.2.2.2.2.2.2.2.2.2.1 bt179.2.2.2.2.2.2.2.2.2.2.1) else (some false))) = some r := h
  clear h
  replace H := Option.bind_eq_some_iff.mp H
  obtain ⟨⟨t179, t180, t181, t182, t183, t184, t185, t186, t187, t188, t189, t190⟩, A10, H⟩ := H
  replace H : (if t190.isNone = true then (weftlinelaw13_alive.l0 k 0 t179 t180 t181 t182 t183 t184 t185 t186 t187 t188 t189) else (some false)) = some r := H
  have A1 := Aside0.mk A10
  clear A10
  rcases t190 with _ | q192
  · have H1 : (weftlinelaw13_alive.l0 k 0 t179 t180 t181 t182 t183 t184 t185 t186 t187 t188 t189) = some r := by rw [if_pos (show (none : Option Int).isNone = true by rfl)] at H; exact H
    clear H
    have H := H1
    clear H1
    try simp only [errW_none, errW_some]
    have H' := Aside0.mk H
    clear H
    go_enter Try.func11, Try.ntmps11
    go_wp2_with (first | ((with_reducible refine gate_callee (f := 13) rfl ?_); refine goesL_ (some 5) rfl rfl Try.func13 (by kernel_rfl) rfl #[.int .i64 7] rfl (by (try simp only [List.map_toArray, List.map_cons, List.map_nil]); first | done | rfl | (simp only [List.length_drop, List.length_take]; rfl)) ?_; (with_reducible refine (path_New.calls 7 t179 t180 t181 t182 t183 t184 t185 t186 t187 t188 t189 none _ A1.out).mono ?_); rintro e w2 ⟨rfl, hb⟩; refine ⟨_, rfl, ?_⟩; have n0_ := A0 (below_step (by repeat (first | (with_reducible first | exact HB.out | apply b1 | apply b2 | apply b3) | exact HB.out)) hb); clear HB; have HB := n0_; clear n0_; (try clear hb); (try clear hb2); (try clear hk); (try clear hi); (try simp only [errW_none, errW_some])) | ((with_reducible refine gate_dst (N := 1) rfl ?_); refine box_event ?hg (N := 1) ?hd (cs := #[.int .i64 0, .int .i64 0, .int .i64 0, .bool false, .int .i64 0, .int .i64 0, .int .i64 0, .int .i64 0, .int .i64 0, .int .u32 0, .int .i64 0]) (t := 34) ?hr ?_; (case hd => rfl); (case hg => rfl); (case hr => first | (go_simp; done) | (go_simp; rfl)); intro gb191 hg w3 hbox hb; have n0_ := A0 (below_step (by repeat (first | (with_reducible first | exact HB.out | apply b1 | apply b2 | apply b3) | exact HB.out)) hb); have n1_ := A0 (hbox); have n2_ := A0 ((by rw [hg]; exact (below_size (by repeat (first | (with_reducible first | exact HB.out | apply b1 | apply b2 | apply b3) | exact HB.out))) : w.heap.size ≤ gb191)); have n3_ := n2_; clear HB; have HB := n0_; have BK191 := n1_; have GW191 := n2_; have GE191 := n3_; clear n0_ n1_ n2_ n3_; clear hb hbox hg; have hcz4 := cc11 BK191.out))
    go_loopg [10] k (fun kq v10 w' => ∃ (x10_1 : Int) (x192000_1 : Int) (x192001_1 : Int) (x192002_1 : Int) (x192003_1 : Bool) (x192004_1 : Int) (x192005_1 : Int) (x192006_1 : Int) (x192007_1 : Int) (x192008_1 : Int) (x192009_1 : Int) (x192010_1 : Int), v10 = .int .i64 x10_1 ∧ Aside0 (weftlinelaw13_alive.l0 kq x10_1 x192000_1 x192001_1 x192002_1 x192003_1 x192004_1 x192005_1 x192006_1 x192007_1 x192008_1 x192009_1 x192010_1 = some r) ∧ Aside0 (kq ≤ k) ∧ Aside0 (w'.heap[gb191]? = some (.cells #[.int .i64 x192000_1, .int .i64 x192001_1, .int .i64 x192002_1, .bool x192003_1, .int .i64 x192004_1, .int .i64 x192005_1, .int .i64 x192006_1, .int .i64 x192007_1, .int .i64 x192008_1, .int .u32 x192009_1, .int .i64 x192010_1] 34 (0, 0))) ∧ Aside0 (Below w.heap.size w w'))
    case atStart => exact ⟨(0), (t179), (t180), (t181), (t182), (t183), (t184), (t185), (t186), (t187), (t188), (t189), (by first | rfl | (simp; done) | (simp [*]; done)), H', ⟨Nat.le_refl _⟩, ⟨by (with_reducible repeat (first | refine q1 ?_ _ | refine q2 ?_ | refine q3 ?_ _)); refine blk_put (cs := #[.int .i64 t179, .int .i64 t180, .int .i64 t181, .bool t182, .int .i64 t183, .int .i64 t184, .int .i64 t185, .int .i64 t186, .int .i64 t187, .int .u32 t188, .int .i64 0]) ?_ 10 _ rfl; (with_reducible repeat (first | refine q1 ?_ _ | refine q2 ?_ | refine q3 ?_ _)); refine blk_put (cs := #[.int .i64 t179, .int .i64 t180, .int .i64 t181, .bool t182, .int .i64 t183, .int .i64 t184, .int .i64 t185, .int .i64 t186, .int .i64 t187, .int .u32 0, .int .i64 0]) ?_ 9 _ rfl; (with_reducible repeat (first | refine q1 ?_ _ | refine q2 ?_ | refine q3 ?_ _)); refine blk_put (cs := #[.int .i64 t179, .int .i64 t180, .int .i64 t181, .bool t182, .int .i64 t183, .int .i64 t184, .int .i64 t185, .int .i64 t186, .int .i64 0, .int .u32 0, .int .i64 0]) ?_ 8 _ rfl; (with_reducible repeat (first | refine q1 ?_ _ | refine q2 ?_ | refine q3 ?_ _)); refine blk_put (cs := #[.int .i64 t179, .int .i64 t180, .int .i64 t181, .bool t182, .int .i64 t183, .int .i64 t184, .int .i64 t185, .int .i64 0, .int .i64 0, .int .u32 0, .int .i64 0]) ?_ 7 _ rfl; (with_reducible repeat (first | refine q1 ?_ _ | refine q2 ?_ | refine q3 ?_ _)); refine blk_put (cs := #[.int .i64 t179, .int .i64 t180, .int .i64 t181, .bool t182, .int .i64 t183, .int .i64 t184, .int .i64 0, .int .i64 0, .int .i64 0, .int .u32 0, .int .i64 0]) ?_ 6 _ rfl; (with_reducible repeat (first | refine q1 ?_ _ | refine q2 ?_ | refine q3 ?_ _)); refine blk_put (cs := #[.int .i64 t179, .int .i64 t180, .int .i64 t181, .bool t182, .int .i64 t183, .int .i64 0, .int .i64 0, .int .i64 0, .int .i64 0, .int .u32 0, .int .i64 0]) ?_ 5 _ rfl; (with_reducible repeat (first | refine q1 ?_ _ | refine q2 ?_ | refine q3 ?_ _)); refine blk_put (cs := #[.int .i64 t179, .int .i64 t180, .int .i64 t181, .bool t182, .int .i64 0, .int .i64 0, .int .i64 0, .int .i64 0, .int .i64 0, .int .u32 0, .int .i64 0]) ?_ 4 _ rfl; (with_reducible repeat (first | refine q1 ?_ _ | refine q2 ?_ | refine q3 ?_ _)); refine blk_put (cs := #[.int .i64 t179, .int .i64 t180, .int .i64 t181, .bool false, .int .i64 0, .int .i64 0, .int .i64 0, .int .i64 0, .int .i64 0, .int .u32 0, .int .i64 0]) ?_ 3 _ rfl; (with_reducible repeat (first | refine q1 ?_ _ | refine q2 ?_ | refine q3 ?_ _)); refine blk_put (cs := #[.int .i64 t179, .int .i64 t180, .int .i64 0, .bool false, .int .i64 0, .int .i64 0, .int .i64 0, .int .i64 0, .int .i64 0, .int .u32 0, .int .i64 0]) ?_ 2 _ rfl; (with_reducible repeat (first | refine q1 ?_ _ | refine q2 ?_ | refine q3 ?_ _)); refine blk_put (cs := #[.int .i64 t179, .int .i64 0, .int .i64 0, .bool false, .int .i64 0, .int .i64 0, .int .i64 0, .int .i64 0, .int .i64 0, .int .u32 0, .int .i64 0]) ?_ 1 _ rfl; (with_reducible repeat (first | refine q1 ?_ _ | refine q2 ?_ | refine q3 ?_ _)); refine blk_put (cs := #[.int .i64 0, .int .i64 0, .int .i64 0, .bool false, .int .i64 0, .int .i64 0, .int .i64 0, .int .i64 0, .int .i64 0, .int .u32 0, .int .i64 0]) ?_ 0 _ rfl; (with_reducible repeat (first | refine q1 ?_ _ | refine q2 ?_ | refine q3 ?_ _)); exact BK191.out⟩, ⟨by repeat (first | (with_reducible first | exact HB.out | apply b1 | apply b2 | apply b3 | refine below_set ?_ GE191.out) | exact HB.out)⟩⟩
    case round =>
      clear H'
      try clear c1
      try clear q1
      try clear p2
      try clear hcz4_0
      try clear hcz4_1
      try clear hcz4_10
      try clear hcz4_2
      try clear hcz4_3
      try clear hcz4_4
      try clear hcz4_5
      try clear hcz4_6
      try clear hcz4_7
      try clear hcz4_8
      try clear hcz4_9
      try clear hfz4_0
      try clear hfz4_1
      try clear hfz4_10
      try clear hfz4_2
      try clear hfz4_3
      try clear hfz4_4
      try clear hfz4_5
      try clear hfz4_6
      try clear hfz4_7
      try clear hfz4_8
      try clear hfz4_9
      try clear q192
      obtain ⟨x10_1, x192000_1, x192001_1, x192002_1, x192003_1, x192004_1, x192005_1, x192006_1, x192007_1, x192008_1, x192009_1, x192010_1, rfl, HA, HK1, BK191, HB⟩ := hrel
      cases gk with
      | zero => exact absurd HA.out (by simp [weftlinelaw13_alive.l0])
      | succ k1 =>
        have H := HA.out
        clear HA
        simp only [weftlinelaw13_alive.l0] at H
        by_cases c5 : x10_1 < 5
        · rw [if_pos c5] at H
          have c5b0 : decide (x10_1 < 5) = true := decide_eq_true c5
          clear c5
          replace H := Option.bind_eq_some_iff.mp H
          obtain ⟨⟨t193, t194, t195, t196, t197, t198, t199, t200, t201, t202, t203⟩, A60, H⟩ := H
          replace H : (weftlinelaw13_alive.l0 k1 (wrap64 (x10_1 + 1)) t193 t194 t195 t196 t197 t198 t199 t200 t201 t202 t203) = some r := H
          have A6 := Aside0.mk A60
          clear A60
          have H' := Aside0.mk H
          clear H
          have hcz7 := cc11 BK191.out
          go_wp2_with (first | ((with_reducible refine gate_callee (f := 23) rfl ?_); refine goesL_ (some 13) rfl rfl Try.func23 (by kernel_rfl) rfl #[.agg #[.int .i64 x192000_1, .int .i64 x192001_1, .int .i64 x192002_1, .bool x192003_1, .int .i64 x192004_1, .int .i64 x192005_1, .int .i64 x192006_1, .int .i64 x192007_1, .int .i64 x192008_1, .int .u32 x192009_1, .int .i64 x192010_1]] rfl (by (try simp only [List.map_toArray, List.map_cons, List.map_nil]); first | done | rfl | (simp only [List.length_drop, List.length_take]; rfl)) ?_; (with_reducible refine (path_Path_Failed.calls k1 x192000_1 x192001_1 x192002_1 x192003_1 x192004_1 x192005_1 x192006_1 x192007_1 x192008_1 x192009_1 x192010_1 t193 t194 t195 t196 t197 t198 t199 t200 t201 t202 t203 _ A6.out).mono ?_); rintro e w8 ⟨rfl, hb⟩; refine ⟨_, rfl, ?_⟩; have n0_ := A0 (blk_below (by (with_reducible repeat (first | refine q1 ?_ _ | refine q2 ?_ | refine q3 ?_ _)); exact BK191.out) hb); have n1_ := A0 (below_step (by repeat (first | (with_reducible first | exact HB.out | apply b1 | apply b2 | apply b3 | refine below_set ?_ GE191.out) | exact HB.out)) hb); clear BK191; clear HB; have BK191 := n0_; have HB := n1_; clear n0_ n1_; (try clear hb); (try clear hb2); (try clear hk); (try clear hi); have hcz9 := cc11 BK191.out))
          go_roundg k1
          case measure => have := HK1.out; omega
          case rel => exact ⟨(wrap64 (x10_1 + 1)), (t193), (t194), (t195), (t196), (t197), (t198), (t199), (t200), (t201), (t202), (t203), (by first | rfl | (simp; done) | (simp [*]; done)), H', ⟨by have := HK1.out; omega⟩, ⟨by (with_reducible repeat (first | refine q1 ?_ _ | refine q2 ?_ | refine q3 ?_ _)); refine blk_put (cs := #[.int .i64 t193, .int .i64 t194, .int .i64 t195, .bool t196, .int .i64 t197, .int .i64 t198, .int .i64 t199, .int .i64 t200, .int .i64 t201, .int .u32 t202, .int .i64 x192010_1]) ?_ 10 _ rfl; (with_reducible repeat (first | refine q1 ?_ _ | refine q2 ?_ | refine q3 ?_ _)); refine blk_put (cs := #[.int .i64 t193, .int .i64 t194, .int .i64 t195, .bool t196, .int .i64 t197, .int .i64 t198, .int .i64 t199, .int .i64 t200, .int .i64 t201, .int .u32 x192009_1, .int .i64 x192010_1]) ?_ 9 _ rfl; (with_reducible repeat (first | refine q1 ?_ _ | refine q2 ?_ | refine q3 ?_ _)); refine blk_put (cs := #[.int .i64 t193, .int .i64 t194, .int .i64 t195, .bool t196, .int .i64 t197, .int .i64 t198, .int .i64 t199, .int .i64 t200, .int .i64 x192008_1, .int .u32 x192009_1, .int .i64 x192010_1]) ?_ 8 _ rfl; (with_reducible repeat (first | refine q1 ?_ _ | refine q2 ?_ | refine q3 ?_ _)); refine blk_put (cs := #[.int .i64 t193, .int .i64 t194, .int .i64 t195, .bool t196, .int .i64 t197, .int .i64 t198, .int .i64 t199, .int .i64 x192007_1, .int .i64 x192008_1, .int .u32 x192009_1, .int .i64 x192010_1]) ?_ 7 _ rfl; (with_reducible repeat (first | refine q1 ?_ _ | refine q2 ?_ | refine q3 ?_ _)); refine blk_put (cs := #[.int .i64 t193, .int .i64 t194, .int .i64 t195, .bool t196, .int .i64 t197, .int .i64 t198, .int .i64 x192006_1, .int .i64 x192007_1, .int .i64 x192008_1, .int .u32 x192009_1, .int .i64 x192010_1]) ?_ 6 _ rfl; (with_reducible repeat (first | refine q1 ?_ _ | refine q2 ?_ | refine q3 ?_ _)); refine blk_put (cs := #[.int .i64 t193, .int .i64 t194, .int .i64 t195, .bool t196, .int .i64 t197, .int .i64 x192005_1, .int .i64 x192006_1, .int .i64 x192007_1, .int .i64 x192008_1, .int .u32 x192009_1, .int .i64 x192010_1]) ?_ 5 _ rfl; (with_reducible repeat (first | refine q1 ?_ _ | refine q2 ?_ | refine q3 ?_ _)); refine blk_put (cs := #[.int .i64 t193, .int .i64 t194, .int .i64 t195, .bool t196, .int .i64 x192004_1, .int .i64 x192005_1, .int .i64 x192006_1, .int .i64 x192007_1, .int .i64 x192008_1, .int .u32 x192009_1, .int .i64 x192010_1]) ?_ 4 _ rfl; (with_reducible repeat (first | refine q1 ?_ _ | refine q2 ?_ | refine q3 ?_ _)); refine blk_put (cs := #[.int .i64 t193, .int .i64 t194, .int .i64 t195, .bool x192003_1, .int .i64 x192004_1, .int .i64 x192005_1, .int .i64 x192006_1, .int .i64 x192007_1, .int .i64 x192008_1, .int .u32 x192009_1, .int .i64 x192010_1]) ?_ 3 _ rfl; (with_reducible repeat (first | refine q1 ?_ _ | refine q2 ?_ | refine q3 ?_ _)); refine blk_put (cs := #[.int .i64 t193, .int .i64 t194, .int .i64 x192002_1, .bool x192003_1, .int .i64 x192004_1, .int .i64 x192005_1, .int .i64 x192006_1, .int .i64 x192007_1, .int .i64 x192008_1, .int .u32 x192009_1, .int .i64 x192010_1]) ?_ 2 _ rfl; (with_reducible repeat (first | refine q1 ?_ _ | refine q2 ?_ | refine q3 ?_ _)); refine blk_put (cs := #[.int .i64 t193, .int .i64 x192001_1, .int .i64 x192002_1, .bool x192003_1, .int .i64 x192004_1, .int .i64 x192005_1, .int .i64 x192006_1, .int .i64 x192007_1, .int .i64 x192008_1, .int .u32 x192009_1, .int .i64 x192010_1]) ?_ 1 _ rfl; (with_reducible repeat (first | refine q1 ?_ _ | refine q2 ?_ | refine q3 ?_ _)); refine blk_put (cs := #[.int .i64 x192000_1, .int .i64 x192001_1, .int .i64 x192002_1, .bool x192003_1, .int .i64 x192004_1, .int .i64 x192005_1, .int .i64 x192006_1, .int .i64 x192007_1, .int .i64 x192008_1, .int .u32 x192009_1, .int .i64 x192010_1]) ?_ 0 _ rfl; (with_reducible repeat (first | refine q1 ?_ _ | refine q2 ?_ | refine q3 ?_ _)); exact BK191.out⟩, ⟨by repeat (first | (with_reducible first | exact HB.out | apply b1 | apply b2 | apply b3 | refine below_set ?_ GE191.out) | exact HB.out)⟩⟩
        · rw [if_neg c5] at H
          have c5b0 : decide (x10_1 < 5) = false := decide_eq_false c5
          clear c5
          replace H := Option.bind_eq_some_iff.mp H
          obtain ⟨t204, A100, H⟩ := H
          replace H : ((path_Path_Failed.f k1 x192000_1 x192001_1 x192002_1 x192003_1 x192004_1 x192005_1 x192006_1 x192007_1 x192008_1 x192009_1 x192010_1).bind fun bt205 => (if t204 = true then ((path_Path_Active.f k1 bt205.1 bt205.2.1 bt205.2.2.1 bt205.2.2.2.1 bt205.2.2.2.2.1 bt205.2.2.2.2.2.1 bt205.2.2.2.2.2.2.1 bt205.2.2.2.2.2.2.2.1 bt205.2.2.2.2.2.2.2.2.1 bt205.2.2.2.2.2.2.2.2.2.1 bt205.2.2.2.2.2.2.2.2.2.2).bind fun t216 => (if t216 = true then (some false) else ((path_Path_Heard.f k1 bt205.1 bt205.2.1 bt205.2.2.1 bt205.2.2.2.1 bt205.2.2.2.2.1 bt205.2.2.2.2.2.1 bt205.2.2.2.2.2.2.1 bt205.2.2.2.2.2.2.2.1 bt205.2.2.2.2.2.2.2.2.1 bt205.2.2.2.2.2.2.2.2.2.1 bt205.2.2.2.2.2.2.2.2.2.2).bind fun bt217 => ((path_Path_Active.f k1 bt217.1 bt217.2.1 bt217.2.2.1 bt217.2.2.2.1 bt217.2.2.2.2.1 bt217.2.2.2.2.2.1 bt217.2.2.2.2.2.2.1 bt217.2.2.2.2.2.2.2.1 bt217.2.2.2.2.2.2.2.2.1 bt217.2.2.2.2.2.2.2.2.2.1 bt217.2.2.2.2.2.2.2.2.2.2).bind fun t228 => (some t228))))) else (some false))) = some r := H
          have A10 := Aside0.mk A100
          clear A100
          replace H := Option.bind_eq_some_iff.mp H
          obtain ⟨⟨t205, t206, t207, t208, t209, t210, t211, t212, t213, t214, t215⟩, A110, H⟩ := H
          replace H : (if t204 = true then ((path_Path_Active.f k1 t205 t206 t207 t208 t209 t210 t211 t212 t213 t214 t215).bind fun t216 => (if t216 = true then (some false) else ((path_Path_Heard.f k1 t205 t206 t207 t208 t209 t210 t211 t212 t213 t214 t215).bind fun bt217 => ((path_Path_Active.f k1 bt217.1 bt217.2.1 bt217.2.2.1 bt217.2.2.2.1 bt217.2.2.2.2.1 bt217.2.2.2.2.2.1 bt217.2.2.2.2.2.2.1 bt217.2.2.2.2.2.2.2.1 bt217.2.2.2.2.2.2.2.2.1 bt217.2.2.2.2.2.2.2.2.2.1 bt217.2.2.2.2.2.2.2.2.2.2).bind fun t228 => (some t228))))) else (some false)) = some r := H
          have A11 := Aside0.mk A110
          clear A110
          by_cases c12 : t204 = true
          · subst c12
            have H1 : ((path_Path_Active.f k1 t205 t206 t207 t208 t209 t210 t211 t212 t213 t214 t215).bind fun t216 => (if t216 = true then (some false) else ((path_Path_Heard.f k1 t205 t206 t207 t208 t209 t210 t211 t212 t213 t214 t215).bind fun bt217 => ((path_Path_Active.f k1 bt217.1 bt217.2.1 bt217.2.2.1 bt217.2.2.2.1 bt217.2.2.2.2.1 bt217.2.2.2.2.2.1 bt217.2.2.2.2.2.2.1 bt217.2.2.2.2.2.2.2.1 bt217.2.2.2.2.2.2.2.2.1 bt217.2.2.2.2.2.2.2.2.2.1 bt217.2.2.2.2.2.2.2.2.2.2).bind fun t228 => (some t228))))) = some r := by rw [if_pos rfl] at H; exact H
            clear H
            have H := H1
            clear H1
            replace H := Option.bind_eq_some_iff.mp H
            obtain ⟨t216, A130, H⟩ := H
            replace H : (if t216 = true then (some false) else ((path_Path_Heard.f k1 t205 t206 t207 t208 t209 t210 t211 t212 t213 t214 t215).bind fun bt217 => ((path_Path_Active.f k1 bt217.1 bt217.2.1 bt217.2.2.1 bt217.2.2.2.1 bt217.2.2.2.2.1 bt217.2.2.2.2.2.1 bt217.2.2.2.2.2.2.1 bt217.2.2.2.2.2.2.2.1 bt217.2.2.2.2.2.2.2.2.1 bt217.2.2.2.2.2.2.2.2.2.1 bt217.2.2.2.2.2.2.2.2.2.2).bind fun t228 => (some t228)))) = some r := H
            have A13 := Aside0.mk A130
            clear A130
            by_cases c14 : t216 = true
            · subst c14
              have H1 : (some false) = some r := by rw [if_pos rfl] at H; exact H
              clear H
              have H := H1
              clear H1
              obtain rfl := Option.some.inj H
              have hcz15 := cc11 BK191.out
              go_wp2_with (first | ((with_reducible refine gate_callee (f := 21) rfl ?_); refine goesL_ (some 16) rfl rfl Try.func21 (by kernel_rfl) rfl #[.agg #[.int .i64 x192000_1, .int .i64 x192001_1, .int .i64 x192002_1, .bool x192003_1, .int .i64 x192004_1, .int .i64 x192005_1, .int .i64 x192006_1, .int .i64 x192007_1, .int .i64 x192008_1, .int .u32 x192009_1, .int .i64 x192010_1]] rfl (by (try simp only [List.map_toArray, List.map_cons, List.map_nil]); first | done | rfl | (simp only [List.length_drop, List.length_take]; rfl)) ?_; (with_reducible refine (path_Path_Active.calls k1 x192000_1 x192001_1 x192002_1 x192003_1 x192004_1 x192005_1 x192006_1 x192007_1 x192008_1 x192009_1 x192010_1 true _ A10.out).mono ?_); rintro e w16 ⟨rfl, hb⟩; refine ⟨_, rfl, ?_⟩; have n0_ := A0 (blk_below (by (with_reducible repeat (first | refine q1 ?_ _ | refine q2 ?_ | refine q3 ?_ _)); exact BK191.out) hb); have n1_ := A0 (below_step (by repeat (first | (with_reducible first | exact HB.out | apply b1 | apply b2 | apply b3 | refine below_set ?_ GE191.out) | exact HB.out)) hb); clear BK191; clear HB; have BK191 := n0_; have HB := n1_; clear n0_ n1_; (try clear hb); (try clear hb2); (try clear hk); (try clear hi); have hcz17 := cc11 BK191.out) | ((with_reducible refine gate_callee (f := 23) rfl ?_); refine goesL_ (some 18) rfl rfl Try.func23 (by kernel_rfl) rfl #[.agg #[.int .i64 x192000_1, .int .i64 x192001_1, .int .i64 x192002_1, .bool x192003_1, .int .i64 x192004_1, .int .i64 x192005_1, .int .i64 x192006_1, .int .i64 x192007_1, .int .i64 x192008_1, .int .u32 x192009_1, .int .i64 x192010_1]] rfl (by (try simp only [List.map_toArray, List.map_cons, List.map_nil]); first | done | rfl | (simp only [List.length_drop, List.length_take]; rfl)) ?_; (with_reducible refine (path_Path_Failed.calls k1 x192000_1 x192001_1 x192002_1 x192003_1 x192004_1 x192005_1 x192006_1 x192007_1 x192008_1 x192009_1 x192010_1 t205 t206 t207 t208 t209 t210 t211 t212 t213 t214 t215 _ A11.out).mono ?_); rintro e w18 ⟨rfl, hb⟩; refine ⟨_, rfl, ?_⟩; have n0_ := A0 (blk_below (by (with_reducible repeat (first | refine q1 ?_ _ | refine q2 ?_ | refine q3 ?_ _)); exact BK191.out) hb); have n1_ := A0 (below_step (by repeat (first | (with_reducible first | exact HB.out | apply b1 | apply b2 | apply b3 | refine below_set ?_ GE191.out) | exact HB.out)) hb); clear BK191; clear HB; have BK191 := n0_; have HB := n1_; clear n0_ n1_; (try clear hb); (try clear hb2); (try clear hk); (try clear hi); have hcz19 := cc11 BK191.out) | (go_at_call 21; (with_reducible refine (path_Path_Active.calls k1 t205 t206 t207 t208 t209 t210 t211 t212 t213 t214 t215 true _ A13.out).mono ?_); rintro e w20 ⟨rfl, hb⟩; have n0_ := A0 (blk_below (g := gb191) (o := .cells #[.int .i64 t205, .int .i64 t206, .int .i64 t207, .bool t208, .int .i64 t209, .int .i64 t210, .int .i64 t211, .int .i64 t212, .int .i64 t213, .int .u32 t214, .int .i64 t215] 34 (0, 0)) (by (with_reducible repeat (first | refine q1 ?_ _ | refine q2 ?_ | refine q3 ?_ _)); refine blk_put (cs := #[.int .i64 t205, .int .i64 t206, .int .i64 t207, .bool t208, .int .i64 t209, .int .i64 t210, .int .i64 t211, .int .i64 t212, .int .i64 t213, .int .u32 t214, .int .i64 x192010_1]) ?_ 10 _ rfl; (with_reducible repeat (first | refine q1 ?_ _ | refine q2 ?_ | refine q3 ?_ _)); refine blk_put (cs := #[.int .i64 t205, .int .i64 t206, .int .i64 t207, .bool t208, .int .i64 t209, .int .i64 t210, .int .i64 t211, .int .i64 t212, .int .i64 t213, .int .u32 x192009_1, .int .i64 x192010_1]) ?_ 9 _ rfl; (with_reducible repeat (first | refine q1 ?_ _ | refine q2 ?_ | refine q3 ?_ _)); refine blk_put (cs := #[.int .i64 t205, .int .i64 t206, .int .i64 t207, .bool t208, .int .i64 t209, .int .i64 t210, .int .i64 t211, .int .i64 t212, .int .i64 x192008_1, .int .u32 x192009_1, .int .i64 x192010_1]) ?_ 8 _ rfl; (with_reducible repeat (first | refine q1 ?_ _ | refine q2 ?_ | refine q3 ?_ _)); refine blk_put (cs := #[.int .i64 t205, .int .i64 t206, .int .i64 t207, .bool t208, .int .i64 t209, .int .i64 t210, .int .i64 t211, .int .i64 x192007_1, .int .i64 x192008_1, .int .u32 x192009_1, .int .i64 x192010_1]) ?_ 7 _ rfl; (with_reducible repeat (first | refine q1 ?_ _ | refine q2 ?_ | refine q3 ?_ _)); refine blk_put (cs := #[.int .i64 t205, .int .i64 t206, .int .i64 t207, .bool t208, .int .i64 t209, .int .i64 t210, .int .i64 x192006_1, .int .i64 x192007_1, .int .i64 x192008_1, .int .u32 x192009_1, .int .i64 x192010_1]) ?_ 6 _ rfl; (with_reducible repeat (first | refine q1 ?_ _ | refine q2 ?_ | refine q3 ?_ _)); refine blk_put (cs := #[.int .i64 t205, .int .i64 t206, .int .i64 t207, .bool t208, .int .i64 t209, .int .i64 x192005_1, .int .i64 x192006_1, .int .i64 x192007_1, .int .i64 x192008_1, .int .u32 x192009_1, .int .i64 x192010_1]) ?_ 5 _ rfl; (with_reducible repeat (first | refine q1 ?_ _ | refine q2 ?_ | refine q3 ?_ _)); refine blk_put (cs := #[.int .i64 t205, .int .i64 t206, .int .i64 t207, .bool t208, .int .i64 x192004_1, .int .i64 x192005_1, .int .i64 x192006_1, .int .i64 x192007_1, .int .i64 x192008_1, .int .u32 x192009_1, .int .i64 x192010_1]) ?_ 4 _ rfl; (with_reducible repeat (first | refine q1 ?_ _ | refine q2 ?_ | refine q3 ?_ _)); refine blk_put (cs := #[.int .i64 t205, .int .i64 t206, .int .i64 t207, .bool x192003_1, .int .i64 x192004_1, .int .i64 x192005_1, .int .i64 x192006_1, .int .i64 x192007_1, .int .i64 x192008_1, .int .u32 x192009_1, .int .i64 x192010_1]) ?_ 3 _ rfl; (with_reducible repeat (first | refine q1 ?_ _ | refine q2 ?_ | refine q3 ?_ _)); refine blk_put (cs := #[.int .i64 t205, .int .i64 t206, .int .i64 x192002_1, .bool x192003_1, .int .i64 x192004_1, .int .i64 x192005_1, .int .i64 x192006_1, .int .i64 x192007_1, .int .i64 x192008_1, .int .u32 x192009_1, .int .i64 x192010_1]) ?_ 2 _ rfl; (with_reducible repeat (first | refine q1 ?_ _ | refine q2 ?_ | refine q3 ?_ _)); refine blk_put (cs := #[.int .i64 t205, .int .i64 x192001_1, .int .i64 x192002_1, .bool x192003_1, .int .i64 x192004_1, .int .i64 x192005_1, .int .i64 x192006_1, .int .i64 x192007_1, .int .i64 x192008_1, .int .u32 x192009_1, .int .i64 x192010_1]) ?_ 1 _ rfl; (with_reducible repeat (first | refine q1 ?_ _ | refine q2 ?_ | refine q3 ?_ _)); refine blk_put (cs := #[.int .i64 x192000_1, .int .i64 x192001_1, .int .i64 x192002_1, .bool x192003_1, .int .i64 x192004_1, .int .i64 x192005_1, .int .i64 x192006_1, .int .i64 x192007_1, .int .i64 x192008_1, .int .u32 x192009_1, .int .i64 x192010_1]) ?_ 0 _ rfl; (with_reducible repeat (first | refine q1 ?_ _ | refine q2 ?_ | refine q3 ?_ _)); exact BK191.out) hb); have n1_ := A0 (below_step (by repeat (first | (with_reducible first | exact HB.out | apply b1 | apply b2 | apply b3 | refine below_set ?_ GE191.out) | exact HB.out)) hb); clear BK191; clear HB; have BK191 := n0_; have HB := n1_; clear n0_ n1_; (try clear hb); (try clear hb2); (try clear hk); (try clear hi)))
              go_ret
              exact ⟨by first | rfl | (simp [errW_none, errW_some] <;> rfl) | (simp [*, errW_none, errW_some] <;> rfl), by repeat (first | (with_reducible first | exact HB.out | apply b1 | apply b2 | apply b3 | refine below_set ?_ GE191.out) | exact HB.out)⟩
            · replace c14 := Bool.eq_false_iff.mpr c14
              subst c14
              have H1 : ((path_Path_Heard.f k1 t205 t206 t207 t208 t209 t210 t211 t212 t213 t214 t215).bind fun bt217 => ((path_Path_Active.f k1 bt217.1 bt217.2.1 bt217.2.2.1 bt217.2.2.2.1 bt217.2.2.2.2.1 bt217.2.2.2.2.2.1 bt217.2.2.2.2.2.2.1 bt217.2.2.2.2.2.2.2.1 bt217.2.2.2.2.2.2.2.2.1 bt217.2.2.2.2.2.2.2.2.2.1 bt217.2.2.2.2.2.2.2.2.2.2).bind fun t228 => (some t228))) = some r := by rw [if_neg (show ¬ (false = true) by decide)] at H; exact H
              clear H
              have H := H1
              clear H1
              replace H := Option.bind_eq_some_iff.mp H
              obtain ⟨⟨t217, t218, t219, t220, t221, t222, t223, t224, t225, t226, t227⟩, A210, H⟩ := H
              replace H : ((path_Path_Active.f k1 t217 t218 t219 t220 t221 t222 t223 t224 t225 t226 t227).bind fun t228 => (some t228)) = some r := H
              have A21 := Aside0.mk A210
              clear A210
              replace H := Option.bind_eq_some_iff.mp H
              obtain ⟨t228, A220, H⟩ := H
              replace H : (some t228) = some r := H
              have A22 := Aside0.mk A220
              clear A220
              obtain rfl := Option.some.inj H
              have hcz23 := cc11 BK191.out
              go_wp2_with (first | ((with_reducible refine gate_callee (f := 21) rfl ?_); refine goesL_ (some 16) rfl rfl Try.func21 (by kernel_rfl) rfl #[.agg #[.int .i64 x192000_1, .int .i64 x192001_1, .int .i64 x192002_1, .bool x192003_1, .int .i64 x192004_1, .int .i64 x192005_1, .int .i64 x192006_1, .int .i64 x192007_1, .int .i64 x192008_1, .int .u32 x192009_1, .int .i64 x192010_1]] rfl (by (try simp only [List.map_toArray, List.map_cons, List.map_nil]); first | done | rfl | (simp only [List.length_drop, List.length_take]; rfl)) ?_; (with_reducible refine (path_Path_Active.calls k1 x192000_1 x192001_1 x192002_1 x192003_1 x192004_1 x192005_1 x192006_1 x192007_1 x192008_1 x192009_1 x192010_1 true _ A10.out).mono ?_); rintro e w24 ⟨rfl, hb⟩; refine ⟨_, rfl, ?_⟩; have n0_ := A0 (blk_below (by (with_reducible repeat (first | refine q1 ?_ _ | refine q2 ?_ | refine q3 ?_ _)); exact BK191.out) hb); have n1_ := A0 (below_step (by repeat (first | (with_reducible first | exact HB.out | apply b1 | apply b2 | apply b3 | refine below_set ?_ GE191.out) | exact HB.out)) hb); clear BK191; clear HB; have BK191 := n0_; have HB := n1_; clear n0_ n1_; (try clear hb); (try clear hb2); (try clear hk); (try clear hi); have hcz25 := cc11 BK191.out) | ((with_reducible refine gate_callee (f := 23) rfl ?_); refine goesL_ (some 18) rfl rfl Try.func23 (by kernel_rfl) rfl #[.agg #[.int .i64 x192000_1, .int .i64 x192001_1, .int .i64 x192002_1, .bool x192003_1, .int .i64 x192004_1, .int .i64 x192005_1, .int .i64 x192006_1, .int .i64 x192007_1, .int .i64 x192008_1, .int .u32 x192009_1, .int .i64 x192010_1]] rfl (by (try simp only [List.map_toArray, List.map_cons, List.map_nil]); first | done | rfl | (simp only [List.length_drop, List.length_take]; rfl)) ?_; (with_reducible refine (path_Path_Failed.calls k1 x192000_1 x192001_1 x192002_1 x192003_1 x192004_1 x192005_1 x192006_1 x192007_1 x192008_1 x192009_1 x192010_1 t205 t206 t207 t208 t209 t210 t211 t212 t213 t214 t215 _ A11.out).mono ?_); rintro e w26 ⟨rfl, hb⟩; refine ⟨_, rfl, ?_⟩; have n0_ := A0 (blk_below (by (with_reducible repeat (first | refine q1 ?_ _ | refine q2 ?_ | refine q3 ?_ _)); exact BK191.out) hb); have n1_ := A0 (below_step (by repeat (first | (with_reducible first | exact HB.out | apply b1 | apply b2 | apply b3 | refine below_set ?_ GE191.out) | exact HB.out)) hb); clear BK191; clear HB; have BK191 := n0_; have HB := n1_; clear n0_ n1_; (try clear hb); (try clear hb2); (try clear hk); (try clear hi); have hcz27 := cc11 BK191.out) | (go_at_call 21; (with_reducible refine (path_Path_Active.calls k1 t205 t206 t207 t208 t209 t210 t211 t212 t213 t214 t215 false _ A13.out).mono ?_); rintro e w28 ⟨rfl, hb⟩; have n0_ := A0 (blk_below (g := gb191) (o := .cells #[.int .i64 t205, .int .i64 t206, .int .i64 t207, .bool t208, .int .i64 t209, .int .i64 t210, .int .i64 t211, .int .i64 t212, .int .i64 t213, .int .u32 t214, .int .i64 t215] 34 (0, 0)) (by (with_reducible repeat (first | refine q1 ?_ _ | refine q2 ?_ | refine q3 ?_ _)); refine blk_put (cs := #[.int .i64 t205, .int .i64 t206, .int .i64 t207, .bool t208, .int .i64 t209, .int .i64 t210, .int .i64 t211, .int .i64 t212, .int .i64 t213, .int .u32 t214, .int .i64 x192010_1]) ?_ 10 _ rfl; (with_reducible repeat (first | refine q1 ?_ _ | refine q2 ?_ | refine q3 ?_ _)); refine blk_put (cs := #[.int .i64 t205, .int .i64 t206, .int .i64 t207, .bool t208, .int .i64 t209, .int .i64 t210, .int .i64 t211, .int .i64 t212, .int .i64 t213, .int .u32 x192009_1, .int .i64 x192010_1]) ?_ 9 _ rfl; (with_reducible repeat (first | refine q1 ?_ _ | refine q2 ?_ | refine q3 ?_ _)); refine blk_put (cs := #[.int .i64 t205, .int .i64 t206, .int .i64 t207, .bool t208, .int .i64 t209, .int .i64 t210, .int .i64 t211, .int .i64 t212, .int .i64 x192008_1, .int .u32 x192009_1, .int .i64 x192010_1]) ?_ 8 _ rfl; (with_reducible repeat (first | refine q1 ?_ _ | refine q2 ?_ | refine q3 ?_ _)); refine blk_put (cs := #[.int .i64 t205, .int .i64 t206, .int .i64 t207, .bool t208, .int .i64 t209, .int .i64 t210, .int .i64 t211, .int .i64 x192007_1, .int .i64 x192008_1, .int .u32 x192009_1, .int .i64 x192010_1]) ?_ 7 _ rfl; (with_reducible repeat (first | refine q1 ?_ _ | refine q2 ?_ | refine q3 ?_ _)); refine blk_put (cs := #[.int .i64 t205, .int .i64 t206, .int .i64 t207, .bool t208, .int .i64 t209, .int .i64 t210, .int .i64 x192006_1, .int .i64 x192007_1, .int .i64 x192008_1, .int .u32 x192009_1, .int .i64 x192010_1]) ?_ 6 _ rfl; (with_reducible repeat (first | refine q1 ?_ _ | refine q2 ?_ | refine q3 ?_ _)); refine blk_put (cs := #[.int .i64 t205, .int .i64 t206, .int .i64 t207, .bool t208, .int .i64 t209, .int .i64 x192005_1, .int .i64 x192006_1, .int .i64 x192007_1, .int .i64 x192008_1, .int .u32 x192009_1, .int .i64 x192010_1]) ?_ 5 _ rfl; (with_reducible repeat (first | refine q1 ?_ _ | refine q2 ?_ | refine q3 ?_ _)); refine blk_put (cs := #[.int .i64 t205, .int .i64 t206, .int .i64 t207, .bool t208, .int .i64 x192004_1, .int .i64 x192005_1, .int .i64 x192006_1, .int .i64 x192007_1, .int .i64 x192008_1, .int .u32 x192009_1, .int .i64 x192010_1]) ?_ 4 _ rfl; (with_reducible repeat (first | refine q1 ?_ _ | refine q2 ?_ | refine q3 ?_ _)); refine blk_put (cs := #[.int .i64 t205, .int .i64 t206, .int .i64 t207, .bool x192003_1, .int .i64 x192004_1, .int .i64 x192005_1, .int .i64 x192006_1, .int .i64 x192007_1, .int .i64 x192008_1, .int .u32 x192009_1, .int .i64 x192010_1]) ?_ 3 _ rfl; (with_reducible repeat (first | refine q1 ?_ _ | refine q2 ?_ | refine q3 ?_ _)); refine blk_put (cs := #[.int .i64 t205, .int .i64 t206, .int .i64 x192002_1, .bool x192003_1, .int .i64 x192004_1, .int .i64 x192005_1, .int .i64 x192006_1, .int .i64 x192007_1, .int .i64 x192008_1, .int .u32 x192009_1, .int .i64 x192010_1]) ?_ 2 _ rfl; (with_reducible repeat (first | refine q1 ?_ _ | refine q2 ?_ | refine q3 ?_ _)); refine blk_put (cs := #[.int .i64 t205, .int .i64 x192001_1, .int .i64 x192002_1, .bool x192003_1, .int .i64 x192004_1, .int .i64 x192005_1, .int .i64 x192006_1, .int .i64 x192007_1, .int .i64 x192008_1, .int .u32 x192009_1, .int .i64 x192010_1]) ?_ 1 _ rfl; (with_reducible repeat (first | refine q1 ?_ _ | refine q2 ?_ | refine q3 ?_ _)); refine blk_put (cs := #[.int .i64 x192000_1, .int .i64 x192001_1, .int .i64 x192002_1, .bool x192003_1, .int .i64 x192004_1, .int .i64 x192005_1, .int .i64 x192006_1, .int .i64 x192007_1, .int .i64 x192008_1, .int .u32 x192009_1, .int .i64 x192010_1]) ?_ 0 _ rfl; (with_reducible repeat (first | refine q1 ?_ _ | refine q2 ?_ | refine q3 ?_ _)); exact BK191.out) hb); have n1_ := A0 (below_step (by repeat (first | (with_reducible first | exact HB.out | apply b1 | apply b2 | apply b3 | refine below_set ?_ GE191.out) | exact HB.out)) hb); clear BK191; clear HB; have BK191 := n0_; have HB := n1_; clear n0_ n1_; (try clear hb); (try clear hb2); (try clear hk); (try clear hi); have hcz29 := cc11 BK191.out) | (go_at_call 25; (with_reducible refine (path_Path_Heard.calls k1 t205 t206 t207 t208 t209 t210 t211 t212 t213 t214 t215 t217 t218 t219 t220 t221 t222 t223 t224 t225 t226 t227 _ A21.out).mono ?_); rintro e w30 ⟨rfl, hb⟩; have n0_ := A0 (blk_below (by (with_reducible repeat (first | refine q1 ?_ _ | refine q2 ?_ | refine q3 ?_ _)); exact BK191.out) hb); have n1_ := A0 (below_step (by repeat (first | (with_reducible first | exact HB.out | apply b1 | apply b2 | apply b3 | refine below_set ?_ GE191.out) | exact HB.out)) hb); clear BK191; clear HB; have BK191 := n0_; have HB := n1_; clear n0_ n1_; (try clear hb); (try clear hb2); (try clear hk); (try clear hi)) | (go_at_call 21; (with_reducible refine (path_Path_Active.calls k1 t217 t218 t219 t220 t221 t222 t223 t224 t225 t226 t227 t228 _ A22.out).mono ?_); rintro e w31 ⟨rfl, hb⟩; have n0_ := A0 (blk_below (by (with_reducible repeat (first | refine q1 ?_ _ | refine q2 ?_ | refine q3 ?_ _)); exact BK191.out) hb); have n1_ := A0 (below_step (by repeat (first | (with_reducible first | exact HB.out | apply b1 | apply b2 | apply b3 | refine below_set ?_ GE191.out) | exact HB.out)) hb); clear BK191; clear HB; have BK191 := n0_; have HB := n1_; clear n0_ n1_; (try clear hb); (try clear hb2); (try clear hk); (try clear hi)))
              go_ret
              exact ⟨by first | rfl | (simp [errW_none, errW_some] <;> rfl) | (simp [*, errW_none, errW_some] <;> rfl), by repeat (first | (with_reducible first | exact HB.out | apply b1 | apply b2 | apply b3 | refine below_set ?_ GE191.out) | exact HB.out)⟩
          · replace c12 := Bool.eq_false_iff.mpr c12
            subst c12
            have H1 : (some false) = some r := by rw [if_neg (show ¬ (false = true) by decide)] at H; exact H
            clear H
            have H := H1
            clear H1
            obtain rfl := Option.some.inj H
            have hcz32 := cc11 BK191.out
            go_wp2_with (first | ((with_reducible refine gate_callee (f := 21) rfl ?_); refine goesL_ (some 16) rfl rfl Try.func21 (by kernel_rfl) rfl #[.agg #[.int .i64 x192000_1, .int .i64 x192001_1, .int .i64 x192002_1, .bool x192003_1, .int .i64 x192004_1, .int .i64 x192005_1, .int .i64 x192006_1, .int .i64 x192007_1, .int .i64 x192008_1, .int .u32 x192009_1, .int .i64 x192010_1]] rfl (by (try simp only [List.map_toArray, List.map_cons, List.map_nil]); first | done | rfl | (simp only [List.length_drop, List.length_take]; rfl)) ?_; (with_reducible refine (path_Path_Active.calls k1 x192000_1 x192001_1 x192002_1 x192003_1 x192004_1 x192005_1 x192006_1 x192007_1 x192008_1 x192009_1 x192010_1 false _ A10.out).mono ?_); rintro e w33 ⟨rfl, hb⟩; refine ⟨_, rfl, ?_⟩; have n0_ := A0 (blk_below (by (with_reducible repeat (first | refine q1 ?_ _ | refine q2 ?_ | refine q3 ?_ _)); exact BK191.out) hb); have n1_ := A0 (below_step (by repeat (first | (with_reducible first | exact HB.out | apply b1 | apply b2 | apply b3 | refine below_set ?_ GE191.out) | exact HB.out)) hb); clear BK191; clear HB; have BK191 := n0_; have HB := n1_; clear n0_ n1_; (try clear hb); (try clear hb2); (try clear hk); (try clear hi); have hcz34 := cc11 BK191.out) | ((with_reducible refine gate_callee (f := 23) rfl ?_); refine goesL_ (some 18) rfl rfl Try.func23 (by kernel_rfl) rfl #[.agg #[.int .i64 x192000_1, .int .i64 x192001_1, .int .i64 x192002_1, .bool x192003_1, .int .i64 x192004_1, .int .i64 x192005_1, .int .i64 x192006_1, .int .i64 x192007_1, .int .i64 x192008_1, .int .u32 x192009_1, .int .i64 x192010_1]] rfl (by (try simp only [List.map_toArray, List.map_cons, List.map_nil]); first | done | rfl | (simp only [List.length_drop, List.length_take]; rfl)) ?_; (with_reducible refine (path_Path_Failed.calls k1 x192000_1 x192001_1 x192002_1 x192003_1 x192004_1 x192005_1 x192006_1 x192007_1 x192008_1 x192009_1 x192010_1 t205 t206 t207 t208 t209 t210 t211 t212 t213 t214 t215 _ A11.out).mono ?_); rintro e w35 ⟨rfl, hb⟩; refine ⟨_, rfl, ?_⟩; have n0_ := A0 (blk_below (by (with_reducible repeat (first | refine q1 ?_ _ | refine q2 ?_ | refine q3 ?_ _)); exact BK191.out) hb); have n1_ := A0 (below_step (by repeat (first | (with_reducible first | exact HB.out | apply b1 | apply b2 | apply b3 | refine below_set ?_ GE191.out) | exact HB.out)) hb); clear BK191; clear HB; have BK191 := n0_; have HB := n1_; clear n0_ n1_; (try clear hb); (try clear hb2); (try clear hk); (try clear hi); have hcz36 := cc11 BK191.out))
            go_ret
            exact ⟨by first | rfl | (simp [errW_none, errW_some] <;> rfl) | (simp [*, errW_none, errW_some] <;> rfl), by repeat (first | (with_reducible first | exact HB.out | apply b1 | apply b2 | apply b3 | refine below_set ?_ GE191.out) | exact HB.out)⟩
  · have H1 : (some false) = some r := by rw [if_neg (show ¬ (some q192).isNone = true by simp)] at H; exact H
    clear H
    have H := H1
    clear H1
    try simp only [errW_none, errW_some]
    obtain rfl := Option.some.inj H
    go_enter Try.func11, Try.ntmps11
    go_wp2_with (first | ((with_reducible refine gate_callee (f := 13) rfl ?_); refine goesL_ (some 5) rfl rfl Try.func13 (by kernel_rfl) rfl #[.int .i64 7] rfl (by (try simp only [List.map_toArray, List.map_cons, List.map_nil]); first | done | rfl | (simp only [List.length_drop, List.length_take]; rfl)) ?_; (with_reducible refine (path_New.calls 7 t179 t180 t181 t182 t183 t184 t185 t186 t187 t188 t189 (some q192) _ A1.out).mono ?_); rintro e w37 ⟨rfl, hb⟩; refine ⟨_, rfl, ?_⟩; have n0_ := A0 (below_step (by repeat (first | (with_reducible first | exact HB.out | apply b1 | apply b2 | apply b3) | exact HB.out)) hb); clear HB; have HB := n0_; clear n0_; (try clear hb); (try clear hb2); (try clear hk); (try clear hi); (try simp only [errW_none, errW_some])) | ((with_reducible refine gate_dst (N := 1) rfl ?_); refine box_event ?hg (N := 1) ?hd (cs := #[.int .i64 0, .int .i64 0, .int .i64 0, .bool false, .int .i64 0, .int .i64 0, .int .i64 0, .int .i64 0, .int .i64 0, .int .u32 0, .int .i64 0]) (t := 34) ?hr ?_; (case hd => rfl); (case hg => rfl); (case hr => first | (go_simp; done) | (go_simp; rfl)); intro gb191 hg w38 hbox hb; have n0_ := A0 (below_step (by repeat (first | (with_reducible first | exact HB.out | apply b1 | apply b2 | apply b3) | exact HB.out)) hb); have n1_ := A0 (hbox); have n2_ := A0 ((by rw [hg]; exact (below_size (by repeat (first | (with_reducible first | exact HB.out | apply b1 | apply b2 | apply b3) | exact HB.out))) : w.heap.size ≤ gb191)); have n3_ := n2_; clear HB; have HB := n0_; have BK191 := n1_; have GW191 := n2_; have GE191 := n3_; clear n0_ n1_ n2_ n3_; clear hb hbox hg; have hcz39 := cc11 BK191.out))
    go_ret
    exact ⟨by first | rfl | (simp [errW_none, errW_some] <;> rfl) | (simp [*, errW_none, errW_some] <;> rfl), by repeat (first | (with_reducible first | exact HB.out | apply b1 | apply b2 | apply b3 | refine below_set ?_ GE191.out) | exact HB.out)⟩

end Go.Proofs.Ytblooffiggciiaa.PAll
/- Num -/
namespace Go.Proofs.Ytblooffiggciiaa.Pl
open Go.RowKit
theorem w64 {x : Int} (h : -9223372036854775808 ≤ x) (h' : x ≤ 9223372036854775807) : wrap64 x = x := by
  unfold wrap64; omega
theorem td (x : Int) (h : 0 ≤ x) (n : Int) : Int.tdiv x n = x / n := Int.tdiv_eq_ediv_of_nonneg h
theorem ite_some_false {c : Prop} [Decidable c] {a : Option Bool} (h : c → a = some false) : (if c then a else some false) = some false := by
  by_cases hc : c
  · rw [if_pos hc, h hc]
  · rw [if_neg hc]
end Go.Proofs.Ytblooffiggciiaa.Pl
/- Rto -/
namespace Go.Proofs.Ytblooffiggciiaa.Pl
open Go.RowKit Go.Proofs.Ytblooffiggciiaa.PAll Go.Proofs.YtblooffiggciiaaW.PrintWords Go.Proofs.YtblooffiggciiaaW.PrintLast Go.Proofs.YtblooffiggciiaaW.PrintMore
set_option linter.unusedVariables false
def goodP (s d w : Int) (m : Bool) : Prop := 10 ≤ w ∧ w ≤ 600 ∧ 0 ≤ s ∧ 0 ≤ d ∧ (m = true → s ≤ 524280 ∧ d ≤ 262140) ∧ (m = false → s = 0 ∧ d = 0)
instance (s d w : Int) (m : Bool) : Decidable (goodP s d w m) := by unfold goodP; infer_instance

theorem good_yes {s d w : Int} {m : Bool} (k : Nat) (h : goodP s d w m) : rto_Good.f (k + 1) s d w m = some true := by
  obtain ⟨h1, h2, h3, h4, h5, h6⟩ := h
  unfold rto_Good.f
  rw [if_neg (by omega), if_neg (by omega), if_neg (by omega)]
  simp only [rto_Good.j0]
  have : decide (d < 0) = false := by simp; omega
  rw [this, if_neg (by simp)]
  cases m with
  | true => obtain ⟨a, b⟩ := h5 rfl; rw [if_pos rfl, if_pos a]; simp [b]
  | false => obtain ⟨a, b⟩ := h6 rfl; rw [if_neg (by simp), if_pos a]; simp [b]

theorem good_no {s d w : Int} {m : Bool} (k : Nat) (h : ¬ goodP s d w m) : rto_Good.f (k + 1) s d w m = some false := by
  unfold goodP at h
  unfold rto_Good.f
  by_cases h1 : w < 10
  · rw [if_pos h1]; simp [rto_Good.j0]
  rw [if_neg h1]
  by_cases h2 : w > 600
  · rw [if_pos h2]; simp [rto_Good.j0]
  rw [if_neg h2]
  by_cases h3 : s < 0
  · rw [if_pos h3]; simp [rto_Good.j0]
  rw [if_neg h3]
  by_cases h4 : d < 0
  · simp [rto_Good.j0, h4]
  have : decide (d < 0) = false := by simp; omega
  rw [this]
  simp only [rto_Good.j0]
  rw [if_neg (by simp)]
  cases m with
  | true =>
    rw [if_pos rfl]
    by_cases h5 : s ≤ 524280
    · rw [if_pos h5]; simp only [Option.some.injEq, decide_eq_false_iff_not]
      intro h6
      exact h ⟨by omega, by omega, by omega, by omega, fun _ => ⟨h5, h6⟩, fun h => by cases h⟩
    · rw [if_neg h5]
  | false =>
    rw [if_neg (by simp)]
    by_cases h5 : s = 0
    · rw [if_pos h5]; simp only [Option.some.injEq, beq_eq_false_iff_ne]
      intro h6
      exact h ⟨by omega, by omega, by omega, by omega, fun h => by (cases h), fun _ => ⟨h5, h6⟩⟩
    · rw [if_neg h5]

theorem good_eq (s d w : Int) (m : Bool) (k : Nat) : rto_Good.f (k + 1) s d w m = some (decide (goodP s d w m)) := by
  by_cases h : goodP s d w m
  · rw [good_yes k h]; simp [h]
  · rw [good_no k h]; simp [h]

theorem refgood (s d w : Int) (m : Bool) : weftlineref11_Good.f s d w m = some (decide (goodP s d w m)) := by
  unfold weftlineref11_Good.f
  by_cases h : goodP s d w m
  · rw [decide_eq_true h]
    obtain ⟨h1, h2, h3, h4, h5, h6⟩ := h
    cases m with
    | true =>
      obtain ⟨a, b⟩ := h5 rfl
      rw [if_pos rfl, if_pos h1, if_pos h2, if_pos h3, if_pos a, if_pos h4, decide_eq_true b]
    | false =>
      obtain ⟨a, b⟩ := h6 rfl
      rw [if_neg (by simp), if_pos a, if_pos b, if_pos h1, if_pos h2, if_pos h3, if_pos (by omega), if_pos h4, decide_eq_true (by omega)]
  · rw [decide_eq_false h]
    unfold goodP at h
    cases m with
    | true =>
      simp only [true_implies, reduceCtorEq, false_implies, and_true] at h
      rw [if_pos rfl]
      repeat' (first | (refine ite_some_false ?_ ; intro _))
      simp only [Option.some.injEq, decide_eq_false_iff_not]; omega
    | false =>
      simp only [true_implies, reduceCtorEq, false_implies, true_and] at h
      rw [if_neg (by simp)]
      repeat' (first | (refine ite_some_false ?_ ; intro _))
      simp only [Option.some.injEq, decide_eq_false_iff_not]; omega

end Go.Proofs.Ytblooffiggciiaa.Pl
/- Cwnd -/
namespace Go.Proofs.Ytblooffiggciiaa.Pl
open Go.RowKit Go.Proofs.Ytblooffiggciiaa.PAll Go.Proofs.YtblooffiggciiaaW.PrintWords Go.Proofs.YtblooffiggciiaaW.PrintLast Go.Proofs.YtblooffiggciiaaW.PrintMore
set_option linter.unusedVariables false
def goodW (s t c : Int) : Prop := 128 ≤ s ∧ s ≤ 8192 ∧ 128 ≤ t ∧ t ≤ 8192 ∧ 0 ≤ c ∧ c ≤ 2147483648
instance (s t c : Int) : Decidable (goodW s t c) := by unfold goodW; infer_instance

theorem wgood (s t c : Int) : cwnd_Good.f s t c = some (decide (goodW s t c)) := by
  unfold cwnd_Good.f cwnd_sized.f
  by_cases h : goodW s t c
  · rw [decide_eq_true h]
    obtain ⟨h1, h2, h3, h4, h5, h6⟩ := h
    rw [if_pos h1, if_pos h3, if_pos h5, decide_eq_true h2, decide_eq_true h4, decide_eq_true h6]; rfl
  · rw [decide_eq_false h]
    unfold goodW at h
    by_cases h1 : s ≥ 128
    · rw [if_pos h1]
      by_cases h2 : s ≤ 8192
      · rw [decide_eq_true h2]
        by_cases h3 : t ≥ 128
        · rw [if_pos h3]
          by_cases h4 : t ≤ 8192
          · rw [decide_eq_true h4]
            by_cases h5 : c ≥ 0
            · rw [if_pos h5, decide_eq_false (by omega)]; rfl
            · rw [if_neg h5]; rfl
          · rw [decide_eq_false h4]; rfl
        · rw [if_neg h3]; rfl
      · rw [decide_eq_false h2]; rfl
    · rw [if_neg h1]; rfl

theorem wrefgood (s t c : Int) : weftlineref12_Good.f s t c = some (decide (goodW s t c)) := by
  unfold weftlineref12_Good.f
  by_cases h : goodW s t c
  · rw [decide_eq_true h]
    obtain ⟨h1, h2, h3, h4, h5, h6⟩ := h
    rw [if_pos h1, if_pos h2, if_pos h3, if_pos h4, if_pos h5, decide_eq_true h6]
  · rw [decide_eq_false h]
    unfold goodW at h
    by_cases h1 : s ≥ 128
    · rw [if_pos h1]
      by_cases h2 : s ≤ 8192
      · rw [if_pos h2]
        by_cases h3 : t ≥ 128
        · rw [if_pos h3]
          by_cases h4 : t ≤ 8192
          · rw [if_pos h4]
            by_cases h5 : c ≥ 0
            · rw [if_pos h5]; congr 1; rw [decide_eq_false_iff_not]; omega
            · rw [if_neg h5]
          · rw [if_neg h4]
        · rw [if_neg h3]
      · rw [if_neg h2]
    · rw [if_neg h1]

end Go.Proofs.Ytblooffiggciiaa.Pl
/- Path -/
namespace Go.Proofs.Ytblooffiggciiaa.Pl
open Go.RowKit Go.Proofs.Ytblooffiggciiaa.PAll Go.Proofs.YtblooffiggciiaaW.PrintWords Go.Proofs.YtblooffiggciiaaW.PrintLast Go.Proofs.YtblooffiggciiaaW.PrintMore
set_option linter.unusedVariables false
def addrP (a : Int) : Prop := 1 ≤ a ∧ a ≤ 2147483647
instance (a : Int) : Decidable (addrP a) := by unfold addrP; infer_instance
theorem addr_eq (a : Int) : path_addressed.f a = some (decide (addrP a)) := by
  unfold path_addressed.f
  by_cases h : a ≥ 1
  · rw [if_pos h]; congr 1; rw [decide_eq_decide]; unfold addrP; omega
  · rw [if_neg h]; congr 1; symm; rw [decide_eq_false_iff_not]; intro h'; exact h h'.1
theorem refaddr_eq (a : Int) : weftlineref13_Addr.f a = some (decide (addrP a)) := addr_eq a
def tickP (a : Int) : Prop := 0 ≤ a ∧ a ≤ 4611686018427387904
instance (a : Int) : Decidable (tickP a) := by unfold tickP; infer_instance
theorem tick_eq (a : Int) : path_ticked.f a = some (decide (tickP a)) := by
  unfold path_ticked.f
  by_cases h : a ≥ 0
  · rw [if_pos h]; congr 1; rw [decide_eq_decide]; unfold tickP; omega
  · rw [if_neg h]; congr 1; symm; rw [decide_eq_false_iff_not]; intro h'; exact h h'.1
theorem reftick_eq (a : Int) : weftlineref13_tick.f a = some (decide (tickP a)) := tick_eq a

def goodQ (s d w : Int) (m : Bool) (z t c a er no se : Int) : Prop :=
  (no = 0 → se = 0) ∧ tickP se ∧ addrP a ∧ goodP s d w m ∧ goodW z t c ∧ 0 ≤ er ∧ er ≤ 100
instance (s d w : Int) (m : Bool) (z t c a er no se : Int) : Decidable (goodQ s d w m z t c a er no se) := by unfold goodQ; infer_instance

theorem tail_good (s d w : Int) (m : Bool) (z t c a er : Int) (k : Nat) :
    ((path_addressed.f a).bind fun t144 => (if t144 = true then ((rto_Good.f (k + 1) s d w m).bind fun t145 => (if t145 = true then ((cwnd_Good.f z t c).bind fun t146 => (if t146 = true then (if er ≥ 0 then (some (decide (er ≤ 100))) else (some false)) else (some false))) else (some false))) else (some false))) =
      some (decide (addrP a ∧ goodP s d w m ∧ goodW z t c ∧ 0 ≤ er ∧ er ≤ 100)) := by
  rw [addr_eq, good_eq, wgood]
  simp only [Option.bind_some]
  by_cases h1 : addrP a
  · by_cases h2 : goodP s d w m
    · by_cases h3 : goodW z t c
      · by_cases h4 : er ≥ 0
        · simp only [h1, h2, h3, h4, decide_true, if_true, true_and]
        · simp only [h1, h2, h3, h4, decide_true, if_true, if_false, true_and, false_and, decide_false]
      · simp [h1, h2, h3]
    · simp [h1, h2]
  · simp [h1]
theorem qgood (s d w : Int) (m : Bool) (z t c a er no se : Int) (k : Nat) : path_Good.f (k + 1) s d w m z t c a er no se = some (decide (goodQ s d w m z t c a er no se)) := by
  unfold path_Good.f
  rw [tail_good]
  by_cases h : no = 0
  · rw [if_pos h]
    by_cases h2 : se = 0
    · rw [if_pos h2]; congr 1; rw [decide_eq_decide]
      subst h2
      constructor
      · intro h'; exact ⟨fun _ => rfl, by decide, h'⟩
      · intro h'; exact h'.2.2
    · rw [if_neg h2]; congr 1; symm; rw [decide_eq_false_iff_not]; intro h'; exact h2 (h'.1 h)
  · rw [if_neg h, tick_eq]
    simp only [Option.bind_some]
    by_cases h2 : tickP se
    · rw [decide_eq_true h2]; simp only [if_true]; congr 1; rw [decide_eq_decide]
      constructor
      · intro h'; exact ⟨fun h0 => absurd h0 h, h2, h'⟩
      · intro h'; exact h'.2.2
    · rw [decide_eq_false h2]; simp only [Bool.false_eq_true, if_false]; congr 1; symm; rw [decide_eq_false_iff_not]; intro h'; exact h2 h'.2.1
theorem qrefgood (s d w : Int) (m : Bool) (z t c a er no se : Int) (k : Nat) : weftlineref13_Good.f (k + 1) s d w m z t c a er no se = some (decide (goodQ s d w m z t c a er no se)) := by
  have hj : ∀ b, weftlineref13_Good.j0 (k + 1) b s d w m z t c a er no se = some (if b = true then false else decide (addrP a ∧ goodP s d w m ∧ goodW z t c ∧ 0 ≤ er ∧ er ≤ 100)) := fun b => by
    have := tail_good s d w m z t c a er 0
    rw [addr_eq, good_eq, wgood] at this
    simp only [weftlineref13_Good.j0]
    rw [refaddr_eq, refgood, wrefgood]
    cases b with
    | true => rfl
    | false => simp only [Bool.false_eq_true, if_false]; exact this
  unfold weftlineref13_Good.f
  rw [hj, reftick_eq]
  simp only [Option.bind_some, if_true]
  rw [hj]
  by_cases h : no = 0
  · rw [if_pos h]
    by_cases h2 : se = 0
    · rw [if_pos h2]; subst h2
      have : tickP 0 := by decide
      rw [decide_eq_true this]
      simp only [Bool.not_true, Bool.false_eq_true, if_false]; congr 1; rw [decide_eq_decide]
      constructor
      · intro h'; exact ⟨fun _ => rfl, by decide, h'⟩
      · intro h'; exact h'.2.2
    · rw [if_neg h2]; congr 1; symm; rw [decide_eq_false_iff_not]; intro h'; exact h2 (h'.1 h)
  · rw [if_neg h]
    by_cases h2 : tickP se
    · rw [decide_eq_true h2]; simp only [Bool.not_true, Bool.false_eq_true, if_false]; congr 1; rw [decide_eq_decide]
      constructor
      · intro h'; exact ⟨fun h0 => absurd h0 h, h2, h'⟩
      · intro h'; exact h'.2.2
    · rw [decide_eq_false h2]; simp only [Bool.not_false, if_true]; congr 1; symm; rw [decide_eq_false_iff_not]; intro h'; exact h2 h'.2.1

section
variable {s d w : Int} {m : Bool} {z t c a er no se : Int}
end
theorem alive13 (k : Nat) : weftlinelaw13_alive.f (k + 20) = some true :=
  at_rounds weftlinelaw13_alive.mono (by omega) (show weftlinelaw13_alive.f 20 = some true by decide +kernel)
end Go.Proofs.Ytblooffiggciiaa.Pl
/- RtoT -/
namespace Go.Proofs.Ytblooffiggciiaa.Pl
open Go.RowKit Go.Proofs.Ytblooffiggciiaa.PAll Go.Proofs.YtblooffiggciiaaW.PrintWords Go.Proofs.YtblooffiggciiaaW.PrintLast Go.Proofs.YtblooffiggciiaaW.PrintMore
set_option linter.unusedVariables false
def clampW (x : Int) : Int := mn (mx x 10) 600
/-- The estimate behind an answer. -/
def tookS (s _d r : Int) (m : Bool) : Int := if m = true then s + (r - s / 8) else 8 * r
def tookD (s d r : Int) (m : Bool) : Int := if m = true then d + ((if r - s / 8 < 0 then -(r - s / 8) else r - s / 8) - d / 4) else 2 * r

theorem took_bounds {s d w r : Int} {m : Bool} (h : goodP s d w m) (h0 : 0 ≤ r) (h1 : r ≤ 65535) :
    0 ≤ tookS s d r m ∧ tookS s d r m ≤ 524280 ∧ 0 ≤ tookD s d r m ∧ tookD s d r m ≤ 262140 := by
  obtain ⟨_, _, h3, h4, h5, h6⟩ := h
  unfold tookS tookD
  cases m with
  | true => obtain ⟨a, b⟩ := h5 rfl; simp only [if_true]; split <;> omega
  | false => simp; omega

theorem took_yes {s d w r : Int} {m : Bool} (k : Nat) (h : goodP s d w m) (h0 : 0 ≤ r) (h1 : r ≤ 65535) :
    rto_Estimate_Took.f (k + 1) s d w m r = some (tookS s d r m, tookD s d r m, clampW (tookS s d r m / 8 + tookD s d r m), true, none) := by
  have hb := took_bounds h h0 h1
  have hg := h
  obtain ⟨_, _, h3, h4, h5, h6⟩ := h
  unfold rto_Estimate_Took.f
  rw [good_yes k hg]
  simp only [Option.bind_some, if_true]
  rw [if_neg (by omega)]
  have : decide (r > 65535) = false := by simp; omega
  rw [this]
  simp only [rto_Estimate_Took.j0]
  rw [if_neg (by simp)]
  cases m with
  | true =>
    obtain ⟨a, b⟩ := h5 rfl
    rw [if_pos rfl]
    have e1 : wrap64 (s.tdiv 8) = s / 8 := by rw [td s h3]; exact w64 (by omega) (by omega)
    have e2 : wrap64 (d.tdiv 4) = d / 4 := by rw [td d h4]; exact w64 (by omega) (by omega)
    have e3 : wrap64 (r - s / 8) = r - s / 8 := w64 (by omega) (by omega)
    rw [e1, e2, e3]
    have e4 : rto_off.f (r - s / 8) = some (if r - s / 8 < 0 then -(r - s / 8) else r - s / 8) := by
      unfold rto_off.f mx
      rw [w64 (by omega) (by omega)]
      congr 1
      split <;> split <;> omega
    rw [e4]
    simp only [Option.bind_some]
    have t1 : tookS s d r true = s + (r - s / 8) := by simp [tookS]
    have t2 : tookD s d r true = d + ((if r - s / 8 < 0 then -(r - s / 8) else r - s / 8) - d / 4) := by simp [tookD]
    rw [t1, t2] at hb ⊢
    generalize (if r - s / 8 < 0 then -(r - s / 8) else r - s / 8) = o at hb ⊢
    obtain ⟨b1, b2, b3, b4⟩ := hb
    rw [w64 (x := s + (r - s / 8)) (by omega) (by omega), w64 (x := o - d / 4) (by omega) (by omega), w64 (x := d + (o - d / 4)) (by omega) (by omega)]
    rw [td _ b1, w64 (x := (s + (r - s / 8)) / 8) (by omega) (by omega), w64 (by omega) (by omega)]
    rfl
  | false =>
    rw [if_neg (by simp)]
    have t1 : tookS s d r false = 8 * r := by simp [tookS]
    have t2 : tookD s d r false = 2 * r := by simp [tookD]
    rw [t1, t2]
    rw [w64 (x := 8 * r) (by omega) (by omega), w64 (x := 4 * r) (by omega) (by omega), td _ (by omega), td _ (by omega)]
    rw [w64 (x := 8 * r / 8) (by omega) (by omega), w64 (x := 4 * r / 2) (by omega) (by omega), show 4 * r / 2 = 2 * r from by omega, w64 (by omega) (by omega)]
    rfl

theorem reftook_j1 (k : Nat) {s d : Int} (h0 : 0 ≤ s) (h1 : s ≤ 524280) (h2 : 0 ≤ d) (h3 : d ≤ 262140) :
    weftlineref11_Took.j1 (k + 1) s d 0 true = some (s, d, clampW (s / 8 + d), true, true) := by
  simp only [weftlineref11_Took.j1]
  rw [td s h0, w64 (x := s / 8) (by omega) (by omega), w64 (by omega) (by omega)]
  unfold clampW mn mx
  by_cases h4 : s / 8 + d < 10
  · rw [if_pos h4, if_neg (by decide), if_pos h4, if_neg (by decide)]
  · rw [if_neg h4, if_neg h4]
    by_cases h5 : s / 8 + d > 600
    · rw [if_pos h5, if_pos h5]
    · rw [if_neg h5, if_neg h5]

theorem reftook_yes {s d w r : Int} {m : Bool} (k : Nat) (h : goodP s d w m) (h0 : 0 ≤ r) (h1 : r ≤ 65535) :
    weftlineref11_Took.f (k + 2) s d w m r = some (tookS s d r m, tookD s d r m, clampW (tookS s d r m / 8 + tookD s d r m), true, true) := by
  have hb := took_bounds h h0 h1
  have hg := h
  obtain ⟨_, _, h3, h4, h5, h6⟩ := h
  unfold weftlineref11_Took.f
  rw [refgood, decide_eq_true hg]
  simp only [Option.bind_some, if_true]
  rw [if_neg (by omega), decide_eq_false (by omega)]
  simp only [weftlineref11_Took.j0, Bool.false_eq_true, if_false]
  cases m with
  | true =>
    obtain ⟨a, b⟩ := h5 rfl
    simp only [if_true]
    have e1 : wrap64 (s.tdiv 8) = s / 8 := by rw [td s h3]; exact w64 (by omega) (by omega)
    have e2 : wrap64 (d.tdiv 4) = d / 4 := by rw [td d h4]; exact w64 (by omega) (by omega)
    have e3 : wrap64 (r - s / 8) = r - s / 8 := w64 (by omega) (by omega)
    rw [e1, e2, e3, w64 (x := s + (r - s / 8)) (by omega) (by omega), w64 (x := -(r - s / 8)) (by omega) (by omega)]
    have t1 : tookS s d r true = s + (r - s / 8) := by simp [tookS]
    rw [t1] at hb ⊢
    by_cases hc : r - s / 8 < 0
    · have t2 : tookD s d r true = d + -(r - s / 8) - d / 4 := by simp only [tookD, if_true]; rw [if_pos hc]; omega
      rw [t2] at hb ⊢
      rw [if_pos hc, w64 (x := d + -(r - s / 8)) (by omega) (by omega), w64 (x := d + -(r - s / 8) - d / 4) (by omega) (by omega)]
      exact reftook_j1 k hb.1 hb.2.1 hb.2.2.1 hb.2.2.2
    · have t2 : tookD s d r true = d + (r - s / 8) - d / 4 := by simp only [tookD, if_true]; rw [if_neg hc]; omega
      rw [t2] at hb ⊢
      rw [if_neg hc, w64 (x := d + (r - s / 8)) (by omega) (by omega), w64 (x := d + (r - s / 8) - d / 4) (by omega) (by omega)]
      exact reftook_j1 k hb.1 hb.2.1 hb.2.2.1 hb.2.2.2
  | false =>
    have t1 : tookS s d r false = 8 * r := by simp [tookS]
    have t2 : tookD s d r false = 2 * r := by simp [tookD]
    rw [t1, t2] at hb ⊢
    simp only [Bool.false_eq_true, if_false]
    rw [w64 (x := 8 * r) (by omega) (by omega), w64 (x := 2 * r) (by omega) (by omega)]
    exact reftook_j1 k hb.1 hb.2.1 hb.2.2.1 hb.2.2.2

end Go.Proofs.Ytblooffiggciiaa.Pl
/- PAllxe -/
namespace Go.Proofs.Ytblooffiggciiaa.PAll
open Go.RowKit Go.Proofs.YtblooffiggciiaaW.PrintWords Go.Proofs.YtblooffiggciiaaW.PrintLast Go.Proofs.YtblooffiggciiaaW.PrintMore
set_option linter.unusedVariables false
set_option linter.unusedSimpArgs false
theorem eqA23 (d : Nat) (w : World) (x0 y0 : Int) (x1 y1 : Int) (x2 y2 : Int) (x3 y3 : Bool) :
    (Op.equalIn (d + 2) 23 (.agg #[.int .i64 x0, .int .i64 x1, .int .i64 x2, .bool x3]) (.agg #[.int .i64 y0, .int .i64 y1, .int .i64 y2, .bool y3])).run Try.prog w = .ok (x0 == y0 && (x1 == y1 && (x2 == y2 && (x3 == y3)))) w := by
  refine eqA_of Try.underlying23 (by kernel_rfl) ?_
  refine eqf_cons (by rfl) (by go_simp; rfl) (by go_simp; rfl) (by go_simp) ?_
  refine eqf_cons (by rfl) (by go_simp; rfl) (by go_simp; rfl) (by go_simp) ?_
  refine eqf_cons (by rfl) (by go_simp; rfl) (by go_simp; rfl) (by go_simp) ?_
  exact eqf_last (by rfl) (by go_simp; rfl) (by go_simp; rfl) (by go_simp)
theorem eqA25 (d : Nat) (w : World) (x0 y0 : Int) (x1 y1 : Int) (x2 y2 : Int) :
    (Op.equalIn (d + 2) 25 (.agg #[.int .i64 x0, .int .i64 x1, .int .i64 x2]) (.agg #[.int .i64 y0, .int .i64 y1, .int .i64 y2])).run Try.prog w = .ok (x0 == y0 && (x1 == y1 && (x2 == y2))) w := by
  refine eqA_of Try.underlying25 (by kernel_rfl) ?_
  refine eqf_cons (by rfl) (by go_simp; rfl) (by go_simp; rfl) (by go_simp) ?_
  refine eqf_cons (by rfl) (by go_simp; rfl) (by go_simp; rfl) (by go_simp) ?_
  exact eqf_last (by rfl) (by go_simp; rfl) (by go_simp; rfl) (by go_simp)
theorem eqA29 (d : Nat) (w : World) (x0 y0 : Int) (x1 y1 : Int) (x2 y2 : Int) (x3 y3 : Bool) (x4 y4 : Int) (x5 y5 : Int) (x6 y6 : Int) (x7 y7 : Int) (x8 y8 : Int) (x9 y9 : Int) (x10 y10 : Int) :
    (Op.equalIn (d + 3) 29 (.agg #[.int .i64 x0, .int .i64 x1, .int .i64 x2, .bool x3, .int .i64 x4, .int .i64 x5, .int .i64 x6, .int .i64 x7, .int .i64 x8, .int .u32 x9, .int .i64 x10]) (.agg #[.int .i64 y0, .int .i64 y1, .int .i64 y2, .bool y3, .int .i64 y4, .int .i64 y5, .int .i64 y6, .int .i64 y7, .int .i64 y8, .int .u32 y9, .int .i64 y10])).run Try.prog w = .ok ((x0 == y0 && (x1 == y1 && (x2 == y2 && (x3 == y3)))) && ((x4 == y4 && (x5 == y5 && (x6 == y6))) && (x7 == y7 && (x8 == y8 && (x9 == y9 && (x10 == y10)))))) w := by
  refine eqA_of Try.underlying29 (by kernel_rfl) ?_
  refine eqf_cons (by rfl) (by go_simp) (by go_simp) (eqA23 (d + 0) w _ _ _ _ _ _ _ _) ?_
  refine eqf_cons (by rfl) (by go_simp) (by go_simp) (eqA25 (d + 0) w _ _ _ _ _ _) ?_
  refine eqf_cons (by rfl) (by go_simp; rfl) (by go_simp; rfl) (by go_simp) ?_
  refine eqf_cons (by rfl) (by go_simp; rfl) (by go_simp; rfl) (by go_simp) ?_
  refine eqf_cons (by rfl) (by go_simp; rfl) (by go_simp; rfl) (by go_simp) ?_
  exact eqf_last (by rfl) (by go_simp; rfl) (by go_simp; rfl) (by go_simp)
theorem eqA60 (d : Nat) (w : World) (x0 y0 : Int) (x1 y1 : Int) (x2 y2 : Int) (x3 y3 : Int) :
    (Op.equalIn (d + 2) 60 (.agg #[.int .i64 x0, .int .i64 x1, .int .i64 x2, .int .i64 x3]) (.agg #[.int .i64 y0, .int .i64 y1, .int .i64 y2, .int .i64 y3])).run Try.prog w = .ok (x0 == y0 && (x1 == y1 && (x2 == y2 && (x3 == y3)))) w := by
  refine eqA_of Try.underlying60 (by kernel_rfl) ?_
  refine eqf_cons (by rfl) (by go_simp; rfl) (by go_simp; rfl) (by go_simp) ?_
  refine eqf_cons (by rfl) (by go_simp; rfl) (by go_simp; rfl) (by go_simp) ?_
  refine eqf_cons (by rfl) (by go_simp; rfl) (by go_simp; rfl) (by go_simp) ?_
  exact eqf_last (by rfl) (by go_simp; rfl) (by go_simp; rfl) (by go_simp)
end Go.Proofs.Ytblooffiggciiaa.PAll
/- QPathBeats -/
namespace Go.Proofs.Ytblooffiggciiaa.PAll
open Go.RowKit Go.Proofs.YtblooffiggciiaaW.PrintWords Go.Proofs.YtblooffiggciiaaW.PrintLast Go.Proofs.YtblooffiggciiaaW.PrintMore Go.Proofs.Ytblooffiggciiaa.Sh
attribute [local go_sem] max2_int min2_int max_two min_two max_three min_three max_four min_four   -- for this text's walks alone
attribute [local go_sem] Go.Proofs.Ytblooffiggciiaa.Aid.isSome_setCell
set_option linter.unusedVariables false
set_option linter.unusedSimpArgs false
attribute [local go_sem high] eqA29 eqA60
def weftlinelaw13_PathBeats.f (k : Nat) (a0_0 : Int) (a0_1 : Int) (a0_2 : Int) (a0_3 : Bool) (a0_4 : Int) (a0_5 : Int) (a0_6 : Int) (a0_7 : Int) (a0_8 : Int) (a0_9 : Int) (a0_10 : Int) (a1 : Int) (a2 : Int) : Option (Bool) := (weftlinelaw13_alive.f k).bind fun t541 => (if t541 = true then ((weftlinelaw13_Program.f a0_0 a0_1 a0_2 a0_3 a0_4 a0_5 a0_6 a0_7 a0_8 a0_9 a0_10).bind fun bt542 => ((path_Path_Beat.f k bt542.1 bt542.2.1 bt542.2.2.1 bt542.2.2.2.1 bt542.2.2.2.2.1 bt542.2.2.2.2.2.1 bt542.2.2.2.2.2.2.1 bt542.2.2.2.2.2.2.2.1 bt542.2.2.2.2.2.2.2.2.1 bt542.2.2.2.2.2.2.2.2.2.1 bt542.2.2.2.2.2.2.2.2.2.2 a1 a2).bind fun bt554 => ((path_Path_Beaten.f k bt542.1 bt542.2.1 bt542.2.2.1 bt542.2.2.2.1 bt542.2.2.2.2.1 bt542.2.2.2.2.2.1 bt542.2.2.2.2.2.2.1 bt542.2.2.2.2.2.2.2.1 bt542.2.2.2.2.2.2.2.2.1 bt542.2.2.2.2.2.2.2.2.2.1 bt542.2.2.2.2.2.2.2.2.2.2 a1 a2).bind fun bt567 => ((weftlineref13_Beat.f k a0_0 a0_1 a0_2 a0_3 a0_4 a0_5 a0_6 a0_7 a0_8 a0_9 a0_10 a1 a2).bind fun bt580 => ((weftlineref13_Beaten.f k a0_0 a0_1 a0_2 a0_3 a0_4 a0_5 a0_6 a0_7 a0_8 a0_9 a0_10 a1 a2).bind fun bt593 => ((weftlinelaw13_Document.f bt554.1 bt554.2.1 bt554.2.2.1 bt554.2.2.2.1 bt554.2.2.2.2.1 bt554.2.2.2.2.2.1 bt554.2.2.2.2.2.2.1 bt554.2.2.2.2.2.2.2.1 bt554.2.2.2.2.2.2.2.2.1 bt554.2.2.2.2.2.2.2.2.2.1 bt554.2.2.2.2.2.2.2.2.2.2.1).bind fun bt606 => (if ((bt606.1 == bt580.1 && (bt606.2.1 == bt580.2.1 && (bt606.2.2.1 == bt580.2.2.1 && (bt606.2.2.2.1 == bt580.2.2.2.1)))) && ((bt606.2.2.2.2.1 == bt580.2.2.2.2.1 && (bt606.2.2.2.2.2.1 == bt580.2.2.2.2.2.1 && (bt606.2.2.2.2.2.2.1 == bt580.2.2.2.2.2.2.1))) && (bt606.2.2.2.2.2.2.2.1 == bt580.2.2.2.2.2.2.2.1 && (bt606.2.2.2.2.2.2.2.2.1 == bt580.2.2.2.2.2.2.2.2.1 && (bt606.2.2.2.2.2.2.2.2.2.1 == bt580.2.2.2.2.2.2.2.2.2.1 && (bt606.2.2.2.2.2.2.2.2.2.2 == bt580.2.2.2.2.2.2.2.2.2.2.1)))))) = true then ((weftlinenum_Num.f bt554.2.2.2.2.2.2.2.2.2.2.2).bind fun t617 => (if t617 = bt580.2.2.2.2.2.2.2.2.2.2.2 then ((weftlinelaw13_Document.f bt567.1 bt567.2.1 bt567.2.2.1 bt567.2.2.2.1 bt567.2.2.2.2.1 bt567.2.2.2.2.2.1 bt567.2.2.2.2.2.2.1 bt567.2.2.2.2.2.2.2.1 bt567.2.2.2.2.2.2.2.2.1 bt567.2.2.2.2.2.2.2.2.2.1 bt567.2.2.2.2.2.2.2.2.2.2.1).bind fun bt618 => (if ((bt618.1 == bt593.1 && (bt618.2.1 == bt593.2.1 && (bt618.2.2.1 == bt593.2.2.1 && (bt618.2.2.2.1 == bt593.2.2.2.1)))) && ((bt618.2.2.2.2.1 == bt593.2.2.2.2.1 && (bt618.2.2.2.2.2.1 == bt593.2.2.2.2.2.1 && (bt618.2.2.2.2.2.2.1 == bt593.2.2.2.2.2.2.1))) && (bt618.2.2.2.2.2.2.2.1 == bt593.2.2.2.2.2.2.2.1 && (bt618.2.2.2.2.2.2.2.2.1 == bt593.2.2.2.2.2.2.2.2.1 && (bt618.2.2.2.2.2.2.2.2.2.1 == bt593.2.2.2.2.2.2.2.2.2.1 && (bt618.2.2.2.2.2.2.2.2.2.2 == bt593.2.2.2.2.2.2.2.2.2.2.1)))))) = true then ((weftlinenum_Num.f bt567.2.2.2.2.2.2.2.2.2.2.2).bind fun t629 => (some (t629 == bt593.2.2.2.2.2.2.2.2.2.2.2))) else (some false))) else (some false))) else (some false)))))))) else (some false))
def weftlinelaw13_PathBeats.T8 : Bool × List (List Nat × List Nat) := (true, [([], []), ([0], [0]), ([], []), ([1, 2], [1, 2]), ([3, 1], [3]), ([4], [4]), ([5, 4, 4], [4, 5]), ([4], [4]), ([6, 7, 4], [4, 6, 7]), ([4, 8], [4, 8]), ([9, 6], [9]), ([10], [10]), ([11, 10, 10], [10, 11]), ([10], [10]), ([12, 13, 10], [10, 12, 13]), ([10, 14], [10, 14]), ([15, 12], [15]), ([16], [16]), ([17, 16, 16], [16, 17]), ([16], [16]), ([18, 19, 16], [16, 18, 19]), ([16, 20], [16, 20]), ([21, 18, 0, 1, 2, 3, 4, 5, 6, 7, 8, 9, 10, 11, 12, 13, 14, 15, 16, 17, 18, 19, 20, 21], [21])])
def weftlinelaw13_PathBeats.B8 : List Nat := [0, 1, 0, 7, 15, 31, 63, 31, 255, 511, 1023, 2047, 4095, 2047, 16383, 32767, 65535, 131071, 262143, 131071, 1048575, 2097151, 4194303]
theorem weftlinelaw13_PathBeats.tab8 : rtab .any (opsOf Try.f4 8) = weftlinelaw13_PathBeats.T8 := by kernel_rfl
theorem weftlinelaw13_PathBeats.bits8 : waitsOk weftlinelaw13_PathBeats.T8.2 weftlinelaw13_PathBeats.B8 = true := by kernel_rfl
set_option maxHeartbeats 8000000 in
set_option maxRecDepth 100000 in
theorem weftlinelaw13_PathBeats.calls_t (k : Nat) (a0_0 : Int) (a0_1 : Int) (a0_2 : Int) (a0_3 : Bool) (a0_4 : Int) (a0_5 : Int) (a0_6 : Int) (a0_7 : Int) (a0_8 : Int) (a0_9 : Int) (a0_10 : Int) (a1 : Int) (a2 : Int) (r : Bool) (w : World) (hr0 : Aside0 (r = true)) (h : weftlinelaw13_PathBeats.f k a0_0 a0_1 a0_2 a0_3 a0_4 a0_5 a0_6 a0_7 a0_8 a0_9 a0_10 a1 a2 = some r) :
    Calls Try.prog 4 #[.agg #[.int .i64 a0_0, .int .i64 a0_1, .int .i64 a0_2, .bool a0_3, .int .i64 a0_4, .int .i64 a0_5, .int .i64 a0_6, .int .i64 a0_7, .int .i64 a0_8, .int .u32 a0_9, .int .i64 a0_10], .int .u32 a1, .int .i64 a2] w fun e w' => e = .returned (.bool r) ∧ Below w.heap.size w w' := by
  have hu29 := Try.underlying29
  have hu34 := Try.underlying34
  have HB := A0 (Below.refl w.heap.size w)
  have H : ((weftlinelaw13_alive.f k).bind fun t541 => (if t541 = true then ((weftlinelaw13_Program.f a0_0 a0_1 a0_2 a0_3 a0_4 a0_5 a0_6 a0_7 a0_8 a0_9 a0_10).bind fun bt542 => ((path_Path_Beat.f k bt542.1 bt542.2.1 bt542.2.2.1 bt542.2.2.2.1 bt542.2.2.2.2.1 bt542.2.2.2.2.2.1 bt542.2.2.2.2.2.2.1 bt542.2.2.2.2.2.2.2.1 bt542.2.2.2.2.2.2.2.2.1 bt542.2.2.2.2.2.2.2.2.2.1 bt542.2.2.2.2.2.2.2.2.2.2 a1 a2).bind fun bt554 => ((path_Path_Beaten.f k bt542.1 bt542.2.1 bt542.2.2.1 bt542.2.2.2.1 bt542.2.2.2.2.1 bt542.2.2.2.2.2.1 bt542.2.2.2.2.2.2.1 bt542.2.2.2.2.2.2.2.1 bt542.2.2.2.2.2.2.2.2.1 bt542.2.2.2.2.2.2.2.2.2.1 bt542.2.2.2.2.2.2.2.2.2.2 a1 a2).bind fun bt567 => ((weftlineref13_Beat.f k a0_0 a0_1 a0_2 a0_3 a0_4 a0_5 a0_6 a0_7 a0_8 a0_9 a0_10 a1 a2).bind fun bt580 => ((weftlineref13_Beaten.f k a0_0 a0_1 a0_2 a0_3 a0_4 a0_5 a0_6 a0_7 a0_8 a0_9 a0_10 a1 a2).bind fun bt593 => ((weftlinelaw13_Document.f bt554.1 bt554.2.1 bt554.2.2.1 bt554.2.2.2.1 bt554.2.2.2.2.1 bt554.2.2.2.2.2.1 bt554.2.2.2.2.2.2.1 bt554.2.2.2.2.2.2.2.1 bt554.2.2.2.2.2.2.2.2.1 bt554.2.2.2.2.2.2.2.2.2.1 bt554.2.2.2.2.2.2.2.2.2.2.1).bind fun bt606 => (if ((bt606.1 == bt580.1 && (bt606.2.1 == bt580.2.1 && (bt606.2.2.1 == bt580.2.2.1 && (bt606.2.2.2.1 == bt580.2.2.2.1)))) && ((bt606.2.2.2.2.1 == bt580.2.2.2.2.1 && (bt606.2.2.2.2.2.1 == bt580.2.2.2.2.2.1 && (bt606.2.2.2.2.2.2.1 == bt580.2.2.2.2.2.2.1))) && (bt606.2.2.2.2.2.2.2.1 == bt580.2.2.2.2.2.2.2.1 && (bt606.2.2.2.2.2.2.2.2.1 == bt580.2.2.2.2.2.2.2.2.1 && (bt606.2.2.2.2.2.2.2.2.2.1 == bt580.2.2.2.2.2.2.2.2.2.1 && (bt606.2.2.2.2.2.2.2.2.2.2 == bt580.2.2.2.2.2.2.2.2.2.2.1)))))) = true then ((weftlinenum_Num.f bt554.2.2.2.2.2.2.2.2.2.2.2).bind fun t617 => (if t617 = bt580.2.2.2.2.2.2.2.2.2.2.2 then ((weftlinelaw13_Document.f bt567.1 bt567.2.1 bt567.2.2.1 bt567.2.2.2.1 bt567.2.2.2.2.1 bt567.2.2.2.2.2.1 bt567.2.2.2.2.2.2.1 bt567.2.2.2.2.2.2.2.1 bt567.2.2.2.2.2.2.2.2.1 bt567.2.2.2.2.2.2.2.2.2.1 bt567.2.2.2.2.2.2.2.2.2.2.1).bind fun bt618 => (if ((bt618.1 == bt593.1 && (bt618.2.1 == bt593.2.1 && (bt618.2.2.1 == bt593.2.2.1 && (bt618.2.2.2.1 == bt593.2.2.2.1)))) && ((bt618.2.2.2.2.1 == bt593.2.2.2.2.1 && (bt618.2.2.2.2.2.1 == bt593.2.2.2.2.2.1 && (bt618.2.2.2.2.2.2.1 == bt593.2.2.2.2.2.2.1))) && (bt618.2.2.2.2.2.2.2.1 == bt593.2.2.2.2.2.2.2.1 && (bt618.2.2.2.2.2.2.2.2.1 == bt593.2.2.2.2.2.2.2.2.1 && (bt618.2.2.2.2.2.2.2.2.2.1 == bt593.2.2.2.2.2.2.2.2.2.1 && (bt618.2.2.2.2.2.2.2.2.2.2 == bt593.2.2.2.2.2.2.2.2.2.2.1)))))) = true then ((weftlinenum_Num.f bt567.2.2.2.2.2.2.2.2.2.2.2).bind fun t629 => (some (t629 == bt593.2.2.2.2.2.2.2.2.2.2.2))) else (some false))) else (some false))) else (some false)))))))) else (some false))) = some r := h
  clear h
  replace H := Option.bind_eq_some_iff.mp H
  obtain ⟨t541, A40, H⟩ := H
  replace H : (if t541 = true then ((weftlinelaw13_Program.f a0_0 a0_1 a0_2 a0_3 a0_4 a0_5 a0_6 a0_7 a0_8 a0_9 a0_10).bind fun bt542 => ((path_Path_Beat.f k bt542.1 bt542.2.1 bt542.2.2.1 bt542.2.2.2.1 bt542.2.2.2.2.1 bt542.2.2.2.2.2.1 bt542.2.2.2.2.2.2.1 bt542.2.2.2.2.2.2.2.1 bt542.2.2.2.2.2.2.2.2.1 bt542.2.2.2.2.2.2.2.2.2.1 bt542.2.2.2.2.2.2.2.2.2.2 a1 a2).bind fun bt554 => ((path_Path_Beaten.f k bt542.1 bt542.2.1 bt542.2.2.1 bt542.2.2.2.1 bt542.2.2.2.2.1 bt542.2.2.2.2.2.1 bt542.2.2.2.2.2.2.1 bt542.2.2.2.2.2.2.2.1 bt542.2.2.2.2.2.2.2.2.1 bt542.2.2.2.2.2.2.2.2.2.1 bt542.2.2.2.2.2.2.2.2.2.2 a1 a2).bind fun bt567 => ((weftlineref13_Beat.f k a0_0 a0_1 a0_2 a0_3 a0_4 a0_5 a0_6 a0_7 a0_8 a0_9 a0_10 a1 a2).bind fun bt580 => ((weftlineref13_Beaten.f k a0_0 a0_1 a0_2 a0_3 a0_4 a0_5 a0_6 a0_7 a0_8 a0_9 a0_10 a1 a2).bind fun bt593 => ((weftlinelaw13_Document.f bt554.1 bt554.2.1 bt554.2.2.1 bt554.2.2.2.1 bt554.2.2.2.2.1 bt554.2.2.2.2.2.1 bt554.2.2.2.2.2.2.1 bt554.2.2.2.2.2.2.2.1 bt554.2.2.2.2.2.2.2.2.1 bt554.2.2.2.2.2.2.2.2.2.1 bt554.2.2.2.2.2.2.2.2.2.2.1).bind fun bt606 => (if ((bt606.1 == bt580.1 && (bt606.2.1 == bt580.2.1 && (bt606.2.2.1 == bt580.2.2.1 && (bt606.2.2.2.1 == bt580.2.2.2.1)))) && ((bt606.2.2.2.2.1 == bt580.2.2.2.2.1 && (bt606.2.2.2.2.2.1 == bt580.2.2.2.2.2.1 && (bt606.2.2.2.2.2.2.1 == bt580.2.2.2.2.2.2.1))) && (bt606.2.2.2.2.2.2.2.1 == bt580.2.2.2.2.2.2.2.1 && (bt606.2.2.2.2.2.2.2.2.1 == bt580.2.2.2.2.2.2.2.2.1 && (bt606.2.2.2.2.2.2.2.2.2.1 == bt580.2.2.2.2.2.2.2.2.2.1 && (bt606.2.2.2.2.2.2.2.2.2.2 == bt580.2.2.2.2.2.2.2.2.2.2.1)))))) = true then ((weftlinenum_Num.f bt554.2.2.2.2.2.2.2.2.2.2.2).bind fun t617 => (if t617 = bt580.2.2.2.2.2.2.2.2.2.2.2 then ((weftlinelaw13_Document.f bt567.1 bt567.2.1 bt567.2.2.1 bt567.2.2.2.1 bt567.2.2.2.2.1 bt567.2.2.2.2.2.1 bt567.2.2.2.2.2.2.1 bt567.2.2.2.2.2.2.2.1 bt567.2.2.2.2.2.2.2.2.1 bt567.2.2.2.2.2.2.2.2.2.1 bt567.2.2.2.2.2.2.2.2.2.2.1).bind fun bt618 => (if ((bt618.1 == bt593.1 && (bt618.2.1 == bt593.2.1 && (bt618.2.2.1 == bt593.2.2.1 && (bt618.2.2.2.1 == bt593.2.2.2.1)))) && ((bt618.2.2.2.2.1 == bt593.2.2.2.2.1 && (bt618.2.2.2.2.2.1 == bt593.2.2.2.2.2.1 && (bt618.2.2.2.2.2.2.1 == bt593.2.2.2.2.2.2.1))) && (bt618.2.2.2.2.2.2.2.1 == bt593.2.2.2.2.2.2.2.1 && (bt618.2.2.2.2.2.2.2.2.1 == bt593.2.2.2.2.2.2.2.2.1 && (bt618.2.2.2.2.2.2.2.2.2.1 == bt593.2.2.2.2.2.2.2.2.2.1 && (bt618.2.2.2.2.2.2.2.2.2.2 == bt593.2.2.2.2.2.2.2.2.2.2.1)))))) = true then ((weftlinenum_Num.f bt567.2.2.2.2.2.2.2.2.2.2.2).bind fun t629 => (some (t629 == bt593.2.2.2.2.2.2.2.2.2.2.2))) else (some false))) else (some false))) else (some false)))))))) else (some false)) = some r := H
  have A4 := Aside0.mk A40
  clear A40
  by_cases c5 : t541 = true
  · subst c5
    have H1 : ((weftlinelaw13_Program.f a0_0 a0_1 a0_2 a0_3 a0_4 a0_5 a0_6 a0_7 a0_8 a0_9 a0_10).bind fun bt542 => ((path_Path_Beat.f k bt542.1 bt542.2.1 bt542.2.2.1 bt542.2.2.2.1 bt542.2.2.2.2.1 bt542.2.2.2.2.2.1 bt542.2.2.2.2.2.2.1 bt542.2.2.2.2.2.2.2.1 bt542.2.2.2.2.2.2.2.2.1 bt542.2.2.2.2.2.2.2.2.2.1 bt542.2.2.2.2.2.2.2.2.2.2 a1 a2).bind fun bt554 => ((path_Path_Beaten.f k bt542.1 bt542.2.1 bt542.2.2.1 bt542.2.2.2.1 bt542.2.2.2.2.1 bt542.2.2.2.2.2.1 bt542.2.2.2.2.2.2.1 bt542.2.2.2.2.2.2.2.1 bt542.2.2.2.2.2.2.2.2.1 bt542.2.2.2.2.2.2.2.2.2.1 bt542.2.2.2.2.2.2.2.2.2.2 a1 a2).bind fun bt567 => ((weftlineref13_Beat.f k a0_0 a0_1 a0_2 a0_3 a0_4 a0_5 a0_6 a0_7 a0_8 a0_9 a0_10 a1 a2).bind fun bt580 => ((weftlineref13_Beaten.f k a0_0 a0_1 a0_2 a0_3 a0_4 a0_5 a0_6 a0_7 a0_8 a0_9 a0_10 a1 a2).bind fun bt593 => ((weftlinelaw13_Document.f bt554.1 bt554.2.1 bt554.2.2.1 bt554.2.2.2.1 bt554.2.2.2.2.1 bt554.2.2.2.2.2.1 bt554.2.2.2.2.2.2.1 bt554.2.2.2.2.2.2.2.1 bt554.2.2.2.2.2.2.2.2.1 bt554.2.2.2.2.2.2.2.2.2.1 bt554.2.2.2.2.2.2.2.2.2.2.1).bind fun bt606 => (if ((bt606.1 == bt580.1 && (bt606.2.1 == bt580.2.1 && (bt606.2.2.1 == bt580.2.2.1 && (bt606.2.2.2.1 == bt580.2.2.2.1)))) && ((bt606.2.2.2.2.1 == bt580.2.2.2.2.1 && (bt606.2.2.2.2.2.1 == bt580.2.2.2.2.2.1 && (bt606.2.2.2.2.2.2.1 == bt580.2.2.2.2.2.2.1))) && (bt606.2.2.2.2.2.2.2.1 == bt580.2.2.2.2.2.2.2.1 && (bt606.2.2.2.2.2.2.2.2.1 == bt580.2.2.2.2.2.2.2.2.1 && (bt606.2.2.2.2.2.2.2.2.2.1 == bt580.2.2.2.2.2.2.2.2.2.1 && (bt606.2.2.2.2.2.2.2.2.2.2 == bt580.2.2.2.2.2.2.2.2.2.2.1)))))) = true then ((weftlinenum_Num.f bt554.2.2.2.2.2.2.2.2.2.2.2).bind fun t617 => (if t617 = bt580.2.2.2.2.2.2.2.2.2.2.2 then ((weftlinelaw13_Document.f bt567.1 bt567.2.1 bt567.2.2.1 bt567.2.2.2.1 bt567.2.2.2.2.1 bt567.2.2.2.2.2.1 bt567.2.2.2.2.2.2.1 bt567.2.2.2.2.2.2.2.1 bt567.2.2.2.2.2.2.2.2.1 bt567.2.2.2.2.2.2.2.2.2.1 bt567.2.2.2.2.2.2.2.2.2.2.1).bind fun bt618 => (if ((bt618.1 == bt593.1 && (bt618.2.1 == bt593.2.1 && (bt618.2.2.1 == bt593.2.2.1 && (bt618.2.2.2.1 == bt593.2.2.2.1)))) && ((bt618.2.2.2.2.1 == bt593.2.2.2.2.1 && (bt618.2.2.2.2.2.1 == bt593.2.2.2.2.2.1 && (bt618.2.2.2.2.2.2.1 == bt593.2.2.2.2.2.2.1))) && (bt618.2.2.2.2.2.2.2.1 == bt593.2.2.2.2.2.2.2.1 && (bt618.2.2.2.2.2.2.2.2.1 == bt593.2.2.2.2.2.2.2.2.1 && (bt618.2.2.2.2.2.2.2.2.2.1 == bt593.2.2.2.2.2.2.2.2.2.1 && (bt618.2.2.2.2.2.2.2.2.2.2 == bt593.2.2.2.2.2.2.2.2.2.2.1)))))) = true then ((weftlinenum_Num.f bt567.2.2.2.2.2.2.2.2.2.2.2).bind fun t629 => (some (t629 == bt593.2.2.2.2.2.2.2.2.2.2.2))) else (some false))) else (some false))) else (some false)))))))) = some r := by rw [if_pos rfl] at H; exact H
    clear H
    have H := H1
    clear H1
    replace H := Option.bind_eq_some_iff.mp H
    obtain ⟨⟨t542, t543, t544, t545, t546, t547, t548, t549, t550, t551, t552⟩, A60, H⟩ := H
    replace H : ((path_Path_Beat.f k t542 t543 t544 t545 t546 t547 t548 t549 t550 t551 t552 a1 a2).bind fun bt554 => ((path_Path_Beaten.f k t542 t543 t544 t545 t546 t547 t548 t549 t550 t551 t552 a1 a2).bind fun bt567 => ((weftlineref13_Beat.f k a0_0 a0_1 a0_2 a0_3 a0_4 a0_5 a0_6 a0_7 a0_8 a0_9 a0_10 a1 a2).bind fun bt580 => ((weftlineref13_Beaten.f k a0_0 a0_1 a0_2 a0_3 a0_4 a0_5 a0_6 a0_7 a0_8 a0_9 a0_10 a1 a2).bind fun bt593 => ((weftlinelaw13_Document.f bt554.1 bt554.2.1 bt554.2.2.1 bt554.2.2.2.1 bt554.2.2.2.2.1 bt554.2.2.2.2.2.1 bt554.2.2.2.2.2.2.1 bt554.2.2.2.2.2.2.2.1 bt554.2.2.2.2.2.2.2.2.1 bt554.2.2.2.2.2.2.2.2.2.1 bt554.2.2.2.2.2.2.2.2.2.2.1).bind fun bt606 => (if ((bt606.1 == bt580.1 && (bt606.2.1 == bt580.2.1 && (bt606.2.2.1 == bt580.2.2.1 && (bt606.2.2.2.1 == bt580.2.2.2.1)))) && ((bt606.2.2.2.2.1 == bt580.2.2.2.2.1 && (bt606.2.2.2.2.2.1 == bt580.2.2.2.2.2.1 && (bt606.2.2.2.2.2.2.1 == bt580.2.2.2.2.2.2.1))) && (bt606.2.2.2.2.2.2.2.1 == bt580.2.2.2.2.2.2.2.1 && (bt606.2.2.2.2.2.2.2.2.1 == bt580.2.2.2.2.2.2.2.2.1 && (bt606.2.2.2.2.2.2.2.2.2.1 == bt580.2.2.2.2.2.2.2.2.2.1 && (bt606.2.2.2.2.2.2.2.2.2.2 == bt580.2.2.2.2.2.2.2.2.2.2.1)))))) = true then ((weftlinenum_Num.f bt554.2.2.2.2.2.2.2.2.2.2.2).bind fun t617 => (if t617 = bt580.2.2.2.2.2.2.2.2.2.2.2 then ((weftlinelaw13_Document.f bt567.1 bt567.2.1 bt567.2.2.1 bt567.2.2.2.1 bt567.2.2.2.2.1 bt567.2.2.2.2.2.1 bt567.2.2.2.2.2.2.1 bt567.2.2.2.2.2.2.2.1 bt567.2.2.2.2.2.2.2.2.1 bt567.2.2.2.2.2.2.2.2.2.1 bt567.2.2.2.2.2.2.2.2.2.2.1).bind fun bt618 => (if ((bt618.1 == bt593.1 && (bt618.2.1 == bt593.2.1 && (bt618.2.2.1 == bt593.2.2.1 && (bt618.2.2.2.1 == bt593.2.2.2.1)))) && ((bt618.2.2.2.2.1 == bt593.2.2.2.2.1 && (bt618.2.2.2.2.2.1 == bt593.2.2.2.2.2.1 && (bt618.2.2.2.2.2.2.1 == bt593.2.2.2.2.2.2.1))) && (bt618.2.2.2.2.2.2.2.1 == bt593.2.2.2.2.2.2.2.1 && (bt618.2.2.2.2.2.2.2.2.1 == bt593.2.2.2.2.2.2.2.2.1 && (bt618.2.2.2.2.2.2.2.2.2.1 == bt593.2.2.2.2.2.2.2.2.2.1 && (bt618.2.2.2.2.2.2.2.2.2.2 == bt593.2.2.2.2.2.2.2.2.2.2.1)))))) = true then ((weftlinenum_Num.f bt567.2.2.2.2.2.2.2.2.2.2.2).bind fun t629 => (some (t629 == bt593.2.2.2.2.2.2.2.2.2.2.2))) else (some false))) else (some false))) else (some false))))))) = some r := H
    have A6 := Aside0.mk A60
    clear A60
    replace H := Option.bind_eq_some_iff.mp H
    obtain ⟨⟨t554, t555, t556, t557, t558, t559, t560, t561, t562, t563, t564, t565⟩, A70, H⟩ := H
    replace H : ((path_Path_Beaten.f k t542 t543 t544 t545 t546 t547 t548 t549 t550 t551 t552 a1 a2).bind fun bt567 => ((weftlineref13_Beat.f k a0_0 a0_1 a0_2 a0_3 a0_4 a0_5 a0_6 a0_7 a0_8 a0_9 a0_10 a1 a2).bind fun bt580 => ((weftlineref13_Beaten.f k a0_0 a0_1 a0_2 a0_3 a0_4 a0_5 a0_6 a0_7 a0_8 a0_9 a0_10 a1 a2).bind fun bt593 => ((weftlinelaw13_Document.f t554 t555 t556 t557 t558 t559 t560 t561 t562 t563 t564).bind fun bt606 => (if ((bt606.1 == bt580.1 && (bt606.2.1 == bt580.2.1 && (bt606.2.2.1 == bt580.2.2.1 && (bt606.2.2.2.1 == bt580.2.2.2.1)))) && ((bt606.2.2.2.2.1 == bt580.2.2.2.2.1 && (bt606.2.2.2.2.2.1 == bt580.2.2.2.2.2.1 && (bt606.2.2.2.2.2.2.1 == bt580.2.2.2.2.2.2.1))) && (bt606.2.2.2.2.2.2.2.1 == bt580.2.2.2.2.2.2.2.1 && (bt606.2.2.2.2.2.2.2.2.1 == bt580.2.2.2.2.2.2.2.2.1 && (bt606.2.2.2.2.2.2.2.2.2.1 == bt580.2.2.2.2.2.2.2.2.2.1 && (bt606.2.2.2.2.2.2.2.2.2.2 == bt580.2.2.2.2.2.2.2.2.2.2.1)))))) = true then ((weftlinenum_Num.f t565).bind fun t617 => (if t617 = bt580.2.2.2.2.2.2.2.2.2.2.2 then ((weftlinelaw13_Document.f bt567.1 bt567.2.1 bt567.2.2.1 bt567.2.2.2.1 bt567.2.2.2.2.1 bt567.2.2.2.2.2.1 bt567.2.2.2.2.2.2.1 bt567.2.2.2.2.2.2.2.1 bt567.2.2.2.2.2.2.2.2.1 bt567.2.2.2.2.2.2.2.2.2.1 bt567.2.2.2.2.2.2.2.2.2.2.1).bind fun bt618 => (if ((bt618.1 == bt593.1 && (bt618.2.1 == bt593.2.1 && (bt618.2.2.1 == bt593.2.2.1 && (bt618.2.2.2.1 == bt593.2.2.2.1)))) && ((bt618.2.2.2.2.1 == bt593.2.2.2.2.1 && (bt618.2.2.2.2.2.1 == bt593.2.2.2.2.2.1 && (bt618.2.2.2.2.2.2.1 == bt593.2.2.2.2.2.2.1))) && (bt618.2.2.2.2.2.2.2.1 == bt593.2.2.2.2.2.2.2.1 && (bt618.2.2.2.2.2.2.2.2.1 == bt593.2.2.2.2.2.2.2.2.1 && (bt618.2.2.2.2.2.2.2.2.2.1 == bt593.2.2.2.2.2.2.2.2.2.1 && (bt618.2.2.2.2.2.2.2.2.2.2 == bt593.2.2.2.2.2.2.2.2.2.2.1)))))) = true then ((weftlinenum_Num.f bt567.2.2.2.2.2.2.2.2.2.2.2).bind fun t629 => (some (t629 == bt593.2.2.2.2.2.2.2.2.2.2.2))) else (some false))) else (some false))) else (some false)))))) = some r := H
    have A7 := Aside0.mk A70
    clear A70
    replace H := Option.bind_eq_some_iff.mp H
    obtain ⟨⟨t567, t568, t569, t570, t571, t572, t573, t574, t575, t576, t577, t578⟩, A80, H⟩ := H
    replace H : ((weftlineref13_Beat.f k a0_0 a0_1 a0_2 a0_3 a0_4 a0_5 a0_6 a0_7 a0_8 a0_9 a0_10 a1 a2).bind fun bt580 => ((weftlineref13_Beaten.f k a0_0 a0_1 a0_2 a0_3 a0_4 a0_5 a0_6 a0_7 a0_8 a0_9 a0_10 a1 a2).bind fun bt593 => ((weftlinelaw13_Document.f t554 t555 t556 t557 t558 t559 t560 t561 t562 t563 t564).bind fun bt606 => (if ((bt606.1 == bt580.1 && (bt606.2.1 == bt580.2.1 && (bt606.2.2.1 == bt580.2.2.1 && (bt606.2.2.2.1 == bt580.2.2.2.1)))) && ((bt606.2.2.2.2.1 == bt580.2.2.2.2.1 && (bt606.2.2.2.2.2.1 == bt580.2.2.2.2.2.1 && (bt606.2.2.2.2.2.2.1 == bt580.2.2.2.2.2.2.1))) && (bt606.2.2.2.2.2.2.2.1 == bt580.2.2.2.2.2.2.2.1 && (bt606.2.2.2.2.2.2.2.2.1 == bt580.2.2.2.2.2.2.2.2.1 && (bt606.2.2.2.2.2.2.2.2.2.1 == bt580.2.2.2.2.2.2.2.2.2.1 && (bt606.2.2.2.2.2.2.2.2.2.2 == bt580.2.2.2.2.2.2.2.2.2.2.1)))))) = true then ((weftlinenum_Num.f t565).bind fun t617 => (if t617 = bt580.2.2.2.2.2.2.2.2.2.2.2 then ((weftlinelaw13_Document.f t567 t568 t569 t570 t571 t572 t573 t574 t575 t576 t577).bind fun bt618 => (if ((bt618.1 == bt593.1 && (bt618.2.1 == bt593.2.1 && (bt618.2.2.1 == bt593.2.2.1 && (bt618.2.2.2.1 == bt593.2.2.2.1)))) && ((bt618.2.2.2.2.1 == bt593.2.2.2.2.1 && (bt618.2.2.2.2.2.1 == bt593.2.2.2.2.2.1 && (bt618.2.2.2.2.2.2.1 == bt593.2.2.2.2.2.2.1))) && (bt618.2.2.2.2.2.2.2.1 == bt593.2.2.2.2.2.2.2.1 && (bt618.2.2.2.2.2.2.2.2.1 == bt593.2.2.2.2.2.2.2.2.1 && (bt618.2.2.2.2.2.2.2.2.2.1 == bt593.2.2.2.2.2.2.2.2.2.1 && (bt618.2.2.2.2.2.2.2.2.2.2 == bt593.2.2.2.2.2.2.2.2.2.2.1)))))) = true then ((weftlinenum_Num.f t578).bind fun t629 => (some (t629 == bt593.2.2.2.2.2.2.2.2.2.2.2))) else (some false))) else (some false))) else (some false))))) = some r := H
    have A8 := Aside0.mk A80
    clear A80
    replace H := Option.bind_eq_some_iff.mp H
    obtain ⟨⟨t580, t581, t582, t583, t584, t585, t586, t587, t588, t589, t590, t591⟩, A90, H⟩ := H
    replace H : ((weftlineref13_Beaten.f k a0_0 a0_1 a0_2 a0_3 a0_4 a0_5 a0_6 a0_7 a0_8 a0_9 a0_10 a1 a2).bind fun bt593 => ((weftlinelaw13_Document.f t554 t555 t556 t557 t558 t559 t560 t561 t562 t563 t564).bind fun bt606 => (if ((bt606.1 == t580 && (bt606.2.1 == t581 && (bt606.2.2.1 == t582 && (bt606.2.2.2.1 == t583)))) && ((bt606.2.2.2.2.1 == t584 && (bt606.2.2.2.2.2.1 == t585 && (bt606.2.2.2.2.2.2.1 == t586))) && (bt606.2.2.2.2.2.2.2.1 == t587 && (bt606.2.2.2.2.2.2.2.2.1 == t588 && (bt606.2.2.2.2.2.2.2.2.2.1 == t589 && (bt606.2.2.2.2.2.2.2.2.2.2 == t590)))))) = true then ((weftlinenum_Num.f t565).bind fun t617 => (if t617 = t591 then ((weftlinelaw13_Document.f t567 t568 t569 t570 t571 t572 t573 t574 t575 t576 t577).bind fun bt618 => (if ((bt618.1 == bt593.1 && (bt618.2.1 == bt593.2.1 && (bt618.2.2.1 == bt593.2.2.1 && (bt618.2.2.2.1 == bt593.2.2.2.1)))) && ((bt618.2.2.2.2.1 == bt593.2.2.2.2.1 && (bt618.2.2.2.2.2.1 == bt593.2.2.2.2.2.1 && (bt618.2.2.2.2.2.2.1 == bt593.2.2.2.2.2.2.1))) && (bt618.2.2.2.2.2.2.2.1 == bt593.2.2.2.2.2.2.2.1 && (bt618.2.2.2.2.2.2.2.2.1 == bt593.2.2.2.2.2.2.2.2.1 && (bt618.2.2.2.2.2.2.2.2.2.1 == bt593.2.2.2.2.2.2.2.2.2.1 && (bt618.2.2.2.2.2.2.2.2.2.2 == bt593.2.2.2.2.2.2.2.2.2.2.1)))))) = true then ((weftlinenum_Num.f t578).bind fun t629 => (some (t629 == bt593.2.2.2.2.2.2.2.2.2.2.2))) else (some false))) else (some false))) else (some false)))) = some r := H
    have A9 := Aside0.mk A90
    clear A90
    replace H := Option.bind_eq_some_iff.mp H
    obtain ⟨⟨t593, t594, t595, t596, t597, t598, t599, t600, t601, t602, t603, t604⟩, A100, H⟩ := H
    replace H : ((weftlinelaw13_Document.f t554 t555 t556 t557 t558 t559 t560 t561 t562 t563 t564).bind fun bt606 => (if ((bt606.1 == t580 && (bt606.2.1 == t581 && (bt606.2.2.1 == t582 && (bt606.2.2.2.1 == t583)))) && ((bt606.2.2.2.2.1 == t584 && (bt606.2.2.2.2.2.1 == t585 && (bt606.2.2.2.2.2.2.1 == t586))) && (bt606.2.2.2.2.2.2.2.1 == t587 && (bt606.2.2.2.2.2.2.2.2.1 == t588 && (bt606.2.2.2.2.2.2.2.2.2.1 == t589 && (bt606.2.2.2.2.2.2.2.2.2.2 == t590)))))) = true then ((weftlinenum_Num.f t565).bind fun t617 => (if t617 = t591 then ((weftlinelaw13_Document.f t567 t568 t569 t570 t571 t572 t573 t574 t575 t576 t577).bind fun bt618 => (if ((bt618.1 == t593 && (bt618.2.1 == t594 && (bt618.2.2.1 == t595 && (bt618.2.2.2.1 == t596)))) && ((bt618.2.2.2.2.1 == t597 && (bt618.2.2.2.2.2.1 == t598 && (bt618.2.2.2.2.2.2.1 == t599))) && (bt618.2.2.2.2.2.2.2.1 == t600 && (bt618.2.2.2.2.2.2.2.2.1 == t601 && (bt618.2.2.2.2.2.2.2.2.2.1 == t602 && (bt618.2.2.2.2.2.2.2.2.2.2 == t603)))))) = true then ((weftlinenum_Num.f t578).bind fun t629 => (some (t629 == t604))) else (some false))) else (some false))) else (some false))) = some r := H
    have A10 := Aside0.mk A100
    clear A100
    replace H := Option.bind_eq_some_iff.mp H
    obtain ⟨⟨t606, t607, t608, t609, t610, t611, t612, t613, t614, t615, t616⟩, A110, H⟩ := H
    replace H : (if ((t606 == t580 && (t607 == t581 && (t608 == t582 && (t609 == t583)))) && ((t610 == t584 && (t611 == t585 && (t612 == t586))) && (t613 == t587 && (t614 == t588 && (t615 == t589 && (t616 == t590)))))) = true then ((weftlinenum_Num.f t565).bind fun t617 => (if t617 = t591 then ((weftlinelaw13_Document.f t567 t568 t569 t570 t571 t572 t573 t574 t575 t576 t577).bind fun bt618 => (if ((bt618.1 == t593 && (bt618.2.1 == t594 && (bt618.2.2.1 == t595 && (bt618.2.2.2.1 == t596)))) && ((bt618.2.2.2.2.1 == t597 && (bt618.2.2.2.2.2.1 == t598 && (bt618.2.2.2.2.2.2.1 == t599))) && (bt618.2.2.2.2.2.2.2.1 == t600 && (bt618.2.2.2.2.2.2.2.2.1 == t601 && (bt618.2.2.2.2.2.2.2.2.2.1 == t602 && (bt618.2.2.2.2.2.2.2.2.2.2 == t603)))))) = true then ((weftlinenum_Num.f t578).bind fun t629 => (some (t629 == t604))) else (some false))) else (some false))) else (some false)) = some r := H
    have A11 := Aside0.mk A110
    clear A110
    by_cases c12 : ((t606 == t580 && (t607 == t581 && (t608 == t582 && (t609 == t583)))) && ((t610 == t584 && (t611 == t585 && (t612 == t586))) && (t613 == t587 && (t614 == t588 && (t615 == t589 && (t616 == t590)))))) = true
    · rw [if_pos c12] at H
      have c12b0 : ((t606 == t580 && (t607 == t581 && (t608 == t582 && (t609 == t583)))) && ((t610 == t584 && (t611 == t585 && (t612 == t586))) && (t613 == t587 && (t614 == t588 && (t615 == t589 && (t616 == t590)))))) = true := c12
      clear c12
      replace H := Option.bind_eq_some_iff.mp H
      obtain ⟨t617, A130, H⟩ := H
      replace H : (if t617 = t591 then ((weftlinelaw13_Document.f t567 t568 t569 t570 t571 t572 t573 t574 t575 t576 t577).bind fun bt618 => (if ((bt618.1 == t593 && (bt618.2.1 == t594 && (bt618.2.2.1 == t595 && (bt618.2.2.2.1 == t596)))) && ((bt618.2.2.2.2.1 == t597 && (bt618.2.2.2.2.2.1 == t598 && (bt618.2.2.2.2.2.2.1 == t599))) && (bt618.2.2.2.2.2.2.2.1 == t600 && (bt618.2.2.2.2.2.2.2.2.1 == t601 && (bt618.2.2.2.2.2.2.2.2.2.1 == t602 && (bt618.2.2.2.2.2.2.2.2.2.2 == t603)))))) = true then ((weftlinenum_Num.f t578).bind fun t629 => (some (t629 == t604))) else (some false))) else (some false)) = some r := H
      have A13 := Aside0.mk A130
      clear A130
      by_cases c14 : t617 = t591
      · rw [if_pos c14] at H
        have c14b0 : (t617 == t591) = true := beq_iff_eq.mpr c14
        have c14b1 : (t617 != t591) = false := bne_eq_false_iff_eq.mpr c14
        clear c14
        replace H := Option.bind_eq_some_iff.mp H
        obtain ⟨⟨t618, t619, t620, t621, t622, t623, t624, t625, t626, t627, t628⟩, A150, H⟩ := H
        replace H : (if ((t618 == t593 && (t619 == t594 && (t620 == t595 && (t621 == t596)))) && ((t622 == t597 && (t623 == t598 && (t624 == t599))) && (t625 == t600 && (t626 == t601 && (t627 == t602 && (t628 == t603)))))) = true then ((weftlinenum_Num.f t578).bind fun t629 => (some (t629 == t604))) else (some false)) = some r := H
        have A15 := Aside0.mk A150
        clear A150
        by_cases c16 : ((t618 == t593 && (t619 == t594 && (t620 == t595 && (t621 == t596)))) && ((t622 == t597 && (t623 == t598 && (t624 == t599))) && (t625 == t600 && (t626 == t601 && (t627 == t602 && (t628 == t603)))))) = true
        · rw [if_pos c16] at H
          have c16b0 : ((t618 == t593 && (t619 == t594 && (t620 == t595 && (t621 == t596)))) && ((t622 == t597 && (t623 == t598 && (t624 == t599))) && (t625 == t600 && (t626 == t601 && (t627 == t602 && (t628 == t603)))))) = true := c16
          clear c16
          replace H := Option.bind_eq_some_iff.mp H
          obtain ⟨t629, A170, H⟩ := H
          replace H : (some (t629 == t604)) = some r := H
          have A17 := Aside0.mk A170
          clear A170
          obtain rfl := Option.some.inj H
          go_enter Try.func4, Try.ntmps4
          try go_wp2_with (first | ((with_reducible refine gate_dst (N := 3) rfl ?_); refine box_event ?hg (N := 3) ?hd (cs := #[.int .i64 a0_0, .int .i64 a0_1, .int .i64 a0_2, .bool a0_3, .int .i64 a0_4, .int .i64 a0_5, .int .i64 a0_6, .int .i64 a0_7, .int .i64 a0_8, .int .u32 a0_9, .int .i64 a0_10]) (t := 29) ?hr ?_; (case hd => rfl); (case hg => rfl); (case hr => first | (go_simp; done) | (go_simp; rfl)); intro gb540 hg w18 hbox hb; have n0_ := A0 (below_step (by repeat (first | (with_reducible first | exact HB.out | apply b1 | apply b2 | apply b3) | exact HB.out)) hb); have n1_ := A0 (hbox); have n2_ := A0 ((by rw [hg]; exact (below_size (by repeat (first | (with_reducible first | exact HB.out | apply b1 | apply b2 | apply b3) | exact HB.out))) : w.heap.size ≤ gb540)); have n3_ := n2_; clear HB; have HB := n0_; have BK540 := n1_; have GW540 := n2_; have GE540 := n3_; clear n0_ n1_ n2_ n3_; clear hb hbox hg) | ((with_reducible refine gate_callee (f := 11) rfl ?_); refine goesL_ (some 16) rfl rfl Try.func11 (by kernel_rfl) rfl #[] rfl (by (try simp only [List.map_toArray, List.map_cons, List.map_nil]); first | done | rfl | (simp only [List.length_drop, List.length_take]; rfl)) ?_; (with_reducible refine (weftlinelaw13_alive.calls k  true _ A4.out).mono ?_); rintro e w19 ⟨rfl, hb⟩; refine ⟨_, rfl, ?_⟩; have n0_ := A0 (blk_below (by (with_reducible repeat (first | refine q1 ?_ _ | refine q2 ?_ | refine q3 ?_ _)); exact BK540.out) hb); have n1_ := A0 (below_step (by repeat (first | (with_reducible first | exact HB.out | apply b1 | apply b2 | apply b3 | refine below_set ?_ GE540.out) | exact HB.out)) hb); clear BK540; clear HB; have BK540 := n0_; have HB := n1_; clear n0_ n1_; (try clear hb); (try clear hb2); (try clear hk); (try clear hi); have hcz20 := cc11 BK540.out) | ((with_reducible refine gate_callee (f := 12) rfl ?_); refine goesL_ (some 19) rfl rfl Try.func12 (by kernel_rfl) rfl #[.agg #[.int .i64 a0_0, .int .i64 a0_1, .int .i64 a0_2, .bool a0_3, .int .i64 a0_4, .int .i64 a0_5, .int .i64 a0_6, .int .i64 a0_7, .int .i64 a0_8, .int .u32 a0_9, .int .i64 a0_10]] rfl (by (try simp only [List.map_toArray, List.map_cons, List.map_nil]); first | done | rfl | (simp only [List.length_drop, List.length_take]; rfl)) ?_; (with_reducible refine (weftlinelaw13_Program.calls a0_0 a0_1 a0_2 a0_3 a0_4 a0_5 a0_6 a0_7 a0_8 a0_9 a0_10 t542 t543 t544 t545 t546 t547 t548 t549 t550 t551 t552 _ A6.out).mono ?_); rintro e w21 ⟨rfl, hb⟩; refine ⟨_, rfl, ?_⟩; have n0_ := A0 (blk_below (by (with_reducible repeat (first | refine q1 ?_ _ | refine q2 ?_ | refine q3 ?_ _)); exact BK540.out) hb); have n1_ := A0 (below_step (by repeat (first | (with_reducible first | exact HB.out | apply b1 | apply b2 | apply b3 | refine below_set ?_ GE540.out) | exact HB.out)) hb); clear BK540; clear HB; have BK540 := n0_; have HB := n1_; clear n0_ n1_; (try clear hb); (try clear hb2); (try clear hk); (try clear hi)) | ((with_reducible refine gate_dst (N := 7) rfl ?_); refine box_event ?hg (N := 7) ?hd (cs := #[.int .i64 0, .int .i64 0, .int .i64 0, .bool false, .int .i64 0, .int .i64 0, .int .i64 0, .int .i64 0, .int .i64 0, .int .u32 0, .int .i64 0]) (t := 34) ?hr ?_; (case hd => rfl); (case hg => rfl); (case hr => first | (go_simp; done) | (go_simp; rfl)); intro gb553 hg w22 hbox hb; have n0_ := A0 (blk_below (by (with_reducible repeat (first | refine q1 ?_ _ | refine q2 ?_ | refine q3 ?_ _)); exact BK540.out) hb); have n1_ := A0 (below_step (by repeat (first | (with_reducible first | exact HB.out | apply b1 | apply b2 | apply b3 | refine below_set ?_ GE540.out) | exact HB.out)) hb); have n2_ := A0 (hbox); have n3_ := A0 ((by rw [hg]; exact (below_size (by repeat (first | (with_reducible first | exact HB.out | apply b1 | apply b2 | apply b3 | refine below_set ?_ GE540.out) | exact HB.out))) : w.heap.size ≤ gb553)); have n4_ := n3_; have n5_ := A0 ((by rw [hg]; exact Nat.ne_of_lt (blk_lt (g := gb540) (o := .cells #[.int .i64 a0_0, .int .i64 a0_1, .int .i64 a0_2, .bool a0_3, .int .i64 a0_4, .int .i64 a0_5, .int .i64 a0_6, .int .i64 a0_7, .int .i64 a0_8, .int .u32 a0_9, .int .i64 a0_10] 29 (0, 0)) (by (with_reducible repeat (first | refine q1 ?_ _ | refine q2 ?_ | refine q3 ?_ _)); exact BK540.out)) : gb540 ≠ gb553)); have n6_ := A0 ((by rw [hg]; exact Nat.ne_of_gt (blk_lt (g := gb540) (o := .cells #[.int .i64 a0_0, .int .i64 a0_1, .int .i64 a0_2, .bool a0_3, .int .i64 a0_4, .int .i64 a0_5, .int .i64 a0_6, .int .i64 a0_7, .int .i64 a0_8, .int .u32 a0_9, .int .i64 a0_10] 29 (0, 0)) (by (with_reducible repeat (first | refine q1 ?_ _ | refine q2 ?_ | refine q3 ?_ _)); exact BK540.out)) : gb553 ≠ gb540)); clear BK540; clear HB; have BK540 := n0_; have HB := n1_; have BK553 := n2_; have GW553 := n3_; have GE553 := n4_; have NB540_553 := n5_; have NB553_540 := n6_; clear n0_ n1_ n2_ n3_ n4_ n5_ n6_; clear hb hbox hg; have hnb23 := NB553_540.out; have hnc23 := NB540_553.out; have hcz24 := cc11 BK553.out) | ((with_reducible refine gate_callee (f := 29) rfl ?_); refine goesL_ (some 24) rfl rfl Try.func29 (by kernel_rfl) rfl #[.agg #[.int .i64 t542, .int .i64 t543, .int .i64 t544, .bool t545, .int .i64 t546, .int .i64 t547, .int .i64 t548, .int .i64 t549, .int .i64 t550, .int .u32 t551, .int .i64 t552], .int .u32 a1, .int .i64 a2] rfl (by (try simp only [List.map_toArray, List.map_cons, List.map_nil]); first | done | rfl | (simp only [List.length_drop, List.length_take]; rfl)) ?_; (with_reducible refine (path_Path_Beat.calls k t542 t543 t544 t545 t546 t547 t548 t549 t550 t551 t552 a1 a2 t554 t555 t556 t557 t558 t559 t560 t561 t562 t563 t564 t565 _ A7.out).mono ?_); rintro e w25 ⟨rfl, hb⟩; refine ⟨_, rfl, ?_⟩; have n0_ := A0 (blk_below (g := gb540) (o := .cells #[.int .i64 a0_0, .int .i64 a0_1, .int .i64 a0_2, .bool a0_3, .int .i64 a0_4, .int .i64 a0_5, .int .i64 a0_6, .int .i64 a0_7, .int .i64 a0_8, .int .u32 a0_9, .int .i64 a0_10] 29 (0, 0)) (by (with_reducible repeat (first | refine q1 ?_ _ | refine q2 ?_ | refine q3 ?_ _)); refine blk_far ?_ NB540_553.out _; (with_reducible repeat (first | refine q1 ?_ _ | refine q2 ?_ | refine q3 ?_ _)); refine blk_far ?_ NB540_553.out _; (with_reducible repeat (first | refine q1 ?_ _ | refine q2 ?_ | refine q3 ?_ _)); refine blk_far ?_ NB540_553.out _; (with_reducible repeat (first | refine q1 ?_ _ | refine q2 ?_ | refine q3 ?_ _)); refine blk_far ?_ NB540_553.out _; (with_reducible repeat (first | refine q1 ?_ _ | refine q2 ?_ | refine q3 ?_ _)); refine blk_far ?_ NB540_553.out _; (with_reducible repeat (first | refine q1 ?_ _ | refine q2 ?_ | refine q3 ?_ _)); refine blk_far ?_ NB540_553.out _; (with_reducible repeat (first | refine q1 ?_ _ | refine q2 ?_ | refine q3 ?_ _)); refine blk_far ?_ NB540_553.out _; (with_reducible repeat (first | refine q1 ?_ _ | refine q2 ?_ | refine q3 ?_ _)); refine blk_far ?_ NB540_553.out _; (with_reducible repeat (first | refine q1 ?_ _ | refine q2 ?_ | refine q3 ?_ _)); refine blk_far ?_ NB540_553.out _; (with_reducible repeat (first | refine q1 ?_ _ | refine q2 ?_ | refine q3 ?_ _)); refine blk_far ?_ NB540_553.out _; (with_reducible repeat (first | refine q1 ?_ _ | refine q2 ?_ | refine q3 ?_ _)); refine blk_far ?_ NB540_553.out _; (with_reducible repeat (first | refine q1 ?_ _ | refine q2 ?_ | refine q3 ?_ _)); exact BK540.out) hb); have n1_ := A0 (blk_below (g := gb553) (o := .cells #[.int .i64 t542, .int .i64 t543, .int .i64 t544, .bool t545, .int .i64 t546, .int .i64 t547, .int .i64 t548, .int .i64 t549, .int .i64 t550, .int .u32 t551, .int .i64 t552] 34 (0, 0)) (by (with_reducible repeat (first | refine q1 ?_ _ | refine q2 ?_ | refine q3 ?_ _)); refine blk_put (cs := #[.int .i64 t542, .int .i64 t543, .int .i64 t544, .bool t545, .int .i64 t546, .int .i64 t547, .int .i64 t548, .int .i64 t549, .int .i64 t550, .int .u32 t551, .int .i64 0]) ?_ 10 _ rfl; (with_reducible repeat (first | refine q1 ?_ _ | refine q2 ?_ | refine q3 ?_ _)); refine blk_put (cs := #[.int .i64 t542, .int .i64 t543, .int .i64 t544, .bool t545, .int .i64 t546, .int .i64 t547, .int .i64 t548, .int .i64 t549, .int .i64 t550, .int .u32 0, .int .i64 0]) ?_ 9 _ rfl; (with_reducible repeat (first | refine q1 ?_ _ | refine q2 ?_ | refine q3 ?_ _)); refine blk_put (cs := #[.int .i64 t542, .int .i64 t543, .int .i64 t544, .bool t545, .int .i64 t546, .int .i64 t547, .int .i64 t548, .int .i64 t549, .int .i64 0, .int .u32 0, .int .i64 0]) ?_ 8 _ rfl; (with_reducible repeat (first | refine q1 ?_ _ | refine q2 ?_ | refine q3 ?_ _)); refine blk_put (cs := #[.int .i64 t542, .int .i64 t543, .int .i64 t544, .bool t545, .int .i64 t546, .int .i64 t547, .int .i64 t548, .int .i64 0, .int .i64 0, .int .u32 0, .int .i64 0]) ?_ 7 _ rfl; (with_reducible repeat (first | refine q1 ?_ _ | refine q2 ?_ | refine q3 ?_ _)); refine blk_put (cs := #[.int .i64 t542, .int .i64 t543, .int .i64 t544, .bool t545, .int .i64 t546, .int .i64 t547, .int .i64 0, .int .i64 0, .int .i64 0, .int .u32 0, .int .i64 0]) ?_ 6 _ rfl; (with_reducible repeat (first | refine q1 ?_ _ | refine q2 ?_ | refine q3 ?_ _)); refine blk_put (cs := #[.int .i64 t542, .int .i64 t543, .int .i64 t544, .bool t545, .int .i64 t546, .int .i64 0, .int .i64 0, .int .i64 0, .int .i64 0, .int .u32 0, .int .i64 0]) ?_ 5 _ rfl; (with_reducible repeat (first | refine q1 ?_ _ | refine q2 ?_ | refine q3 ?_ _)); refine blk_put (cs := #[.int .i64 t542, .int .i64 t543, .int .i64 t544, .bool t545, .int .i64 0, .int .i64 0, .int .i64 0, .int .i64 0, .int .i64 0, .int .u32 0, .int .i64 0]) ?_ 4 _ rfl; (with_reducible repeat (first | refine q1 ?_ _ | refine q2 ?_ | refine q3 ?_ _)); refine blk_put (cs := #[.int .i64 t542, .int .i64 t543, .int .i64 t544, .bool false, .int .i64 0, .int .i64 0, .int .i64 0, .int .i64 0, .int .i64 0, .int .u32 0, .int .i64 0]) ?_ 3 _ rfl; (with_reducible repeat (first | refine q1 ?_ _ | refine q2 ?_ | refine q3 ?_ _)); refine blk_put (cs := #[.int .i64 t542, .int .i64 t543, .int .i64 0, .bool false, .int .i64 0, .int .i64 0, .int .i64 0, .int .i64 0, .int .i64 0, .int .u32 0, .int .i64 0]) ?_ 2 _ rfl; (with_reducible repeat (first | refine q1 ?_ _ | refine q2 ?_ | refine q3 ?_ _)); refine blk_put (cs := #[.int .i64 t542, .int .i64 0, .int .i64 0, .bool false, .int .i64 0, .int .i64 0, .int .i64 0, .int .i64 0, .int .i64 0, .int .u32 0, .int .i64 0]) ?_ 1 _ rfl; (with_reducible repeat (first | refine q1 ?_ _ | refine q2 ?_ | refine q3 ?_ _)); refine blk_put (cs := #[.int .i64 0, .int .i64 0, .int .i64 0, .bool false, .int .i64 0, .int .i64 0, .int .i64 0, .int .i64 0, .int .i64 0, .int .u32 0, .int .i64 0]) ?_ 0 _ rfl; (with_reducible repeat (first | refine q1 ?_ _ | refine q2 ?_ | refine q3 ?_ _)); exact BK553.out) hb); have n2_ := A0 (below_step (by repeat (first | (with_reducible first | exact HB.out | apply b1 | apply b2 | apply b3 | refine below_set ?_ GE540.out | refine below_set ?_ GE553.out) | exact HB.out)) hb); clear BK540; clear BK553; clear HB; have BK540 := n0_; have BK553 := n1_; have HB := n2_; clear n0_ n1_ n2_; (try clear hb); (try clear hb2); (try clear hk); (try clear hi); (try simp only [errW_none, errW_some])) | ((with_reducible refine gate_dst (N := 8) rfl ?_); refine box_event ?hg (N := 8) ?hd (cs := #[.int .i64 0, .int .i64 0, .int .i64 0, .bool false, .int .i64 0, .int .i64 0, .int .i64 0, .int .i64 0, .int .i64 0, .int .u32 0, .int .i64 0]) (t := 34) ?hr ?_; (case hd => rfl); (case hg => rfl); (case hr => first | (go_simp; done) | (go_simp; rfl)); intro gb566 hg w26 hbox hb; have n0_ := A0 (blk_below (by (with_reducible repeat (first | refine q1 ?_ _ | refine q2 ?_ | refine q3 ?_ _)); exact BK540.out) hb); have n1_ := A0 (blk_below (by (with_reducible repeat (first | refine q1 ?_ _ | refine q2 ?_ | refine q3 ?_ _)); exact BK553.out) hb); have n2_ := A0 (below_step (by repeat (first | (with_reducible first | exact HB.out | apply b1 | apply b2 | apply b3 | refine below_set ?_ GE540.out | refine below_set ?_ GE553.out) | exact HB.out)) hb); have n3_ := A0 (hbox); have n4_ := A0 ((by rw [hg]; exact (below_size (by repeat (first | (with_reducible first | exact HB.out | apply b1 | apply b2 | apply b3 | refine below_set ?_ GE540.out | refine below_set ?_ GE553.out) | exact HB.out))) : w.heap.size ≤ gb566)); have n5_ := n4_; have n6_ := A0 ((by rw [hg]; exact Nat.ne_of_lt (blk_lt (g := gb540) (o := .cells #[.int .i64 a0_0, .int .i64 a0_1, .int .i64 a0_2, .bool a0_3, .int .i64 a0_4, .int .i64 a0_5, .int .i64 a0_6, .int .i64 a0_7, .int .i64 a0_8, .int .u32 a0_9, .int .i64 a0_10] 29 (0, 0)) (by (with_reducible repeat (first | refine q1 ?_ _ | refine q2 ?_ | refine q3 ?_ _)); exact BK540.out)) : gb540 ≠ gb566)); have n7_ := A0 ((by rw [hg]; exact Nat.ne_of_gt (blk_lt (g := gb540) (o := .cells #[.int .i64 a0_0, .int .i64 a0_1, .int .i64 a0_2, .bool a0_3, .int .i64 a0_4, .int .i64 a0_5, .int .i64 a0_6, .int .i64 a0_7, .int .i64 a0_8, .int .u32 a0_9, .int .i64 a0_10] 29 (0, 0)) (by (with_reducible repeat (first | refine q1 ?_ _ | refine q2 ?_ | refine q3 ?_ _)); exact BK540.out)) : gb566 ≠ gb540)); have n8_ := A0 ((by rw [hg]; exact Nat.ne_of_lt (blk_lt (g := gb553) (o := .cells #[.int .i64 t542, .int .i64 t543, .int .i64 t544, .bool t545, .int .i64 t546, .int .i64 t547, .int .i64 t548, .int .i64 t549, .int .i64 t550, .int .u32 t551, .int .i64 t552] 34 (0, 0)) (by (with_reducible repeat (first | refine q1 ?_ _ | refine q2 ?_ | refine q3 ?_ _)); exact BK553.out)) : gb553 ≠ gb566)); have n9_ := A0 ((by rw [hg]; exact Nat.ne_of_gt (blk_lt (g := gb553) (o := .cells #[.int .i64 t542, .int .i64 t543, .int .i64 t544, .bool t545, .int .i64 t546, .int .i64 t547, .int .i64 t548, .int .i64 t549, .int .i64 t550, .int .u32 t551, .int .i64 t552] 34 (0, 0)) (by (with_reducible repeat (first | refine q1 ?_ _ | refine q2 ?_ | refine q3 ?_ _)); exact BK553.out)) : gb566 ≠ gb553)); clear BK540; clear BK553; clear HB; have BK540 := n0_; have BK553 := n1_; have HB := n2_; have BK566 := n3_; have GW566 := n4_; have GE566 := n5_; have NB540_566 := n6_; have NB566_540 := n7_; have NB553_566 := n8_; have NB566_553 := n9_; clear n0_ n1_ n2_ n3_ n4_ n5_ n6_ n7_ n8_ n9_; clear hb hbox hg; have hnb27 := NB566_540.out; have hnc27 := NB540_566.out; have hnb28 := NB566_553.out; have hnc28 := NB553_566.out; have hcz29 := cc11 BK566.out; have hcz30 := cc11 BK553.out) | ((with_reducible refine gate_callee (f := 30) rfl ?_); refine goesL_ (some 31) rfl rfl Try.func30 (by kernel_rfl) rfl #[.agg #[.int .i64 t542, .int .i64 t543, .int .i64 t544, .bool t545, .int .i64 t546, .int .i64 t547, .int .i64 t548, .int .i64 t549, .int .i64 t550, .int .u32 t551, .int .i64 t552], .int .u32 a1, .int .i64 a2] rfl (by (try simp only [List.map_toArray, List.map_cons, List.map_nil]); first | done | rfl | (simp only [List.length_drop, List.length_take]; rfl)) ?_; (with_reducible refine (path_Path_Beaten.calls k t542 t543 t544 t545 t546 t547 t548 t549 t550 t551 t552 a1 a2 t567 t568 t569 t570 t571 t572 t573 t574 t575 t576 t577 t578 _ A8.out).mono ?_); rintro e w31 ⟨rfl, hb⟩; refine ⟨_, rfl, ?_⟩; have n0_ := A0 (blk_below (g := gb540) (o := .cells #[.int .i64 a0_0, .int .i64 a0_1, .int .i64 a0_2, .bool a0_3, .int .i64 a0_4, .int .i64 a0_5, .int .i64 a0_6, .int .i64 a0_7, .int .i64 a0_8, .int .u32 a0_9, .int .i64 a0_10] 29 (0, 0)) (by (with_reducible repeat (first | refine q1 ?_ _ | refine q2 ?_ | refine q3 ?_ _)); refine blk_far ?_ NB540_566.out _; (with_reducible repeat (first | refine q1 ?_ _ | refine q2 ?_ | refine q3 ?_ _)); refine blk_far ?_ NB540_566.out _; (with_reducible repeat (first | refine q1 ?_ _ | refine q2 ?_ | refine q3 ?_ _)); refine blk_far ?_ NB540_566.out _; (with_reducible repeat (first | refine q1 ?_ _ | refine q2 ?_ | refine q3 ?_ _)); refine blk_far ?_ NB540_566.out _; (with_reducible repeat (first | refine q1 ?_ _ | refine q2 ?_ | refine q3 ?_ _)); refine blk_far ?_ NB540_566.out _; (with_reducible repeat (first | refine q1 ?_ _ | refine q2 ?_ | refine q3 ?_ _)); refine blk_far ?_ NB540_566.out _; (with_reducible repeat (first | refine q1 ?_ _ | refine q2 ?_ | refine q3 ?_ _)); refine blk_far ?_ NB540_566.out _; (with_reducible repeat (first | refine q1 ?_ _ | refine q2 ?_ | refine q3 ?_ _)); refine blk_far ?_ NB540_566.out _; (with_reducible repeat (first | refine q1 ?_ _ | refine q2 ?_ | refine q3 ?_ _)); refine blk_far ?_ NB540_566.out _; (with_reducible repeat (first | refine q1 ?_ _ | refine q2 ?_ | refine q3 ?_ _)); refine blk_far ?_ NB540_566.out _; (with_reducible repeat (first | refine q1 ?_ _ | refine q2 ?_ | refine q3 ?_ _)); refine blk_far ?_ NB540_566.out _; (with_reducible repeat (first | refine q1 ?_ _ | refine q2 ?_ | refine q3 ?_ _)); exact BK540.out) hb); have n1_ := A0 (blk_below (g := gb553) (o := .cells #[.int .i64 t542, .int .i64 t543, .int .i64 t544, .bool t545, .int .i64 t546, .int .i64 t547, .int .i64 t548, .int .i64 t549, .int .i64 t550, .int .u32 t551, .int .i64 t552] 34 (0, 0)) (by (with_reducible repeat (first | refine q1 ?_ _ | refine q2 ?_ | refine q3 ?_ _)); refine blk_far ?_ NB553_566.out _; (with_reducible repeat (first | refine q1 ?_ _ | refine q2 ?_ | refine q3 ?_ _)); refine blk_far ?_ NB553_566.out _; (with_reducible repeat (first | refine q1 ?_ _ | refine q2 ?_ | refine q3 ?_ _)); refine blk_far ?_ NB553_566.out _; (with_reducible repeat (first | refine q1 ?_ _ | refine q2 ?_ | refine q3 ?_ _)); refine blk_far ?_ NB553_566.out _; (with_reducible repeat (first | refine q1 ?_ _ | refine q2 ?_ | refine q3 ?_ _)); refine blk_far ?_ NB553_566.out _; (with_reducible repeat (first | refine q1 ?_ _ | refine q2 ?_ | refine q3 ?_ _)); refine blk_far ?_ NB553_566.out _; (with_reducible repeat (first | refine q1 ?_ _ | refine q2 ?_ | refine q3 ?_ _)); refine blk_far ?_ NB553_566.out _; (with_reducible repeat (first | refine q1 ?_ _ | refine q2 ?_ | refine q3 ?_ _)); refine blk_far ?_ NB553_566.out _; (with_reducible repeat (first | refine q1 ?_ _ | refine q2 ?_ | refine q3 ?_ _)); refine blk_far ?_ NB553_566.out _; (with_reducible repeat (first | refine q1 ?_ _ | refine q2 ?_ | refine q3 ?_ _)); refine blk_far ?_ NB553_566.out _; (with_reducible repeat (first | refine q1 ?_ _ | refine q2 ?_ | refine q3 ?_ _)); refine blk_far ?_ NB553_566.out _; (with_reducible repeat (first | refine q1 ?_ _ | refine q2 ?_ | refine q3 ?_ _)); exact BK553.out) hb); have n2_ := A0 (blk_below (g := gb566) (o := .cells #[.int .i64 t554, .int .i64 t555, .int .i64 t556, .bool t557, .int .i64 t558, .int .i64 t559, .int .i64 t560, .int .i64 t561, .int .i64 t562, .int .u32 t563, .int .i64 t564] 34 (0, 0)) (by (with_reducible repeat (first | refine q1 ?_ _ | refine q2 ?_ | refine q3 ?_ _)); refine blk_put (cs := #[.int .i64 t554, .int .i64 t555, .int .i64 t556, .bool t557, .int .i64 t558, .int .i64 t559, .int .i64 t560, .int .i64 t561, .int .i64 t562, .int .u32 t563, .int .i64 0]) ?_ 10 _ rfl; (with_reducible repeat (first | refine q1 ?_ _ | refine q2 ?_ | refine q3 ?_ _)); refine blk_put (cs := #[.int .i64 t554, .int .i64 t555, .int .i64 t556, .bool t557, .int .i64 t558, .int .i64 t559, .int .i64 t560, .int .i64 t561, .int .i64 t562, .int .u32 0, .int .i64 0]) ?_ 9 _ rfl; (with_reducible repeat (first | refine q1 ?_ _ | refine q2 ?_ | refine q3 ?_ _)); refine blk_put (cs := #[.int .i64 t554, .int .i64 t555, .int .i64 t556, .bool t557, .int .i64 t558, .int .i64 t559, .int .i64 t560, .int .i64 t561, .int .i64 0, .int .u32 0, .int .i64 0]) ?_ 8 _ rfl; (with_reducible repeat (first | refine q1 ?_ _ | refine q2 ?_ | refine q3 ?_ _)); refine blk_put (cs := #[.int .i64 t554, .int .i64 t555, .int .i64 t556, .bool t557, .int .i64 t558, .int .i64 t559, .int .i64 t560, .int .i64 0, .int .i64 0, .int .u32 0, .int .i64 0]) ?_ 7 _ rfl; (with_reducible repeat (first | refine q1 ?_ _ | refine q2 ?_ | refine q3 ?_ _)); refine blk_put (cs := #[.int .i64 t554, .int .i64 t555, .int .i64 t556, .bool t557, .int .i64 t558, .int .i64 t559, .int .i64 0, .int .i64 0, .int .i64 0, .int .u32 0, .int .i64 0]) ?_ 6 _ rfl; (with_reducible repeat (first | refine q1 ?_ _ | refine q2 ?_ | refine q3 ?_ _)); refine blk_put (cs := #[.int .i64 t554, .int .i64 t555, .int .i64 t556, .bool t557, .int .i64 t558, .int .i64 0, .int .i64 0, .int .i64 0, .int .i64 0, .int .u32 0, .int .i64 0]) ?_ 5 _ rfl; (with_reducible repeat (first | refine q1 ?_ _ | refine q2 ?_ | refine q3 ?_ _)); refine blk_put (cs := #[.int .i64 t554, .int .i64 t555, .int .i64 t556, .bool t557, .int .i64 0, .int .i64 0, .int .i64 0, .int .i64 0, .int .i64 0, .int .u32 0, .int .i64 0]) ?_ 4 _ rfl; (with_reducible repeat (first | refine q1 ?_ _ | refine q2 ?_ | refine q3 ?_ _)); refine blk_put (cs := #[.int .i64 t554, .int .i64 t555, .int .i64 t556, .bool false, .int .i64 0, .int .i64 0, .int .i64 0, .int .i64 0, .int .i64 0, .int .u32 0, .int .i64 0]) ?_ 3 _ rfl; (with_reducible repeat (first | refine q1 ?_ _ | refine q2 ?_ | refine q3 ?_ _)); refine blk_put (cs := #[.int .i64 t554, .int .i64 t555, .int .i64 0, .bool false, .int .i64 0, .int .i64 0, .int .i64 0, .int .i64 0, .int .i64 0, .int .u32 0, .int .i64 0]) ?_ 2 _ rfl; (with_reducible repeat (first | refine q1 ?_ _ | refine q2 ?_ | refine q3 ?_ _)); refine blk_put (cs := #[.int .i64 t554, .int .i64 0, .int .i64 0, .bool false, .int .i64 0, .int .i64 0, .int .i64 0, .int .i64 0, .int .i64 0, .int .u32 0, .int .i64 0]) ?_ 1 _ rfl; (with_reducible repeat (first | refine q1 ?_ _ | refine q2 ?_ | refine q3 ?_ _)); refine blk_put (cs := #[.int .i64 0, .int .i64 0, .int .i64 0, .bool false, .int .i64 0, .int .i64 0, .int .i64 0, .int .i64 0, .int .i64 0, .int .u32 0, .int .i64 0]) ?_ 0 _ rfl; (with_reducible repeat (first | refine q1 ?_ _ | refine q2 ?_ | refine q3 ?_ _)); exact BK566.out) hb); have n3_ := A0 (below_step (by repeat (first | (with_reducible first | exact HB.out | apply b1 | apply b2 | apply b3 | refine below_set ?_ GE540.out | refine below_set ?_ GE553.out | refine below_set ?_ GE566.out) | exact HB.out)) hb); clear BK540; clear BK553; clear BK566; clear HB; have BK540 := n0_; have BK553 := n1_; have BK566 := n2_; have HB := n3_; clear n0_ n1_ n2_ n3_; (try clear hb); (try clear hb2); (try clear hk); (try clear hi); (try simp only [errW_none, errW_some])) | ((with_reducible refine gate_dst (N := 10) rfl ?_); refine box_event ?hg (N := 10) ?hd (cs := #[.int .i64 0, .int .i64 0, .int .i64 0, .bool false, .int .i64 0, .int .i64 0, .int .i64 0, .int .i64 0, .int .i64 0, .int .u32 0, .int .i64 0]) (t := 34) ?hr ?_; (case hd => rfl); (case hg => rfl); (case hr => first | (go_simp; done) | (go_simp; rfl)); intro gb579 hg w32 hbox hb; have n0_ := A0 (blk_below (by (with_reducible repeat (first | refine q1 ?_ _ | refine q2 ?_ | refine q3 ?_ _)); exact BK540.out) hb); have n1_ := A0 (blk_below (by (with_reducible repeat (first | refine q1 ?_ _ | refine q2 ?_ | refine q3 ?_ _)); exact BK553.out) hb); have n2_ := A0 (blk_below (by (with_reducible repeat (first | refine q1 ?_ _ | refine q2 ?_ | refine q3 ?_ _)); exact BK566.out) hb); have n3_ := A0 (below_step (by repeat (first | (with_reducible first | exact HB.out | apply b1 | apply b2 | apply b3 | refine below_set ?_ GE540.out | refine below_set ?_ GE553.out | refine below_set ?_ GE566.out) | exact HB.out)) hb); have n4_ := A0 (hbox); have n5_ := A0 ((by rw [hg]; exact (below_size (by repeat (first | (with_reducible first | exact HB.out | apply b1 | apply b2 | apply b3 | refine below_set ?_ GE540.out | refine below_set ?_ GE553.out | refine below_set ?_ GE566.out) | exact HB.out))) : w.heap.size ≤ gb579)); have n6_ := n5_; have n7_ := A0 ((by rw [hg]; exact Nat.ne_of_lt (blk_lt (g := gb540) (o := .cells #[.int .i64 a0_0, .int .i64 a0_1, .int .i64 a0_2, .bool a0_3, .int .i64 a0_4, .int .i64 a0_5, .int .i64 a0_6, .int .i64 a0_7, .int .i64 a0_8, .int .u32 a0_9, .int .i64 a0_10] 29 (0, 0)) (by (with_reducible repeat (first | refine q1 ?_ _ | refine q2 ?_ | refine q3 ?_ _)); exact BK540.out)) : gb540 ≠ gb579)); have n8_ := A0 ((by rw [hg]; exact Nat.ne_of_gt (blk_lt (g := gb540) (o := .cells #[.int .i64 a0_0, .int .i64 a0_1, .int .i64 a0_2, .bool a0_3, .int .i64 a0_4, .int .i64 a0_5, .int .i64 a0_6, .int .i64 a0_7, .int .i64 a0_8, .int .u32 a0_9, .int .i64 a0_10] 29 (0, 0)) (by (with_reducible repeat (first | refine q1 ?_ _ | refine q2 ?_ | refine q3 ?_ _)); exact BK540.out)) : gb579 ≠ gb540)); have n9_ := A0 ((by rw [hg]; exact Nat.ne_of_lt (blk_lt (g := gb553) (o := .cells #[.int .i64 t542, .int .i64 t543, .int .i64 t544, .bool t545, .int .i64 t546, .int .i64 t547, .int .i64 t548, .int .i64 t549, .int .i64 t550, .int .u32 t551, .int .i64 t552] 34 (0, 0)) (by (with_reducible repeat (first | refine q1 ?_ _ | refine q2 ?_ | refine q3 ?_ _)); exact BK553.out)) : gb553 ≠ gb579)); have n10_ := A0 ((by rw [hg]; exact Nat.ne_of_gt (blk_lt (g := gb553) (o := .cells #[.int .i64 t542, .int .i64 t543, .int .i64 t544, .bool t545, .int .i64 t546, .int .i64 t547, .int .i64 t548, .int .i64 t549, .int .i64 t550, .int .u32 t551, .int .i64 t552] 34 (0, 0)) (by (with_reducible repeat (first | refine q1 ?_ _ | refine q2 ?_ | refine q3 ?_ _)); exact BK553.out)) : gb579 ≠ gb553)); have n11_ := A0 ((by rw [hg]; exact Nat.ne_of_lt (blk_lt (g := gb566) (o := .cells #[.int .i64 t554, .int .i64 t555, .int .i64 t556, .bool t557, .int .i64 t558, .int .i64 t559, .int .i64 t560, .int .i64 t561, .int .i64 t562, .int .u32 t563, .int .i64 t564] 34 (0, 0)) (by (with_reducible repeat (first | refine q1 ?_ _ | refine q2 ?_ | refine q3 ?_ _)); exact BK566.out)) : gb566 ≠ gb579)); have n12_ := A0 ((by rw [hg]; exact Nat.ne_of_gt (blk_lt (g := gb566) (o := .cells #[.int .i64 t554, .int .i64 t555, .int .i64 t556, .bool t557, .int .i64 t558, .int .i64 t559, .int .i64 t560, .int .i64 t561, .int .i64 t562, .int .u32 t563, .int .i64 t564] 34 (0, 0)) (by (with_reducible repeat (first | refine q1 ?_ _ | refine q2 ?_ | refine q3 ?_ _)); exact BK566.out)) : gb579 ≠ gb566)); clear BK540; clear BK553; clear BK566; clear HB; have BK540 := n0_; have BK553 := n1_; have BK566 := n2_; have HB := n3_; have BK579 := n4_; have GW579 := n5_; have GE579 := n6_; have NB540_579 := n7_; have NB579_540 := n8_; have NB553_579 := n9_; have NB579_553 := n10_; have NB566_579 := n11_; have NB579_566 := n12_; clear n0_ n1_ n2_ n3_ n4_ n5_ n6_ n7_ n8_ n9_ n10_ n11_ n12_; clear hb hbox hg; have hnb33 := NB579_540.out; have hnc33 := NB540_579.out; have hnb34 := NB579_553.out; have hnc34 := NB553_579.out; have hnb35 := NB579_566.out; have hnc35 := NB566_579.out; have hcz36 := cc11 BK579.out; have hcz37 := cc11 BK540.out) | ((with_reducible refine gate_callee (f := 31) rfl ?_); refine goesL_ (some 38) rfl rfl Try.func31 (by kernel_rfl) rfl #[.agg #[.int .i64 a0_0, .int .i64 a0_1, .int .i64 a0_2, .bool a0_3, .int .i64 a0_4, .int .i64 a0_5, .int .i64 a0_6, .int .i64 a0_7, .int .i64 a0_8, .int .u32 a0_9, .int .i64 a0_10], .int .u32 a1, .int .i64 a2] rfl (by (try simp only [List.map_toArray, List.map_cons, List.map_nil]); first | done | rfl | (simp only [List.length_drop, List.length_take]; rfl)) ?_; (with_reducible refine (weftlineref13_Beat.calls k a0_0 a0_1 a0_2 a0_3 a0_4 a0_5 a0_6 a0_7 a0_8 a0_9 a0_10 a1 a2 t580 t581 t582 t583 t584 t585 t586 t587 t588 t589 t590 t591 _ A9.out).mono ?_); rintro e w38 ⟨rfl, hb⟩; refine ⟨_, rfl, ?_⟩; have n0_ := A0 (blk_below (g := gb540) (o := .cells #[.int .i64 a0_0, .int .i64 a0_1, .int .i64 a0_2, .bool a0_3, .int .i64 a0_4, .int .i64 a0_5, .int .i64 a0_6, .int .i64 a0_7, .int .i64 a0_8, .int .u32 a0_9, .int .i64 a0_10] 29 (0, 0)) (by (with_reducible repeat (first | refine q1 ?_ _ | refine q2 ?_ | refine q3 ?_ _)); refine blk_far ?_ NB540_579.out _; (with_reducible repeat (first | refine q1 ?_ _ | refine q2 ?_ | refine q3 ?_ _)); refine blk_far ?_ NB540_579.out _; (with_reducible repeat (first | refine q1 ?_ _ | refine q2 ?_ | refine q3 ?_ _)); refine blk_far ?_ NB540_579.out _; (with_reducible repeat (first | refine q1 ?_ _ | refine q2 ?_ | refine q3 ?_ _)); refine blk_far ?_ NB540_579.out _; (with_reducible repeat (first | refine q1 ?_ _ | refine q2 ?_ | refine q3 ?_ _)); refine blk_far ?_ NB540_579.out _; (with_reducible repeat (first | refine q1 ?_ _ | refine q2 ?_ | refine q3 ?_ _)); refine blk_far ?_ NB540_579.out _; (with_reducible repeat (first | refine q1 ?_ _ | refine q2 ?_ | refine q3 ?_ _)); refine blk_far ?_ NB540_579.out _; (with_reducible repeat (first | refine q1 ?_ _ | refine q2 ?_ | refine q3 ?_ _)); refine blk_far ?_ NB540_579.out _; (with_reducible repeat (first | refine q1 ?_ _ | refine q2 ?_ | refine q3 ?_ _)); refine blk_far ?_ NB540_579.out _; (with_reducible repeat (first | refine q1 ?_ _ | refine q2 ?_ | refine q3 ?_ _)); refine blk_far ?_ NB540_579.out _; (with_reducible repeat (first | refine q1 ?_ _ | refine q2 ?_ | refine q3 ?_ _)); refine blk_far ?_ NB540_579.out _; (with_reducible repeat (first | refine q1 ?_ _ | refine q2 ?_ | refine q3 ?_ _)); exact BK540.out) hb); have n1_ := A0 (blk_below (g := gb553) (o := .cells #[.int .i64 t542, .int .i64 t543, .int .i64 t544, .bool t545, .int .i64 t546, .int .i64 t547, .int .i64 t548, .int .i64 t549, .int .i64 t550, .int .u32 t551, .int .i64 t552] 34 (0, 0)) (by (with_reducible repeat (first | refine q1 ?_ _ | refine q2 ?_ | refine q3 ?_ _)); refine blk_far ?_ NB553_579.out _; (with_reducible repeat (first | refine q1 ?_ _ | refine q2 ?_ | refine q3 ?_ _)); refine blk_far ?_ NB553_579.out _; (with_reducible repeat (first | refine q1 ?_ _ | refine q2 ?_ | refine q3 ?_ _)); refine blk_far ?_ NB553_579.out _; (with_reducible repeat (first | refine q1 ?_ _ | refine q2 ?_ | refine q3 ?_ _)); refine blk_far ?_ NB553_579.out _; (with_reducible repeat (first | refine q1 ?_ _ | refine q2 ?_ | refine q3 ?_ _)); refine blk_far ?_ NB553_579.out _; (with_reducible repeat (first | refine q1 ?_ _ | refine q2 ?_ | refine q3 ?_ _)); refine blk_far ?_ NB553_579.out _; (with_reducible repeat (first | refine q1 ?_ _ | refine q2 ?_ | refine q3 ?_ _)); refine blk_far ?_ NB553_579.out _; (with_reducible repeat (first | refine q1 ?_ _ | refine q2 ?_ | refine q3 ?_ _)); refine blk_far ?_ NB553_579.out _; (with_reducible repeat (first | refine q1 ?_ _ | refine q2 ?_ | refine q3 ?_ _)); refine blk_far ?_ NB553_579.out _; (with_reducible repeat (first | refine q1 ?_ _ | refine q2 ?_ | refine q3 ?_ _)); refine blk_far ?_ NB553_579.out _; (with_reducible repeat (first | refine q1 ?_ _ | refine q2 ?_ | refine q3 ?_ _)); refine blk_far ?_ NB553_579.out _; (with_reducible repeat (first | refine q1 ?_ _ | refine q2 ?_ | refine q3 ?_ _)); exact BK553.out) hb); have n2_ := A0 (blk_below (g := gb566) (o := .cells #[.int .i64 t554, .int .i64 t555, .int .i64 t556, .bool t557, .int .i64 t558, .int .i64 t559, .int .i64 t560, .int .i64 t561, .int .i64 t562, .int .u32 t563, .int .i64 t564] 34 (0, 0)) (by (with_reducible repeat (first | refine q1 ?_ _ | refine q2 ?_ | refine q3 ?_ _)); refine blk_far ?_ NB566_579.out _; (with_reducible repeat (first | refine q1 ?_ _ | refine q2 ?_ | refine q3 ?_ _)); refine blk_far ?_ NB566_579.out _; (with_reducible repeat (first | refine q1 ?_ _ | refine q2 ?_ | refine q3 ?_ _)); refine blk_far ?_ NB566_579.out _; (with_reducible repeat (first | refine q1 ?_ _ | refine q2 ?_ | refine q3 ?_ _)); refine blk_far ?_ NB566_579.out _; (with_reducible repeat (first | refine q1 ?_ _ | refine q2 ?_ | refine q3 ?_ _)); refine blk_far ?_ NB566_579.out _; (with_reducible repeat (first | refine q1 ?_ _ | refine q2 ?_ | refine q3 ?_ _)); refine blk_far ?_ NB566_579.out _; (with_reducible repeat (first | refine q1 ?_ _ | refine q2 ?_ | refine q3 ?_ _)); refine blk_far ?_ NB566_579.out _; (with_reducible repeat (first | refine q1 ?_ _ | refine q2 ?_ | refine q3 ?_ _)); refine blk_far ?_ NB566_579.out _; (with_reducible repeat (first | refine q1 ?_ _ | refine q2 ?_ | refine q3 ?_ _)); refine blk_far ?_ NB566_579.out _; (with_reducible repeat (first | refine q1 ?_ _ | refine q2 ?_ | refine q3 ?_ _)); refine blk_far ?_ NB566_579.out _; (with_reducible repeat (first | refine q1 ?_ _ | refine q2 ?_ | refine q3 ?_ _)); refine blk_far ?_ NB566_579.out _; (with_reducible repeat (first | refine q1 ?_ _ | refine q2 ?_ | refine q3 ?_ _)); exact BK566.out) hb); have n3_ := A0 (blk_below (g := gb579) (o := .cells #[.int .i64 t567, .int .i64 t568, .int .i64 t569, .bool t570, .int .i64 t571, .int .i64 t572, .int .i64 t573, .int .i64 t574, .int .i64 t575, .int .u32 t576, .int .i64 t577] 34 (0, 0)) (by (with_reducible repeat (first | refine q1 ?_ _ | refine q2 ?_ | refine q3 ?_ _)); refine blk_put (cs := #[.int .i64 t567, .int .i64 t568, .int .i64 t569, .bool t570, .int .i64 t571, .int .i64 t572, .int .i64 t573, .int .i64 t574, .int .i64 t575, .int .u32 t576, .int .i64 0]) ?_ 10 _ rfl; (with_reducible repeat (first | refine q1 ?_ _ | refine q2 ?_ | refine q3 ?_ _)); refine blk_put (cs := #[.int .i64 t567, .int .i64 t568, .int .i64 t569, .bool t570, .int .i64 t571, .int .i64 t572, .int .i64 t573, .int .i64 t574, .int .i64 t575, .int .u32 0, .int .i64 0]) ?_ 9 _ rfl; (with_reducible repeat (first | refine q1 ?_ _ | refine q2 ?_ | refine q3 ?_ _)); refine blk_put (cs := #[.int .i64 t567, .int .i64 t568, .int .i64 t569, .bool t570, .int .i64 t571, .int .i64 t572, .int .i64 t573, .int .i64 t574, .int .i64 0, .int .u32 0, .int .i64 0]) ?_ 8 _ rfl; (with_reducible repeat (first | refine q1 ?_ _ | refine q2 ?_ | refine q3 ?_ _)); refine blk_put (cs := #[.int .i64 t567, .int .i64 t568, .int .i64 t569, .bool t570, .int .i64 t571, .int .i64 t572, .int .i64 t573, .int .i64 0, .int .i64 0, .int .u32 0, .int .i64 0]) ?_ 7 _ rfl; (with_reducible repeat (first | refine q1 ?_ _ | refine q2 ?_ | refine q3 ?_ _)); refine blk_put (cs := #[.int .i64 t567, .int .i64 t568, .int .i64 t569, .bool t570, .int .i64 t571, .int .i64 t572, .int .i64 0, .int .i64 0, .int .i64 0, .int .u32 0, .int .i64 0]) ?_ 6 _ rfl; (with_reducible repeat (first | refine q1 ?_ _ | refine q2 ?_ | refine q3 ?_ _)); refine blk_put (cs := #[.int .i64 t567, .int .i64 t568, .int .i64 t569, .bool t570, .int .i64 t571, .int .i64 0, .int .i64 0, .int .i64 0, .int .i64 0, .int .u32 0, .int .i64 0]) ?_ 5 _ rfl; (with_reducible repeat (first | refine q1 ?_ _ | refine q2 ?_ | refine q3 ?_ _)); refine blk_put (cs := #[.int .i64 t567, .int .i64 t568, .int .i64 t569, .bool t570, .int .i64 0, .int .i64 0, .int .i64 0, .int .i64 0, .int .i64 0, .int .u32 0, .int .i64 0]) ?_ 4 _ rfl; (with_reducible repeat (first | refine q1 ?_ _ | refine q2 ?_ | refine q3 ?_ _)); refine blk_put (cs := #[.int .i64 t567, .int .i64 t568, .int .i64 t569, .bool false, .int .i64 0, .int .i64 0, .int .i64 0, .int .i64 0, .int .i64 0, .int .u32 0, .int .i64 0]) ?_ 3 _ rfl; (with_reducible repeat (first | refine q1 ?_ _ | refine q2 ?_ | refine q3 ?_ _)); refine blk_put (cs := #[.int .i64 t567, .int .i64 t568, .int .i64 0, .bool false, .int .i64 0, .int .i64 0, .int .i64 0, .int .i64 0, .int .i64 0, .int .u32 0, .int .i64 0]) ?_ 2 _ rfl; (with_reducible repeat (first | refine q1 ?_ _ | refine q2 ?_ | refine q3 ?_ _)); refine blk_put (cs := #[.int .i64 t567, .int .i64 0, .int .i64 0, .bool false, .int .i64 0, .int .i64 0, .int .i64 0, .int .i64 0, .int .i64 0, .int .u32 0, .int .i64 0]) ?_ 1 _ rfl; (with_reducible repeat (first | refine q1 ?_ _ | refine q2 ?_ | refine q3 ?_ _)); refine blk_put (cs := #[.int .i64 0, .int .i64 0, .int .i64 0, .bool false, .int .i64 0, .int .i64 0, .int .i64 0, .int .i64 0, .int .i64 0, .int .u32 0, .int .i64 0]) ?_ 0 _ rfl; (with_reducible repeat (first | refine q1 ?_ _ | refine q2 ?_ | refine q3 ?_ _)); exact BK579.out) hb); have n4_ := A0 (below_step (by repeat (first | (with_reducible first | exact HB.out | apply b1 | apply b2 | apply b3 | refine below_set ?_ GE540.out | refine below_set ?_ GE553.out | refine below_set ?_ GE566.out | refine below_set ?_ GE579.out) | exact HB.out)) hb); clear BK540; clear BK553; clear BK566; clear BK579; clear HB; have BK540 := n0_; have BK553 := n1_; have BK566 := n2_; have BK579 := n3_; have HB := n4_; clear n0_ n1_ n2_ n3_ n4_; (try clear hb); (try clear hb2); (try clear hk); (try clear hi)) | ((with_reducible refine gate_dst (N := 12) rfl ?_); refine box_event ?hg (N := 12) ?hd (cs := #[.int .i64 0, .int .i64 0, .int .i64 0, .bool false, .int .i64 0, .int .i64 0, .int .i64 0, .int .i64 0, .int .i64 0, .int .u32 0, .int .i64 0]) (t := 29) ?hr ?_; (case hd => rfl); (case hg => rfl); (case hr => first | (go_simp; done) | (go_simp; rfl)); intro gb592 hg w39 hbox hb; have n0_ := A0 (blk_below (by (with_reducible repeat (first | refine q1 ?_ _ | refine q2 ?_ | refine q3 ?_ _)); exact BK540.out) hb); have n1_ := A0 (blk_below (by (with_reducible repeat (first | refine q1 ?_ _ | refine q2 ?_ | refine q3 ?_ _)); exact BK553.out) hb); have n2_ := A0 (blk_below (by (with_reducible repeat (first | refine q1 ?_ _ | refine q2 ?_ | refine q3 ?_ _)); exact BK566.out) hb); have n3_ := A0 (blk_below (by (with_reducible repeat (first | refine q1 ?_ _ | refine q2 ?_ | refine q3 ?_ _)); exact BK579.out) hb); have n4_ := A0 (below_step (by repeat (first | (with_reducible first | exact HB.out | apply b1 | apply b2 | apply b3 | refine below_set ?_ GE540.out | refine below_set ?_ GE553.out | refine below_set ?_ GE566.out | refine below_set ?_ GE579.out) | exact HB.out)) hb); have n5_ := A0 (hbox); have n6_ := A0 ((by rw [hg]; exact (below_size (by repeat (first | (with_reducible first | exact HB.out | apply b1 | apply b2 | apply b3 | refine below_set ?_ GE540.out | refine below_set ?_ GE553.out | refine below_set ?_ GE566.out | refine below_set ?_ GE579.out) | exact HB.out))) : w.heap.size ≤ gb592)); have n7_ := n6_; have n8_ := A0 ((by rw [hg]; exact Nat.ne_of_lt (blk_lt (g := gb540) (o := .cells #[.int .i64 a0_0, .int .i64 a0_1, .int .i64 a0_2, .bool a0_3, .int .i64 a0_4, .int .i64 a0_5, .int .i64 a0_6, .int .i64 a0_7, .int .i64 a0_8, .int .u32 a0_9, .int .i64 a0_10] 29 (0, 0)) (by (with_reducible repeat (first | refine q1 ?_ _ | refine q2 ?_ | refine q3 ?_ _)); exact BK540.out)) : gb540 ≠ gb592)); have n9_ := A0 ((by rw [hg]; exact Nat.ne_of_gt (blk_lt (g := gb540) (o := .cells #[.int .i64 a0_0, .int .i64 a0_1, .int .i64 a0_2, .bool a0_3, .int .i64 a0_4, .int .i64 a0_5, .int .i64 a0_6, .int .i64 a0_7, .int .i64 a0_8, .int .u32 a0_9, .int .i64 a0_10] 29 (0, 0)) (by (with_reducible repeat (first | refine q1 ?_ _ | refine q2 ?_ | refine q3 ?_ _)); exact BK540.out)) : gb592 ≠ gb540)); have n10_ := A0 ((by rw [hg]; exact Nat.ne_of_lt (blk_lt (g := gb553) (o := .cells #[.int .i64 t542, .int .i64 t543, .int .i64 t544, .bool t545, .int .i64 t546, .int .i64 t547, .int .i64 t548, .int .i64 t549, .int .i64 t550, .int .u32 t551, .int .i64 t552] 34 (0, 0)) (by (with_reducible repeat (first | refine q1 ?_ _ | refine q2 ?_ | refine q3 ?_ _)); exact BK553.out)) : gb553 ≠ gb592)); have n11_ := A0 ((by rw [hg]; exact Nat.ne_of_gt (blk_lt (g := gb553) (o := .cells #[.int .i64 t542, .int .i64 t543, .int .i64 t544, .bool t545, .int .i64 t546, .int .i64 t547, .int .i64 t548, .int .i64 t549, .int .i64 t550, .int .u32 t551, .int .i64 t552] 34 (0, 0)) (by (with_reducible repeat (first | refine q1 ?_ _ | refine q2 ?_ | refine q3 ?_ _)); exact BK553.out)) : gb592 ≠ gb553)); have n12_ := A0 ((by rw [hg]; exact Nat.ne_of_lt (blk_lt (g := gb566) (o := .cells #[.int .i64 t554, .int .i64 t555, .int .i64 t556, .bool t557, .int .i64 t558, .int .i64 t559, .int .i64 t560, .int .i64 t561, .int .i64 t562, .int .u32 t563, .int .i64 t564] 34 (0, 0)) (by (with_reducible repeat (first | refine q1 ?_ _ | refine q2 ?_ | refine q3 ?_ _)); exact BK566.out)) : gb566 ≠ gb592)); have n13_ := A0 ((by rw [hg]; exact Nat.ne_of_gt (blk_lt (g := gb566) (o := .cells #[.int .i64 t554, .int .i64 t555, .int .i64 t556, .bool t557, .int .i64 t558, .int .i64 t559, .int .i64 t560, .int .i64 t561, .int .i64 t562, .int .u32 t563, .int .i64 t564] 34 (0, 0)) (by (with_reducible repeat (first | refine q1 ?_ _ | refine q2 ?_ | refine q3 ?_ _)); exact BK566.out)) : gb592 ≠ gb566)); have n14_ := A0 ((by rw [hg]; exact Nat.ne_of_lt (blk_lt (g := gb579) (o := .cells #[.int .i64 t567, .int .i64 t568, .int .i64 t569, .bool t570, .int .i64 t571, .int .i64 t572, .int .i64 t573, .int .i64 t574, .int .i64 t575, .int .u32 t576, .int .i64 t577] 34 (0, 0)) (by (with_reducible repeat (first | refine q1 ?_ _ | refine q2 ?_ | refine q3 ?_ _)); exact BK579.out)) : gb579 ≠ gb592)); have n15_ := A0 ((by rw [hg]; exact Nat.ne_of_gt (blk_lt (g := gb579) (o := .cells #[.int .i64 t567, .int .i64 t568, .int .i64 t569, .bool t570, .int .i64 t571, .int .i64 t572, .int .i64 t573, .int .i64 t574, .int .i64 t575, .int .u32 t576, .int .i64 t577] 34 (0, 0)) (by (with_reducible repeat (first | refine q1 ?_ _ | refine q2 ?_ | refine q3 ?_ _)); exact BK579.out)) : gb592 ≠ gb579)); clear BK540; clear BK553; clear BK566; clear BK579; clear HB; have BK540 := n0_; have BK553 := n1_; have BK566 := n2_; have BK579 := n3_; have HB := n4_; have BK592 := n5_; have GW592 := n6_; have GE592 := n7_; have NB540_592 := n8_; have NB592_540 := n9_; have NB553_592 := n10_; have NB592_553 := n11_; have NB566_592 := n12_; have NB592_566 := n13_; have NB579_592 := n14_; have NB592_579 := n15_; clear n0_ n1_ n2_ n3_ n4_ n5_ n6_ n7_ n8_ n9_ n10_ n11_ n12_ n13_ n14_ n15_; clear hb hbox hg; have hnb40 := NB592_540.out; have hnc40 := NB540_592.out; have hnb41 := NB592_553.out; have hnc41 := NB553_592.out; have hnb42 := NB592_566.out; have hnc42 := NB566_592.out; have hnb43 := NB592_579.out; have hnc43 := NB579_592.out; have hcz44 := cc11 BK592.out; have hcz45 := cc11 BK540.out) | ((with_reducible refine gate_callee (f := 32) rfl ?_); refine goesL_ (some 45) rfl rfl Try.func32 (by kernel_rfl) rfl #[.agg #[.int .i64 a0_0, .int .i64 a0_1, .int .i64 a0_2, .bool a0_3, .int .i64 a0_4, .int .i64 a0_5, .int .i64 a0_6, .int .i64 a0_7, .int .i64 a0_8, .int .u32 a0_9, .int .i64 a0_10], .int .u32 a1, .int .i64 a2] rfl (by (try simp only [List.map_toArray, List.map_cons, List.map_nil]); first | done | rfl | (simp only [List.length_drop, List.length_take]; rfl)) ?_; (with_reducible refine (weftlineref13_Beaten.calls k a0_0 a0_1 a0_2 a0_3 a0_4 a0_5 a0_6 a0_7 a0_8 a0_9 a0_10 a1 a2 t593 t594 t595 t596 t597 t598 t599 t600 t601 t602 t603 t604 _ A10.out).mono ?_); rintro e w46 ⟨rfl, hb⟩; refine ⟨_, rfl, ?_⟩; have n0_ := A0 (blk_below (g := gb540) (o := .cells #[.int .i64 a0_0, .int .i64 a0_1, .int .i64 a0_2, .bool a0_3, .int .i64 a0_4, .int .i64 a0_5, .int .i64 a0_6, .int .i64 a0_7, .int .i64 a0_8, .int .u32 a0_9, .int .i64 a0_10] 29 (0, 0)) (by (with_reducible repeat (first | refine q1 ?_ _ | refine q2 ?_ | refine q3 ?_ _)); refine blk_far ?_ NB540_592.out _; (with_reducible repeat (first | refine q1 ?_ _ | refine q2 ?_ | refine q3 ?_ _)); refine blk_far ?_ NB540_592.out _; (with_reducible repeat (first | refine q1 ?_ _ | refine q2 ?_ | refine q3 ?_ _)); refine blk_far ?_ NB540_592.out _; (with_reducible repeat (first | refine q1 ?_ _ | refine q2 ?_ | refine q3 ?_ _)); refine blk_far ?_ NB540_592.out _; (with_reducible repeat (first | refine q1 ?_ _ | refine q2 ?_ | refine q3 ?_ _)); refine blk_far ?_ NB540_592.out _; (with_reducible repeat (first | refine q1 ?_ _ | refine q2 ?_ | refine q3 ?_ _)); refine blk_far ?_ NB540_592.out _; (with_reducible repeat (first | refine q1 ?_ _ | refine q2 ?_ | refine q3 ?_ _)); refine blk_far ?_ NB540_592.out _; (with_reducible repeat (first | refine q1 ?_ _ | refine q2 ?_ | refine q3 ?_ _)); refine blk_far ?_ NB540_592.out _; (with_reducible repeat (first | refine q1 ?_ _ | refine q2 ?_ | refine q3 ?_ _)); refine blk_far ?_ NB540_592.out _; (with_reducible repeat (first | refine q1 ?_ _ | refine q2 ?_ | refine q3 ?_ _)); refine blk_far ?_ NB540_592.out _; (with_reducible repeat (first | refine q1 ?_ _ | refine q2 ?_ | refine q3 ?_ _)); refine blk_far ?_ NB540_592.out _; (with_reducible repeat (first | refine q1 ?_ _ | refine q2 ?_ | refine q3 ?_ _)); exact BK540.out) hb); have n1_ := A0 (blk_below (g := gb553) (o := .cells #[.int .i64 t542, .int .i64 t543, .int .i64 t544, .bool t545, .int .i64 t546, .int .i64 t547, .int .i64 t548, .int .i64 t549, .int .i64 t550, .int .u32 t551, .int .i64 t552] 34 (0, 0)) (by (with_reducible repeat (first | refine q1 ?_ _ | refine q2 ?_ | refine q3 ?_ _)); refine blk_far ?_ NB553_592.out _; (with_reducible repeat (first | refine q1 ?_ _ | refine q2 ?_ | refine q3 ?_ _)); refine blk_far ?_ NB553_592.out _; (with_reducible repeat (first | refine q1 ?_ _ | refine q2 ?_ | refine q3 ?_ _)); refine blk_far ?_ NB553_592.out _; (with_reducible repeat (first | refine q1 ?_ _ | refine q2 ?_ | refine q3 ?_ _)); refine blk_far ?_ NB553_592.out _; (with_reducible repeat (first | refine q1 ?_ _ | refine q2 ?_ | refine q3 ?_ _)); refine blk_far ?_ NB553_592.out _; (with_reducible repeat (first | refine q1 ?_ _ | refine q2 ?_ | refine q3 ?_ _)); refine blk_far ?_ NB553_592.out _; (with_reducible repeat (first | refine q1 ?_ _ | refine q2 ?_ | refine q3 ?_ _)); refine blk_far ?_ NB553_592.out _; (with_reducible repeat (first | refine q1 ?_ _ | refine q2 ?_ | refine q3 ?_ _)); refine blk_far ?_ NB553_592.out _; (with_reducible repeat (first | refine q1 ?_ _ | refine q2 ?_ | refine q3 ?_ _)); refine blk_far ?_ NB553_592.out _; (with_reducible repeat (first | refine q1 ?_ _ | refine q2 ?_ | refine q3 ?_ _)); refine blk_far ?_ NB553_592.out _; (with_reducible repeat (first | refine q1 ?_ _ | refine q2 ?_ | refine q3 ?_ _)); refine blk_far ?_ NB553_592.out _; (with_reducible repeat (first | refine q1 ?_ _ | refine q2 ?_ | refine q3 ?_ _)); exact BK553.out) hb); have n2_ := A0 (blk_below (g := gb566) (o := .cells #[.int .i64 t554, .int .i64 t555, .int .i64 t556, .bool t557, .int .i64 t558, .int .i64 t559, .int .i64 t560, .int .i64 t561, .int .i64 t562, .int .u32 t563, .int .i64 t564] 34 (0, 0)) (by (with_reducible repeat (first | refine q1 ?_ _ | refine q2 ?_ | refine q3 ?_ _)); refine blk_far ?_ NB566_592.out _; (with_reducible repeat (first | refine q1 ?_ _ | refine q2 ?_ | refine q3 ?_ _)); refine blk_far ?_ NB566_592.out _; (with_reducible repeat (first | refine q1 ?_ _ | refine q2 ?_ | refine q3 ?_ _)); refine blk_far ?_ NB566_592.out _; (with_reducible repeat (first | refine q1 ?_ _ | refine q2 ?_ | refine q3 ?_ _)); refine blk_far ?_ NB566_592.out _; (with_reducible repeat (first | refine q1 ?_ _ | refine q2 ?_ | refine q3 ?_ _)); refine blk_far ?_ NB566_592.out _; (with_reducible repeat (first | refine q1 ?_ _ | refine q2 ?_ | refine q3 ?_ _)); refine blk_far ?_ NB566_592.out _; (with_reducible repeat (first | refine q1 ?_ _ | refine q2 ?_ | refine q3 ?_ _)); refine blk_far ?_ NB566_592.out _; (with_reducible repeat (first | refine q1 ?_ _ | refine q2 ?_ | refine q3 ?_ _)); refine blk_far ?_ NB566_592.out _; (with_reducible repeat (first | refine q1 ?_ _ | refine q2 ?_ | refine q3 ?_ _)); refine blk_far ?_ NB566_592.out _; (with_reducible repeat (first | refine q1 ?_ _ | refine q2 ?_ | refine q3 ?_ _)); refine blk_far ?_ NB566_592.out _; (with_reducible repeat (first | refine q1 ?_ _ | refine q2 ?_ | refine q3 ?_ _)); refine blk_far ?_ NB566_592.out _; (with_reducible repeat (first | refine q1 ?_ _ | refine q2 ?_ | refine q3 ?_ _)); exact BK566.out) hb); have n3_ := A0 (blk_below (g := gb579) (o := .cells #[.int .i64 t567, .int .i64 t568, .int .i64 t569, .bool t570, .int .i64 t571, .int .i64 t572, .int .i64 t573, .int .i64 t574, .int .i64 t575, .int .u32 t576, .int .i64 t577] 34 (0, 0)) (by (with_reducible repeat (first | refine q1 ?_ _ | refine q2 ?_ | refine q3 ?_ _)); refine blk_far ?_ NB579_592.out _; (with_reducible repeat (first | refine q1 ?_ _ | refine q2 ?_ | refine q3 ?_ _)); refine blk_far ?_ NB579_592.out _; (with_reducible repeat (first | refine q1 ?_ _ | refine q2 ?_ | refine q3 ?_ _)); refine blk_far ?_ NB579_592.out _; (with_reducible repeat (first | refine q1 ?_ _ | refine q2 ?_ | refine q3 ?_ _)); refine blk_far ?_ NB579_592.out _; (with_reducible repeat (first | refine q1 ?_ _ | refine q2 ?_ | refine q3 ?_ _)); refine blk_far ?_ NB579_592.out _; (with_reducible repeat (first | refine q1 ?_ _ | refine q2 ?_ | refine q3 ?_ _)); refine blk_far ?_ NB579_592.out _; (with_reducible repeat (first | refine q1 ?_ _ | refine q2 ?_ | refine q3 ?_ _)); refine blk_far ?_ NB579_592.out _; (with_reducible repeat (first | refine q1 ?_ _ | refine q2 ?_ | refine q3 ?_ _)); refine blk_far ?_ NB579_592.out _; (with_reducible repeat (first | refine q1 ?_ _ | refine q2 ?_ | refine q3 ?_ _)); refine blk_far ?_ NB579_592.out _; (with_reducible repeat (first | refine q1 ?_ _ | refine q2 ?_ | refine q3 ?_ _)); refine blk_far ?_ NB579_592.out _; (with_reducible repeat (first | refine q1 ?_ _ | refine q2 ?_ | refine q3 ?_ _)); refine blk_far ?_ NB579_592.out _; (with_reducible repeat (first | refine q1 ?_ _ | refine q2 ?_ | refine q3 ?_ _)); exact BK579.out) hb); have n4_ := A0 (blk_below (g := gb592) (o := .cells #[.int .i64 t580, .int .i64 t581, .int .i64 t582, .bool t583, .int .i64 t584, .int .i64 t585, .int .i64 t586, .int .i64 t587, .int .i64 t588, .int .u32 t589, .int .i64 t590] 29 (0, 0)) (by (with_reducible repeat (first | refine q1 ?_ _ | refine q2 ?_ | refine q3 ?_ _)); refine blk_put (cs := #[.int .i64 t580, .int .i64 t581, .int .i64 t582, .bool t583, .int .i64 t584, .int .i64 t585, .int .i64 t586, .int .i64 t587, .int .i64 t588, .int .u32 t589, .int .i64 0]) ?_ 10 _ rfl; (with_reducible repeat (first | refine q1 ?_ _ | refine q2 ?_ | refine q3 ?_ _)); refine blk_put (cs := #[.int .i64 t580, .int .i64 t581, .int .i64 t582, .bool t583, .int .i64 t584, .int .i64 t585, .int .i64 t586, .int .i64 t587, .int .i64 t588, .int .u32 0, .int .i64 0]) ?_ 9 _ rfl; (with_reducible repeat (first | refine q1 ?_ _ | refine q2 ?_ | refine q3 ?_ _)); refine blk_put (cs := #[.int .i64 t580, .int .i64 t581, .int .i64 t582, .bool t583, .int .i64 t584, .int .i64 t585, .int .i64 t586, .int .i64 t587, .int .i64 0, .int .u32 0, .int .i64 0]) ?_ 8 _ rfl; (with_reducible repeat (first | refine q1 ?_ _ | refine q2 ?_ | refine q3 ?_ _)); refine blk_put (cs := #[.int .i64 t580, .int .i64 t581, .int .i64 t582, .bool t583, .int .i64 t584, .int .i64 t585, .int .i64 t586, .int .i64 0, .int .i64 0, .int .u32 0, .int .i64 0]) ?_ 7 _ rfl; (with_reducible repeat (first | refine q1 ?_ _ | refine q2 ?_ | refine q3 ?_ _)); refine blk_put (cs := #[.int .i64 t580, .int .i64 t581, .int .i64 t582, .bool t583, .int .i64 t584, .int .i64 t585, .int .i64 0, .int .i64 0, .int .i64 0, .int .u32 0, .int .i64 0]) ?_ 6 _ rfl; (with_reducible repeat (first | refine q1 ?_ _ | refine q2 ?_ | refine q3 ?_ _)); refine blk_put (cs := #[.int .i64 t580, .int .i64 t581, .int .i64 t582, .bool t583, .int .i64 t584, .int .i64 0, .int .i64 0, .int .i64 0, .int .i64 0, .int .u32 0, .int .i64 0]) ?_ 5 _ rfl; (with_reducible repeat (first | refine q1 ?_ _ | refine q2 ?_ | refine q3 ?_ _)); refine blk_put (cs := #[.int .i64 t580, .int .i64 t581, .int .i64 t582, .bool t583, .int .i64 0, .int .i64 0, .int .i64 0, .int .i64 0, .int .i64 0, .int .u32 0, .int .i64 0]) ?_ 4 _ rfl; (with_reducible repeat (first | refine q1 ?_ _ | refine q2 ?_ | refine q3 ?_ _)); refine blk_put (cs := #[.int .i64 t580, .int .i64 t581, .int .i64 t582, .bool false, .int .i64 0, .int .i64 0, .int .i64 0, .int .i64 0, .int .i64 0, .int .u32 0, .int .i64 0]) ?_ 3 _ rfl; (with_reducible repeat (first | refine q1 ?_ _ | refine q2 ?_ | refine q3 ?_ _)); refine blk_put (cs := #[.int .i64 t580, .int .i64 t581, .int .i64 0, .bool false, .int .i64 0, .int .i64 0, .int .i64 0, .int .i64 0, .int .i64 0, .int .u32 0, .int .i64 0]) ?_ 2 _ rfl; (with_reducible repeat (first | refine q1 ?_ _ | refine q2 ?_ | refine q3 ?_ _)); refine blk_put (cs := #[.int .i64 t580, .int .i64 0, .int .i64 0, .bool false, .int .i64 0, .int .i64 0, .int .i64 0, .int .i64 0, .int .i64 0, .int .u32 0, .int .i64 0]) ?_ 1 _ rfl; (with_reducible repeat (first | refine q1 ?_ _ | refine q2 ?_ | refine q3 ?_ _)); refine blk_put (cs := #[.int .i64 0, .int .i64 0, .int .i64 0, .bool false, .int .i64 0, .int .i64 0, .int .i64 0, .int .i64 0, .int .i64 0, .int .u32 0, .int .i64 0]) ?_ 0 _ rfl; (with_reducible repeat (first | refine q1 ?_ _ | refine q2 ?_ | refine q3 ?_ _)); exact BK592.out) hb); have n5_ := A0 (below_step (by repeat (first | (with_reducible first | exact HB.out | apply b1 | apply b2 | apply b3 | refine below_set ?_ GE540.out | refine below_set ?_ GE553.out | refine below_set ?_ GE566.out | refine below_set ?_ GE579.out | refine below_set ?_ GE592.out) | exact HB.out)) hb); clear BK540; clear BK553; clear BK566; clear BK579; clear BK592; clear HB; have BK540 := n0_; have BK553 := n1_; have BK566 := n2_; have BK579 := n3_; have BK592 := n4_; have HB := n5_; clear n0_ n1_ n2_ n3_ n4_ n5_; (try clear hb); (try clear hb2); (try clear hk); (try clear hi)) | ((with_reducible refine gate_dst (N := 14) rfl ?_); refine box_event ?hg (N := 14) ?hd (cs := #[.int .i64 0, .int .i64 0, .int .i64 0, .bool false, .int .i64 0, .int .i64 0, .int .i64 0, .int .i64 0, .int .i64 0, .int .u32 0, .int .i64 0]) (t := 29) ?hr ?_; (case hd => rfl); (case hg => rfl); (case hr => first | (go_simp; done) | (go_simp; rfl)); intro gb605 hg w47 hbox hb; have n0_ := A0 (blk_below (by (with_reducible repeat (first | refine q1 ?_ _ | refine q2 ?_ | refine q3 ?_ _)); exact BK540.out) hb); have n1_ := A0 (blk_below (by (with_reducible repeat (first | refine q1 ?_ _ | refine q2 ?_ | refine q3 ?_ _)); exact BK553.out) hb); have n2_ := A0 (blk_below (by (with_reducible repeat (first | refine q1 ?_ _ | refine q2 ?_ | refine q3 ?_ _)); exact BK566.out) hb); have n3_ := A0 (blk_below (by (with_reducible repeat (first | refine q1 ?_ _ | refine q2 ?_ | refine q3 ?_ _)); exact BK579.out) hb); have n4_ := A0 (blk_below (by (with_reducible repeat (first | refine q1 ?_ _ | refine q2 ?_ | refine q3 ?_ _)); exact BK592.out) hb); have n5_ := A0 (below_step (by repeat (first | (with_reducible first | exact HB.out | apply b1 | apply b2 | apply b3 | refine below_set ?_ GE540.out | refine below_set ?_ GE553.out | refine below_set ?_ GE566.out | refine below_set ?_ GE579.out | refine below_set ?_ GE592.out) | exact HB.out)) hb); have n6_ := A0 (hbox); have n7_ := A0 ((by rw [hg]; exact (below_size (by repeat (first | (with_reducible first | exact HB.out | apply b1 | apply b2 | apply b3 | refine below_set ?_ GE540.out | refine below_set ?_ GE553.out | refine below_set ?_ GE566.out | refine below_set ?_ GE579.out | refine below_set ?_ GE592.out) | exact HB.out))) : w.heap.size ≤ gb605)); have n8_ := n7_; have n9_ := A0 ((by rw [hg]; exact Nat.ne_of_lt (blk_lt (g := gb540) (o := .cells #[.int .i64 a0_0, .int .i64 a0_1, .int .i64 a0_2, .bool a0_3, .int .i64 a0_4, .int .i64 a0_5, .int .i64 a0_6, .int .i64 a0_7, .int .i64 a0_8, .int .u32 a0_9, .int .i64 a0_10] 29 (0, 0)) (by (with_reducible repeat (first | refine q1 ?_ _ | refine q2 ?_ | refine q3 ?_ _)); exact BK540.out)) : gb540 ≠ gb605)); have n10_ := A0 ((by rw [hg]; exact Nat.ne_of_gt (blk_lt (g := gb540) (o := .cells #[.int .i64 a0_0, .int .i64 a0_1, .int .i64 a0_2, .bool a0_3, .int .i64 a0_4, .int .i64 a0_5, .int .i64 a0_6, .int .i64 a0_7, .int .i64 a0_8, .int .u32 a0_9, .int .i64 a0_10] 29 (0, 0)) (by (with_reducible repeat (first | refine q1 ?_ _ | refine q2 ?_ | refine q3 ?_ _)); exact BK540.out)) : gb605 ≠ gb540)); have n11_ := A0 ((by rw [hg]; exact Nat.ne_of_lt (blk_lt (g := gb553) (o := .cells #[.int .i64 t542, .int .i64 t543, .int .i64 t544, .bool t545, .int .i64 t546, .int .i64 t547, .int .i64 t548, .int .i64 t549, .int .i64 t550, .int .u32 t551, .int .i64 t552] 34 (0, 0)) (by (with_reducible repeat (first | refine q1 ?_ _ | refine q2 ?_ | refine q3 ?_ _)); exact BK553.out)) : gb553 ≠ gb605)); have n12_ := A0 ((by rw [hg]; exact Nat.ne_of_gt (blk_lt (g := gb553) (o := .cells #[.int .i64 t542, .int .i64 t543, .int .i64 t544, .bool t545, .int .i64 t546, .int .i64 t547, .int .i64 t548, .int .i64 t549, .int .i64 t550, .int .u32 t551, .int .i64 t552] 34 (0, 0)) (by (with_reducible repeat (first | refine q1 ?_ _ | refine q2 ?_ | refine q3 ?_ _)); exact BK553.out)) : gb605 ≠ gb553)); have n13_ := A0 ((by rw [hg]; exact Nat.ne_of_lt (blk_lt (g := gb566) (o := .cells #[.int .i64 t554, .int .i64 t555, .int .i64 t556, .bool t557, .int .i64 t558, .int .i64 t559, .int .i64 t560, .int .i64 t561, .int .i64 t562, .int .u32 t563, .int .i64 t564] 34 (0, 0)) (by (with_reducible repeat (first | refine q1 ?_ _ | refine q2 ?_ | refine q3 ?_ _)); exact BK566.out)) : gb566 ≠ gb605)); have n14_ := A0 ((by rw [hg]; exact Nat.ne_of_gt (blk_lt (g := gb566) (o := .cells #[.int .i64 t554, .int .i64 t555, .int .i64 t556, .bool t557, .int .i64 t558, .int .i64 t559, .int .i64 t560, .int .i64 t561, .int .i64 t562, .int .u32 t563, .int .i64 t564] 34 (0, 0)) (by (with_reducible repeat (first | refine q1 ?_ _ | refine q2 ?_ | refine q3 ?_ _)); exact BK566.out)) : gb605 ≠ gb566)); have n15_ := A0 ((by rw [hg]; exact Nat.ne_of_lt (blk_lt (g := gb579) (o := .cells #[.int .i64 t567, .int .i64 t568, .int .i64 t569, .bool t570, .int .i64 t571, .int .i64 t572, .int .i64 t573, .int .i64 t574, .int .i64 t575, .int .u32 t576, .int .i64 t577] 34 (0, 0)) (by (with_reducible repeat (first | refine q1 ?_ _ | refine q2 ?_ | refine q3 ?_ _)); exact BK579.out)) : gb579 ≠ gb605)); have n16_ := A0 ((by rw [hg]; exact Nat.ne_of_gt (blk_lt (g := gb579) (o := .cells #[.int .i64 t567, .int .i64 t568, .int .i64 t569, .bool t570, .int .i64 t571, .int .i64 t572, .int .i64 t573, .int .i64 t574, .int .i64 t575, .int .u32 t576, .int .i64 t577] 34 (0, 0)) (by (with_reducible repeat (first | refine q1 ?_ _ | refine q2 ?_ | refine q3 ?_ _)); exact BK579.out)) : gb605 ≠ gb579)); have n17_ := A0 ((by rw [hg]; exact Nat.ne_of_lt (blk_lt (g := gb592) (o := .cells #[.int .i64 t580, .int .i64 t581, .int .i64 t582, .bool t583, .int .i64 t584, .int .i64 t585, .int .i64 t586, .int .i64 t587, .int .i64 t588, .int .u32 t589, .int .i64 t590] 29 (0, 0)) (by (with_reducible repeat (first | refine q1 ?_ _ | refine q2 ?_ | refine q3 ?_ _)); exact BK592.out)) : gb592 ≠ gb605)); have n18_ := A0 ((by rw [hg]; exact Nat.ne_of_gt (blk_lt (g := gb592) (o := .cells #[.int .i64 t580, .int .i64 t581, .int .i64 t582, .bool t583, .int .i64 t584, .int .i64 t585, .int .i64 t586, .int .i64 t587, .int .i64 t588, .int .u32 t589, .int .i64 t590] 29 (0, 0)) (by (with_reducible repeat (first | refine q1 ?_ _ | refine q2 ?_ | refine q3 ?_ _)); exact BK592.out)) : gb605 ≠ gb592)); clear BK540; clear BK553; clear BK566; clear BK579; clear BK592; clear HB; have BK540 := n0_; have BK553 := n1_; have BK566 := n2_; have BK579 := n3_; have BK592 := n4_; have HB := n5_; have BK605 := n6_; have GW605 := n7_; have GE605 := n8_; have NB540_605 := n9_; have NB605_540 := n10_; have NB553_605 := n11_; have NB605_553 := n12_; have NB566_605 := n13_; have NB605_566 := n14_; have NB579_605 := n15_; have NB605_579 := n16_; have NB592_605 := n17_; have NB605_592 := n18_; clear n0_ n1_ n2_ n3_ n4_ n5_ n6_ n7_ n8_ n9_ n10_ n11_ n12_ n13_ n14_ n15_ n16_ n17_ n18_; clear hb hbox hg; have hnb48 := NB605_540.out; have hnc48 := NB540_605.out; have hnb49 := NB605_553.out; have hnc49 := NB553_605.out; have hnb50 := NB605_566.out; have hnc50 := NB566_605.out; have hnb51 := NB605_579.out; have hnc51 := NB579_605.out; have hnb52 := NB605_592.out; have hnc52 := NB592_605.out; have hcz53 := cc11 BK605.out))
          have n0_ : Aside0 ((((((((((((w47.setCell ⟨gb605, 0, none⟩ (.int .i64 t593)).setCell ⟨gb605, 1, none⟩ (.int .i64 t594)).setCell ⟨gb605, 2, none⟩ (.int .i64 t595)).setCell ⟨gb605, 3, none⟩ (.bool t596)).setCell ⟨gb605, 4, none⟩ (.int .i64 t597)).setCell ⟨gb605, 5, none⟩ (.int .i64 t598)).setCell ⟨gb605, 6, none⟩ (.int .i64 t599)).setCell ⟨gb605, 7, none⟩ (.int .i64 t600)).setCell ⟨gb605, 8, none⟩ (.int .i64 t601)).setCell ⟨gb605, 9, none⟩ (.int .u32 t602)).setCell ⟨gb605, 10, none⟩ (.int .i64 t603)).heap[gb540]? = some (.cells #[.int .i64 a0_0, .int .i64 a0_1, .int .i64 a0_2, .bool a0_3, .int .i64 a0_4, .int .i64 a0_5, .int .i64 a0_6, .int .i64 a0_7, .int .i64 a0_8, .int .u32 a0_9, .int .i64 a0_10] 29 (0, 0))) := ⟨by (with_reducible repeat (first | refine q1 ?_ _ | refine q2 ?_ | refine q3 ?_ _)); refine blk_far ?_ NB540_605.out _; (with_reducible repeat (first | refine q1 ?_ _ | refine q2 ?_ | refine q3 ?_ _)); refine blk_far ?_ NB540_605.out _; (with_reducible repeat (first | refine q1 ?_ _ | refine q2 ?_ | refine q3 ?_ _)); refine blk_far ?_ NB540_605.out _; (with_reducible repeat (first | refine q1 ?_ _ | refine q2 ?_ | refine q3 ?_ _)); refine blk_far ?_ NB540_605.out _; (with_reducible repeat (first | refine q1 ?_ _ | refine q2 ?_ | refine q3 ?_ _)); refine blk_far ?_ NB540_605.out _; (with_reducible repeat (first | refine q1 ?_ _ | refine q2 ?_ | refine q3 ?_ _)); refine blk_far ?_ NB540_605.out _; (with_reducible repeat (first | refine q1 ?_ _ | refine q2 ?_ | refine q3 ?_ _)); refine blk_far ?_ NB540_605.out _; (with_reducible repeat (first | refine q1 ?_ _ | refine q2 ?_ | refine q3 ?_ _)); refine blk_far ?_ NB540_605.out _; (with_reducible repeat (first | refine q1 ?_ _ | refine q2 ?_ | refine q3 ?_ _)); refine blk_far ?_ NB540_605.out _; (with_reducible repeat (first | refine q1 ?_ _ | refine q2 ?_ | refine q3 ?_ _)); refine blk_far ?_ NB540_605.out _; (with_reducible repeat (first | refine q1 ?_ _ | refine q2 ?_ | refine q3 ?_ _)); refine blk_far ?_ NB540_605.out _; (with_reducible repeat (first | refine q1 ?_ _ | refine q2 ?_ | refine q3 ?_ _)); exact BK540.out⟩
          have n1_ : Aside0 ((((((((((((w47.setCell ⟨gb605, 0, none⟩ (.int .i64 t593)).setCell ⟨gb605, 1, none⟩ (.int .i64 t594)).setCell ⟨gb605, 2, none⟩ (.int .i64 t595)).setCell ⟨gb605, 3, none⟩ (.bool t596)).setCell ⟨gb605, 4, none⟩ (.int .i64 t597)).setCell ⟨gb605, 5, none⟩ (.int .i64 t598)).setCell ⟨gb605, 6, none⟩ (.int .i64 t599)).setCell ⟨gb605, 7, none⟩ (.int .i64 t600)).setCell ⟨gb605, 8, none⟩ (.int .i64 t601)).setCell ⟨gb605, 9, none⟩ (.int .u32 t602)).setCell ⟨gb605, 10, none⟩ (.int .i64 t603)).heap[gb553]? = some (.cells #[.int .i64 t542, .int .i64 t543, .int .i64 t544, .bool t545, .int .i64 t546, .int .i64 t547, .int .i64 t548, .int .i64 t549, .int .i64 t550, .int .u32 t551, .int .i64 t552] 34 (0, 0))) := ⟨by (with_reducible repeat (first | refine q1 ?_ _ | refine q2 ?_ | refine q3 ?_ _)); refine blk_far ?_ NB553_605.out _; (with_reducible repeat (first | refine q1 ?_ _ | refine q2 ?_ | refine q3 ?_ _)); refine blk_far ?_ NB553_605.out _; (with_reducible repeat (first | refine q1 ?_ _ | refine q2 ?_ | refine q3 ?_ _)); refine blk_far ?_ NB553_605.out _; (with_reducible repeat (first | refine q1 ?_ _ | refine q2 ?_ | refine q3 ?_ _)); refine blk_far ?_ NB553_605.out _; (with_reducible repeat (first | refine q1 ?_ _ | refine q2 ?_ | refine q3 ?_ _)); refine blk_far ?_ NB553_605.out _; (with_reducible repeat (first | refine q1 ?_ _ | refine q2 ?_ | refine q3 ?_ _)); refine blk_far ?_ NB553_605.out _; (with_reducible repeat (first | refine q1 ?_ _ | refine q2 ?_ | refine q3 ?_ _)); refine blk_far ?_ NB553_605.out _; (with_reducible repeat (first | refine q1 ?_ _ | refine q2 ?_ | refine q3 ?_ _)); refine blk_far ?_ NB553_605.out _; (with_reducible repeat (first | refine q1 ?_ _ | refine q2 ?_ | refine q3 ?_ _)); refine blk_far ?_ NB553_605.out _; (with_reducible repeat (first | refine q1 ?_ _ | refine q2 ?_ | refine q3 ?_ _)); refine blk_far ?_ NB553_605.out _; (with_reducible repeat (first | refine q1 ?_ _ | refine q2 ?_ | refine q3 ?_ _)); refine blk_far ?_ NB553_605.out _; (with_reducible repeat (first | refine q1 ?_ _ | refine q2 ?_ | refine q3 ?_ _)); exact BK553.out⟩
          have n2_ : Aside0 ((((((((((((w47.setCell ⟨gb605, 0, none⟩ (.int .i64 t593)).setCell ⟨gb605, 1, none⟩ (.int .i64 t594)).setCell ⟨gb605, 2, none⟩ (.int .i64 t595)).setCell ⟨gb605, 3, none⟩ (.bool t596)).setCell ⟨gb605, 4, none⟩ (.int .i64 t597)).setCell ⟨gb605, 5, none⟩ (.int .i64 t598)).setCell ⟨gb605, 6, none⟩ (.int .i64 t599)).setCell ⟨gb605, 7, none⟩ (.int .i64 t600)).setCell ⟨gb605, 8, none⟩ (.int .i64 t601)).setCell ⟨gb605, 9, none⟩ (.int .u32 t602)).setCell ⟨gb605, 10, none⟩ (.int .i64 t603)).heap[gb566]? = some (.cells #[.int .i64 t554, .int .i64 t555, .int .i64 t556, .bool t557, .int .i64 t558, .int .i64 t559, .int .i64 t560, .int .i64 t561, .int .i64 t562, .int .u32 t563, .int .i64 t564] 34 (0, 0))) := ⟨by (with_reducible repeat (first | refine q1 ?_ _ | refine q2 ?_ | refine q3 ?_ _)); refine blk_far ?_ NB566_605.out _; (with_reducible repeat (first | refine q1 ?_ _ | refine q2 ?_ | refine q3 ?_ _)); refine blk_far ?_ NB566_605.out _; (with_reducible repeat (first | refine q1 ?_ _ | refine q2 ?_ | refine q3 ?_ _)); refine blk_far ?_ NB566_605.out _; (with_reducible repeat (first | refine q1 ?_ _ | refine q2 ?_ | refine q3 ?_ _)); refine blk_far ?_ NB566_605.out _; (with_reducible repeat (first | refine q1 ?_ _ | refine q2 ?_ | refine q3 ?_ _)); refine blk_far ?_ NB566_605.out _; (with_reducible repeat (first | refine q1 ?_ _ | refine q2 ?_ | refine q3 ?_ _)); refine blk_far ?_ NB566_605.out _; (with_reducible repeat (first | refine q1 ?_ _ | refine q2 ?_ | refine q3 ?_ _)); refine blk_far ?_ NB566_605.out _; (with_reducible repeat (first | refine q1 ?_ _ | refine q2 ?_ | refine q3 ?_ _)); refine blk_far ?_ NB566_605.out _; (with_reducible repeat (first | refine q1 ?_ _ | refine q2 ?_ | refine q3 ?_ _)); refine blk_far ?_ NB566_605.out _; (with_reducible repeat (first | refine q1 ?_ _ | refine q2 ?_ | refine q3 ?_ _)); refine blk_far ?_ NB566_605.out _; (with_reducible repeat (first | refine q1 ?_ _ | refine q2 ?_ | refine q3 ?_ _)); refine blk_far ?_ NB566_605.out _; (with_reducible repeat (first | refine q1 ?_ _ | refine q2 ?_ | refine q3 ?_ _)); exact BK566.out⟩
          have n3_ : Aside0 ((((((((((((w47.setCell ⟨gb605, 0, none⟩ (.int .i64 t593)).setCell ⟨gb605, 1, none⟩ (.int .i64 t594)).setCell ⟨gb605, 2, none⟩ (.int .i64 t595)).setCell ⟨gb605, 3, none⟩ (.bool t596)).setCell ⟨gb605, 4, none⟩ (.int .i64 t597)).setCell ⟨gb605, 5, none⟩ (.int .i64 t598)).setCell ⟨gb605, 6, none⟩ (.int .i64 t599)).setCell ⟨gb605, 7, none⟩ (.int .i64 t600)).setCell ⟨gb605, 8, none⟩ (.int .i64 t601)).setCell ⟨gb605, 9, none⟩ (.int .u32 t602)).setCell ⟨gb605, 10, none⟩ (.int .i64 t603)).heap[gb579]? = some (.cells #[.int .i64 t567, .int .i64 t568, .int .i64 t569, .bool t570, .int .i64 t571, .int .i64 t572, .int .i64 t573, .int .i64 t574, .int .i64 t575, .int .u32 t576, .int .i64 t577] 34 (0, 0))) := ⟨by (with_reducible repeat (first | refine q1 ?_ _ | refine q2 ?_ | refine q3 ?_ _)); refine blk_far ?_ NB579_605.out _; (with_reducible repeat (first | refine q1 ?_ _ | refine q2 ?_ | refine q3 ?_ _)); refine blk_far ?_ NB579_605.out _; (with_reducible repeat (first | refine q1 ?_ _ | refine q2 ?_ | refine q3 ?_ _)); refine blk_far ?_ NB579_605.out _; (with_reducible repeat (first | refine q1 ?_ _ | refine q2 ?_ | refine q3 ?_ _)); refine blk_far ?_ NB579_605.out _; (with_reducible repeat (first | refine q1 ?_ _ | refine q2 ?_ | refine q3 ?_ _)); refine blk_far ?_ NB579_605.out _; (with_reducible repeat (first | refine q1 ?_ _ | refine q2 ?_ | refine q3 ?_ _)); refine blk_far ?_ NB579_605.out _; (with_reducible repeat (first | refine q1 ?_ _ | refine q2 ?_ | refine q3 ?_ _)); refine blk_far ?_ NB579_605.out _; (with_reducible repeat (first | refine q1 ?_ _ | refine q2 ?_ | refine q3 ?_ _)); refine blk_far ?_ NB579_605.out _; (with_reducible repeat (first | refine q1 ?_ _ | refine q2 ?_ | refine q3 ?_ _)); refine blk_far ?_ NB579_605.out _; (with_reducible repeat (first | refine q1 ?_ _ | refine q2 ?_ | refine q3 ?_ _)); refine blk_far ?_ NB579_605.out _; (with_reducible repeat (first | refine q1 ?_ _ | refine q2 ?_ | refine q3 ?_ _)); refine blk_far ?_ NB579_605.out _; (with_reducible repeat (first | refine q1 ?_ _ | refine q2 ?_ | refine q3 ?_ _)); exact BK579.out⟩
          have n4_ : Aside0 ((((((((((((w47.setCell ⟨gb605, 0, none⟩ (.int .i64 t593)).setCell ⟨gb605, 1, none⟩ (.int .i64 t594)).setCell ⟨gb605, 2, none⟩ (.int .i64 t595)).setCell ⟨gb605, 3, none⟩ (.bool t596)).setCell ⟨gb605, 4, none⟩ (.int .i64 t597)).setCell ⟨gb605, 5, none⟩ (.int .i64 t598)).setCell ⟨gb605, 6, none⟩ (.int .i64 t599)).setCell ⟨gb605, 7, none⟩ (.int .i64 t600)).setCell ⟨gb605, 8, none⟩ (.int .i64 t601)).setCell ⟨gb605, 9, none⟩ (.int .u32 t602)).setCell ⟨gb605, 10, none⟩ (.int .i64 t603)).heap[gb592]? = some (.cells #[.int .i64 t580, .int .i64 t581, .int .i64 t582, .bool t583, .int .i64 t584, .int .i64 t585, .int .i64 t586, .int .i64 t587, .int .i64 t588, .int .u32 t589, .int .i64 t590] 29 (0, 0))) := ⟨by (with_reducible repeat (first | refine q1 ?_ _ | refine q2 ?_ | refine q3 ?_ _)); refine blk_far ?_ NB592_605.out _; (with_reducible repeat (first | refine q1 ?_ _ | refine q2 ?_ | refine q3 ?_ _)); refine blk_far ?_ NB592_605.out _; (with_reducible repeat (first | refine q1 ?_ _ | refine q2 ?_ | refine q3 ?_ _)); refine blk_far ?_ NB592_605.out _; (with_reducible repeat (first | refine q1 ?_ _ | refine q2 ?_ | refine q3 ?_ _)); refine blk_far ?_ NB592_605.out _; (with_reducible repeat (first | refine q1 ?_ _ | refine q2 ?_ | refine q3 ?_ _)); refine blk_far ?_ NB592_605.out _; (with_reducible repeat (first | refine q1 ?_ _ | refine q2 ?_ | refine q3 ?_ _)); refine blk_far ?_ NB592_605.out _; (with_reducible repeat (first | refine q1 ?_ _ | refine q2 ?_ | refine q3 ?_ _)); refine blk_far ?_ NB592_605.out _; (with_reducible repeat (first | refine q1 ?_ _ | refine q2 ?_ | refine q3 ?_ _)); refine blk_far ?_ NB592_605.out _; (with_reducible repeat (first | refine q1 ?_ _ | refine q2 ?_ | refine q3 ?_ _)); refine blk_far ?_ NB592_605.out _; (with_reducible repeat (first | refine q1 ?_ _ | refine q2 ?_ | refine q3 ?_ _)); refine blk_far ?_ NB592_605.out _; (with_reducible repeat (first | refine q1 ?_ _ | refine q2 ?_ | refine q3 ?_ _)); refine blk_far ?_ NB592_605.out _; (with_reducible repeat (first | refine q1 ?_ _ | refine q2 ?_ | refine q3 ?_ _)); exact BK592.out⟩
          have n5_ : Aside0 ((((((((((((w47.setCell ⟨gb605, 0, none⟩ (.int .i64 t593)).setCell ⟨gb605, 1, none⟩ (.int .i64 t594)).setCell ⟨gb605, 2, none⟩ (.int .i64 t595)).setCell ⟨gb605, 3, none⟩ (.bool t596)).setCell ⟨gb605, 4, none⟩ (.int .i64 t597)).setCell ⟨gb605, 5, none⟩ (.int .i64 t598)).setCell ⟨gb605, 6, none⟩ (.int .i64 t599)).setCell ⟨gb605, 7, none⟩ (.int .i64 t600)).setCell ⟨gb605, 8, none⟩ (.int .i64 t601)).setCell ⟨gb605, 9, none⟩ (.int .u32 t602)).setCell ⟨gb605, 10, none⟩ (.int .i64 t603)).heap[gb605]? = some (.cells #[.int .i64 t593, .int .i64 t594, .int .i64 t595, .bool t596, .int .i64 t597, .int .i64 t598, .int .i64 t599, .int .i64 t600, .int .i64 t601, .int .u32 t602, .int .i64 t603] 29 (0, 0))) := ⟨by (with_reducible repeat (first | refine q1 ?_ _ | refine q2 ?_ | refine q3 ?_ _)); refine blk_put (cs := #[.int .i64 t593, .int .i64 t594, .int .i64 t595, .bool t596, .int .i64 t597, .int .i64 t598, .int .i64 t599, .int .i64 t600, .int .i64 t601, .int .u32 t602, .int .i64 0]) ?_ 10 _ rfl; (with_reducible repeat (first | refine q1 ?_ _ | refine q2 ?_ | refine q3 ?_ _)); refine blk_put (cs := #[.int .i64 t593, .int .i64 t594, .int .i64 t595, .bool t596, .int .i64 t597, .int .i64 t598, .int .i64 t599, .int .i64 t600, .int .i64 t601, .int .u32 0, .int .i64 0]) ?_ 9 _ rfl; (with_reducible repeat (first | refine q1 ?_ _ | refine q2 ?_ | refine q3 ?_ _)); refine blk_put (cs := #[.int .i64 t593, .int .i64 t594, .int .i64 t595, .bool t596, .int .i64 t597, .int .i64 t598, .int .i64 t599, .int .i64 t600, .int .i64 0, .int .u32 0, .int .i64 0]) ?_ 8 _ rfl; (with_reducible repeat (first | refine q1 ?_ _ | refine q2 ?_ | refine q3 ?_ _)); refine blk_put (cs := #[.int .i64 t593, .int .i64 t594, .int .i64 t595, .bool t596, .int .i64 t597, .int .i64 t598, .int .i64 t599, .int .i64 0, .int .i64 0, .int .u32 0, .int .i64 0]) ?_ 7 _ rfl; (with_reducible repeat (first | refine q1 ?_ _ | refine q2 ?_ | refine q3 ?_ _)); refine blk_put (cs := #[.int .i64 t593, .int .i64 t594, .int .i64 t595, .bool t596, .int .i64 t597, .int .i64 t598, .int .i64 0, .int .i64 0, .int .i64 0, .int .u32 0, .int .i64 0]) ?_ 6 _ rfl; (with_reducible repeat (first | refine q1 ?_ _ | refine q2 ?_ | refine q3 ?_ _)); refine blk_put (cs := #[.int .i64 t593, .int .i64 t594, .int .i64 t595, .bool t596, .int .i64 t597, .int .i64 0, .int .i64 0, .int .i64 0, .int .i64 0, .int .u32 0, .int .i64 0]) ?_ 5 _ rfl; (with_reducible repeat (first | refine q1 ?_ _ | refine q2 ?_ | refine q3 ?_ _)); refine blk_put (cs := #[.int .i64 t593, .int .i64 t594, .int .i64 t595, .bool t596, .int .i64 0, .int .i64 0, .int .i64 0, .int .i64 0, .int .i64 0, .int .u32 0, .int .i64 0]) ?_ 4 _ rfl; (with_reducible repeat (first | refine q1 ?_ _ | refine q2 ?_ | refine q3 ?_ _)); refine blk_put (cs := #[.int .i64 t593, .int .i64 t594, .int .i64 t595, .bool false, .int .i64 0, .int .i64 0, .int .i64 0, .int .i64 0, .int .i64 0, .int .u32 0, .int .i64 0]) ?_ 3 _ rfl; (with_reducible repeat (first | refine q1 ?_ _ | refine q2 ?_ | refine q3 ?_ _)); refine blk_put (cs := #[.int .i64 t593, .int .i64 t594, .int .i64 0, .bool false, .int .i64 0, .int .i64 0, .int .i64 0, .int .i64 0, .int .i64 0, .int .u32 0, .int .i64 0]) ?_ 2 _ rfl; (with_reducible repeat (first | refine q1 ?_ _ | refine q2 ?_ | refine q3 ?_ _)); refine blk_put (cs := #[.int .i64 t593, .int .i64 0, .int .i64 0, .bool false, .int .i64 0, .int .i64 0, .int .i64 0, .int .i64 0, .int .i64 0, .int .u32 0, .int .i64 0]) ?_ 1 _ rfl; (with_reducible repeat (first | refine q1 ?_ _ | refine q2 ?_ | refine q3 ?_ _)); refine blk_put (cs := #[.int .i64 0, .int .i64 0, .int .i64 0, .bool false, .int .i64 0, .int .i64 0, .int .i64 0, .int .i64 0, .int .i64 0, .int .u32 0, .int .i64 0]) ?_ 0 _ rfl; (with_reducible repeat (first | refine q1 ?_ _ | refine q2 ?_ | refine q3 ?_ _)); exact BK605.out⟩
          have n6_ : Aside0 (Below w.heap.size w (((((((((((w47.setCell ⟨gb605, 0, none⟩ (.int .i64 t593)).setCell ⟨gb605, 1, none⟩ (.int .i64 t594)).setCell ⟨gb605, 2, none⟩ (.int .i64 t595)).setCell ⟨gb605, 3, none⟩ (.bool t596)).setCell ⟨gb605, 4, none⟩ (.int .i64 t597)).setCell ⟨gb605, 5, none⟩ (.int .i64 t598)).setCell ⟨gb605, 6, none⟩ (.int .i64 t599)).setCell ⟨gb605, 7, none⟩ (.int .i64 t600)).setCell ⟨gb605, 8, none⟩ (.int .i64 t601)).setCell ⟨gb605, 9, none⟩ (.int .u32 t602)).setCell ⟨gb605, 10, none⟩ (.int .i64 t603))) := ⟨by repeat (first | (with_reducible first | exact HB.out | apply b1 | apply b2 | apply b3 | refine below_set ?_ GE540.out | refine below_set ?_ GE553.out | refine below_set ?_ GE566.out | refine below_set ?_ GE579.out | refine below_set ?_ GE592.out | refine below_set ?_ GE605.out) | exact HB.out)⟩
          (try clear BK540); (try clear BK553); (try clear BK566); (try clear BK579); (try clear BK592); (try clear BK605); (try clear HB)
          generalize (((((((((((w47.setCell ⟨gb605, 0, none⟩ (.int .i64 t593)).setCell ⟨gb605, 1, none⟩ (.int .i64 t594)).setCell ⟨gb605, 2, none⟩ (.int .i64 t595)).setCell ⟨gb605, 3, none⟩ (.bool t596)).setCell ⟨gb605, 4, none⟩ (.int .i64 t597)).setCell ⟨gb605, 5, none⟩ (.int .i64 t598)).setCell ⟨gb605, 6, none⟩ (.int .i64 t599)).setCell ⟨gb605, 7, none⟩ (.int .i64 t600)).setCell ⟨gb605, 8, none⟩ (.int .i64 t601)).setCell ⟨gb605, 9, none⟩ (.int .u32 t602)).setCell ⟨gb605, 10, none⟩ (.int .i64 t603)) = w54 at n0_ n1_ n2_ n3_ n4_ n5_ n6_ ⊢
          have BK540 := n0_
          have BK553 := n1_
          have BK566 := n2_
          have BK579 := n3_
          have BK592 := n4_
          have BK605 := n5_
          have HB := n6_
          clear n0_ n1_ n2_ n3_ n4_ n5_ n6_
          have n0_ := A0 (blk_drew BK540.out)
          have n1_ := A0 (blk_drew BK553.out)
          have n2_ := A0 (blk_drew BK566.out)
          have n3_ := A0 (blk_drew BK579.out)
          have n4_ := A0 (blk_drew BK592.out)
          have n5_ := A0 (blk_drew BK605.out)
          have n6_ := A0 (below_drew1 HB.out)
          clear BK540 BK553 BK566 BK579 BK592 BK605 HB
          have BK540 := n0_
          have BK553 := n1_
          have BK566 := n2_
          have BK579 := n3_
          have BK592 := n4_
          have BK605 := n5_
          have HB := n6_
          clear n0_ n1_ n2_ n3_ n4_ n5_ n6_
          refine start_ (n := 23) (S := fun w' => w'.cell? ⟨gb566, 0, none⟩ = some (.int .i64 t554) ∧ w'.cell? ⟨gb566, 1, none⟩ = some (.int .i64 t555) ∧ w'.cell? ⟨gb566, 2, none⟩ = some (.int .i64 t556) ∧ w'.cell? ⟨gb566, 3, none⟩ = some (.bool t557) ∧ w'.cell? ⟨gb566, 4, none⟩ = some (.int .i64 t558) ∧ w'.cell? ⟨gb566, 5, none⟩ = some (.int .i64 t559) ∧ w'.cell? ⟨gb566, 6, none⟩ = some (.int .i64 t560) ∧ w'.cell? ⟨gb566, 7, none⟩ = some (.int .i64 t561) ∧ w'.cell? ⟨gb566, 8, none⟩ = some (.int .i64 t562) ∧ w'.cell? ⟨gb566, 9, none⟩ = some (.int .u32 t563) ∧ w'.cell? ⟨gb566, 10, none⟩ = some (.int .i64 t564) ∧ w'.cell? ⟨gb592, 0, none⟩ = some (.int .i64 t580) ∧ w'.cell? ⟨gb592, 1, none⟩ = some (.int .i64 t581) ∧ w'.cell? ⟨gb592, 2, none⟩ = some (.int .i64 t582) ∧ w'.cell? ⟨gb592, 3, none⟩ = some (.bool t583) ∧ w'.cell? ⟨gb592, 4, none⟩ = some (.int .i64 t584) ∧ w'.cell? ⟨gb592, 5, none⟩ = some (.int .i64 t585) ∧ w'.cell? ⟨gb592, 6, none⟩ = some (.int .i64 t586) ∧ w'.cell? ⟨gb592, 7, none⟩ = some (.int .i64 t587) ∧ w'.cell? ⟨gb592, 8, none⟩ = some (.int .i64 t588) ∧ w'.cell? ⟨gb592, 9, none⟩ = some (.int .u32 t589) ∧ w'.cell? ⟨gb592, 10, none⟩ = some (.int .i64 t590) ∧ w'.cell? ⟨gb579, 0, none⟩ = some (.int .i64 t567) ∧ w'.cell? ⟨gb579, 1, none⟩ = some (.int .i64 t568) ∧ w'.cell? ⟨gb579, 2, none⟩ = some (.int .i64 t569) ∧ w'.cell? ⟨gb579, 3, none⟩ = some (.bool t570) ∧ w'.cell? ⟨gb579, 4, none⟩ = some (.int .i64 t571) ∧ w'.cell? ⟨gb579, 5, none⟩ = some (.int .i64 t572) ∧ w'.cell? ⟨gb579, 6, none⟩ = some (.int .i64 t573) ∧ w'.cell? ⟨gb579, 7, none⟩ = some (.int .i64 t574) ∧ w'.cell? ⟨gb579, 8, none⟩ = some (.int .i64 t575) ∧ w'.cell? ⟨gb579, 9, none⟩ = some (.int .u32 t576) ∧ w'.cell? ⟨gb579, 10, none⟩ = some (.int .i64 t577) ∧ w'.cell? ⟨gb605, 0, none⟩ = some (.int .i64 t593) ∧ w'.cell? ⟨gb605, 1, none⟩ = some (.int .i64 t594) ∧ w'.cell? ⟨gb605, 2, none⟩ = some (.int .i64 t595) ∧ w'.cell? ⟨gb605, 3, none⟩ = some (.bool t596) ∧ w'.cell? ⟨gb605, 4, none⟩ = some (.int .i64 t597) ∧ w'.cell? ⟨gb605, 5, none⟩ = some (.int .i64 t598) ∧ w'.cell? ⟨gb605, 6, none⟩ = some (.int .i64 t599) ∧ w'.cell? ⟨gb605, 7, none⟩ = some (.int .i64 t600) ∧ w'.cell? ⟨gb605, 8, none⟩ = some (.int .i64 t601) ∧ w'.cell? ⟨gb605, 9, none⟩ = some (.int .u32 t602) ∧ w'.cell? ⟨gb605, 10, none⟩ = some (.int .i64 t603)) (ds := []) #[false, false, false, false, false, false, false, false, false, false, false, false, false, false, false, false, false, false, false, false, false, false, false] (by kernel_rfl) rfl rfl ⟨(blk_cell BK566.out 0).trans rfl, (blk_cell BK566.out 1).trans rfl, (blk_cell BK566.out 2).trans rfl, (blk_cell BK566.out 3).trans rfl, (blk_cell BK566.out 4).trans rfl, (blk_cell BK566.out 5).trans rfl, (blk_cell BK566.out 6).trans rfl, (blk_cell BK566.out 7).trans rfl, (blk_cell BK566.out 8).trans rfl, (blk_cell BK566.out 9).trans rfl, (blk_cell BK566.out 10).trans rfl, (blk_cell BK592.out 0).trans rfl, (blk_cell BK592.out 1).trans rfl, (blk_cell BK592.out 2).trans rfl, (blk_cell BK592.out 3).trans rfl, (blk_cell BK592.out 4).trans rfl, (blk_cell BK592.out 5).trans rfl, (blk_cell BK592.out 6).trans rfl, (blk_cell BK592.out 7).trans rfl, (blk_cell BK592.out 8).trans rfl, (blk_cell BK592.out 9).trans rfl, (blk_cell BK592.out 10).trans rfl, (blk_cell BK579.out 0).trans rfl, (blk_cell BK579.out 1).trans rfl, (blk_cell BK579.out 2).trans rfl, (blk_cell BK579.out 3).trans rfl, (blk_cell BK579.out 4).trans rfl, (blk_cell BK579.out 5).trans rfl, (blk_cell BK579.out 6).trans rfl, (blk_cell BK579.out 7).trans rfl, (blk_cell BK579.out 8).trans rfl, (blk_cell BK579.out 9).trans rfl, (blk_cell BK579.out 10).trans rfl, (blk_cell BK605.out 0).trans rfl, (blk_cell BK605.out 1).trans rfl, (blk_cell BK605.out 2).trans rfl, (blk_cell BK605.out 3).trans rfl, (blk_cell BK605.out 4).trans rfl, (blk_cell BK605.out 5).trans rfl, (blk_cell BK605.out 6).trans rfl, (blk_cell BK605.out 7).trans rfl, (blk_cell BK605.out 8).trans rfl, (blk_cell BK605.out 9).trans rfl, (blk_cell BK605.out 10).trans rfl⟩ (fun hHeld => ?_); refine with_tabW weftlinelaw13_PathBeats.tab8 weftlinelaw13_PathBeats.bits8 (fun HT_ HW_ => ?_)
          generalize w54.drew = w55 at BK540 BK553 BK566 BK579 BK592 BK605 HB hHeld ⊢
          refine take_ (i := 0) (N := some 48) (v := ?_) (a' := ?_) #[true, false, false, false, false, false, false, false, false, false, false, false, false, false, false, false, false, false, false, false, false, false, false] rfl rfl (take_ofW HT_.out HW_.out (by kernel_rfl)) (fun _ _ _ h => h) (Or.inl ⟨by rfl, ?_⟩) hHeld ?_ ?_
          rotate_left
          · rintro w' ⟨s0, s1, s2, s3, s4, s5, s6, s7, s8, s9, s10, s11, s12, s13, s14, s15, s16, s17, s18, s19, s20, s21, s22, s23, s24, s25, s26, s27, s28, s29, s30, s31, s32, s33, s34, s35, s36, s37, s38, s39, s40, s41, s42, s43⟩
            go_simp
            with_reducible rfl
          rotate_left
          · simp only [Act.put, List.setIfInBounds_toArray, List.set_cons_zero, List.set_cons_succ, i64_w, i32_w]
            rfl
          refine take_ (i := 2) (N := some 50) (v := ?_) (a' := ?_) #[true, false, true, false, false, false, false, false, false, false, false, false, false, false, false, false, false, false, false, false, false, false, false] rfl rfl (take_ofW HT_.out HW_.out (by kernel_rfl)) (fun _ _ _ h => h) (Or.inl ⟨by rfl, ?_⟩) hHeld ?_ ?_
          rotate_left
          · rintro w' ⟨s0, s1, s2, s3, s4, s5, s6, s7, s8, s9, s10, s11, s12, s13, s14, s15, s16, s17, s18, s19, s20, s21, s22, s23, s24, s25, s26, s27, s28, s29, s30, s31, s32, s33, s34, s35, s36, s37, s38, s39, s40, s41, s42, s43⟩
            go_simp
            with_reducible rfl
          rotate_left
          · simp only [Act.put, List.setIfInBounds_toArray, List.set_cons_zero, List.set_cons_succ, i64_w, i32_w]
            rfl
          refine one_ (i := 1) (N := some 49) #[true, true, true, false, false, false, false, false, false, false, false, false, false, false, false, false, false, false, false, false, false, false, false] rfl rfl (one_of HT_.out (by kernel_rfl)) (by decide) (fun K hK => ?_)
          refine goes_ Try.func16 (by kernel_rfl) rfl #[.agg #[.int .i64 t554, .int .i64 t555, .int .i64 t556, .bool t557, .int .i64 t558, .int .i64 t559, .int .i64 t560, .int .i64 t561, .int .i64 t562, .int .u32 t563, .int .i64 t564]] (by rfl) rfl rfl (by (try simp only [List.map_toArray, List.map_cons, List.map_nil]); first | done | rfl | (simp only [List.length_drop, List.length_take]; rfl)) ?_
          with_reducible refine (weftlinelaw13_Document.calls t554 t555 t556 t557 t558 t559 t560 t561 t562 t563 t564 t606 t607 t608 t609 t610 t611 t612 t613 t614 t615 t616 _ A11.out).mono ?_
          rintro e w56 ⟨rfl, hb⟩
          refine ⟨_, rfl, ?_⟩
          have n0_ := A0 (blk_below (by (with_reducible repeat (first | refine q1 ?_ _ | refine q2 ?_ | refine q3 ?_ _)); exact BK540.out) hb)
          have n1_ := A0 (blk_below (by (with_reducible repeat (first | refine q1 ?_ _ | refine q2 ?_ | refine q3 ?_ _)); exact BK553.out) hb)
          have n2_ := A0 (blk_below (by (with_reducible repeat (first | refine q1 ?_ _ | refine q2 ?_ | refine q3 ?_ _)); exact BK566.out) hb)
          have n3_ := A0 (blk_below (by (with_reducible repeat (first | refine q1 ?_ _ | refine q2 ?_ | refine q3 ?_ _)); exact BK579.out) hb)
          have n4_ := A0 (blk_below (by (with_reducible repeat (first | refine q1 ?_ _ | refine q2 ?_ | refine q3 ?_ _)); exact BK592.out) hb)
          have n5_ := A0 (blk_below (by (with_reducible repeat (first | refine q1 ?_ _ | refine q2 ?_ | refine q3 ?_ _)); exact BK605.out) hb)
          have n6_ := A0 (below_step (by repeat (first | (with_reducible first | exact HB.out | apply b1 | apply b2 | apply b3 | refine below_set ?_ GE540.out | refine below_set ?_ GE553.out | refine below_set ?_ GE566.out | refine below_set ?_ GE579.out | refine below_set ?_ GE592.out | refine below_set ?_ GE605.out) | exact HB.out)) hb)
          clear BK540 BK553 BK566 BK579 BK592 BK605 HB
          have BK540 := n0_
          have BK553 := n1_
          have BK566 := n2_
          have BK579 := n3_
          have BK592 := n4_
          have BK605 := n5_
          have HB := n6_
          clear n0_ n1_ n2_ n3_ n4_ n5_ n6_
          (try clear hb); (try clear hb2); (try clear hk); (try clear hi)
          have CA13 := fun W => weftlinenum_Num.calls t565 t617 W A13.out
          try simp only [errW_none, errW_some] at CA13
          refine hK.out _ _ ⟨(blk_cell BK566.out 0).trans rfl, (blk_cell BK566.out 1).trans rfl, (blk_cell BK566.out 2).trans rfl, (blk_cell BK566.out 3).trans rfl, (blk_cell BK566.out 4).trans rfl, (blk_cell BK566.out 5).trans rfl, (blk_cell BK566.out 6).trans rfl, (blk_cell BK566.out 7).trans rfl, (blk_cell BK566.out 8).trans rfl, (blk_cell BK566.out 9).trans rfl, (blk_cell BK566.out 10).trans rfl, (blk_cell BK592.out 0).trans rfl, (blk_cell BK592.out 1).trans rfl, (blk_cell BK592.out 2).trans rfl, (blk_cell BK592.out 3).trans rfl, (blk_cell BK592.out 4).trans rfl, (blk_cell BK592.out 5).trans rfl, (blk_cell BK592.out 6).trans rfl, (blk_cell BK592.out 7).trans rfl, (blk_cell BK592.out 8).trans rfl, (blk_cell BK592.out 9).trans rfl, (blk_cell BK592.out 10).trans rfl, (blk_cell BK579.out 0).trans rfl, (blk_cell BK579.out 1).trans rfl, (blk_cell BK579.out 2).trans rfl, (blk_cell BK579.out 3).trans rfl, (blk_cell BK579.out 4).trans rfl, (blk_cell BK579.out 5).trans rfl, (blk_cell BK579.out 6).trans rfl, (blk_cell BK579.out 7).trans rfl, (blk_cell BK579.out 8).trans rfl, (blk_cell BK579.out 9).trans rfl, (blk_cell BK579.out 10).trans rfl, (blk_cell BK605.out 0).trans rfl, (blk_cell BK605.out 1).trans rfl, (blk_cell BK605.out 2).trans rfl, (blk_cell BK605.out 3).trans rfl, (blk_cell BK605.out 4).trans rfl, (blk_cell BK605.out 5).trans rfl, (blk_cell BK605.out 6).trans rfl, (blk_cell BK605.out 7).trans rfl, (blk_cell BK605.out 8).trans rfl, (blk_cell BK605.out 9).trans rfl, (blk_cell BK605.out 10).trans rfl⟩ (fun hHeld => ?_)
          clear hK K
          refine norm_ (a' := ?_) ?_ ?_
          rotate_left
          · show Act.put _ (some 49) _ = _
            simp only [Act.put, List.setIfInBounds_toArray, List.set_cons_zero, List.set_cons_succ, i64_w, i32_w]
            rfl
          refine pure_ (i := 3) (N := some 51) (v := ?_) (a' := ?_) #[true, true, true, true, false, false, false, false, false, false, false, false, false, false, false, false, false, false, false, false, false, false, false] rfl rfl (any_of HT_.out (by kernel_rfl)) (fun _ _ _ h => h) (Or.inl ⟨by rfl, ?_⟩) ?_ ?_
          rotate_left
          · intro w'
            go_simp
            with_reducible rfl
          rotate_left
          · simp only [Act.put, List.setIfInBounds_toArray, List.set_cons_zero, List.set_cons_succ, i64_w, i32_w]
            rfl
          refine pure_ (i := 4) (N := some 52) (v := ?_) (a' := ?_) #[true, true, true, true, true, false, false, false, false, false, false, false, false, false, false, false, false, false, false, false, false, false, false] rfl rfl (any_of HT_.out (by kernel_rfl)) (fun _ _ _ h => h) (Or.inl ⟨by rfl, ?_⟩) ?_ ?_
          rotate_left
          · intro w'
            go_simp
            with_reducible rfl
          rotate_left
          · simp only [Act.put, List.setIfInBounds_toArray, List.set_cons_zero, List.set_cons_succ, i64_w, i32_w]
            rfl
          refine pure_ (i := 5) (N := some 53) (v := ?_) (a' := ?_) #[true, true, true, true, true, true, false, false, false, false, false, false, false, false, false, false, false, false, false, false, false, false, false] rfl rfl (any_of HT_.out (by kernel_rfl)) (fun _ _ _ h => h) (Or.inl ⟨by rfl, ?_⟩) ?_ ?_
          rotate_left
          · intro w'
            go_simp
            with_reducible rfl
          rotate_left
          · simp only [Act.put, List.setIfInBounds_toArray, List.set_cons_zero, List.set_cons_succ, i64_w, i32_w]
            rfl
          refine pure_ (i := 7) (N := some 55) (v := ?_) (a' := ?_) #[true, true, true, true, true, true, false, true, false, false, false, false, false, false, false, false, false, false, false, false, false, false, false] rfl rfl (any_of HT_.out (by kernel_rfl)) (fun _ _ _ h => h) (Or.inl ⟨by rfl, ?_⟩) ?_ ?_
          rotate_left
          · intro w'
            go_simp
            with_reducible rfl
          rotate_left
          · simp only [Act.put, List.setIfInBounds_toArray, List.set_cons_zero, List.set_cons_succ, i64_w, i32_w]
            rfl
          refine one_ (i := 6) (N := some 54) #[true, true, true, true, true, true, true, true, false, false, false, false, false, false, false, false, false, false, false, false, false, false, false] rfl rfl (one_of HT_.out (by kernel_rfl)) (by decide) (fun K hK => ?_)
          refine goes_ Try.func33 (by kernel_rfl) rfl #[errW t565] (by rfl) rfl rfl (by (try simp only [List.map_toArray, List.map_cons, List.map_nil]); first | done | rfl | (simp only [List.length_drop, List.length_take]; rfl)) ?_
          (try simp only [errW_none, errW_some])
          with_reducible refine (CA13 _).mono ?_
          rintro e w' ⟨rfl, ⟨nd, rfl⟩⟩
          refine ⟨_, rfl, ?_⟩
          refine hK.out _ _ ⟨(blk_cell BK566.out 0).trans rfl, (blk_cell BK566.out 1).trans rfl, (blk_cell BK566.out 2).trans rfl, (blk_cell BK566.out 3).trans rfl, (blk_cell BK566.out 4).trans rfl, (blk_cell BK566.out 5).trans rfl, (blk_cell BK566.out 6).trans rfl, (blk_cell BK566.out 7).trans rfl, (blk_cell BK566.out 8).trans rfl, (blk_cell BK566.out 9).trans rfl, (blk_cell BK566.out 10).trans rfl, (blk_cell BK592.out 0).trans rfl, (blk_cell BK592.out 1).trans rfl, (blk_cell BK592.out 2).trans rfl, (blk_cell BK592.out 3).trans rfl, (blk_cell BK592.out 4).trans rfl, (blk_cell BK592.out 5).trans rfl, (blk_cell BK592.out 6).trans rfl, (blk_cell BK592.out 7).trans rfl, (blk_cell BK592.out 8).trans rfl, (blk_cell BK592.out 9).trans rfl, (blk_cell BK592.out 10).trans rfl, (blk_cell BK579.out 0).trans rfl, (blk_cell BK579.out 1).trans rfl, (blk_cell BK579.out 2).trans rfl, (blk_cell BK579.out 3).trans rfl, (blk_cell BK579.out 4).trans rfl, (blk_cell BK579.out 5).trans rfl, (blk_cell BK579.out 6).trans rfl, (blk_cell BK579.out 7).trans rfl, (blk_cell BK579.out 8).trans rfl, (blk_cell BK579.out 9).trans rfl, (blk_cell BK579.out 10).trans rfl, (blk_cell BK605.out 0).trans rfl, (blk_cell BK605.out 1).trans rfl, (blk_cell BK605.out 2).trans rfl, (blk_cell BK605.out 3).trans rfl, (blk_cell BK605.out 4).trans rfl, (blk_cell BK605.out 5).trans rfl, (blk_cell BK605.out 6).trans rfl, (blk_cell BK605.out 7).trans rfl, (blk_cell BK605.out 8).trans rfl, (blk_cell BK605.out 9).trans rfl, (blk_cell BK605.out 10).trans rfl⟩ (fun hHeld => ?_)
          clear hK K
          refine norm_ (a' := ?_) ?_ ?_
          rotate_left
          · show Act.put _ (some 54) _ = _
            simp only [Act.put, List.setIfInBounds_toArray, List.set_cons_zero, List.set_cons_succ, i64_w, i32_w]
            rfl
          refine pure_ (i := 8) (N := some 56) (v := ?_) (a' := ?_) #[true, true, true, true, true, true, true, true, true, false, false, false, false, false, false, false, false, false, false, false, false, false, false] rfl rfl (any_of HT_.out (by kernel_rfl)) (fun _ _ _ h => h) (Or.inl ⟨by rfl, ?_⟩) ?_ ?_
          rotate_left
          · intro w'
            go_simp
            with_reducible rfl
          rotate_left
          · simp only [Act.put, List.setIfInBounds_toArray, List.set_cons_zero, List.set_cons_succ, i64_w, i32_w]
            rfl
          refine pure_ (i := 9) (N := some 57) (v := ?_) (a' := ?_) #[true, true, true, true, true, true, true, true, true, true, false, false, false, false, false, false, false, false, false, false, false, false, false] rfl rfl (any_of HT_.out (by kernel_rfl)) (fun _ _ _ h => h) (Or.inl ⟨by rfl, ?_⟩) ?_ ?_
          rotate_left
          · intro w'
            go_simp
            with_reducible rfl
          rotate_left
          · simp only [Act.put, List.setIfInBounds_toArray, List.set_cons_zero, List.set_cons_succ, i64_w, i32_w]
            rfl
          refine pure_ (i := 10) (N := some 58) (v := ?_) (a' := ?_) #[true, true, true, true, true, true, true, true, true, true, true, false, false, false, false, false, false, false, false, false, false, false, false] rfl rfl (any_of HT_.out (by kernel_rfl)) (fun _ _ _ h => h) (Or.inl ⟨by rfl, ?_⟩) ?_ ?_
          rotate_left
          · intro w'
            go_simp
            with_reducible rfl
          rotate_left
          · simp only [Act.put, List.setIfInBounds_toArray, List.set_cons_zero, List.set_cons_succ, i64_w, i32_w]
            rfl
          refine take_ (i := 11) (N := some 59) (v := ?_) (a' := ?_) #[true, true, true, true, true, true, true, true, true, true, true, true, false, false, false, false, false, false, false, false, false, false, false] rfl rfl (take_ofW HT_.out HW_.out (by kernel_rfl)) (fun _ _ _ h => h) (Or.inl ⟨by rfl, ?_⟩) hHeld ?_ ?_
          rotate_left
          · rintro w' ⟨s0, s1, s2, s3, s4, s5, s6, s7, s8, s9, s10, s11, s12, s13, s14, s15, s16, s17, s18, s19, s20, s21, s22, s23, s24, s25, s26, s27, s28, s29, s30, s31, s32, s33, s34, s35, s36, s37, s38, s39, s40, s41, s42, s43⟩
            go_simp
            with_reducible rfl
          rotate_left
          · simp only [Act.put, List.setIfInBounds_toArray, List.set_cons_zero, List.set_cons_succ, i64_w, i32_w]
            rfl
          refine take_ (i := 13) (N := some 61) (v := ?_) (a' := ?_) #[true, true, true, true, true, true, true, true, true, true, true, true, false, true, false, false, false, false, false, false, false, false, false] rfl rfl (take_ofW HT_.out HW_.out (by kernel_rfl)) (fun _ _ _ h => h) (Or.inl ⟨by rfl, ?_⟩) hHeld ?_ ?_
          rotate_left
          · rintro w' ⟨s0, s1, s2, s3, s4, s5, s6, s7, s8, s9, s10, s11, s12, s13, s14, s15, s16, s17, s18, s19, s20, s21, s22, s23, s24, s25, s26, s27, s28, s29, s30, s31, s32, s33, s34, s35, s36, s37, s38, s39, s40, s41, s42, s43⟩
            go_simp
            with_reducible rfl
          rotate_left
          · simp only [Act.put, List.setIfInBounds_toArray, List.set_cons_zero, List.set_cons_succ, i64_w, i32_w]
            rfl
          refine one_ (i := 12) (N := some 60) #[true, true, true, true, true, true, true, true, true, true, true, true, true, true, false, false, false, false, false, false, false, false, false] rfl rfl (one_of HT_.out (by kernel_rfl)) (by decide) (fun K hK => ?_)
          refine goes_ Try.func16 (by kernel_rfl) rfl #[.agg #[.int .i64 t567, .int .i64 t568, .int .i64 t569, .bool t570, .int .i64 t571, .int .i64 t572, .int .i64 t573, .int .i64 t574, .int .i64 t575, .int .u32 t576, .int .i64 t577]] (by rfl) rfl rfl (by (try simp only [List.map_toArray, List.map_cons, List.map_nil]); first | done | rfl | (simp only [List.length_drop, List.length_take]; rfl)) ?_
          with_reducible refine (weftlinelaw13_Document.calls t567 t568 t569 t570 t571 t572 t573 t574 t575 t576 t577 t618 t619 t620 t621 t622 t623 t624 t625 t626 t627 t628 _ A15.out).mono ?_
          rintro e w57 ⟨rfl, hb⟩
          refine ⟨_, rfl, ?_⟩
          have n0_ := A0 (blk_below (by (with_reducible repeat (first | refine q1 ?_ _ | refine q2 ?_ | refine q3 ?_ _)); exact BK540.out) hb)
          have n1_ := A0 (blk_below (by (with_reducible repeat (first | refine q1 ?_ _ | refine q2 ?_ | refine q3 ?_ _)); exact BK553.out) hb)
          have n2_ := A0 (blk_below (by (with_reducible repeat (first | refine q1 ?_ _ | refine q2 ?_ | refine q3 ?_ _)); exact BK566.out) hb)
          have n3_ := A0 (blk_below (by (with_reducible repeat (first | refine q1 ?_ _ | refine q2 ?_ | refine q3 ?_ _)); exact BK579.out) hb)
          have n4_ := A0 (blk_below (by (with_reducible repeat (first | refine q1 ?_ _ | refine q2 ?_ | refine q3 ?_ _)); exact BK592.out) hb)
          have n5_ := A0 (blk_below (by (with_reducible repeat (first | refine q1 ?_ _ | refine q2 ?_ | refine q3 ?_ _)); exact BK605.out) hb)
          have n6_ := A0 (below_step (by repeat (first | (with_reducible first | exact HB.out | apply b1 | apply b2 | apply b3 | refine below_set ?_ GE540.out | refine below_set ?_ GE553.out | refine below_set ?_ GE566.out | refine below_set ?_ GE579.out | refine below_set ?_ GE592.out | refine below_set ?_ GE605.out) | exact HB.out)) hb)
          clear BK540 BK553 BK566 BK579 BK592 BK605 HB
          have BK540 := n0_
          have BK553 := n1_
          have BK566 := n2_
          have BK579 := n3_
          have BK592 := n4_
          have BK605 := n5_
          have HB := n6_
          clear n0_ n1_ n2_ n3_ n4_ n5_ n6_
          (try clear hb); (try clear hb2); (try clear hk); (try clear hi)
          have CA17 := fun W => weftlinenum_Num.calls t578 t629 W A17.out
          try simp only [errW_none, errW_some] at CA17
          refine hK.out _ _ ⟨(blk_cell BK566.out 0).trans rfl, (blk_cell BK566.out 1).trans rfl, (blk_cell BK566.out 2).trans rfl, (blk_cell BK566.out 3).trans rfl, (blk_cell BK566.out 4).trans rfl, (blk_cell BK566.out 5).trans rfl, (blk_cell BK566.out 6).trans rfl, (blk_cell BK566.out 7).trans rfl, (blk_cell BK566.out 8).trans rfl, (blk_cell BK566.out 9).trans rfl, (blk_cell BK566.out 10).trans rfl, (blk_cell BK592.out 0).trans rfl, (blk_cell BK592.out 1).trans rfl, (blk_cell BK592.out 2).trans rfl, (blk_cell BK592.out 3).trans rfl, (blk_cell BK592.out 4).trans rfl, (blk_cell BK592.out 5).trans rfl, (blk_cell BK592.out 6).trans rfl, (blk_cell BK592.out 7).trans rfl, (blk_cell BK592.out 8).trans rfl, (blk_cell BK592.out 9).trans rfl, (blk_cell BK592.out 10).trans rfl, (blk_cell BK579.out 0).trans rfl, (blk_cell BK579.out 1).trans rfl, (blk_cell BK579.out 2).trans rfl, (blk_cell BK579.out 3).trans rfl, (blk_cell BK579.out 4).trans rfl, (blk_cell BK579.out 5).trans rfl, (blk_cell BK579.out 6).trans rfl, (blk_cell BK579.out 7).trans rfl, (blk_cell BK579.out 8).trans rfl, (blk_cell BK579.out 9).trans rfl, (blk_cell BK579.out 10).trans rfl, (blk_cell BK605.out 0).trans rfl, (blk_cell BK605.out 1).trans rfl, (blk_cell BK605.out 2).trans rfl, (blk_cell BK605.out 3).trans rfl, (blk_cell BK605.out 4).trans rfl, (blk_cell BK605.out 5).trans rfl, (blk_cell BK605.out 6).trans rfl, (blk_cell BK605.out 7).trans rfl, (blk_cell BK605.out 8).trans rfl, (blk_cell BK605.out 9).trans rfl, (blk_cell BK605.out 10).trans rfl⟩ (fun hHeld => ?_)
          clear hK K
          refine norm_ (a' := ?_) ?_ ?_
          rotate_left
          · show Act.put _ (some 60) _ = _
            simp only [Act.put, List.setIfInBounds_toArray, List.set_cons_zero, List.set_cons_succ, i64_w, i32_w]
            rfl
          refine pure_ (i := 14) (N := some 62) (v := ?_) (a' := ?_) #[true, true, true, true, true, true, true, true, true, true, true, true, true, true, true, false, false, false, false, false, false, false, false] rfl rfl (any_of HT_.out (by kernel_rfl)) (fun _ _ _ h => h) (Or.inl ⟨by rfl, ?_⟩) ?_ ?_
          rotate_left
          · intro w'
            go_simp
            with_reducible rfl
          rotate_left
          · simp only [Act.put, List.setIfInBounds_toArray, List.set_cons_zero, List.set_cons_succ, i64_w, i32_w]
            rfl
          refine pure_ (i := 15) (N := some 63) (v := ?_) (a' := ?_) #[true, true, true, true, true, true, true, true, true, true, true, true, true, true, true, true, false, false, false, false, false, false, false] rfl rfl (any_of HT_.out (by kernel_rfl)) (fun _ _ _ h => h) (Or.inl ⟨by rfl, ?_⟩) ?_ ?_
          rotate_left
          · intro w'
            go_simp
            with_reducible rfl
          rotate_left
          · simp only [Act.put, List.setIfInBounds_toArray, List.set_cons_zero, List.set_cons_succ, i64_w, i32_w]
            rfl
          refine pure_ (i := 16) (N := some 64) (v := ?_) (a' := ?_) #[true, true, true, true, true, true, true, true, true, true, true, true, true, true, true, true, true, false, false, false, false, false, false] rfl rfl (any_of HT_.out (by kernel_rfl)) (fun _ _ _ h => h) (Or.inl ⟨by rfl, ?_⟩) ?_ ?_
          rotate_left
          · intro w'
            go_simp
            with_reducible rfl
          rotate_left
          · simp only [Act.put, List.setIfInBounds_toArray, List.set_cons_zero, List.set_cons_succ, i64_w, i32_w]
            rfl
          refine pure_ (i := 17) (N := some 65) (v := ?_) (a' := ?_) #[true, true, true, true, true, true, true, true, true, true, true, true, true, true, true, true, true, true, false, false, false, false, false] rfl rfl (any_of HT_.out (by kernel_rfl)) (fun _ _ _ h => h) (Or.inl ⟨by rfl, ?_⟩) ?_ ?_
          rotate_left
          · intro w'
            go_simp
            with_reducible rfl
          rotate_left
          · simp only [Act.put, List.setIfInBounds_toArray, List.set_cons_zero, List.set_cons_succ, i64_w, i32_w]
            rfl
          refine pure_ (i := 19) (N := some 67) (v := ?_) (a' := ?_) #[true, true, true, true, true, true, true, true, true, true, true, true, true, true, true, true, true, true, false, true, false, false, false] rfl rfl (any_of HT_.out (by kernel_rfl)) (fun _ _ _ h => h) (Or.inl ⟨by rfl, ?_⟩) ?_ ?_
          rotate_left
          · intro w'
            go_simp
            with_reducible rfl
          rotate_left
          · simp only [Act.put, List.setIfInBounds_toArray, List.set_cons_zero, List.set_cons_succ, i64_w, i32_w]
            rfl
          refine one_ (i := 18) (N := some 66) #[true, true, true, true, true, true, true, true, true, true, true, true, true, true, true, true, true, true, true, true, false, false, false] rfl rfl (one_of HT_.out (by kernel_rfl)) (by decide) (fun K hK => ?_)
          refine goes_ Try.func33 (by kernel_rfl) rfl #[errW t578] (by rfl) rfl rfl (by (try simp only [List.map_toArray, List.map_cons, List.map_nil]); first | done | rfl | (simp only [List.length_drop, List.length_take]; rfl)) ?_
          (try simp only [errW_none, errW_some])
          with_reducible refine (CA17 _).mono ?_
          rintro e w' ⟨rfl, ⟨nd, rfl⟩⟩
          refine ⟨_, rfl, ?_⟩
          refine hK.out _ _ ⟨(blk_cell BK566.out 0).trans rfl, (blk_cell BK566.out 1).trans rfl, (blk_cell BK566.out 2).trans rfl, (blk_cell BK566.out 3).trans rfl, (blk_cell BK566.out 4).trans rfl, (blk_cell BK566.out 5).trans rfl, (blk_cell BK566.out 6).trans rfl, (blk_cell BK566.out 7).trans rfl, (blk_cell BK566.out 8).trans rfl, (blk_cell BK566.out 9).trans rfl, (blk_cell BK566.out 10).trans rfl, (blk_cell BK592.out 0).trans rfl, (blk_cell BK592.out 1).trans rfl, (blk_cell BK592.out 2).trans rfl, (blk_cell BK592.out 3).trans rfl, (blk_cell BK592.out 4).trans rfl, (blk_cell BK592.out 5).trans rfl, (blk_cell BK592.out 6).trans rfl, (blk_cell BK592.out 7).trans rfl, (blk_cell BK592.out 8).trans rfl, (blk_cell BK592.out 9).trans rfl, (blk_cell BK592.out 10).trans rfl, (blk_cell BK579.out 0).trans rfl, (blk_cell BK579.out 1).trans rfl, (blk_cell BK579.out 2).trans rfl, (blk_cell BK579.out 3).trans rfl, (blk_cell BK579.out 4).trans rfl, (blk_cell BK579.out 5).trans rfl, (blk_cell BK579.out 6).trans rfl, (blk_cell BK579.out 7).trans rfl, (blk_cell BK579.out 8).trans rfl, (blk_cell BK579.out 9).trans rfl, (blk_cell BK579.out 10).trans rfl, (blk_cell BK605.out 0).trans rfl, (blk_cell BK605.out 1).trans rfl, (blk_cell BK605.out 2).trans rfl, (blk_cell BK605.out 3).trans rfl, (blk_cell BK605.out 4).trans rfl, (blk_cell BK605.out 5).trans rfl, (blk_cell BK605.out 6).trans rfl, (blk_cell BK605.out 7).trans rfl, (blk_cell BK605.out 8).trans rfl, (blk_cell BK605.out 9).trans rfl, (blk_cell BK605.out 10).trans rfl⟩ (fun hHeld => ?_)
          clear hK K
          refine norm_ (a' := ?_) ?_ ?_
          rotate_left
          · show Act.put _ (some 66) _ = _
            simp only [Act.put, List.setIfInBounds_toArray, List.set_cons_zero, List.set_cons_succ, i64_w, i32_w]
            rfl
          refine pure_ (i := 20) (N := some 68) (v := ?_) (a' := ?_) #[true, true, true, true, true, true, true, true, true, true, true, true, true, true, true, true, true, true, true, true, true, false, false] rfl rfl (any_of HT_.out (by kernel_rfl)) (fun _ _ _ h => h) (Or.inl ⟨by rfl, ?_⟩) ?_ ?_
          rotate_left
          · intro w'
            go_simp
            with_reducible rfl
          rotate_left
          · simp only [Act.put, List.setIfInBounds_toArray, List.set_cons_zero, List.set_cons_succ, i64_w, i32_w]
            rfl
          refine pure_ (i := 21) (N := some 69) (v := ?_) (a' := ?_) #[true, true, true, true, true, true, true, true, true, true, true, true, true, true, true, true, true, true, true, true, true, true, false] rfl rfl (any_of HT_.out (by kernel_rfl)) (fun _ _ _ h => h) (Or.inl ⟨by rfl, ?_⟩) ?_ ?_
          rotate_left
          · intro w'
            go_simp
            with_reducible rfl
          rotate_left
          · simp only [Act.put, List.setIfInBounds_toArray, List.set_cons_zero, List.set_cons_succ, i64_w, i32_w]
            rfl
          refine pure_ (i := 22) (N := some 6) (v := ?_) (a' := ?_) #[true, true, true, true, true, true, true, true, true, true, true, true, true, true, true, true, true, true, true, true, true, true, true] rfl rfl (any_of HT_.out (by kernel_rfl)) (fun _ _ _ h => h) (Or.inl ⟨by rfl, ?_⟩) ?_ ?_
          rotate_left
          · intro w'
            go_simp
            with_reducible rfl
          rotate_left
          · simp only [Act.put, List.setIfInBounds_toArray, List.set_cons_zero, List.set_cons_succ, i64_w, i32_w]
            rfl
          refine done_ (done_of HT_.out (by kernel_rfl)) ?_
          try go_wp2
          go_ret
          exact ⟨by first | rfl | (simp [errW_none, errW_some] <;> rfl) | (simp [*, errW_none, errW_some] <;> rfl), by repeat (first | (with_reducible first | exact HB.out | apply b1 | apply b2 | apply b3 | refine below_set ?_ GE540.out | refine below_set ?_ GE553.out | refine below_set ?_ GE566.out | refine below_set ?_ GE579.out | refine below_set ?_ GE592.out | refine below_set ?_ GE605.out) | exact HB.out)⟩
        · rw [if_neg c16] at H
          rw [hr0.out] at H
          exact absurd H (by simp)
      · rw [if_neg c14] at H
        rw [hr0.out] at H
        exact absurd H (by simp)
    · rw [if_neg c12] at H
      rw [hr0.out] at H
      exact absurd H (by simp)
  · replace c5 := Bool.eq_false_iff.mpr c5
    subst c5
    have H1 : (some false) = some r := by rw [if_neg (show ¬ (false = true) by decide)] at H; exact H
    rw [hr0.out] at H1
    exact absurd H1 (by simp)
end Go.Proofs.Ytblooffiggciiaa.PAll
/- PathB -/
namespace Go.Proofs.Ytblooffiggciiaa.Pl
open Go.RowKit Go.Proofs.Ytblooffiggciiaa.PAll Go.Proofs.YtblooffiggciiaaW.PrintWords Go.Proofs.YtblooffiggciiaaW.PrintLast Go.Proofs.YtblooffiggciiaaW.PrintMore
set_option linter.unusedVariables false
set_option linter.unusedSimpArgs false
section
variable (s d w : Int) (m : Bool) (z t c a er no se : Int)
theorem beat_yes (h : goodQ s d w m z t c a er no se) (k : Nat) (x y : Int) : path_Path_Beat.f (k + 1) s d w m z t c a er no se x y =
    some (if x = 0 ∨ ¬ tickP y then (0, 0, 0, false, 0, 0, 0, 0, 0, 0, 0, some 1) else if no = 0 then (s, d, w, m, z, t, c, a, er, x, y, none) else (0, 0, 0, false, 0, 0, 0, 0, 0, 0, 0, some 5)) := by
  unfold path_Path_Beat.f
  rw [qgood, decide_eq_true h, tick_eq]
  simp only [Option.bind_some, if_true, path_Path_Beat.j0]
  by_cases hx : x = 0
  · rw [if_pos hx, if_pos (Or.inl hx)]
  · rw [if_neg hx]
    by_cases hy : tickP y
    · rw [decide_eq_true hy, if_neg (show ¬ (x = 0 ∨ ¬ tickP y) from fun h' => h'.elim hx (fun h'' => h'' hy))]
      simp only [Bool.not_true, Bool.false_eq_true, if_false]
      by_cases h0 : no = 0
      · rw [if_pos h0, if_pos h0]
      · rw [if_neg h0, if_neg h0]
    · rw [decide_eq_false hy, if_pos (Or.inr hy : x = 0 ∨ ¬ tickP y)]
      simp only [Bool.not_false, if_true]
theorem refbeat_yes (h : goodQ s d w m z t c a er no se) (k : Nat) (x y : Int) : weftlineref13_Beat.f (k + 1) s d w m z t c a er no se x y =
    some (if x = 0 ∨ ¬ tickP y then (0, 0, 0, false, 0, 0, 0, 0, 0, 0, 0, 1) else if no = 0 then (s, d, w, m, z, t, c, a, er, x, y, 0) else (0, 0, 0, false, 0, 0, 0, 0, 0, 0, 0, 5)) := by
  unfold weftlineref13_Beat.f
  rw [qrefgood, decide_eq_true h, reftick_eq]
  simp only [Option.bind_some, if_true, weftlineref13_Beat.j0]
  by_cases hx : x = 0
  · rw [if_pos hx, if_pos (Or.inl hx)]
  · rw [if_neg hx]
    by_cases hy : tickP y
    · rw [decide_eq_true hy, if_neg (show ¬ (x = 0 ∨ ¬ tickP y) from fun h' => h'.elim hx (fun h'' => h'' hy))]
      simp only [Bool.not_true, Bool.false_eq_true, if_false]
      by_cases h0 : no = 0
      · rw [if_pos h0, if_pos h0]
      · rw [if_neg h0, if_neg h0]
    · rw [decide_eq_false hy, if_pos (Or.inr hy : x = 0 ∨ ¬ tickP y)]
      simp only [Bool.not_false, if_true]
/-- How long a beat took. -/
def tookQ (y se : Int) : Int := mn (y - se) 65535
theorem took_ok (h : goodQ s d w m z t c a er no se) {y : Int} (hl : ¬ y < se) (hy : tickP y) : wrap64 (y - se) = y - se ∧ 0 ≤ tookQ y se ∧ tookQ y se ≤ 65535 := by
  obtain ⟨_, ⟨h1, h2⟩, _, hp, _⟩ := h
  obtain ⟨h3, h4⟩ := hy
  exact ⟨w64 (by omega) (by omega), by unfold tookQ mn; split <;> omega, by unfold tookQ mn; split <;> omega⟩
theorem beaten_yes (h : goodQ s d w m z t c a er no se) (k : Nat) (x y : Int) : path_Path_Beaten.f (k + 4) s d w m z t c a er no se x y =
    some (if x = 0 ∨ x ≠ no then (0, 0, 0, false, 0, 0, 0, 0, 0, 0, 0, some 4) else if y < se ∨ ¬ tickP y then (0, 0, 0, false, 0, 0, 0, 0, 0, 0, 0, some 1) else
      (tookS s d (tookQ y se) m, tookD s d (tookQ y se) m, clampW (tookS s d (tookQ y se) m / 8 + tookD s d (tookQ y se) m), true, z, t, c, a, 0, 0, 0, none)) := by
  unfold path_Path_Beaten.f
  rw [qgood, decide_eq_true h]
  simp only [Option.bind_some, if_true, path_Path_Beaten.j0]
  by_cases hx : x = 0
  · rw [if_pos hx, if_pos (Or.inl hx)]
  · rw [if_neg hx]
    by_cases hn : x = no
    · have hn' : (x != no) = false := bne_eq_false_iff_eq.mpr hn
      rw [if_neg (show ¬ (x = 0 ∨ x ≠ no) from fun h' => h'.elim hx (fun h'' => h'' hn)), hn']
      simp only [Bool.false_eq_true, if_false]
      by_cases hl : y < se
      · rw [if_pos hl, if_pos (Or.inl hl)]
        simp [path_Path_Beaten.j1]
      · rw [if_neg hl, tick_eq]
        simp only [Option.bind_some]
        by_cases hy : tickP y
        · rw [decide_eq_true hy, if_neg (show ¬ (y < se ∨ ¬ tickP y) from fun h' => h'.elim hl (fun h'' => h'' hy))]
          obtain ⟨hb0, hb1, hb2⟩ := took_ok s d w m z t c a er no se h hl hy
          simp only [Bool.not_true, path_Path_Beaten.j1, Bool.false_eq_true, if_false]
          rw [hb0, show mn (y - se) 65535 = tookQ y se from rfl, took_yes (k + 1) h.2.2.2.1 hb1 hb2]
          rfl
        · rw [decide_eq_false hy, if_pos (Or.inr hy)]
          simp [path_Path_Beaten.j1]
    · have hn' : (x != no) = true := bne_iff_ne.mpr hn
      rw [if_pos (Or.inr hn), hn']
      simp only [if_true]
theorem refbeaten_yes (h : goodQ s d w m z t c a er no se) (k : Nat) (x y : Int) : weftlineref13_Beaten.f (k + 4) s d w m z t c a er no se x y =
    some (if x = 0 ∨ x ≠ no then (0, 0, 0, false, 0, 0, 0, 0, 0, 0, 0, 4) else if y < se ∨ ¬ tickP y then (0, 0, 0, false, 0, 0, 0, 0, 0, 0, 0, 1) else
      (tookS s d (tookQ y se) m, tookD s d (tookQ y se) m, clampW (tookS s d (tookQ y se) m / 8 + tookD s d (tookQ y se) m), true, z, t, c, a, 0, 0, 0, 0)) := by
  unfold weftlineref13_Beaten.f
  rw [qrefgood, decide_eq_true h]
  simp only [Option.bind_some, if_true, weftlineref13_Beaten.j0]
  by_cases hx : x = 0
  · rw [if_pos hx, if_pos (Or.inl hx)]
  · rw [if_neg hx]
    by_cases hn : x = no
    · have hn' : (no != x) = false := bne_eq_false_iff_eq.mpr hn.symm
      rw [if_neg (show ¬ (x = 0 ∨ x ≠ no) from fun h' => h'.elim hx (fun h'' => h'' hn)), hn']
      simp only [Bool.false_eq_true, if_false]
      by_cases hl : y < se
      · rw [if_pos hl, if_pos (Or.inl hl)]
        simp [weftlineref13_Beaten.j1]
      · rw [if_neg hl, reftick_eq]
        simp only [Option.bind_some]
        by_cases hy : tickP y
        · rw [decide_eq_true hy, if_neg (show ¬ (y < se ∨ ¬ tickP y) from fun h' => h'.elim hl (fun h'' => h'' hy))]
          obtain ⟨hb0, hb1, hb2⟩ := took_ok s d w m z t c a er no se h hl hy
          simp only [Bool.not_true, weftlineref13_Beaten.j1, Bool.false_eq_true, if_false]
          rw [hb0]
          have ht := reftook_yes k h.2.2.2.1 hb1 hb2
          by_cases h6 : y - se > 65535
          · rw [if_pos h6]
            have e : tookQ y se = 65535 := by unfold tookQ mn; rw [if_pos h6]
            rw [e] at ht ⊢
            rw [ht]; rfl
          · rw [if_neg h6]
            have e : tookQ y se = y - se := by unfold tookQ mn; rw [if_neg h6]
            rw [e] at ht ⊢
            rw [ht]; rfl
        · rw [decide_eq_false hy, if_pos (Or.inr hy)]
          simp [weftlineref13_Beaten.j1]
    · have hn' : (no != x) = true := bne_iff_ne.mpr (fun h => hn h.symm)
      rw [if_pos (Or.inr hn), hn']
      simp only [if_true]
theorem beats (k : Nat) (x y : Int) : weftlinelaw13_PathBeats.f (k + 20) s d w m z t c a er no se x y = some true := by
  unfold weftlinelaw13_PathBeats.f
  rw [alive13]
  simp only [Option.bind_some, if_true, weftlinelaw13_Program.f]
  by_cases h : goodQ s d w m z t c a er no se
  · rw [beat_yes s d w m z t c a er no se h (k + 19), refbeat_yes s d w m z t c a er no se h (k + 19), beaten_yes s d w m z t c a er no se h (k + 16), refbeaten_yes s d w m z t c a er no se h (k + 16)]
    simp only [Option.bind_some, weftlinelaw13_Document.f]
    by_cases h1 : x = 0 ∨ ¬ tickP y
    · simp only [if_pos h1]
      by_cases h2 : x = 0 ∨ x ≠ no
      · simp only [if_pos h2]; simp [weftlinenum_Num.f]
      · simp only [if_neg h2]
        by_cases h3 : y < se ∨ ¬ tickP y
        · simp only [if_pos h3]; simp [weftlinenum_Num.f]
        · simp only [if_neg h3]; simp [weftlinenum_Num.f]
    · simp only [if_neg h1]
      by_cases h0 : no = 0
      · simp only [if_pos h0]
        by_cases h2 : x = 0 ∨ x ≠ no
        · simp only [if_pos h2]; simp [weftlinenum_Num.f]
        · simp only [if_neg h2]
          by_cases h3 : y < se ∨ ¬ tickP y
          · simp only [if_pos h3]; simp [weftlinenum_Num.f]
          · simp only [if_neg h3]; simp [weftlinenum_Num.f]
      · simp only [if_neg h0]
        by_cases h2 : x = 0 ∨ x ≠ no
        · simp only [if_pos h2]; simp [weftlinenum_Num.f]
        · simp only [if_neg h2]
          by_cases h3 : y < se ∨ ¬ tickP y
          · simp only [if_pos h3]; simp [weftlinenum_Num.f]
          · simp only [if_neg h3]; simp [weftlinenum_Num.f]
  · unfold path_Path_Beat.f path_Path_Beaten.f weftlineref13_Beat.f weftlineref13_Beaten.f
    rw [qgood, qrefgood, decide_eq_false h]
    simp [path_Path_Beat.j0, weftlineref13_Beat.j0, weftlinelaw13_Document.f, weftlinenum_Num.f]
end
end Go.Proofs.Ytblooffiggciiaa.Pl
/- WkB -/
namespace Go.Proofs.Ytblooffiggciiaa.Wk
open Go.RowKit Go.Proofs.YtblooffiggciiaaW.PrintWords Go.Proofs.Ytblooffiggciiaa.PAll
set_option linter.unusedVariables false
theorem pathBeats_walk (W : World) (a0_0_0 : Int) (a0_0_1 : Int) (a0_0_2 : Int) (a0_0_3 : Bool) (a0_1_0 : Int) (a0_1_1 : Int) (a0_1_2 : Int) (a0_2 : Int) (a0_3 : Int) (a0_4 : Int) (a0_5 : Int) (a1 : Int) (a2 : Int) (w0_0_0 : (Lit.int .i64 a0_0_0).wf = true) (w0_0_1 : (Lit.int .i64 a0_0_1).wf = true) (w0_0_2 : (Lit.int .i64 a0_0_2).wf = true) (w0_1_0 : (Lit.int .i64 a0_1_0).wf = true) (w0_1_1 : (Lit.int .i64 a0_1_1).wf = true) (w0_1_2 : (Lit.int .i64 a0_1_2).wf = true) (w0_2 : (Lit.int .i64 a0_2).wf = true) (w0_3 : (Lit.int .i64 a0_3).wf = true) (w0_4 : (Lit.int .u32 a0_4).wf = true) (w0_5 : (Lit.int .i64 a0_5).wf = true) (w1 : (Lit.int .u32 a1).wf = true) (w2 : (Lit.int .i64 a2).wf = true) :
    Calls Try.prog 4 #[.agg #[.int .i64 a0_0_0, .int .i64 a0_0_1, .int .i64 a0_0_2, .bool a0_0_3, .int .i64 a0_1_0, .int .i64 a0_1_1, .int .i64 a0_1_2, .int .i64 a0_2, .int .i64 a0_3, .int .u32 a0_4, .int .i64 a0_5], .int .u32 a1, .int .i64 a2] W fun e w' => e = .returned (.bool true) ∧ Below W.heap.size W w' :=
  weftlinelaw13_PathBeats.calls_t 20 a0_0_0 a0_0_1 a0_0_2 a0_0_3 a0_1_0 a0_1_1 a0_1_2 a0_2 a0_3 a0_4 a0_5 a1 a2 true W (Aside0.mk rfl) (Pl.beats _ _ _ _ _ _ _ _ _ _ _ 0 _ _)
end Go.Proofs.Ytblooffiggciiaa.Wk
/- Opn -/
namespace Go.Proofs.Ytblooffiggciiaa.Opn
open Go.RowKit Go.Deep Go.WideShapes Go.ChangeShapes Go.Proofs.YtblooffiggciiaaW.PrintWords
set_option linter.unusedVariables false
/-- What reads at type T is told by the kind d, and fits wf. -/
def Opn (P : Program) (w : World) (T : TypeId) {α : Type} (d : Kd α) (wf : α → Prop) : Prop :=
  ∀ {H : Type} {enc : TypeId × Value → H} {base : Nat} {spare : Nat → Bool} {held : Bool} {fuel : Nat} {cs : List Value} {y : DataW H × List MemPlace},
    DataW.trod enc P w base spare held fuel T cs = some y → ∃ x, d.K w x cs ∧ wf x

section
variable {P : Program} {w : World} {T e : TypeId} {α β : Type}
theorem int {k : IntKind} (hu : P.underlying T = some (.int k)) : Opn P w T (Kd.int k) (fun x => (Lit.int k x).wf = true) := by
  intro H enc base spare held fuel cs y h
  obtain ⟨n, rfl, _, wn⟩ := DataW.trod_int hu h
  exact ⟨n, rfl, wn⟩
theorem bool (hu : P.underlying T = some .bool) : Opn P w T Kd.bool (fun _ => True) := by
  intro H enc base spare held fuel cs y h
  obtain ⟨n, rfl, _⟩ := DataW.trod_bool hu h
  exact ⟨n, rfl, trivial⟩
/-- A part of cells. -/
def At (w : World) (d : Kd α) (wf : α → Prop) (cs : List Value) : Prop := ∃ x, d.K w x cs ∧ wf x
theorem at_field {d : Kd α} {wf : α → Prop} {H : Type} {enc : TypeId × Value → H} {base : Nat} {spare : Nat → Bool} {held : Bool} {n i o s : Nat} {f : Field} {cs : List Value} {xs : List (DataW H × List MemPlace)}
    (h : DataW.trod enc P w base spare held n f.type ((cs.drop f.offset).take (P.cellsOf f.type)) = xs[i]?) (ho : f.offset = o) (ht : f.type = T) (hs : P.cellsOf T = s) (hi : i < xs.length) (he : Opn P w T d wf) : At w d wf ((cs.drop o).take s) := by
  subst ho; subst ht; subst hs
  rw [List.getElem?_eq_getElem hi] at h
  exact he h
theorem at_pair {a : Kd α} {b : Kd β} {wa : α → Prop} {wb : β → Prop} {cs : List Value} {o s t : Nat} (ha : At w a wa ((cs.drop o).take s)) (hb : At w b wb ((cs.drop (o + s)).take t)) :
    At w (Kd.pair a b) (fun x => wa x.1 ∧ wb x.2) ((cs.drop o).take (s + t)) := by
  obtain ⟨x, hx, w1⟩ := ha
  obtain ⟨y, hy, w2⟩ := hb
  refine ⟨(x, y), ⟨_, _, ?_, hx, hy⟩, w1, w2⟩
  rw [List.take_add, List.drop_drop]
theorem of_at {d : Kd α} {wf : α → Prop} {cs : List Value} {n : Nat} (h : At w d wf ((cs.drop 0).take n)) (hl : cs.length = n) : ∃ x, d.K w x cs ∧ wf x := by
  rw [List.drop_zero, List.take_of_length_le (by omega)] at h
  exact h
end
end Go.Proofs.Ytblooffiggciiaa.Opn
/- RowPathBeats -/
namespace Go.Proofs.Ytblooffiggciiaa.pathBeats
open Go.ChangeShapes Go.WideShapes Go.ChangeAt Go.RowKit Go.Proofs.YtblooffiggciiaaW.PrintWords
open Go.ChangeMaps (open_string shut_string)
set_option linter.unusedVariables false
theorem own : ownKnob Try.prog.godebug = none := by kernel_rfl
theorem laidOut : laidOutB Try.prog = true := by kernel_rfl
theorem cells27 : Try.prog.cellsOf 27 = 1 := by kernel_rfl
theorem cells26 : Try.prog.cellsOf 26 = 1 := by kernel_rfl
theorem cells25 : Try.prog.cellsOf 25 = 3 := by kernel_rfl
theorem cells23 : Try.prog.cellsOf 23 = 4 := by kernel_rfl
theorem cells4 : Try.prog.cellsOf 4 = 1 := by kernel_rfl
theorem cells3 : Try.prog.cellsOf 3 = 1 := by kernel_rfl
theorem opn23 {W : World} : Opn.Opn Try.prog W 23 (Kd.pair (Kd.int .i64) (Kd.pair (Kd.int .i64) (Kd.pair (Kd.int .i64) Kd.bool))) (fun x => ((Lit.int .i64 x.1).wf = true ∧ (Lit.int .i64 x.2.1).wf = true ∧ (Lit.int .i64 x.2.2.1).wf = true ∧ True)) := by
  intro H enc base spare held fuel cs y h
  obtain ⟨xs, n, _, rfl, hl, hlen, hf⟩ := DataW.trod_struct Try.underlying23 h
  have g0 : Opn.At W (Kd.int .i64) (fun x => (Lit.int .i64 x).wf = true) ((cs.drop 0).take 1) := Opn.at_field (hf 0 _ rfl) rfl rfl cells3 (by rw [hlen]; decide) (Opn.int Try.underlying3)
  have g1 : Opn.At W (Kd.int .i64) (fun x => (Lit.int .i64 x).wf = true) ((cs.drop 1).take 1) := Opn.at_field (hf 1 _ rfl) rfl rfl cells3 (by rw [hlen]; decide) (Opn.int Try.underlying3)
  have g2 : Opn.At W (Kd.int .i64) (fun x => (Lit.int .i64 x).wf = true) ((cs.drop 2).take 1) := Opn.at_field (hf 2 _ rfl) rfl rfl cells3 (by rw [hlen]; decide) (Opn.int Try.underlying3)
  have g3 : Opn.At W Kd.bool (fun x => True) ((cs.drop 3).take 1) := Opn.at_field (hf 3 _ rfl) rfl rfl cells4 (by rw [hlen]; decide) (Opn.bool Try.underlying4)
  obtain ⟨x, hk, hw⟩ := Opn.of_at (Opn.at_pair g0 (Opn.at_pair g1 (Opn.at_pair g2 g3))) (hl.trans (by kernel_rfl))
  exact ⟨x, hk, hw⟩
theorem opn25 {W : World} : Opn.Opn Try.prog W 25 (Kd.pair (Kd.int .i64) (Kd.pair (Kd.int .i64) (Kd.int .i64))) (fun x => ((Lit.int .i64 x.1).wf = true ∧ (Lit.int .i64 x.2.1).wf = true ∧ (Lit.int .i64 x.2.2).wf = true)) := by
  intro H enc base spare held fuel cs y h
  obtain ⟨xs, n, _, rfl, hl, hlen, hf⟩ := DataW.trod_struct Try.underlying25 h
  have g0 : Opn.At W (Kd.int .i64) (fun x => (Lit.int .i64 x).wf = true) ((cs.drop 0).take 1) := Opn.at_field (hf 0 _ rfl) rfl rfl cells3 (by rw [hlen]; decide) (Opn.int Try.underlying3)
  have g1 : Opn.At W (Kd.int .i64) (fun x => (Lit.int .i64 x).wf = true) ((cs.drop 1).take 1) := Opn.at_field (hf 1 _ rfl) rfl rfl cells3 (by rw [hlen]; decide) (Opn.int Try.underlying3)
  have g2 : Opn.At W (Kd.int .i64) (fun x => (Lit.int .i64 x).wf = true) ((cs.drop 2).take 1) := Opn.at_field (hf 2 _ rfl) rfl rfl cells3 (by rw [hlen]; decide) (Opn.int Try.underlying3)
  obtain ⟨x, hk, hw⟩ := Opn.of_at (Opn.at_pair g0 (Opn.at_pair g1 g2)) (hl.trans (by kernel_rfl))
  exact ⟨x, hk, hw⟩
theorem opn29 {W : World} : Opn.Opn Try.prog W 29 (Kd.pair (Kd.pair (Kd.int .i64) (Kd.pair (Kd.int .i64) (Kd.pair (Kd.int .i64) Kd.bool))) (Kd.pair (Kd.pair (Kd.int .i64) (Kd.pair (Kd.int .i64) (Kd.int .i64))) (Kd.pair (Kd.int .i64) (Kd.pair (Kd.int .i64) (Kd.pair (Kd.int .u32) (Kd.int .i64)))))) (fun x => (((Lit.int .i64 x.1.1).wf = true ∧ (Lit.int .i64 x.1.2.1).wf = true ∧ (Lit.int .i64 x.1.2.2.1).wf = true ∧ True) ∧ ((Lit.int .i64 x.2.1.1).wf = true ∧ (Lit.int .i64 x.2.1.2.1).wf = true ∧ (Lit.int .i64 x.2.1.2.2).wf = true) ∧ (Lit.int .i64 x.2.2.1).wf = true ∧ (Lit.int .i64 x.2.2.2.1).wf = true ∧ (Lit.int .u32 x.2.2.2.2.1).wf = true ∧ (Lit.int .i64 x.2.2.2.2.2).wf = true)) := by
  intro H enc base spare held fuel cs y h
  obtain ⟨xs, n, _, rfl, hl, hlen, hf⟩ := DataW.trod_struct Try.underlying29 h
  have g0 : Opn.At W (Kd.pair (Kd.int .i64) (Kd.pair (Kd.int .i64) (Kd.pair (Kd.int .i64) Kd.bool))) (fun x => ((Lit.int .i64 x.1).wf = true ∧ (Lit.int .i64 x.2.1).wf = true ∧ (Lit.int .i64 x.2.2.1).wf = true ∧ True)) ((cs.drop 0).take 4) := Opn.at_field (hf 0 _ rfl) rfl rfl cells23 (by rw [hlen]; decide) opn23
  have g1 : Opn.At W (Kd.pair (Kd.int .i64) (Kd.pair (Kd.int .i64) (Kd.int .i64))) (fun x => ((Lit.int .i64 x.1).wf = true ∧ (Lit.int .i64 x.2.1).wf = true ∧ (Lit.int .i64 x.2.2).wf = true)) ((cs.drop 4).take 3) := Opn.at_field (hf 1 _ rfl) rfl rfl cells25 (by rw [hlen]; decide) opn25
  have g2 : Opn.At W (Kd.int .i64) (fun x => (Lit.int .i64 x).wf = true) ((cs.drop 7).take 1) := Opn.at_field (hf 2 _ rfl) rfl rfl cells26 (by rw [hlen]; decide) (Opn.int Try.underlying26)
  have g3 : Opn.At W (Kd.int .i64) (fun x => (Lit.int .i64 x).wf = true) ((cs.drop 8).take 1) := Opn.at_field (hf 3 _ rfl) rfl rfl cells3 (by rw [hlen]; decide) (Opn.int Try.underlying3)
  have g4 : Opn.At W (Kd.int .u32) (fun x => (Lit.int .u32 x).wf = true) ((cs.drop 9).take 1) := Opn.at_field (hf 4 _ rfl) rfl rfl cells27 (by rw [hlen]; decide) (Opn.int Try.underlying27)
  have g5 : Opn.At W (Kd.int .i64) (fun x => (Lit.int .i64 x).wf = true) ((cs.drop 10).take 1) := Opn.at_field (hf 5 _ rfl) rfl rfl cells3 (by rw [hlen]; decide) (Opn.int Try.underlying3)
  obtain ⟨x, hk, hw⟩ := Opn.of_at (Opn.at_pair g0 (Opn.at_pair g1 (Opn.at_pair g2 (Opn.at_pair g3 (Opn.at_pair g4 g5))))) (hl.trans (by kernel_rfl))
  exact ⟨x, hk, hw⟩
set_option maxRecDepth 100000 in
theorem lifted (os : Os) (started : os.Started) (H : Type) (enc : TypeId × Value → H) :
    ReturnsInHanded {} Try.checked os 4 .any (Rows.pathBeatsSpec.pre6 enc Try.prog Try.f4 Rows.pathBeatsRow.domain false) (Rows.pathBeatsSpec.post enc Try.prog Try.f4 false true false false) := by
  refine returnsInHanded_of_change_sized (C := Try.checked) own started (by kernel_rfl) Try.func4
    (ChangeSpec.witness6 (enc := enc) (C := Try.checked) false ⟨#[], #[.agg #[.int .i64 0, .int .i64 0, .int .i64 0, .bool false, .int .i64 0, .int .i64 0, .int .i64 0, .int .i64 0, .int .i64 0, .int .u32 0, .int .i64 0], .int .u32 0, .int .i64 0], []⟩ 8 (by kernel_rfl) (by kernel_rfl) (by kernel_rfl) (by kernel_rfl)) ?_
  intro W base args ds gs before hval0 hW hcnd hsz0 _
  have hval : ∀ (j : Nat) t v, Try.f4.params[j]? = some t → args[j]? = some v → Value.okWide Try.prog W .any base t v := hval0
  have hW' := hW
  obtain ⟨p, q, hA0, hV, rfl, hfz, hnd⟩ := hW
  have hA : DataW.TrodAll enc Try.prog W 0 (fun _ => true) true Try.f4.params.toList args.toList ds p := hA0
  rw [Try.params4] at hA hval
  obtain ⟨v0, vs0, d0, ds0, p0, q0, hargs, rfl, rfl, h0, r0⟩ := trodAll_cons hA
  obtain ⟨v1, vs1, d1, ds1, p1, q1, rfl, rfl, rfl, h1, r1⟩ := trodAll_cons r0
  obtain ⟨v2, vs2, d2, ds2, p2, q2, rfl, rfl, rfl, h2, r2⟩ := trodAll_cons r1
  obtain ⟨rfl, rfl, rfl⟩ := trodAll_nil r2
  obtain rfl : args = #[v0, v1, v2] := by cases args; simp_all
  obtain ⟨rfl, rfl⟩ := trodVars_none hV
  have kk0 := h0
  have lt0 : ∀ x ∈ p0, x.block < W.heap.size := by obtain ⟨m, hm⟩ := kk0; exact DataW.trod_lt m _ _ _ hm
  obtain ⟨fu0, hf0⟩ := h0
  obtain ⟨cs0, rfl, _⟩ := okWide_struct Try.underlying29 (hval 0 29 v0 rfl rfl)
  obtain ⟨xx0, hk0, ww0⟩ := opn29 hf0
  obtain ⟨⟨a0_0_0, a0_0_1, a0_0_2, a0_0_3⟩, ⟨a0_1_0, a0_1_1, a0_1_2⟩, a0_2, a0_3, a0_4, a0_5⟩ := xx0
  obtain ⟨z0, hz0⟩ : ∃ z, z = (Value.agg cs0).cells.toList := ⟨_, rfl⟩
  rw [← hz0] at hk0
  obtain ⟨_, _, rfl, ⟨_, _, rfl, rfl, ⟨_, _, rfl, rfl, ⟨_, _, rfl, rfl, rfl⟩⟩⟩, ⟨_, _, rfl, ⟨_, _, rfl, rfl, ⟨_, _, rfl, rfl, rfl⟩⟩, ⟨_, _, rfl, rfl, ⟨_, _, rfl, rfl, ⟨_, _, rfl, rfl, rfl⟩⟩⟩⟩⟩ := hk0
  simp only [Value.cells, List.cons_append, List.nil_append] at hz0
  obtain rfl : cs0 = #[.int .i64 a0_0_0, .int .i64 a0_0_1, .int .i64 a0_0_2, .bool a0_0_3, .int .i64 a0_1_0, .int .i64 a0_1_1, .int .i64 a0_1_2, .int .i64 a0_2, .int .i64 a0_3, .int .u32 a0_4, .int .i64 a0_5] := by rw [← Array.toArray_toList (xs := cs0), ← hz0]
  obtain ⟨⟨w0_0_0, w0_0_1, w0_0_2, _⟩, ⟨w0_1_0, w0_1_1, w0_1_2⟩, w0_2, w0_3, w0_4, w0_5⟩ := ww0
  have kk1 := h1
  have lt1 : ∀ x ∈ p1, x.block < W.heap.size := by obtain ⟨m, hm⟩ := kk1; exact DataW.trod_lt m _ _ _ hm
  obtain ⟨a1, rfl, rfl, rfl, w1⟩ := open_int Try.underlying27 (hval 1 27 v1 rfl rfl) h1
  have kk2 := h2
  have lt2 : ∀ x ∈ p2, x.block < W.heap.size := by obtain ⟨m, hm⟩ := kk2; exact DataW.trod_lt m _ _ _ hm
  obtain ⟨a2, rfl, rfl, rfl, w2⟩ := open_int Try.underlying3 (hval 2 3 v2 rfl rfl) h2
  clear hA0 hval0 hsz0
  refine (Wk.pathBeats_walk W _ _ _ _ _ _ _ _ _ _ _ a1 a2 w0_0_0 w0_0_1 w0_0_2 w0_1_0 w0_1_1 w0_1_2 w0_2 w0_3 w0_4 w0_5 w1 w2).mono fun e W' ⟨he, bel⟩ => ?_
  subst he
  exact ⟨_, rfl, _, _, _, [], _, [], hW', trodAll_mk1 (shut_bool Try.underlying4 _), (trodAll_cons_mk (Below.trod laidOut (by kernel_rfl) (of_decide_eq_true (by kernel_rfl)) kk0 bel lt0) (trodAll_cons_mk (Below.trod laidOut (by kernel_rfl) (of_decide_eq_true (by kernel_rfl)) kk1 bel lt1) (trodAll_cons_mk (Below.trod laidOut (by kernel_rfl) (of_decide_eq_true (by kernel_rfl)) kk2 bel lt2) trodAll_mk0))), rfl, bel.frame _, fun h => by cases h⟩
theorem over : Rows.pathBeatsRow.holds Try.pinned (OpenSpec.ofChange Rows.pathBeatsSpec) :=
  OpenClaim.holds_of_wide 4 Try.f4 rfl rfl rfl rfl rfl rfl rfl ⟨rfl, rfl, rfl, rfl, rfl⟩ rfl rfl rfl rfl rfl (by kernel_rfl) Try.func4 (by kernel_rfl)
    (of_decide_eq_true (by kernel_rfl)) (by unfold Func.isWrapper; first | (rw [if_pos (by decide +kernel)]; kernel_rfl) | (rw [if_neg (by decide +kernel)]; exact ⟨rfl, rfl⟩))
    (fun os started H enc _ => lifted os started H enc)
end Go.Proofs.Ytblooffiggciiaa.pathBeats
namespace Go.Proofs.Ytblooffiggciiaa
/-- The row, under a short name, for the claim. -/
theorem pathBeats_holds : Rows.PathBeatsSaid := pathBeats.over
#print axioms pathBeats_holds
end Go.Proofs.Ytblooffiggciiaa
