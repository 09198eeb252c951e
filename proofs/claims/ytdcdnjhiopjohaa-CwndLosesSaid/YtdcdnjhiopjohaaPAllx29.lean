-- printed by the kit's print.py, called for several laws at once (pj.sh)
import Derived.Test.YtdcdnjhiopjohaaPAllx0
import Derived.Test.YtdcdnjhiopjohaaPAllx2
import Derived.Test.YtdcdnjhiopjohaaPAllx24
import Derived.Test.YtdcdnjhiopjohaaPAllx28
import Derived.Test.YtdcdnjhiopjohaaAid
import Derived.Test.YtdcdnjhiopjohaaPAllxe
namespace Go.Proofs.Ytdcdnjhiopjohaa.PAll
open Go.RowKit Go.Proofs.YtdcdnjhiopjohaaW.PrintWords Go.Proofs.YtdcdnjhiopjohaaW.PrintLast Go.Proofs.YtdcdnjhiopjohaaW.PrintMore
attribute [local go_sem] max2_int min2_int max_two min_two max_three min_three max_four min_four   -- for this text's walks alone
attribute [local go_sem] Go.Proofs.Ytdcdnjhiopjohaa.Aid.isSome_setCell
set_option linter.unusedVariables false
set_option linter.unusedSimpArgs false

attribute [local go_sem high] eqA50 eqA34 eqA49
/-! ### weftlinelaw12_alive: function 22 -/
def weftlinelaw12_alive.f  : Option (Bool) := (cwnd_First.f).bind fun bt298 => ((cwnd_Window_Acked.f bt298.1 bt298.2.1 bt298.2.2 100 512).bind fun bt301 => (some (bt301.1 == 612 && (bt301.2.1 == 2000 && (bt301.2.2 == 0)))))
set_option maxHeartbeats 8000000 in
set_option maxRecDepth 100000 in
theorem weftlinelaw12_alive.calls  (r : Bool) (w : World) (h : weftlinelaw12_alive.f  = some r) :
    Calls Try.prog 22 #[] w fun e w' => e = .returned (.bool r) ∧ Below w.heap.size w w' := by
  have hu50 := Try.underlying50
  have HB := Aside0.mk (Below.refl w.heap.size w)
  have H : ((cwnd_First.f).bind fun bt298 => ((cwnd_Window_Acked.f bt298.1 bt298.2.1 bt298.2.2 100 512).bind fun bt301 => (some (bt301.1 == 612 && (bt301.2.1 == 2000 && (bt301.2.2 == 0)))))) = some r := h
  clear h
  replace H := Option.bind_eq_some_iff.mp H
  obtain ⟨⟨t298, t299, t300⟩, A10, H⟩ := H
  replace H : ((cwnd_Window_Acked.f t298 t299 t300 100 512).bind fun bt301 => (some (bt301.1 == 612 && (bt301.2.1 == 2000 && (bt301.2.2 == 0))))) = some r := H
  have A1 := Aside0.mk A10
  clear A10
  replace H := Option.bind_eq_some_iff.mp H
  obtain ⟨⟨t301, t302, t303⟩, A20, H⟩ := H
  replace H : (some (t301 == 612 && (t302 == 2000 && (t303 == 0)))) = some r := H
  have A2 := Aside0.mk A20
  clear A20
  obtain rfl := Option.some.inj H
  go_enter Try.func22, Try.ntmps22
  go_wp2_with (first | ((with_reducible refine gate_callee (f := 34) rfl ?_); refine goesL_ (some 1) rfl rfl Try.func34 (by kernel_rfl) rfl #[] rfl (by (try simp only [List.map_toArray, List.map_cons, List.map_nil]); first | done | rfl | (simp only [List.length_drop, List.length_take]; rfl)) ?_; (with_reducible refine (cwnd_First.calls  t298 t299 t300 _ A1.out).mono ?_); rintro e w3 ⟨rfl, hb⟩; refine ⟨_, rfl, ?_⟩; have n0_ := Aside0.mk (below_step (by repeat (first | (with_reducible first | exact HB.out | apply below_alloc | apply pw_below_drewN | apply below_drew1) | exact HB.out)) hb); clear HB; have HB := n0_; clear n0_; (try clear hb); (try clear hb2); (try clear hk); (try clear hi)) | ((with_reducible refine gate_callee (f := 26) rfl ?_); refine goesL_ (some 2) rfl rfl Try.func26 (by kernel_rfl) rfl #[.agg #[.int .i64 t298, .int .i64 t299, .int .i64 t300], .int .i64 100, .int .i64 512] rfl (by (try simp only [List.map_toArray, List.map_cons, List.map_nil]); first | done | rfl | (simp only [List.length_drop, List.length_take]; rfl)) ?_; (with_reducible refine (cwnd_Window_Acked.calls t298 t299 t300 100 512 t301 t302 t303 _ A2.out).mono ?_); rintro e w4 ⟨rfl, hb⟩; refine ⟨_, rfl, ?_⟩; have n0_ := Aside0.mk (below_step (by repeat (first | (with_reducible first | exact HB.out | apply below_alloc | apply pw_below_drewN | apply below_drew1) | exact HB.out)) hb); clear HB; have HB := n0_; clear n0_; (try clear hb); (try clear hb2); (try clear hk); (try clear hi)))
  go_ret
  exact ⟨by first | rfl | (simp [errW_none, errW_some] <;> rfl) | (simp [*, errW_none, errW_some] <;> rfl), by repeat (first | (with_reducible first | exact HB.out | apply below_alloc | apply pw_below_drewN | apply below_drew1) | exact HB.out)⟩

end Go.Proofs.Ytdcdnjhiopjohaa.PAll
