-- printed by the kit's print.py, called for several laws at once (pj.sh)
import Derived.Test.YthflkloghbhhgaaPAllx0
import Derived.Test.YthflkloghbhhgaaPAllx15
import Derived.Test.YthflkloghbhhgaaAid
import Derived.Test.YthflkloghbhhgaaSh
namespace Go.Proofs.Ythflkloghbhhgaa.PAll
open Go.RowKit Go.Proofs.YthflkloghbhhgaaW.PrintWords Go.Proofs.YthflkloghbhhgaaW.PrintLast Go.Proofs.YthflkloghbhhgaaW.PrintMore Go.Proofs.Ythflkloghbhhgaa.Sh
attribute [local go_sem] max2_int min2_int max_two min_two max_three min_three max_four min_four   -- for this text's walks alone
attribute [local go_sem] Go.Proofs.Ythflkloghbhhgaa.Aid.isSome_setCell
set_option linter.unusedVariables false
set_option linter.unusedSimpArgs false

/-! ### serial_Within_uint32: function 42 -/
def serial_Within_uint32.f (a0 : Int) (a1 : Int) (a2 : Int) : Option (Bool) := (serial_Far_uint32.f a1 a0).bind fun t101 => (some (decide (t101 < a2)))
set_option maxHeartbeats 8000000 in
set_option maxRecDepth 100000 in
theorem serial_Within_uint32.calls (a0 : Int) (a1 : Int) (a2 : Int) (r : Bool) (w : World) (h : serial_Within_uint32.f a0 a1 a2 = some r) :
    Calls Try.prog 42 #[.int .u32 a0, .int .u32 a1, .int .i64 a2] w fun e w' => e = .returned (.bool r) ∧ Drawn0 w w' := by
  have H : ((serial_Far_uint32.f a1 a0).bind fun t101 => (some (decide (t101 < a2)))) = some r := h
  clear h
  replace H := Option.bind_eq_some_iff.mp H
  obtain ⟨t101, A40, H⟩ := H
  replace H : (some (decide (t101 < a2))) = some r := H
  have A4 := Aside0.mk A40
  clear A40
  obtain rfl := Option.some.inj H
  go_enter Try.func42, Try.ntmps42
  go_wp2_with (first | ((with_reducible refine gate_callee (f := 32) rfl ?_); refine goesL_ (some 9) rfl rfl Try.func32 (by kernel_rfl) rfl #[.int .u32 a1, .int .u32 a0] rfl (by (try simp only [List.map_toArray, List.map_cons, List.map_nil]); first | done | rfl | (simp only [List.length_drop, List.length_take]; rfl)) ?_; (with_reducible refine (serial_Far_uint32.calls a1 a0 t101 _ A4.out).mono ?_); rintro e w' ⟨rfl, ⟨nd, rfl⟩⟩; refine ⟨_, rfl, ?_⟩))
  go_ret
  exact ⟨by first | rfl | (simp; done) | (simp [*]; done), by repeat (first | exact Drawn0.refl _ | apply Drawn0.step)⟩

end Go.Proofs.Ythflkloghbhhgaa.PAll
