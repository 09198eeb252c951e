-- printed by the kit's print.py, called for several laws at once (pj.sh)
import Derived.Test.YthflkloghbhhgaaPAllx0
import Derived.Test.YthflkloghbhhgaaAid
import Derived.Test.YthflkloghbhhgaaSh
namespace Go.Proofs.Ythflkloghbhhgaa.PAll
open Go.RowKit Go.Proofs.YthflkloghbhhgaaW.PrintWords Go.Proofs.YthflkloghbhhgaaW.PrintLast Go.Proofs.YthflkloghbhhgaaW.PrintMore Go.Proofs.Ythflkloghbhhgaa.Sh
attribute [local go_sem] max2_int min2_int max_two min_two max_three min_three max_four min_four   -- for this text's walks alone
attribute [local go_sem] Go.Proofs.Ythflkloghbhhgaa.Aid.isSome_setCell
set_option linter.unusedVariables false
set_option linter.unusedSimpArgs false

/-! ### serial_Step_uint32: function 31 -/
def serial_Step_uint32.f (a0 : Int) (a1 : Int) : Option (Int) := some ((a0 + ((a1) % 4294967296)) % 4294967296)
set_option maxHeartbeats 8000000 in
set_option maxRecDepth 100000 in
theorem serial_Step_uint32.calls (a0 : Int) (a1 : Int) (r : Int) (w : World) (h : serial_Step_uint32.f a0 a1 = some r) :
    Calls Try.prog 31 #[.int .u32 a0, .int .i64 a1] w fun e w' => e = .returned (.int .u32 r) ∧ Drawn0 w w' := by
  have H : (some ((a0 + ((a1) % 4294967296)) % 4294967296)) = some r := h
  clear h
  obtain rfl := Option.some.inj H
  go_enter Try.func31, Try.ntmps31
  go_wp2
  go_ret
  exact ⟨by first | rfl | (simp; done) | (simp [*]; done), by repeat (first | exact Drawn0.refl _ | apply Drawn0.step)⟩

end Go.Proofs.Ythflkloghbhhgaa.PAll
