import Derived.Test.YthflkloghbhhgaaRowA
/- Errors as numbers. -/
namespace Go.Proofs.Ythflkloghbhhgaa.Rw
open Go.RowKit Go.Proofs.YthflkloghbhhgaaW.PrintWords
set_option linter.unusedVariables false
set_option linter.unusedSimpArgs false
theorem num_err (c : Int) (hc : (c == 0) = false) (w : World) : Calls Try.prog 30 #[.iface 38 (.int .i64 c)] w fun e w' => e = .returned (.int .i64 c) ∧ w = w' := by
  have hta : ∀ (v : Value) (W : World), (Instr.typeAssert (.iface 38 v) 29 38 true).run Try.prog W = .ok (.tuple #[v, .bool true]) W := fun v W => by rfl
  have hc2 : (c != 0) = true := by rw [bne_iff_ne]; rw [beq_eq_false_iff_ne] at hc; exact hc
  go_enter Try.func30, Try.ntmps30
  go_wp2
  go_ret
  exact ⟨rfl, rfl⟩
theorem num_nil (w : World) : Calls Try.prog 30 #[.nilIface] w fun e w' => e = .returned (.int .i64 0) ∧ w = w' := by
  go_enter Try.func30, Try.ntmps30
  go_wp2
  go_ret
  exact ⟨rfl, rfl⟩
theorem is_err (c d : Int) (hc : (c == 0) = false) (w : World) : Calls Try.prog 13 #[.iface 38 (.int .i64 c), .int .i64 d] w fun e w' => e = .returned (.bool (c == d)) ∧ w = w' := by
  go_enter Try.func13, Try.ntmps13
  go_wp2_with (first | (go_at_call 30; refine (num_err c hc _).mono ?_; rintro e w' ⟨rfl, rfl⟩))
  go_ret
  exact ⟨rfl, rfl⟩
theorem is_nil (d : Int) (w : World) : Calls Try.prog 13 #[.nilIface, .int .i64 d] w fun e w' => e = .returned (.bool ((0 : Int) == d)) ∧ w = w' := by
  go_enter Try.func13, Try.ntmps13
  go_wp2_with (first | (go_at_call 30; refine (num_nil _).mono ?_; rintro e w' ⟨rfl, rfl⟩))
  go_ret
  exact ⟨rfl, rfl⟩
theorem is_no (c : Int) (hc : (c == 0) = false) (w : World) : Calls Try.prog 13 #[.iface 38 (.int .i64 c), .int .i64 c] w fun e w' => e = .returned (.bool true) ∧ w = w' := by
  have h := is_err c c hc w
  rwa [beq_self_eq_true] at h
end Go.Proofs.Ythflkloghbhhgaa.Rw
