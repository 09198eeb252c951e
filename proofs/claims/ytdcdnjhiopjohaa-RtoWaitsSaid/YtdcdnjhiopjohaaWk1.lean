/- The walks of RtoKeeps and RtoWaits, out of the printed contracts and the plain laws. -/
import Derived.Test.YtdcdnjhiopjohaaRto2
import Derived.Test.YtdcdnjhiopjohaaPAllx5
import Derived.Test.YtdcdnjhiopjohaaPAllx7
namespace Go.Proofs.Ytdcdnjhiopjohaa.Wk
open Go.RowKit Go.Proofs.YtdcdnjhiopjohaaW.PrintWords Go.Proofs.Ytdcdnjhiopjohaa.PAll
set_option linter.unusedVariables false
theorem rtoKeeps_walk (W : World) (a0_0 : Int) (a0_1 : Int) (a0_2 : Int) (a0_3 : Bool) (A1 : Option Addr) (c1 : Nat) (l1 : (List Int)) (w0_0 : (Lit.int .i64 a0_0).wf = true) (w0_1 : (Lit.int .i64 a0_1).wf = true) (w0_2 : (Lit.int .i64 a0_2).wf = true) (hc1 : l1.length ≤ c1) (hr1 : Kd.C (Kd.int .i64) W A1 l1.length l1) (w1 : (∀ zl1 ∈ l1, (Lit.int .i64 zl1).wf = true)) :
    Calls Try.prog 4 #[.agg #[.int .i64 a0_0, .int .i64 a0_1, .int .i64 a0_2, .bool a0_3], .slice A1 l1.length c1] W fun e w' => e = .returned (.bool true) ∧ Below W.heap.size W w' :=
  weftlinelaw11_RtoKeeps.calls 110 a0_0 a0_1 a0_2 a0_3 A1 c1 l1 true W hr1 hc1 (Pl.keeps _ _ _ _ _ _ (Nat.le_refl _))
theorem rtoWaits_walk (W : World) (a0_0 : Int) (a0_1 : Int) (a0_2 : Int) (a0_3 : Bool) (a1 : Int) (w0_0 : (Lit.int .i64 a0_0).wf = true) (w0_1 : (Lit.int .i64 a0_1).wf = true) (w0_2 : (Lit.int .i64 a0_2).wf = true) (w1 : (Lit.int .i64 a1).wf = true) :
    Calls Try.prog 6 #[.agg #[.int .i64 a0_0, .int .i64 a0_1, .int .i64 a0_2, .bool a0_3], .int .i64 a1] W fun e w' => e = .returned (.bool true) ∧ Below W.heap.size W w' :=
  weftlinelaw11_RtoWaits.calls 1010 a0_0 a0_1 a0_2 a0_3 a1 true W (Pl.waits _ _ _ _ _ _ (Nat.le_refl _))
end Go.Proofs.Ytdcdnjhiopjohaa.Wk
