/- The walks of CwndGrows and CwndLoses, out of the printed contracts and the plain laws. -/
import Derived.Test.YtdcdnjhiopjohaaPAllx31
import Derived.Test.YtdcdnjhiopjohaaPAllx40
import Derived.Test.YtdcdnjhiopjohaaCwnd
namespace Go.Proofs.Ytdcdnjhiopjohaa.Wk
open Go.RowKit Go.Proofs.YtdcdnjhiopjohaaW.PrintWords Go.Proofs.Ytdcdnjhiopjohaa.PAll
set_option linter.unusedVariables false
theorem cwndGrows_walk (W : World) (a0_0 : Int) (a0_1 : Int) (a0_2 : Int) (w0_0 : (Lit.int .i64 a0_0).wf = true) (w0_1 : (Lit.int .i64 a0_1).wf = true) (w0_2 : (Lit.int .i64 a0_2).wf = true) :
    Calls Try.prog 7 #[.agg #[.int .i64 a0_0, .int .i64 a0_1, .int .i64 a0_2]] W fun e w' => e = .returned (.bool true) ∧ Below W.heap.size W w' :=
  weftlinelaw12_CwndGrows.calls 1 a0_0 a0_1 a0_2 true W (Pl.grows _ _ _ 0)
theorem cwndLoses_walk (W : World) (a0_0 : Int) (a0_1 : Int) (a0_2 : Int) (w0_0 : (Lit.int .i64 a0_0).wf = true) (w0_1 : (Lit.int .i64 a0_1).wf = true) (w0_2 : (Lit.int .i64 a0_2).wf = true) :
    Calls Try.prog 8 #[.agg #[.int .i64 a0_0, .int .i64 a0_1, .int .i64 a0_2]] W fun e w' => e = .returned (.bool true) ∧ Below W.heap.size W w' :=
  weftlinelaw12_CwndLoses.calls 2 a0_0 a0_1 a0_2 true W (Pl.loses _ _ _)
end Go.Proofs.Ytdcdnjhiopjohaa.Wk
