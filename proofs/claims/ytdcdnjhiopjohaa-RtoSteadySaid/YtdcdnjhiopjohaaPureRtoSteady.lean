/- RtoSteady: where each answer takes as long as the first one the smoothed time stays that, and the deviation never rises: for every input, no condition. -/
import Derived.Test.YtdcdnjhiopjohaaPAllx4
import Derived.Test.YtdcdnjhiopjohaaRto
namespace Go.Proofs.Ytdcdnjhiopjohaa.Pure
open Go.RowKit Go.Proofs.Ytdcdnjhiopjohaa.PAll Go.Proofs.YtdcdnjhiopjohaaW.PrintWords Go.Proofs.YtdcdnjhiopjohaaW.PrintLast
theorem RtoSteady : weftlinelaw11_RtoSteady.Pure := fun a0 a1 _ _ => ⟨42, Pl.steady a0 a1 42 (by omega)⟩
end Go.Proofs.Ytdcdnjhiopjohaa.Pure
