-- printed by the kit's print.py, called for several laws at once (pj.sh)
import Derived.Test.YtdcdnjhiopjohaaProg
import Derived.Below
import Derived.Deep.Draws
import Derived.Deep.AppendLies
import Derived.Maps.AppendAt
import Derived.OwnWalk
import Derived.Laws.BytesArg
import Derived.Laws.MakeOwn
import Derived.Laws.OwnMore
import Derived.Deep.OwnRows
import Derived.Tactics
import Derived.Lib.ConvBytes
import Derived.Laws.Slices
import Derived.WalkKit
import Derived.KernelRfl
import Derived.RowKit3
import Derived.Deep.LoopGhost
import Derived.Deep.QuietTactic
import Derived.BigQuiet
import Derived.WideLaws
import Derived.Deep.DeepCutAuto
import Derived.Deep.CutBlock
import Derived.Deep.RegionHeld3
import Derived.Laws.Rows
import Derived.Lib.AppendStr
import Derived.ArgAppend
import Derived.Laws.IdiomCopy
import Derived.OrdersHeld
import Derived.Laws.BitsLemmas
import Derived.RowKit
import Derived.Test.YtdcdnjhiopjohaaWWords
import Derived.Test.YtdcdnjhiopjohaaWLast
import Derived.Test.YtdcdnjhiopjohaaWTab
import Derived.Test.YtdcdnjhiopjohaaWFour
import Derived.Test.YtdcdnjhiopjohaaWQPut
import Derived.Test.YtdcdnjhiopjohaaWApart
import Derived.Test.YtdcdnjhiopjohaaWArr
import Derived.Test.YtdcdnjhiopjohaaWZeros
import Derived.Test.YtdcdnjhiopjohaaWFoot
import Derived.Test.YtdcdnjhiopjohaaWKept
import Derived.Test.YtdcdnjhiopjohaaWShare
import Derived.Test.YtdcdnjhiopjohaaWN
import Derived.Test.YtdcdnjhiopjohaaWFootNe
import Derived.Test.YtdcdnjhiopjohaaWAt
import Derived.Test.YtdcdnjhiopjohaaWEqStruct
import Derived.Test.YtdcdnjhiopjohaaWRepsOne
import Derived.Test.YtdcdnjhiopjohaaWInv
import Derived.Test.YtdcdnjhiopjohaaWInvWords
import Derived.Test.YtdcdnjhiopjohaaWGuard
import Derived.Test.YtdcdnjhiopjohaaWNEv
import Derived.Test.YtdcdnjhiopjohaaWMore
import Derived.Test.YtdcdnjhiopjohaaAid
namespace Go.Proofs.Ytdcdnjhiopjohaa.PAll
open Go.RowKit Go.Proofs.YtdcdnjhiopjohaaW.PrintWords Go.Proofs.YtdcdnjhiopjohaaW.PrintLast Go.Proofs.YtdcdnjhiopjohaaW.PrintMore
attribute [local go_sem] max2_int min2_int max_two min_two max_three min_three max_four min_four   -- for this text's walks alone
attribute [local go_sem] Go.Proofs.Ytdcdnjhiopjohaa.Aid.isSome_setCell
set_option linter.unusedVariables false
set_option linter.unusedSimpArgs false



def errW : Option Int → Value
  | none => .nilIface
  | some c => .iface 42 (.int .i64 c)
theorem errW_none : errW none = .nilIface := rfl
theorem errW_some (c : Int) : errW (some c) = .iface 42 (.int .i64 c) := rfl

-- the values' own types

end Go.Proofs.Ytdcdnjhiopjohaa.PAll
