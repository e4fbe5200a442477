-- Written by a program of this session (wip/xprint.py), over the kit's print. Not trusted: Lean checks it.
import Derived.Test.YtglafffghbhnbaaProg
import Derived.Below
import Derived.Deep.Draws
import Derived.Deep.AppendLies
import Derived.Maps.AppendAt
import Derived.OwnWalk
import Derived.Laws.BytesArg
import Derived.Laws.MakeOwn
import Derived.Laws.OwnMore
import Derived.Deep.OwnRows
import Derived.Tactics
import Derived.Lib.ConvBytes
import Derived.Laws.Slices
import Derived.WalkKit
import Derived.KernelRfl
import Derived.RowKit3
import Derived.Deep.LoopGhost
import Derived.Deep.QuietTactic
import Derived.BigQuiet
import Derived.WideLaws
import Derived.Deep.DeepCutAuto
import Derived.Deep.CutBlock
import Derived.Deep.RegionHeld3
import Derived.Laws.Rows
import Derived.Lib.AppendStr
import Derived.ArgAppend
import Derived.Laws.IdiomCopy
import Derived.OrdersHeld
import Derived.Laws.BitsLemmas
import Derived.RowKit
import Derived.Lib.OthersKept
import Derived.Lib.SmallJoins
import Derived.Lib.Strings
import Derived.Test.YtglafffghbhnbaaG
import Derived.Test.YtglafffghbhnbaaWWords
import Derived.Test.YtglafffghbhnbaaWLast
import Derived.Test.YtglafffghbhnbaaWTab
import Derived.Test.YtglafffghbhnbaaWFour
import Derived.Test.YtglafffghbhnbaaWQPut
import Derived.Test.YtglafffghbhnbaaWApart
import Derived.Test.YtglafffghbhnbaaWArr
import Derived.Test.YtglafffghbhnbaaWZeros
import Derived.Test.YtglafffghbhnbaaWFoot
import Derived.Test.YtglafffghbhnbaaWKept
import Derived.Test.YtglafffghbhnbaaWShare
import Derived.Test.YtglafffghbhnbaaWN
import Derived.Test.YtglafffghbhnbaaWFootNe
import Derived.Test.YtglafffghbhnbaaWAt
import Derived.Test.YtglafffghbhnbaaWEqStruct
import Derived.Test.YtglafffghbhnbaaWRepsOne
import Derived.Test.YtglafffghbhnbaaWInv
import Derived.Test.YtglafffghbhnbaaWInvWords
import Derived.Test.YtglafffghbhnbaaWGuard
import Derived.Test.YtglafffghbhnbaaWNEv
import Derived.Test.YtglafffghbhnbaaWMore
namespace Go.Proofs.Ytglafffghbhnbaa.S
open Go.Proofs.YtglafffghbhnbaaG
open Go.RowKit Go.Proofs.YtglafffghbhnbaaW.PrintWords Go.Proofs.YtglafffghbhnbaaW.PrintLast Go.Proofs.YtglafffghbhnbaaW.PrintMore
attribute [local go_sem] max2_int min2_int max_two min_two max_three min_three max_four min_four   -- for this text's walks alone
set_option linter.unusedVariables false
set_option linter.unusedSimpArgs false



def errW : Option Int → Value
  | none => .nilIface
  | some c => .iface 0 (.int .i64 c)
theorem errW_none : errW none = .nilIface := rfl
theorem errW_some (c : Int) : errW (some c) = .iface 0 (.int .i64 c) := rfl

-- the values' own types

end Go.Proofs.Ytglafffghbhnbaa.S
