-- Written by a program of this session (wip/xprint.py), over the kit's print. Not trusted: Lean checks it.
import Derived.Test.YtglafffghbhnbaaDoorProg
import Derived.Below
import Derived.Deep.Draws
import Derived.Deep.AppendLies
import Derived.Maps.AppendAt
import Derived.OwnWalk
import Derived.Laws.BytesArg
import Derived.Laws.MakeOwn
import Derived.Laws.OwnMore
import Derived.Deep.OwnRows
import Derived.Tactics
import Derived.Lib.ConvBytes
import Derived.Laws.Slices
import Derived.WalkKit
import Derived.KernelRfl
import Derived.RowKit3
import Derived.Deep.LoopGhost
import Derived.Deep.QuietTactic
import Derived.BigQuiet
import Derived.WideLaws
import Derived.Deep.DeepCutAuto
import Derived.Deep.CutBlock
import Derived.Deep.RegionHeld3
import Derived.Laws.Rows
import Derived.Lib.AppendStr
import Derived.ArgAppend
import Derived.Laws.IdiomCopy
import Derived.OrdersHeld
import Derived.Laws.BitsLemmas
import Derived.RowKit
import Derived.Lib.OthersKept
import Derived.Lib.SmallJoins
import Derived.Lib.Strings
import Derived.Test.YtglafffghbhnbaaDoorG
import Derived.Test.YtglafffghbhnbaaDoorGl
import Derived.Test.YtglafffghbhnbaaDoorShelf
import Derived.Test.YtglafffghbhnbaaDoorWWords
import Derived.Test.YtglafffghbhnbaaDoorWLast
import Derived.Test.YtglafffghbhnbaaDoorWTab
import Derived.Test.YtglafffghbhnbaaDoorWFour
import Derived.Test.YtglafffghbhnbaaDoorWQPut
import Derived.Test.YtglafffghbhnbaaDoorWApart
import Derived.Test.YtglafffghbhnbaaDoorWArr
import Derived.Test.YtglafffghbhnbaaDoorWZeros
import Derived.Test.YtglafffghbhnbaaDoorWFoot
import Derived.Test.YtglafffghbhnbaaDoorWKept
import Derived.Test.YtglafffghbhnbaaDoorWShare
import Derived.Test.YtglafffghbhnbaaDoorWN
import Derived.Test.YtglafffghbhnbaaDoorWFootNe
import Derived.Test.YtglafffghbhnbaaDoorWAt
import Derived.Test.YtglafffghbhnbaaDoorWEqStruct
import Derived.Test.YtglafffghbhnbaaDoorWRepsOne
import Derived.Test.YtglafffghbhnbaaDoorWInv
import Derived.Test.YtglafffghbhnbaaDoorWInvWords
import Derived.Test.YtglafffghbhnbaaDoorWGuard
import Derived.Test.YtglafffghbhnbaaDoorWNEv
import Derived.Test.YtglafffghbhnbaaDoorWMore
namespace Go.Proofs.YtglafffghbhnbaaDoor.S
open Go.Proofs.YtglafffghbhnbaaDoorG
open Go.RowKit Go.Proofs.YtglafffghbhnbaaDoorW.PrintWords Go.Proofs.YtglafffghbhnbaaDoorW.PrintLast Go.Proofs.YtglafffghbhnbaaDoorW.PrintMore
attribute [local go_sem] max2_int min2_int max_two min_two max_three min_three max_four min_four   -- for this text's walks alone
set_option linter.unusedVariables false
set_option linter.unusedSimpArgs false



def errW : Option Int → Value
  | none => .nilIface
  | some c => .iface 0 (.int .i64 c)
theorem errW_none : errW none = .nilIface := rfl
theorem errW_some (c : Int) : errW (some c) = .iface 0 (.int .i64 c) := rfl

-- the values' own types

end Go.Proofs.YtglafffghbhnbaaDoor.S
