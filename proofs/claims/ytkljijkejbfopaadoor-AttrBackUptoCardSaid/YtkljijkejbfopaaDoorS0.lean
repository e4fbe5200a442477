-- Written by a program of this session (wip/xprint.py), over the kit's print. Not trusted: Lean checks it.
import Derived.Test.YtkljijkejbfopaaDoorProg
import Derived.Below
import Derived.Deep.Draws
import Derived.Deep.AppendLies
import Derived.Maps.AppendAt
import Derived.OwnWalk
import Derived.Laws.BytesArg
import Derived.Laws.MakeOwn
import Derived.Laws.OwnMore
import Derived.Deep.OwnRows
import Derived.Tactics
import Derived.Lib.ConvBytes
import Derived.Laws.Slices
import Derived.WalkKit
import Derived.KernelRfl
import Derived.RowKit3
import Derived.Deep.LoopGhost
import Derived.Deep.QuietTactic
import Derived.BigQuiet
import Derived.WideLaws
import Derived.Deep.DeepCutAuto
import Derived.Deep.CutBlock
import Derived.Deep.RegionHeld3
import Derived.Laws.Rows
import Derived.Lib.AppendStr
import Derived.ArgAppend
import Derived.Laws.IdiomCopy
import Derived.OrdersHeld
import Derived.Laws.BitsLemmas
import Derived.RowKit
import Derived.Lib.OthersKept
import Derived.Lib.SmallJoins
import Derived.Lib.Strings
import Derived.Test.YtkljijkejbfopaaDoorG
import Derived.Test.YtkljijkejbfopaaDoorGl
import Derived.Test.YtkljijkejbfopaaDoorShelf
import Derived.Test.YtkljijkejbfopaaDoorWWords
import Derived.Test.YtkljijkejbfopaaDoorWLast
import Derived.Test.YtkljijkejbfopaaDoorWTab
import Derived.Test.YtkljijkejbfopaaDoorWFour
import Derived.Test.YtkljijkejbfopaaDoorWQPut
import Derived.Test.YtkljijkejbfopaaDoorWApart
import Derived.Test.YtkljijkejbfopaaDoorWArr
import Derived.Test.YtkljijkejbfopaaDoorWZeros
import Derived.Test.YtkljijkejbfopaaDoorWFoot
import Derived.Test.YtkljijkejbfopaaDoorWKept
import Derived.Test.YtkljijkejbfopaaDoorWShare
import Derived.Test.YtkljijkejbfopaaDoorWN
import Derived.Test.YtkljijkejbfopaaDoorWFootNe
import Derived.Test.YtkljijkejbfopaaDoorWAt
import Derived.Test.YtkljijkejbfopaaDoorWEqStruct
import Derived.Test.YtkljijkejbfopaaDoorWRepsOne
import Derived.Test.YtkljijkejbfopaaDoorWInv
import Derived.Test.YtkljijkejbfopaaDoorWInvWords
import Derived.Test.YtkljijkejbfopaaDoorWGuard
import Derived.Test.YtkljijkejbfopaaDoorWNEv
import Derived.Test.YtkljijkejbfopaaDoorWMore
namespace Go.Proofs.YtkljijkejbfopaaDoor.S
open Go.Proofs.YtkljijkejbfopaaDoorG
open Go.RowKit Go.Proofs.YtkljijkejbfopaaDoorW.PrintWords Go.Proofs.YtkljijkejbfopaaDoorW.PrintLast Go.Proofs.YtkljijkejbfopaaDoorW.PrintMore
attribute [local go_sem] max2_int min2_int max_two min_two max_three min_three max_four min_four   -- for this text's walks alone
set_option linter.unusedVariables false
set_option linter.unusedSimpArgs false



def errW : Option Int → Value
  | none => .nilIface
  | some c => .iface 0 (.int .i64 c)
theorem errW_none : errW none = .nilIface := rfl
theorem errW_some (c : Int) : errW (some c) = .iface 0 (.int .i64 c) := rfl

theorem info9 : (Tryd.prog.info? 9).map (fun i => (i.zero, i.size, i.bytes)) = some (some (.string ⟨#[]⟩), 1, 16) := by kernel_rfl
-- the values' own types

end Go.Proofs.YtkljijkejbfopaaDoor.S
