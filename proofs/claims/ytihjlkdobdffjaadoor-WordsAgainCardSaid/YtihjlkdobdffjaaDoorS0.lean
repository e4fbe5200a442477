-- Written by a program of this session (wip/xprint.py), over the kit's print. Not trusted: Lean checks it.
import Derived.Test.YtihjlkdobdffjaaDoorProg
import Derived.Below
import Derived.Deep.Draws
import Derived.Deep.AppendLies
import Derived.Maps.AppendAt
import Derived.OwnWalk
import Derived.Laws.BytesArg
import Derived.Laws.MakeOwn
import Derived.Laws.OwnMore
import Derived.Deep.OwnRows
import Derived.Tactics
import Derived.Lib.ConvBytes
import Derived.Laws.Slices
import Derived.WalkKit
import Derived.KernelRfl
import Derived.RowKit3
import Derived.Deep.LoopGhost
import Derived.Deep.QuietTactic
import Derived.BigQuiet
import Derived.WideLaws
import Derived.Deep.DeepCutAuto
import Derived.Deep.CutBlock
import Derived.Deep.RegionHeld3
import Derived.Laws.Rows
import Derived.Lib.AppendStr
import Derived.ArgAppend
import Derived.Laws.IdiomCopy
import Derived.OrdersHeld
import Derived.Laws.BitsLemmas
import Derived.RowKit
import Derived.Lib.OthersKept
import Derived.Lib.SmallJoins
import Derived.Lib.Strings
import Derived.Lib.ItoaWalk
import Derived.Lib.ItoaMem
import Derived.Laws.IdiomStrings
import Derived.Sort.Row
import Derived.Test.YtihjlkdobdffjaaDoorG
import Derived.Test.YtihjlkdobdffjaaDoorGl
import Derived.Test.YtihjlkdobdffjaaDoorWWords
import Derived.Test.YtihjlkdobdffjaaDoorWLast
import Derived.Test.YtihjlkdobdffjaaDoorWTab
import Derived.Test.YtihjlkdobdffjaaDoorWFour
import Derived.Test.YtihjlkdobdffjaaDoorWQPut
import Derived.Test.YtihjlkdobdffjaaDoorWApart
import Derived.Test.YtihjlkdobdffjaaDoorWArr
import Derived.Test.YtihjlkdobdffjaaDoorWZeros
import Derived.Test.YtihjlkdobdffjaaDoorWFoot
import Derived.Test.YtihjlkdobdffjaaDoorWKept
import Derived.Test.YtihjlkdobdffjaaDoorWShare
import Derived.Test.YtihjlkdobdffjaaDoorWN
import Derived.Test.YtihjlkdobdffjaaDoorWFootNe
import Derived.Test.YtihjlkdobdffjaaDoorWAt
import Derived.Test.YtihjlkdobdffjaaDoorWEqStruct
import Derived.Test.YtihjlkdobdffjaaDoorWRepsOne
import Derived.Test.YtihjlkdobdffjaaDoorWInv
import Derived.Test.YtihjlkdobdffjaaDoorWInvWords
import Derived.Test.YtihjlkdobdffjaaDoorWGuard
import Derived.Test.YtihjlkdobdffjaaDoorWNEv
import Derived.Test.YtihjlkdobdffjaaDoorWMore
namespace Go.Proofs.YtihjlkdobdffjaaDoor.S
open Go.Proofs.YtihjlkdobdffjaaDoorG
open Go.RowKit Go.Proofs.YtihjlkdobdffjaaDoorW.PrintWords Go.Proofs.YtihjlkdobdffjaaDoorW.PrintLast Go.Proofs.YtihjlkdobdffjaaDoorW.PrintMore
attribute [local go_sem] max2_int min2_int max_two min_two max_three min_three max_four min_four   -- for this text's walks alone
set_option linter.unusedVariables false
set_option linter.unusedSimpArgs false



def errW : Option Int → Value
  | none => .nilIface
  | some c => .iface 0 (.int .i64 c)
theorem errW_none : errW none = .nilIface := rfl
theorem errW_some (c : Int) : errW (some c) = .iface 0 (.int .i64 c) := rfl

theorem info5 : (Tryd.prog.info? 5).map (fun i => (i.zero, i.size, i.bytes)) = some (some (.int .u8 0), 1, 1) := by kernel_rfl
theorem info9 : (Tryd.prog.info? 9).map (fun i => (i.zero, i.size, i.bytes)) = some (some (.string ⟨#[]⟩), 1, 16) := by kernel_rfl
-- the values' own types

end Go.Proofs.YtihjlkdobdffjaaDoor.S
