-- Written by a program of this session (wip/xprint.py), over the kit's print. Not trusted: Lean checks it.
import Derived.Test.YtnidnmhcjngmeaaDoorProg
import Derived.Below
import Derived.Deep.Draws
import Derived.Deep.AppendLies
import Derived.Maps.AppendAt
import Derived.OwnWalk
import Derived.Laws.BytesArg
import Derived.Laws.MakeOwn
import Derived.Laws.OwnMore
import Derived.Deep.OwnRows
import Derived.Tactics
import Derived.Lib.ConvBytes
import Derived.Laws.Slices
import Derived.WalkKit
import Derived.KernelRfl
import Derived.RowKit3
import Derived.Deep.LoopGhost
import Derived.Deep.QuietTactic
import Derived.BigQuiet
import Derived.WideLaws
import Derived.Deep.DeepCutAuto
import Derived.Deep.CutBlock
import Derived.Deep.RegionHeld3
import Derived.Laws.Rows
import Derived.Lib.AppendStr
import Derived.ArgAppend
import Derived.Laws.IdiomCopy
import Derived.OrdersHeld
import Derived.Laws.BitsLemmas
import Derived.RowKit
import Derived.Lib.OthersKept
import Derived.Lib.SmallJoins
import Derived.Lib.Strings
import Derived.Lib.ItoaWalk
import Derived.Lib.ItoaMem
import Derived.Laws.IdiomStrings
import Derived.Sort.Row
import Derived.Test.YtnidnmhcjngmeaaDoorG
import Derived.Test.YtnidnmhcjngmeaaDoorWWords
import Derived.Test.YtnidnmhcjngmeaaDoorWLast
import Derived.Test.YtnidnmhcjngmeaaDoorWTab
import Derived.Test.YtnidnmhcjngmeaaDoorWFour
import Derived.Test.YtnidnmhcjngmeaaDoorWQPut
import Derived.Test.YtnidnmhcjngmeaaDoorWApart
import Derived.Test.YtnidnmhcjngmeaaDoorWArr
import Derived.Test.YtnidnmhcjngmeaaDoorWZeros
import Derived.Test.YtnidnmhcjngmeaaDoorWFoot
import Derived.Test.YtnidnmhcjngmeaaDoorWKept
import Derived.Test.YtnidnmhcjngmeaaDoorWShare
import Derived.Test.YtnidnmhcjngmeaaDoorWN
import Derived.Test.YtnidnmhcjngmeaaDoorWFootNe
import Derived.Test.YtnidnmhcjngmeaaDoorWAt
import Derived.Test.YtnidnmhcjngmeaaDoorWEqStruct
import Derived.Test.YtnidnmhcjngmeaaDoorWRepsOne
import Derived.Test.YtnidnmhcjngmeaaDoorWInv
import Derived.Test.YtnidnmhcjngmeaaDoorWInvWords
import Derived.Test.YtnidnmhcjngmeaaDoorWGuard
import Derived.Test.YtnidnmhcjngmeaaDoorWNEv
import Derived.Test.YtnidnmhcjngmeaaDoorWMore
namespace Go.Proofs.YtnidnmhcjngmeaaDoor.S
open Go.Proofs.YtnidnmhcjngmeaaDoorG
open Go.RowKit Go.Proofs.YtnidnmhcjngmeaaDoorW.PrintWords Go.Proofs.YtnidnmhcjngmeaaDoorW.PrintLast Go.Proofs.YtnidnmhcjngmeaaDoorW.PrintMore
attribute [local go_sem] max2_int min2_int max_two min_two max_three min_three max_four min_four   -- for this text's walks alone
set_option linter.unusedVariables false
set_option linter.unusedSimpArgs false



def errW : Option Int → Value
  | none => .nilIface
  | some c => .iface 0 (.int .i64 c)
theorem errW_none : errW none = .nilIface := rfl
theorem errW_some (c : Int) : errW (some c) = .iface 0 (.int .i64 c) := rfl

theorem info9 : (Tryd.prog.info? 9).map (fun i => (i.zero, i.size, i.bytes)) = some (some (.string ⟨#[]⟩), 1, 16) := by kernel_rfl
-- the values' own types

end Go.Proofs.YtnidnmhcjngmeaaDoor.S
