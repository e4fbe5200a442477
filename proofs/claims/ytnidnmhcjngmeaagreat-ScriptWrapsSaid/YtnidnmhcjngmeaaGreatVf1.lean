import Derived.Test.YtnidnmhcjngmeaaGreatVaTy
import Derived.Test.YtnidnmhcjngmeaaGreatVf0
-- Written by a program of this session (wip/va/vaprint.py). Not trusted: Lean checks it.
set_option linter.unusedVariables false
set_option linter.unusedSimpArgs false
set_option autoImplicit false
set_option maxRecDepth 100000
namespace Go.Va
open Go.Proofs
/-! ### atlas/atlasref01.Rune: function 18 -/
def atlasref01_Rune.f (x0 : ByteArray) (x1 : Int) : Option (Int × Int) := (bif (decide (0 ≤ x1) && decide (x1 < ((x0).size : Int))) then (bif (decide ((IntKind.wrap .i64 (byteAt x0 x1)) < 128)) then (some ((IntKind.wrap .i64 (byteAt x0 x1)), 1)) else (bif (decide ((IntKind.wrap .i64 (byteAt x0 x1)) ≥ 194)) then (bif (decide ((IntKind.wrap .i64 (byteAt x0 x1)) ≤ 223)) then ((atlasref01_tail.f x0 (IntKind.wrap .i64 (x1 + 1))).bind fun r1 => (bif r1 then (bif (decide (0 ≤ (IntKind.wrap .i64 (x1 + 1))) && decide ((IntKind.wrap .i64 (x1 + 1)) < ((x0).size : Int))) then (some ((IntKind.wrap .i64 ((IntKind.wrap .i64 ((IntKind.wrap .i64 ((IntKind.wrap .i64 ((IntKind.wrap .i64 (byteAt x0 x1)) - 192)) * 64)) + (IntKind.wrap .i64 (byteAt x0 (IntKind.wrap .i64 (x1 + 1)))))) - 128)), 2)) else none) else (some ((-1), 1)))) else (bif (decide ((IntKind.wrap .i64 (byteAt x0 x1)) ≥ 224)) then (bif (decide ((IntKind.wrap .i64 (byteAt x0 x1)) ≤ 239)) then ((atlasref01_tail.f x0 (IntKind.wrap .i64 (x1 + 1))).bind fun r2 => (bif r2 then ((atlasref01_tail.f x0 (IntKind.wrap .i64 (x1 + 2))).bind fun r3 => (bif r3 then (bif (decide (0 ≤ (IntKind.wrap .i64 (x1 + 1))) && decide ((IntKind.wrap .i64 (x1 + 1)) < ((x0).size : Int))) then (bif (decide (0 ≤ (IntKind.wrap .i64 (x1 + 2))) && decide ((IntKind.wrap .i64 (x1 + 2)) < ((x0).size : Int))) then (bif (decide ((IntKind.wrap .i64 ((IntKind.wrap .i64 ((IntKind.wrap .i64 ((IntKind.wrap .i64 ((IntKind.wrap .i64 ((IntKind.wrap .i64 (byteAt x0 x1)) - 224)) * 4096)) + (IntKind.wrap .i64 ((IntKind.wrap .i64 ((IntKind.wrap .i64 (byteAt x0 (IntKind.wrap .i64 (x1 + 1)))) - 128)) * 64)))) + (IntKind.wrap .i64 (byteAt x0 (IntKind.wrap .i64 (x1 + 2)))))) - 128)) ≥ 2048)) then (bif (decide ((IntKind.wrap .i64 ((IntKind.wrap .i64 ((IntKind.wrap .i64 ((IntKind.wrap .i64 ((IntKind.wrap .i64 ((IntKind.wrap .i64 (byteAt x0 x1)) - 224)) * 4096)) + (IntKind.wrap .i64 ((IntKind.wrap .i64 ((IntKind.wrap .i64 (byteAt x0 (IntKind.wrap .i64 (x1 + 1)))) - 128)) * 64)))) + (IntKind.wrap .i64 (byteAt x0 (IntKind.wrap .i64 (x1 + 2)))))) - 128)) < 55296)) then (some ((IntKind.wrap .i64 ((IntKind.wrap .i64 ((IntKind.wrap .i64 ((IntKind.wrap .i64 ((IntKind.wrap .i64 ((IntKind.wrap .i64 (byteAt x0 x1)) - 224)) * 4096)) + (IntKind.wrap .i64 ((IntKind.wrap .i64 ((IntKind.wrap .i64 (byteAt x0 (IntKind.wrap .i64 (x1 + 1)))) - 128)) * 64)))) + (IntKind.wrap .i64 (byteAt x0 (IntKind.wrap .i64 (x1 + 2)))))) - 128)), 3)) else (bif (decide ((IntKind.wrap .i64 ((IntKind.wrap .i64 ((IntKind.wrap .i64 ((IntKind.wrap .i64 ((IntKind.wrap .i64 ((IntKind.wrap .i64 (byteAt x0 x1)) - 224)) * 4096)) + (IntKind.wrap .i64 ((IntKind.wrap .i64 ((IntKind.wrap .i64 (byteAt x0 (IntKind.wrap .i64 (x1 + 1)))) - 128)) * 64)))) + (IntKind.wrap .i64 (byteAt x0 (IntKind.wrap .i64 (x1 + 2)))))) - 128)) > 57343)) then (some ((IntKind.wrap .i64 ((IntKind.wrap .i64 ((IntKind.wrap .i64 ((IntKind.wrap .i64 ((IntKind.wrap .i64 ((IntKind.wrap .i64 (byteAt x0 x1)) - 224)) * 4096)) + (IntKind.wrap .i64 ((IntKind.wrap .i64 ((IntKind.wrap .i64 (byteAt x0 (IntKind.wrap .i64 (x1 + 1)))) - 128)) * 64)))) + (IntKind.wrap .i64 (byteAt x0 (IntKind.wrap .i64 (x1 + 2)))))) - 128)), 3)) else (some ((-1), 1)))) else (some ((-1), 1))) else none) else none) else (some ((-1), 1)))) else (some ((-1), 1)))) else (bif (decide ((IntKind.wrap .i64 (byteAt x0 x1)) ≥ 240)) then (bif (decide ((IntKind.wrap .i64 (byteAt x0 x1)) ≤ 244)) then ((atlasref01_tail.f x0 (IntKind.wrap .i64 (x1 + 1))).bind fun r4 => (bif r4 then ((atlasref01_tail.f x0 (IntKind.wrap .i64 (x1 + 2))).bind fun r5 => (bif r5 then ((atlasref01_tail.f x0 (IntKind.wrap .i64 (x1 + 3))).bind fun r6 => (bif r6 then (bif (decide (0 ≤ (IntKind.wrap .i64 (x1 + 1))) && decide ((IntKind.wrap .i64 (x1 + 1)) < ((x0).size : Int))) then (bif (decide (0 ≤ (IntKind.wrap .i64 (x1 + 2))) && decide ((IntKind.wrap .i64 (x1 + 2)) < ((x0).size : Int))) then (bif (decide (0 ≤ (IntKind.wrap .i64 (x1 + 3))) && decide ((IntKind.wrap .i64 (x1 + 3)) < ((x0).size : Int))) then (bif (decide ((IntKind.wrap .i64 ((IntKind.wrap .i64 ((IntKind.wrap .i64 ((IntKind.wrap .i64 ((IntKind.wrap .i64 ((IntKind.wrap .i64 ((IntKind.wrap .i64 (byteAt x0 x1)) - 240)) * 262144)) + (IntKind.wrap .i64 ((IntKind.wrap .i64 ((IntKind.wrap .i64 (byteAt x0 (IntKind.wrap .i64 (x1 + 1)))) - 128)) * 4096)))) + (IntKind.wrap .i64 ((IntKind.wrap .i64 ((IntKind.wrap .i64 (byteAt x0 (IntKind.wrap .i64 (x1 + 2)))) - 128)) * 64)))) + (IntKind.wrap .i64 (byteAt x0 (IntKind.wrap .i64 (x1 + 3)))))) - 128)) ≥ 65536)) then (bif (decide ((IntKind.wrap .i64 ((IntKind.wrap .i64 ((IntKind.wrap .i64 ((IntKind.wrap .i64 ((IntKind.wrap .i64 ((IntKind.wrap .i64 ((IntKind.wrap .i64 (byteAt x0 x1)) - 240)) * 262144)) + (IntKind.wrap .i64 ((IntKind.wrap .i64 ((IntKind.wrap .i64 (byteAt x0 (IntKind.wrap .i64 (x1 + 1)))) - 128)) * 4096)))) + (IntKind.wrap .i64 ((IntKind.wrap .i64 ((IntKind.wrap .i64 (byteAt x0 (IntKind.wrap .i64 (x1 + 2)))) - 128)) * 64)))) + (IntKind.wrap .i64 (byteAt x0 (IntKind.wrap .i64 (x1 + 3)))))) - 128)) ≤ 1114111)) then (some ((IntKind.wrap .i64 ((IntKind.wrap .i64 ((IntKind.wrap .i64 ((IntKind.wrap .i64 ((IntKind.wrap .i64 ((IntKind.wrap .i64 ((IntKind.wrap .i64 (byteAt x0 x1)) - 240)) * 262144)) + (IntKind.wrap .i64 ((IntKind.wrap .i64 ((IntKind.wrap .i64 (byteAt x0 (IntKind.wrap .i64 (x1 + 1)))) - 128)) * 4096)))) + (IntKind.wrap .i64 ((IntKind.wrap .i64 ((IntKind.wrap .i64 (byteAt x0 (IntKind.wrap .i64 (x1 + 2)))) - 128)) * 64)))) + (IntKind.wrap .i64 (byteAt x0 (IntKind.wrap .i64 (x1 + 3)))))) - 128)), 4)) else (some ((-1), 1))) else (some ((-1), 1))) else none) else none) else none) else (some ((-1), 1)))) else (some ((-1), 1)))) else (some ((-1), 1)))) else (some ((-1), 1))) else (some ((-1), 1)))) else (bif (decide ((IntKind.wrap .i64 (byteAt x0 x1)) ≥ 240)) then (bif (decide ((IntKind.wrap .i64 (byteAt x0 x1)) ≤ 244)) then ((atlasref01_tail.f x0 (IntKind.wrap .i64 (x1 + 1))).bind fun r7 => (bif r7 then ((atlasref01_tail.f x0 (IntKind.wrap .i64 (x1 + 2))).bind fun r8 => (bif r8 then ((atlasref01_tail.f x0 (IntKind.wrap .i64 (x1 + 3))).bind fun r9 => (bif r9 then (bif (decide (0 ≤ (IntKind.wrap .i64 (x1 + 1))) && decide ((IntKind.wrap .i64 (x1 + 1)) < ((x0).size : Int))) then (bif (decide (0 ≤ (IntKind.wrap .i64 (x1 + 2))) && decide ((IntKind.wrap .i64 (x1 + 2)) < ((x0).size : Int))) then (bif (decide (0 ≤ (IntKind.wrap .i64 (x1 + 3))) && decide ((IntKind.wrap .i64 (x1 + 3)) < ((x0).size : Int))) then (bif (decide ((IntKind.wrap .i64 ((IntKind.wrap .i64 ((IntKind.wrap .i64 ((IntKind.wrap .i64 ((IntKind.wrap .i64 ((IntKind.wrap .i64 ((IntKind.wrap .i64 (byteAt x0 x1)) - 240)) * 262144)) + (IntKind.wrap .i64 ((IntKind.wrap .i64 ((IntKind.wrap .i64 (byteAt x0 (IntKind.wrap .i64 (x1 + 1)))) - 128)) * 4096)))) + (IntKind.wrap .i64 ((IntKind.wrap .i64 ((IntKind.wrap .i64 (byteAt x0 (IntKind.wrap .i64 (x1 + 2)))) - 128)) * 64)))) + (IntKind.wrap .i64 (byteAt x0 (IntKind.wrap .i64 (x1 + 3)))))) - 128)) ≥ 65536)) then (bif (decide ((IntKind.wrap .i64 ((IntKind.wrap .i64 ((IntKind.wrap .i64 ((IntKind.wrap .i64 ((IntKind.wrap .i64 ((IntKind.wrap .i64 ((IntKind.wrap .i64 (byteAt x0 x1)) - 240)) * 262144)) + (IntKind.wrap .i64 ((IntKind.wrap .i64 ((IntKind.wrap .i64 (byteAt x0 (IntKind.wrap .i64 (x1 + 1)))) - 128)) * 4096)))) + (IntKind.wrap .i64 ((IntKind.wrap .i64 ((IntKind.wrap .i64 (byteAt x0 (IntKind.wrap .i64 (x1 + 2)))) - 128)) * 64)))) + (IntKind.wrap .i64 (byteAt x0 (IntKind.wrap .i64 (x1 + 3)))))) - 128)) ≤ 1114111)) then (some ((IntKind.wrap .i64 ((IntKind.wrap .i64 ((IntKind.wrap .i64 ((IntKind.wrap .i64 ((IntKind.wrap .i64 ((IntKind.wrap .i64 ((IntKind.wrap .i64 (byteAt x0 x1)) - 240)) * 262144)) + (IntKind.wrap .i64 ((IntKind.wrap .i64 ((IntKind.wrap .i64 (byteAt x0 (IntKind.wrap .i64 (x1 + 1)))) - 128)) * 4096)))) + (IntKind.wrap .i64 ((IntKind.wrap .i64 ((IntKind.wrap .i64 (byteAt x0 (IntKind.wrap .i64 (x1 + 2)))) - 128)) * 64)))) + (IntKind.wrap .i64 (byteAt x0 (IntKind.wrap .i64 (x1 + 3)))))) - 128)), 4)) else (some ((-1), 1))) else (some ((-1), 1))) else none) else none) else none) else (some ((-1), 1)))) else (some ((-1), 1)))) else (some ((-1), 1)))) else (some ((-1), 1))) else (some ((-1), 1))))) else (bif (decide ((IntKind.wrap .i64 (byteAt x0 x1)) ≥ 224)) then (bif (decide ((IntKind.wrap .i64 (byteAt x0 x1)) ≤ 239)) then ((atlasref01_tail.f x0 (IntKind.wrap .i64 (x1 + 1))).bind fun r10 => (bif r10 then ((atlasref01_tail.f x0 (IntKind.wrap .i64 (x1 + 2))).bind fun r11 => (bif r11 then (bif (decide (0 ≤ (IntKind.wrap .i64 (x1 + 1))) && decide ((IntKind.wrap .i64 (x1 + 1)) < ((x0).size : Int))) then (bif (decide (0 ≤ (IntKind.wrap .i64 (x1 + 2))) && decide ((IntKind.wrap .i64 (x1 + 2)) < ((x0).size : Int))) then (bif (decide ((IntKind.wrap .i64 ((IntKind.wrap .i64 ((IntKind.wrap .i64 ((IntKind.wrap .i64 ((IntKind.wrap .i64 ((IntKind.wrap .i64 (byteAt x0 x1)) - 224)) * 4096)) + (IntKind.wrap .i64 ((IntKind.wrap .i64 ((IntKind.wrap .i64 (byteAt x0 (IntKind.wrap .i64 (x1 + 1)))) - 128)) * 64)))) + (IntKind.wrap .i64 (byteAt x0 (IntKind.wrap .i64 (x1 + 2)))))) - 128)) ≥ 2048)) then (bif (decide ((IntKind.wrap .i64 ((IntKind.wrap .i64 ((IntKind.wrap .i64 ((IntKind.wrap .i64 ((IntKind.wrap .i64 ((IntKind.wrap .i64 (byteAt x0 x1)) - 224)) * 4096)) + (IntKind.wrap .i64 ((IntKind.wrap .i64 ((IntKind.wrap .i64 (byteAt x0 (IntKind.wrap .i64 (x1 + 1)))) - 128)) * 64)))) + (IntKind.wrap .i64 (byteAt x0 (IntKind.wrap .i64 (x1 + 2)))))) - 128)) < 55296)) then (some ((IntKind.wrap .i64 ((IntKind.wrap .i64 ((IntKind.wrap .i64 ((IntKind.wrap .i64 ((IntKind.wrap .i64 ((IntKind.wrap .i64 (byteAt x0 x1)) - 224)) * 4096)) + (IntKind.wrap .i64 ((IntKind.wrap .i64 ((IntKind.wrap .i64 (byteAt x0 (IntKind.wrap .i64 (x1 + 1)))) - 128)) * 64)))) + (IntKind.wrap .i64 (byteAt x0 (IntKind.wrap .i64 (x1 + 2)))))) - 128)), 3)) else (bif (decide ((IntKind.wrap .i64 ((IntKind.wrap .i64 ((IntKind.wrap .i64 ((IntKind.wrap .i64 ((IntKind.wrap .i64 ((IntKind.wrap .i64 (byteAt x0 x1)) - 224)) * 4096)) + (IntKind.wrap .i64 ((IntKind.wrap .i64 ((IntKind.wrap .i64 (byteAt x0 (IntKind.wrap .i64 (x1 + 1)))) - 128)) * 64)))) + (IntKind.wrap .i64 (byteAt x0 (IntKind.wrap .i64 (x1 + 2)))))) - 128)) > 57343)) then (some ((IntKind.wrap .i64 ((IntKind.wrap .i64 ((IntKind.wrap .i64 ((IntKind.wrap .i64 ((IntKind.wrap .i64 ((IntKind.wrap .i64 (byteAt x0 x1)) - 224)) * 4096)) + (IntKind.wrap .i64 ((IntKind.wrap .i64 ((IntKind.wrap .i64 (byteAt x0 (IntKind.wrap .i64 (x1 + 1)))) - 128)) * 64)))) + (IntKind.wrap .i64 (byteAt x0 (IntKind.wrap .i64 (x1 + 2)))))) - 128)), 3)) else (some ((-1), 1)))) else (some ((-1), 1))) else none) else none) else (some ((-1), 1)))) else (some ((-1), 1)))) else (bif (decide ((IntKind.wrap .i64 (byteAt x0 x1)) ≥ 240)) then (bif (decide ((IntKind.wrap .i64 (byteAt x0 x1)) ≤ 244)) then ((atlasref01_tail.f x0 (IntKind.wrap .i64 (x1 + 1))).bind fun r12 => (bif r12 then ((atlasref01_tail.f x0 (IntKind.wrap .i64 (x1 + 2))).bind fun r13 => (bif r13 then ((atlasref01_tail.f x0 (IntKind.wrap .i64 (x1 + 3))).bind fun r14 => (bif r14 then (bif (decide (0 ≤ (IntKind.wrap .i64 (x1 + 1))) && decide ((IntKind.wrap .i64 (x1 + 1)) < ((x0).size : Int))) then (bif (decide (0 ≤ (IntKind.wrap .i64 (x1 + 2))) && decide ((IntKind.wrap .i64 (x1 + 2)) < ((x0).size : Int))) then (bif (decide (0 ≤ (IntKind.wrap .i64 (x1 + 3))) && decide ((IntKind.wrap .i64 (x1 + 3)) < ((x0).size : Int))) then (bif (decide ((IntKind.wrap .i64 ((IntKind.wrap .i64 ((IntKind.wrap .i64 ((IntKind.wrap .i64 ((IntKind.wrap .i64 ((IntKind.wrap .i64 ((IntKind.wrap .i64 (byteAt x0 x1)) - 240)) * 262144)) + (IntKind.wrap .i64 ((IntKind.wrap .i64 ((IntKind.wrap .i64 (byteAt x0 (IntKind.wrap .i64 (x1 + 1)))) - 128)) * 4096)))) + (IntKind.wrap .i64 ((IntKind.wrap .i64 ((IntKind.wrap .i64 (byteAt x0 (IntKind.wrap .i64 (x1 + 2)))) - 128)) * 64)))) + (IntKind.wrap .i64 (byteAt x0 (IntKind.wrap .i64 (x1 + 3)))))) - 128)) ≥ 65536)) then (bif (decide ((IntKind.wrap .i64 ((IntKind.wrap .i64 ((IntKind.wrap .i64 ((IntKind.wrap .i64 ((IntKind.wrap .i64 ((IntKind.wrap .i64 ((IntKind.wrap .i64 (byteAt x0 x1)) - 240)) * 262144)) + (IntKind.wrap .i64 ((IntKind.wrap .i64 ((IntKind.wrap .i64 (byteAt x0 (IntKind.wrap .i64 (x1 + 1)))) - 128)) * 4096)))) + (IntKind.wrap .i64 ((IntKind.wrap .i64 ((IntKind.wrap .i64 (byteAt x0 (IntKind.wrap .i64 (x1 + 2)))) - 128)) * 64)))) + (IntKind.wrap .i64 (byteAt x0 (IntKind.wrap .i64 (x1 + 3)))))) - 128)) ≤ 1114111)) then (some ((IntKind.wrap .i64 ((IntKind.wrap .i64 ((IntKind.wrap .i64 ((IntKind.wrap .i64 ((IntKind.wrap .i64 ((IntKind.wrap .i64 ((IntKind.wrap .i64 (byteAt x0 x1)) - 240)) * 262144)) + (IntKind.wrap .i64 ((IntKind.wrap .i64 ((IntKind.wrap .i64 (byteAt x0 (IntKind.wrap .i64 (x1 + 1)))) - 128)) * 4096)))) + (IntKind.wrap .i64 ((IntKind.wrap .i64 ((IntKind.wrap .i64 (byteAt x0 (IntKind.wrap .i64 (x1 + 2)))) - 128)) * 64)))) + (IntKind.wrap .i64 (byteAt x0 (IntKind.wrap .i64 (x1 + 3)))))) - 128)), 4)) else (some ((-1), 1))) else (some ((-1), 1))) else none) else none) else none) else (some ((-1), 1)))) else (some ((-1), 1)))) else (some ((-1), 1)))) else (some ((-1), 1))) else (some ((-1), 1)))) else (bif (decide ((IntKind.wrap .i64 (byteAt x0 x1)) ≥ 240)) then (bif (decide ((IntKind.wrap .i64 (byteAt x0 x1)) ≤ 244)) then ((atlasref01_tail.f x0 (IntKind.wrap .i64 (x1 + 1))).bind fun r15 => (bif r15 then ((atlasref01_tail.f x0 (IntKind.wrap .i64 (x1 + 2))).bind fun r16 => (bif r16 then ((atlasref01_tail.f x0 (IntKind.wrap .i64 (x1 + 3))).bind fun r17 => (bif r17 then (bif (decide (0 ≤ (IntKind.wrap .i64 (x1 + 1))) && decide ((IntKind.wrap .i64 (x1 + 1)) < ((x0).size : Int))) then (bif (decide (0 ≤ (IntKind.wrap .i64 (x1 + 2))) && decide ((IntKind.wrap .i64 (x1 + 2)) < ((x0).size : Int))) then (bif (decide (0 ≤ (IntKind.wrap .i64 (x1 + 3))) && decide ((IntKind.wrap .i64 (x1 + 3)) < ((x0).size : Int))) then (bif (decide ((IntKind.wrap .i64 ((IntKind.wrap .i64 ((IntKind.wrap .i64 ((IntKind.wrap .i64 ((IntKind.wrap .i64 ((IntKind.wrap .i64 ((IntKind.wrap .i64 (byteAt x0 x1)) - 240)) * 262144)) + (IntKind.wrap .i64 ((IntKind.wrap .i64 ((IntKind.wrap .i64 (byteAt x0 (IntKind.wrap .i64 (x1 + 1)))) - 128)) * 4096)))) + (IntKind.wrap .i64 ((IntKind.wrap .i64 ((IntKind.wrap .i64 (byteAt x0 (IntKind.wrap .i64 (x1 + 2)))) - 128)) * 64)))) + (IntKind.wrap .i64 (byteAt x0 (IntKind.wrap .i64 (x1 + 3)))))) - 128)) ≥ 65536)) then (bif (decide ((IntKind.wrap .i64 ((IntKind.wrap .i64 ((IntKind.wrap .i64 ((IntKind.wrap .i64 ((IntKind.wrap .i64 ((IntKind.wrap .i64 ((IntKind.wrap .i64 (byteAt x0 x1)) - 240)) * 262144)) + (IntKind.wrap .i64 ((IntKind.wrap .i64 ((IntKind.wrap .i64 (byteAt x0 (IntKind.wrap .i64 (x1 + 1)))) - 128)) * 4096)))) + (IntKind.wrap .i64 ((IntKind.wrap .i64 ((IntKind.wrap .i64 (byteAt x0 (IntKind.wrap .i64 (x1 + 2)))) - 128)) * 64)))) + (IntKind.wrap .i64 (byteAt x0 (IntKind.wrap .i64 (x1 + 3)))))) - 128)) ≤ 1114111)) then (some ((IntKind.wrap .i64 ((IntKind.wrap .i64 ((IntKind.wrap .i64 ((IntKind.wrap .i64 ((IntKind.wrap .i64 ((IntKind.wrap .i64 ((IntKind.wrap .i64 (byteAt x0 x1)) - 240)) * 262144)) + (IntKind.wrap .i64 ((IntKind.wrap .i64 ((IntKind.wrap .i64 (byteAt x0 (IntKind.wrap .i64 (x1 + 1)))) - 128)) * 4096)))) + (IntKind.wrap .i64 ((IntKind.wrap .i64 ((IntKind.wrap .i64 (byteAt x0 (IntKind.wrap .i64 (x1 + 2)))) - 128)) * 64)))) + (IntKind.wrap .i64 (byteAt x0 (IntKind.wrap .i64 (x1 + 3)))))) - 128)), 4)) else (some ((-1), 1))) else (some ((-1), 1))) else none) else none) else none) else (some ((-1), 1)))) else (some ((-1), 1)))) else (some ((-1), 1)))) else (some ((-1), 1))) else (some ((-1), 1)))))) else none)
theorem atlasref01_Rune.run (x0 : ByteArray) (x1 : Int) : runF Tryz.prog (gamOf [(42, atlasref01_tail.g)]) noLam Tryz.f18 [(.val (.string x0)), (.val (.int .i64 x1))] some = (atlasref01_Rune.f x0 x1).bind fun r => some (.ret (.tup [(.val (.int .i64 r.1)), (.val (.int .i64 r.2))])) := by
  unfold atlasref01_Rune.f
  try simp only [cond_bind, elim_bind, Option.bind_some, Option.bind_none, Option.bind_assoc, Sum.elim_inl, Sum.elim_inr]
  kernel_rfl
def atlasref01_Rune.g : GFun := fun β args K => match args with
  | [a0, a1] => (strO a0).bind fun x0 => (intO .i64 a1).bind fun x1 => (atlasref01_Rune.f x0 x1).bind fun r => K (.ret (.tup [(.val (.int .i64 r.1)), (.val (.int .i64 r.2))]))
  | _ => none
theorem atlasref01_Rune.callable : callable Tryz.prog 18 = true := callable_of Tryz.func18 (by kernel_rfl)
theorem atlasref01_Rune.ok : GOk Tryz.prog 18 (atlasref01_Rune.g) := by
  intro β args K r h
  unfold atlasref01_Rune.g at h
  split at h
  · obtain ⟨x0, e0, h⟩ := bs h
    have ⟨x1, e1, h⟩ := bs h
    obtain ⟨y, hy, hK⟩ := bs h
    have hrun := atlasref01_Rune.run x0 x1
    rw [hy] at hrun
    obtain ⟨out, e, hs⟩ := sim_of_run Tryz.func18 (by kernel_rfl) mixed (gamOf_cons (atlasref01_tail.ok) atlasref01_tail.callable (gamOf_nil _)) (noLam_ok _ _) (args' := [(.val (.string x0)), (.val (.int .i64 x1))]) (RefsL.cons (Refs.of_eq (strO_eq e0)) (RefsL.cons (Refs.of_eq (intO_eq e1)) RefsL.nil)) hrun
    simp only [Option.some.injEq] at e
    subst e
    exact ⟨_, hK, hs⟩
  · cases h
/-! ### atlas/atlasref01.Blank: function 19 -/
def atlasref01_Blank.f (x0 : Int) : Option (Bool) := (bif (x0 == 9) then (bif (x0 == 9) then (some true) else (some false)) else (bif (x0 == 13) then (bif (x0 == 13) then (some true) else (some false)) else (bif (x0 == 32) then (bif (x0 == 32) then (some true) else (some false)) else (bif (x0 == 160) then (bif (x0 == 160) then (some true) else (some false)) else (bif (x0 == 8195) then (bif (x0 == 8195) then (some true) else (some false)) else (bif (x0 == 12288) then (some true) else (some false)))))))
theorem atlasref01_Blank.run (x0 : Int) : runF Tryz.prog (gamOf []) noLam Tryz.f19 [(.val (.int .i64 x0))] some = (atlasref01_Blank.f x0).bind fun r => some (.ret (.val (.bool r))) := by
  unfold atlasref01_Blank.f
  try simp only [cond_bind, elim_bind, Option.bind_some, Option.bind_none, Option.bind_assoc, Sum.elim_inl, Sum.elim_inr]
  kernel_rfl
def atlasref01_Blank.g : GFun := fun β args K => match args with
  | [a0] => (intO .i64 a0).bind fun x0 => (atlasref01_Blank.f x0).bind fun r => K (.ret (.val (.bool r)))
  | _ => none
theorem atlasref01_Blank.callable : callable Tryz.prog 19 = true := callable_of Tryz.func19 (by kernel_rfl)
theorem atlasref01_Blank.ok : GOk Tryz.prog 19 (atlasref01_Blank.g) := by
  intro β args K r h
  unfold atlasref01_Blank.g at h
  split at h
  · obtain ⟨x0, e0, h⟩ := bs h
    obtain ⟨y, hy, hK⟩ := bs h
    have hrun := atlasref01_Blank.run x0
    rw [hy] at hrun
    obtain ⟨out, e, hs⟩ := sim_of_run Tryz.func19 (by kernel_rfl) mixed (gamOf_nil _) (noLam_ok _ _) (args' := [(.val (.int .i64 x0))]) (RefsL.cons (Refs.of_eq (intO_eq e0)) RefsL.nil) hrun
    simp only [Option.some.injEq] at e
    subst e
    exact ⟨_, hK, hs⟩
  · cases h
/-! ### atlas/atlasref01.Fields: function 9 -/
def atlasref01_Fields.q0.h : Head (ByteArray × Int × Int × (List ByteArray)) where
  k γ s F := (sizedN 51 s).bind fun _ => (strO (gt s.tm 0)).bind fun v2 => (soN 1 s.hp (gt s.tm 3)).bind fun b4 => (intO .i64 (gt s.tm 4)).bind fun v6 => (intO .i64 (gt s.tm 5)).bind fun v8 => (rtN .str 9 s.hp b4).bind fun v10 => (distO [b4]).bind fun _ => F (v2, v6, v8, v10)
  st x := ⟨sparseT [(0, (.val (.string x.1))), (3, (.so 0 1)), (4, (.val (.int .i64 x.2.1))), (5, (.val (.int .i64 x.2.2.1)))] 51 0, [.rt .str x.2.2.2 9]⟩
  ok γ s F r h := by
    have ⟨_, hz, h⟩ := bs h
    have ⟨v2, h1, h⟩ := bs h
    have ⟨b4, h3, h⟩ := bs h
    have ⟨v6, h5, h⟩ := bs h
    have ⟨v8, h7, h⟩ := bs h
    have ⟨v10, h9, h⟩ := bs h
    have ⟨_, h11, h⟩ := bs h
    exact ⟨_, h, weak_ren (l := [b4]) (sizedN_ok hz) (distO_ok h11) (LiveR.cons (pS h1) (LiveR.cons (RefsR.so (l := [b4]) (i := 0) rfl (Nat.le_of_ble_eq_true rfl) h3) (LiveR.cons (pI h5) (LiveR.cons (pI h7) LiveR.nil)))) (BlksR.cons (rtN_blk h9) BlksR.nil)⟩

def atlasref01_Fields.q0.x0 : Head (ByteArray × Int × Int × (List ByteArray)) where
  k γ s F := (sizedN 51 s).bind fun _ => (strO (gt s.tm 0)).bind fun v2 => (soN 1 s.hp (gt s.tm 3)).bind fun b4 => (intO .i64 (gt s.tm 4)).bind fun v6 => (intO .i64 (gt s.tm 5)).bind fun v8 => (rtN .str 9 s.hp b4).bind fun v10 => (distO [b4]).bind fun _ => F (v2, v6, v8, v10)
  st x := ⟨sparseT [(0, (.val (.string x.1))), (3, (.so 0 1)), (4, (.val (.int .i64 x.2.1))), (5, (.val (.int .i64 x.2.2.1)))] 51 0, [.rt .str x.2.2.2 9]⟩
  ok γ s F r h := by
    have ⟨_, hz, h⟩ := bs h
    have ⟨v2, h1, h⟩ := bs h
    have ⟨b4, h3, h⟩ := bs h
    have ⟨v6, h5, h⟩ := bs h
    have ⟨v8, h7, h⟩ := bs h
    have ⟨v10, h9, h⟩ := bs h
    have ⟨_, h11, h⟩ := bs h
    exact ⟨_, h, weak_ren (l := [b4]) (sizedN_ok hz) (distO_ok h11) (LiveR.cons (pS h1) (LiveR.cons (RefsR.so (l := [b4]) (i := 0) rfl (Nat.le_of_ble_eq_true rfl) h3) (LiveR.cons (pI h5) (LiveR.cons (pI h7) LiveR.nil)))) (BlksR.cons (rtN_blk h9) BlksR.nil)⟩

def atlasref01_Fields.q0.t : Tail (ByteArray × Int × Int × (List ByteArray)) := Tail.one (.exit 0) atlasref01_Fields.q0.x0
theorem atlasref01_Fields.q0.np (y : (ByteArray × Int × Int × (List ByteArray))) (v : AV) : (atlasref01_Fields.q0.t.out y).1 = .panic v → nomem v = true := fun h => by cases h
theorem atlasref01_Fields.q0.nn (y : (ByteArray × Int × Int × (List ByteArray))) : (atlasref01_Fields.q0.t.out y).1 ≠ .normal := fun h => by cases h
def atlasref01_Fields.q0.l (k : Nat) : Nat → (ByteArray × Int × Int × (List ByteArray)) → Option (ByteArray × Int × Int × (List ByteArray))
  | 0, _ => none
  | n + 1, x => (bif (decide (x.2.2.1 < ((x.1).size : Int))) then (bif (decide (0 ≤ x.2.2.1) && decide (x.2.2.1 < ((x.1).size : Int))) then (bif ((byteAt x.1 x.2.2.1) != 35) then ((atlasref01_Rune.f x.1 x.2.2.1).bind fun r1 => ((atlasref01_Blank.f r1.1).bind fun r2 => (bif r2 then (bif (decide (x.2.1 ≥ 0)) then (bif (decide (0 ≤ x.2.2.1) && decide (x.2.2.1 ≤ (((x.1).size : Nat) : Int))) then (bif (decide (0 ≤ x.2.1) && decide (x.2.1 ≤ (((x.2.2.1).toNat : Nat) : Int))) then (bif (decide ((x.2.2.2 ++ ([(ByteArray.extract x.1 ((x.2.1).toNat) ((x.2.2.1).toNat))] : List ByteArray)).length ≤ maxLen) && decide ((x.2.2.2 ++ ([(ByteArray.extract x.1 ((x.2.1).toNat) ((x.2.2.1).toNat))] : List ByteArray)).length * 16 ≤ 211106232532992)) then (atlasref01_Fields.q0.l k n (x.1, (-1), (IntKind.wrap .i64 (x.2.2.1 + r1.2)), (x.2.2.2 ++ ([(ByteArray.extract x.1 ((x.2.1).toNat) ((x.2.2.1).toNat))] : List ByteArray)))) else none) else none) else none) else (atlasref01_Fields.q0.l k n (x.1, (-1), (IntKind.wrap .i64 (x.2.2.1 + r1.2)), x.2.2.2))) else (bif (decide (x.2.1 < 0)) then (atlasref01_Fields.q0.l k n (x.1, x.2.2.1, (IntKind.wrap .i64 (x.2.2.1 + r1.2)), x.2.2.2)) else (atlasref01_Fields.q0.l k n (x.1, x.2.1, (IntKind.wrap .i64 (x.2.2.1 + r1.2)), x.2.2.2)))))) else (some (x.1, x.2.1, x.2.2.1, x.2.2.2))) else none) else (some (x.1, x.2.1, x.2.2.1, x.2.2.2)))
theorem atlasref01_Fields.q0.z (k : Nat) (x : (ByteArray × Int × Int × (List ByteArray))) : atlasref01_Fields.q0.l k 0 x = none := rfl
theorem atlasref01_Fields.q0.at : codeAt (bodyOf Tryz.f9) [false, false, true, true, true, true] = some (.loop (loopBody (bodyOf Tryz.f9) [false, false, true, true, true, true])) := by kernel_rfl
theorem atlasref01_Fields.q0.goes (k n : Nat) (x : (ByteArray × Int × Int × (List ByteArray))) : E Tryz.prog (gamOf [(18, atlasref01_Rune.g), (19, atlasref01_Blank.g)]) (lamOf []) (loopBody (bodyOf Tryz.f9) [false, false, true, true, true, true]) (false :: [false, false, true, true, true, true]) (atlasref01_Fields.q0.h.st x) (contD atlasref01_Fields.q0.h atlasref01_Fields.q0.t (atlasref01_Fields.q0.l k n) some) = atlasref01_Fields.q0.l k (n + 1) x := by
  kernel_rfl
theorem atlasref01_Fields.q0.ok_ (k : Nat) : PieceOk Tryz.prog (bodyOf Tryz.f9) ⟨[false, false, true, true, true, true], _, _, atlasref01_Fields.q0.h, atlasref01_Fields.q0.t, atlasref01_Fields.q0.l k k⟩ :=
  piece_loop (gamOf_cons (atlasref01_Rune.ok) atlasref01_Rune.callable (gamOf_cons (atlasref01_Blank.ok) atlasref01_Blank.callable (gamOf_nil _))) (lamOf_nil _ _) mixed atlasref01_Fields.q0.at atlasref01_Fields.q0.np atlasref01_Fields.q0.nn (atlasref01_Fields.q0.z k) (atlasref01_Fields.q0.goes k) k
def atlasref01_Fields.q0.p (k : Nat) : Piece := ⟨[false, false, true, true, true, true], _, _, atlasref01_Fields.q0.h, atlasref01_Fields.q0.t, atlasref01_Fields.q0.l k k⟩
theorem atlasref01_Fields.q0.ok (k : Nat) : PieceOk Tryz.prog (bodyOf Tryz.f9) (atlasref01_Fields.q0.p k) := atlasref01_Fields.q0.ok_ k
def atlasref01_Fields.f (k : Nat) (x0 : ByteArray) : Option ((List ByteArray)) := ((atlasref01_Fields.q0.l k k (x0, (-1), 0, ([] : List ByteArray))).bind fun r3 => (bif (decide (r3.2.1 ≥ 0)) then (bif (decide (0 ≤ r3.2.2.1) && decide (r3.2.2.1 ≤ (((r3.1).size : Nat) : Int))) then (bif (decide (0 ≤ r3.2.1) && decide (r3.2.1 ≤ (((r3.2.2.1).toNat : Nat) : Int))) then (bif (decide ((r3.2.2.2 ++ ([(ByteArray.extract r3.1 ((r3.2.1).toNat) ((r3.2.2.1).toNat))] : List ByteArray)).length ≤ maxLen) && decide ((r3.2.2.2 ++ ([(ByteArray.extract r3.1 ((r3.2.1).toNat) ((r3.2.2.1).toNat))] : List ByteArray)).length * 16 ≤ 211106232532992)) then (some (r3.2.2.2 ++ ([(ByteArray.extract r3.1 ((r3.2.1).toNat) ((r3.2.2.1).toNat))] : List ByteArray))) else none) else none) else none) else (some r3.2.2.2)))
theorem atlasref01_Fields.run (k : Nat) (x0 : ByteArray) : runF Tryz.prog (gamOf [(18, atlasref01_Rune.g), (19, atlasref01_Blank.g)]) (lamOf [atlasref01_Fields.q0.p k]) Tryz.f9 [(.val (.string x0))] some = (atlasref01_Fields.f k x0).bind fun r => some (.ret (.vt .str r)) := by
  unfold atlasref01_Fields.f
  try simp only [cond_bind, elim_bind, Option.bind_some, Option.bind_none, Option.bind_assoc, Sum.elim_inl, Sum.elim_inr]
  kernel_rfl
def atlasref01_Fields.g (k : Nat) : GFun := fun β args K => match args with
  | [a0] => (strO a0).bind fun x0 => (atlasref01_Fields.f k x0).bind fun r => K (.ret (.vt .str r))
  | _ => none
theorem atlasref01_Fields.callable : callable Tryz.prog 9 = true := callable_of Tryz.func9 (by kernel_rfl)
theorem atlasref01_Fields.ok (k : Nat) : GOk Tryz.prog 9 (atlasref01_Fields.g k) := by
  intro β args K r h
  unfold atlasref01_Fields.g at h
  split at h
  · obtain ⟨x0, e0, h⟩ := bs h
    obtain ⟨y, hy, hK⟩ := bs h
    have hrun := atlasref01_Fields.run k x0
    rw [hy] at hrun
    obtain ⟨out, e, hs⟩ := sim_of_run Tryz.func9 (by kernel_rfl) mixed (gamOf_cons (atlasref01_Rune.ok) atlasref01_Rune.callable (gamOf_cons (atlasref01_Blank.ok) atlasref01_Blank.callable (gamOf_nil _))) (lamOf_cons (atlasref01_Fields.q0.ok k) (lamOf_nil _ _)) (args' := [(.val (.string x0))]) (RefsL.cons (Refs.of_eq (strO_eq e0)) RefsL.nil) hrun
    simp only [Option.some.injEq] at e
    subst e
    exact ⟨_, hK, hs⟩
  · cases h
/-! ### atlas/atlasref15.verbs: function 10 -/
def atlasref15_verbs.f (x0 : Int) : Option (ByteArray) := (bif (decide (x0 < 0)) then (some (⟨#[]⟩ : ByteArray)) else (bif (decide (x0 > 20)) then (some (⟨#[]⟩ : ByteArray)) else (bif (decide (0 ≤ x0) && decide (x0 < ((21 : Nat) : Int))) then (bif decide ((0 + (x0).toNat * 1) < 21) then (some (([(⟨#[]⟩ : ByteArray), (⟨#[98, 111, 111, 116]⟩ : ByteArray), (⟨#[98, 97, 114, 101]⟩ : ByteArray), (⟨#[110, 111, 105, 115, 101]⟩ : ByteArray), (⟨#[99, 114, 101, 97, 116, 101]⟩ : ByteArray), (⟨#[100, 101, 115, 116, 114, 111, 121]⟩ : ByteArray), (⟨#[115, 119, 105, 116, 99, 104]⟩ : ByteArray), (⟨#[109, 97, 112]⟩ : ByteArray), (⟨#[117, 110, 109, 97, 112]⟩ : ByteArray), (⟨#[112, 114, 111, 116, 101, 99, 116]⟩ : ByteArray), (⟨#[115, 104, 97, 114, 101]⟩ : ByteArray), (⟨#[113, 117, 101, 114, 121]⟩ : ByteArray), (⟨#[108, 111, 97, 100]⟩ : ByteArray), (⟨#[115, 116, 111, 114, 101]⟩ : ByteArray), (⟨#[102, 101, 116, 99, 104]⟩ : ByteArray), (⟨#[115, 112, 97, 99, 101, 115]⟩ : ByteArray), (⟨#[112, 111, 107, 101]⟩ : ByteArray), (⟨#[112, 101, 101, 107]⟩ : ByteArray), (⟨#[109, 99, 114]⟩ : ByteArray), (⟨#[109, 114, 99]⟩ : ByteArray), (⟨#[100, 105, 114, 116, 121]⟩ : ByteArray)] : List ByteArray).getD (0 + (x0).toNat * 1) ByteArray.empty)) else none) else none)))
theorem atlasref15_verbs.run (x0 : Int) : runF Tryz.prog (gamOf []) noLam Tryz.f10 [(.val (.int .i64 x0))] some = (atlasref15_verbs.f x0).bind fun r => some (.ret (.val (.string r))) := by
  unfold atlasref15_verbs.f
  try simp only [cond_bind, elim_bind, Option.bind_some, Option.bind_none, Option.bind_assoc, Sum.elim_inl, Sum.elim_inr]
  kernel_rfl
def atlasref15_verbs.g : GFun := fun β args K => match args with
  | [a0] => (intO .i64 a0).bind fun x0 => (atlasref15_verbs.f x0).bind fun r => K (.ret (.val (.string r)))
  | _ => none
theorem atlasref15_verbs.callable : callable Tryz.prog 10 = true := callable_of Tryz.func10 (by kernel_rfl)
theorem atlasref15_verbs.ok : GOk Tryz.prog 10 (atlasref15_verbs.g) := by
  intro β args K r h
  unfold atlasref15_verbs.g at h
  split at h
  · obtain ⟨x0, e0, h⟩ := bs h
    obtain ⟨y, hy, hK⟩ := bs h
    have hrun := atlasref15_verbs.run x0
    rw [hy] at hrun
    obtain ⟨out, e, hs⟩ := sim_of_run Tryz.func10 (by kernel_rfl) mixed (gamOf_nil _) (noLam_ok _ _) (args' := [(.val (.int .i64 x0))]) (RefsL.cons (Refs.of_eq (intO_eq e0)) RefsL.nil) hrun
    simp only [Option.some.injEq] at e
    subst e
    exact ⟨_, hK, hs⟩
  · cases h
/-! ### atlas/atlasref01.worth: function 57 -/
def atlasref01_worth.f (x0 : Int) (x1 : Int) : Option (Int) := (bif (decide (x0 ≥ 48)) then (bif (decide (x0 ≤ 57)) then (bif (decide ((IntKind.wrap .i64 ((IntKind.wrap .i64 x0) - 48)) ≥ x1)) then (some (-1)) else (some (IntKind.wrap .i64 ((IntKind.wrap .i64 x0) - 48)))) else (bif (decide (x0 ≥ 97)) then (bif (decide (x0 ≤ 102)) then (bif (decide ((IntKind.wrap .i64 ((IntKind.wrap .i64 ((IntKind.wrap .i64 x0) - 97)) + 10)) ≥ x1)) then (some (-1)) else (some (IntKind.wrap .i64 ((IntKind.wrap .i64 ((IntKind.wrap .i64 x0) - 97)) + 10)))) else (bif (decide (x0 ≥ 65)) then (bif (decide (x0 ≤ 70)) then (bif (decide ((IntKind.wrap .i64 ((IntKind.wrap .i64 ((IntKind.wrap .i64 x0) - 65)) + 10)) ≥ x1)) then (some (-1)) else (some (IntKind.wrap .i64 ((IntKind.wrap .i64 ((IntKind.wrap .i64 x0) - 65)) + 10)))) else (bif (decide ((-1) ≥ x1)) then (some (-1)) else (some (-1)))) else (bif (decide ((-1) ≥ x1)) then (some (-1)) else (some (-1))))) else (bif (decide (x0 ≥ 65)) then (bif (decide (x0 ≤ 70)) then (bif (decide ((IntKind.wrap .i64 ((IntKind.wrap .i64 ((IntKind.wrap .i64 x0) - 65)) + 10)) ≥ x1)) then (some (-1)) else (some (IntKind.wrap .i64 ((IntKind.wrap .i64 ((IntKind.wrap .i64 x0) - 65)) + 10)))) else (bif (decide ((-1) ≥ x1)) then (some (-1)) else (some (-1)))) else (bif (decide ((-1) ≥ x1)) then (some (-1)) else (some (-1)))))) else (bif (decide (x0 ≥ 97)) then (bif (decide (x0 ≤ 102)) then (bif (decide ((IntKind.wrap .i64 ((IntKind.wrap .i64 ((IntKind.wrap .i64 x0) - 97)) + 10)) ≥ x1)) then (some (-1)) else (some (IntKind.wrap .i64 ((IntKind.wrap .i64 ((IntKind.wrap .i64 x0) - 97)) + 10)))) else (bif (decide (x0 ≥ 65)) then (bif (decide (x0 ≤ 70)) then (bif (decide ((IntKind.wrap .i64 ((IntKind.wrap .i64 ((IntKind.wrap .i64 x0) - 65)) + 10)) ≥ x1)) then (some (-1)) else (some (IntKind.wrap .i64 ((IntKind.wrap .i64 ((IntKind.wrap .i64 x0) - 65)) + 10)))) else (bif (decide ((-1) ≥ x1)) then (some (-1)) else (some (-1)))) else (bif (decide ((-1) ≥ x1)) then (some (-1)) else (some (-1))))) else (bif (decide (x0 ≥ 65)) then (bif (decide (x0 ≤ 70)) then (bif (decide ((IntKind.wrap .i64 ((IntKind.wrap .i64 ((IntKind.wrap .i64 x0) - 65)) + 10)) ≥ x1)) then (some (-1)) else (some (IntKind.wrap .i64 ((IntKind.wrap .i64 ((IntKind.wrap .i64 x0) - 65)) + 10)))) else (bif (decide ((-1) ≥ x1)) then (some (-1)) else (some (-1)))) else (bif (decide ((-1) ≥ x1)) then (some (-1)) else (some (-1))))))
theorem atlasref01_worth.run (x0 : Int) (x1 : Int) : runF Tryz.prog (gamOf []) noLam Tryz.f57 [(.val (.int .u8 x0)), (.val (.int .i64 x1))] some = (atlasref01_worth.f x0 x1).bind fun r => some (.ret (.val (.int .i64 r))) := by
  unfold atlasref01_worth.f
  try simp only [cond_bind, elim_bind, Option.bind_some, Option.bind_none, Option.bind_assoc, Sum.elim_inl, Sum.elim_inr]
  kernel_rfl
def atlasref01_worth.g : GFun := fun β args K => match args with
  | [a0, a1] => (intO .u8 a0).bind fun x0 => (intO .i64 a1).bind fun x1 => (atlasref01_worth.f x0 x1).bind fun r => K (.ret (.val (.int .i64 r)))
  | _ => none
theorem atlasref01_worth.callable : callable Tryz.prog 57 = true := callable_of Tryz.func57 (by kernel_rfl)
theorem atlasref01_worth.ok : GOk Tryz.prog 57 (atlasref01_worth.g) := by
  intro β args K r h
  unfold atlasref01_worth.g at h
  split at h
  · obtain ⟨x0, e0, h⟩ := bs h
    have ⟨x1, e1, h⟩ := bs h
    obtain ⟨y, hy, hK⟩ := bs h
    have hrun := atlasref01_worth.run x0 x1
    rw [hy] at hrun
    obtain ⟨out, e, hs⟩ := sim_of_run Tryz.func57 (by kernel_rfl) mixed (gamOf_nil _) (noLam_ok _ _) (args' := [(.val (.int .u8 x0)), (.val (.int .i64 x1))]) (RefsL.cons (Refs.of_eq (intO_eq e0)) (RefsL.cons (Refs.of_eq (intO_eq e1)) RefsL.nil)) hrun
    simp only [Option.some.injEq] at e
    subst e
    exact ⟨_, hK, hs⟩
  · cases h
/-! ### atlas/atlasref01.Number: function 56 -/
def atlasref01_Number.q1.h : Head (ByteArray × Int × Int × Int) where
  k γ s F := (sizedN 79 s).bind fun _ => (strO (gt s.tm 0)).bind fun v2 => (intO .i64 (gt s.tm 4)).bind fun v4 => (intO .i64 (gt s.tm 5)).bind fun v6 => (intO .i64 (gt s.tm 6)).bind fun v8 => (distO []).bind fun _ => F (v2, v4, v6, v8)
  st x := ⟨sparseT [(0, (.val (.string x.1))), (4, (.val (.int .i64 x.2.1))), (5, (.val (.int .i64 x.2.2.1))), (6, (.val (.int .i64 x.2.2.2)))] 79 0, []⟩
  ok γ s F r h := by
    have ⟨_, hz, h⟩ := bs h
    have ⟨v2, h1, h⟩ := bs h
    have ⟨v4, h3, h⟩ := bs h
    have ⟨v6, h5, h⟩ := bs h
    have ⟨v8, h7, h⟩ := bs h
    have ⟨_, h9, h⟩ := bs h
    exact ⟨_, h, weak_ren (l := []) (sizedN_ok hz) (distO_ok h9) (LiveR.cons (pS h1) (LiveR.cons (pI h3) (LiveR.cons (pI h5) (LiveR.cons (pI h7) LiveR.nil)))) BlksR.nil⟩

def atlasref01_Number.q1.x0 : Head (Int × Int) where
  k γ s F := (sizedN 79 s).bind fun _ => (intO .u64 (gt s.tm 2)).bind fun v2 => (intO .i64 (gt s.tm 3)).bind fun v4 => (distO []).bind fun _ => F (v2, v4)
  st x := ⟨sparseT [(2, (.val (.int .u64 x.1))), (3, (.val (.int .i64 x.2)))] 79 0, []⟩
  ok γ s F r h := by
    have ⟨_, hz, h⟩ := bs h
    have ⟨v2, h1, h⟩ := bs h
    have ⟨v4, h3, h⟩ := bs h
    have ⟨_, h5, h⟩ := bs h
    exact ⟨_, h, weak_ren (l := []) (sizedN_ok hz) (distO_ok h5) (LiveR.cons (pI h1) (LiveR.cons (pI h3) LiveR.nil)) BlksR.nil⟩

def atlasref01_Number.q1.x1 : Head (Int) where
  k γ s F := (sizedN 79 s).bind fun _ => (intO .i64 (gt s.tm 5)).bind fun v2 => (distO []).bind fun _ => F (v2)
  st x := ⟨sparseT [(5, (.val (.int .i64 x)))] 79 0, []⟩
  ok γ s F r h := by
    have ⟨_, hz, h⟩ := bs h
    have ⟨v2, h1, h⟩ := bs h
    have ⟨_, h3, h⟩ := bs h
    exact ⟨_, h, weak_ren (l := []) (sizedN_ok hz) (distO_ok h3) (LiveR.cons (pI h1) LiveR.nil) BlksR.nil⟩

def atlasref01_Number.q1.t : Tail ((Int × Int) ⊕ (Int)) := Tail.or .ret atlasref01_Number.q1.x0 (Tail.one (.exit 0) atlasref01_Number.q1.x1)
theorem atlasref01_Number.q1.np (y : ((Int × Int) ⊕ (Int))) (v : AV) : (atlasref01_Number.q1.t.out y).1 = .panic v → nomem v = true := fun h => by rcases y with _ | y <;> first | (cases h; done) | (cases h; rfl) | (cases h)
theorem atlasref01_Number.q1.nn (y : ((Int × Int) ⊕ (Int))) : (atlasref01_Number.q1.t.out y).1 ≠ .normal := fun h => by rcases y with _ | y <;> first | (cases h; done) | (cases h; rfl) | (cases h)
def atlasref01_Number.q1.l (k : Nat) : Nat → (ByteArray × Int × Int × Int) → Option ((Int × Int) ⊕ (Int))
  | 0, _ => none
  | n + 1, x => (bif (decide (x.2.2.2 < ((x.1).size : Int))) then (bif (decide (0 ≤ x.2.2.2) && decide (x.2.2.2 < ((x.1).size : Int))) then (bif ((byteAt x.1 x.2.2.2) == 95) then (bif (x.2.2.2 == 0) then (some (Sum.inl (0, 11))) else (bif (x.2.2.2 == (IntKind.wrap .i64 (((x.1).size : Int) - 1))) then (some (Sum.inl (0, 11))) else (bif (decide (0 ≤ (IntKind.wrap .i64 (x.2.2.2 - 1))) && decide ((IntKind.wrap .i64 (x.2.2.2 - 1)) < ((x.1).size : Int))) then ((atlasref01_worth.f (byteAt x.1 (IntKind.wrap .i64 (x.2.2.2 - 1))) x.2.1).bind fun r1 => (bif (decide (r1 < 0)) then (some (Sum.inl (0, 11))) else (bif (decide (0 ≤ (IntKind.wrap .i64 (x.2.2.2 + 1))) && decide ((IntKind.wrap .i64 (x.2.2.2 + 1)) < ((x.1).size : Int))) then ((atlasref01_worth.f (byteAt x.1 (IntKind.wrap .i64 (x.2.2.2 + 1))) x.2.1).bind fun r2 => (bif (decide (r2 < 0)) then (some (Sum.inl (0, 11))) else (atlasref01_Number.q1.l k n (x.1, x.2.1, x.2.2.1, (IntKind.wrap .i64 (x.2.2.2 + 1)))))) else none))) else none))) else (bif (decide (0 ≤ x.2.2.2) && decide (x.2.2.2 < ((x.1).size : Int))) then ((atlasref01_worth.f (byteAt x.1 x.2.2.2) x.2.1).bind fun r3 => (bif (decide (r3 < 0)) then (some (Sum.inl (0, 11))) else (bif (decide ((IntKind.wrap .i64 ((IntKind.wrap .i64 (x.2.2.1 * x.2.1)) + r3)) ≥ 1099511627776)) then (some (Sum.inl (0, 11))) else (atlasref01_Number.q1.l k n (x.1, x.2.1, (IntKind.wrap .i64 ((IntKind.wrap .i64 (x.2.2.1 * x.2.1)) + r3)), (IntKind.wrap .i64 (x.2.2.2 + 1))))))) else none)) else none) else (some (Sum.inr x.2.2.1)))
theorem atlasref01_Number.q1.z (k : Nat) (x : (ByteArray × Int × Int × Int)) : atlasref01_Number.q1.l k 0 x = none := rfl
theorem atlasref01_Number.q1.at : codeAt (bodyOf Tryz.f56) [false, true, false, true, true, true, true, true] = some (.loop (loopBody (bodyOf Tryz.f56) [false, true, false, true, true, true, true, true])) := by kernel_rfl
theorem atlasref01_Number.q1.goes (k n : Nat) (x : (ByteArray × Int × Int × Int)) : E Tryz.prog (gamOf [(57, atlasref01_worth.g)]) (lamOf []) (loopBody (bodyOf Tryz.f56) [false, true, false, true, true, true, true, true]) (false :: [false, true, false, true, true, true, true, true]) (atlasref01_Number.q1.h.st x) (contD atlasref01_Number.q1.h atlasref01_Number.q1.t (atlasref01_Number.q1.l k n) some) = atlasref01_Number.q1.l k (n + 1) x := by
  kernel_rfl
theorem atlasref01_Number.q1.ok_ (k : Nat) : PieceOk Tryz.prog (bodyOf Tryz.f56) ⟨[false, true, false, true, true, true, true, true], _, _, atlasref01_Number.q1.h, atlasref01_Number.q1.t, atlasref01_Number.q1.l k k⟩ :=
  piece_loop (gamOf_cons (atlasref01_worth.ok) atlasref01_worth.callable (gamOf_nil _)) (lamOf_nil _ _) mixed atlasref01_Number.q1.at atlasref01_Number.q1.np atlasref01_Number.q1.nn (atlasref01_Number.q1.z k) (atlasref01_Number.q1.goes k) k
def atlasref01_Number.q1.p (k : Nat) : Piece := ⟨[false, true, false, true, true, true, true, true], _, _, atlasref01_Number.q1.h, atlasref01_Number.q1.t, atlasref01_Number.q1.l k k⟩
theorem atlasref01_Number.q1.ok (k : Nat) : PieceOk Tryz.prog (bodyOf Tryz.f56) (atlasref01_Number.q1.p k) := atlasref01_Number.q1.ok_ k
def atlasref01_Number.q0.h : Head (ByteArray × Int) where
  k γ s F := (sizedN 79 s).bind fun _ => (strO (gt s.tm 0)).bind fun v2 => (intO .i64 (gt s.tm 4)).bind fun v4 => (distO []).bind fun _ => F (v2, v4)
  st x := ⟨sparseT [(0, (.val (.string x.1))), (4, (.val (.int .i64 x.2)))] 79 0, []⟩
  ok γ s F r h := by
    have ⟨_, hz, h⟩ := bs h
    have ⟨v2, h1, h⟩ := bs h
    have ⟨v4, h3, h⟩ := bs h
    have ⟨_, h5, h⟩ := bs h
    exact ⟨_, h, weak_ren (l := []) (sizedN_ok hz) (distO_ok h5) (LiveR.cons (pS h1) (LiveR.cons (pI h3) LiveR.nil)) BlksR.nil⟩

def atlasref01_Number.q0.x0 : Head (Int × Int) where
  k γ s F := (sizedN 79 s).bind fun _ => (intO .u64 (gt s.tm 2)).bind fun v2 => (intO .i64 (gt s.tm 3)).bind fun v4 => (distO []).bind fun _ => F (v2, v4)
  st x := ⟨sparseT [(2, (.val (.int .u64 x.1))), (3, (.val (.int .i64 x.2)))] 79 0, []⟩
  ok γ s F r h := by
    have ⟨_, hz, h⟩ := bs h
    have ⟨v2, h1, h⟩ := bs h
    have ⟨v4, h3, h⟩ := bs h
    have ⟨_, h5, h⟩ := bs h
    exact ⟨_, h, weak_ren (l := []) (sizedN_ok hz) (distO_ok h5) (LiveR.cons (pI h1) (LiveR.cons (pI h3) LiveR.nil)) BlksR.nil⟩

def atlasref01_Number.q0.t : Tail (Int × Int) := Tail.one .ret atlasref01_Number.q0.x0
theorem atlasref01_Number.q0.np (y : (Int × Int)) (v : AV) : (atlasref01_Number.q0.t.out y).1 = .panic v → nomem v = true := fun h => by cases h
def atlasref01_Number.q0.l (k : Nat) (x : (ByteArray × Int)) : Option (Int × Int) := (bif (((x.1).size : Int) == 0) then (some (0, 11)) else ((atlasref01_Number.q1.l k k (x.1, x.2, 0, 0)).bind fun r4 => (Sum.elim (fun r5 => (some (r5.1, r5.2))) (fun r6 => (some ((IntKind.wrap .u64 r6), 0))) r4)))
theorem atlasref01_Number.q0.at : codeAt (bodyOf Tryz.f56) [true, true, true] = some (codeOf (bodyOf Tryz.f56) [true, true, true]) := by kernel_rfl
theorem atlasref01_Number.q0.goes (k : Nat) (x : (ByteArray × Int)) : E Tryz.prog (gamOf [(57, atlasref01_worth.g)]) (lamOf [atlasref01_Number.q1.p k]) (codeOf (bodyOf Tryz.f56) [true, true, true]) [true, true, true] (atlasref01_Number.q0.h.st x) (fun ex t => atlasref01_Number.q0.t.d _ ex t some) = atlasref01_Number.q0.l k x := by
  kernel_rfl
theorem atlasref01_Number.q0.ok_ (k : Nat) : PieceOk Tryz.prog (bodyOf Tryz.f56) ⟨[true, true, true], _, _, atlasref01_Number.q0.h, atlasref01_Number.q0.t, atlasref01_Number.q0.l k⟩ :=
  piece_code (gamOf_cons (atlasref01_worth.ok) atlasref01_worth.callable (gamOf_nil _)) (lamOf_cons (atlasref01_Number.q1.ok k) (lamOf_nil _ _)) mixed atlasref01_Number.q0.at atlasref01_Number.q0.np (atlasref01_Number.q0.goes k)
def atlasref01_Number.q0.p (k : Nat) : Piece := ⟨[true, true, true], _, _, atlasref01_Number.q0.h, atlasref01_Number.q0.t, atlasref01_Number.q0.l k⟩
theorem atlasref01_Number.q0.ok (k : Nat) : PieceOk Tryz.prog (bodyOf Tryz.f56) (atlasref01_Number.q0.p k) := atlasref01_Number.q0.ok_ k
def atlasref01_Number.f (k : Nat) (x0 : ByteArray) : Option (Int × Int) := (bif (decide (((x0).size : Int) ≥ 2)) then (bif (decide (0 ≤ 0) && decide (0 < ((x0).size : Int))) then (bif ((byteAt x0 0) == 48) then (bif (decide (0 ≤ 1) && decide (1 < ((x0).size : Int))) then (bif ((byteAt x0 1) == 120) then (bif (decide (0 ≤ 2) && decide (2 ≤ (((x0).size : Nat) : Int))) then ((atlasref01_Number.q0.l k ((ByteArray.extract x0 2 ((x0).size)), 16)).bind fun r7 => (some (r7.1, r7.2))) else none) else ((atlasref01_Number.q0.l k (x0, 10)).bind fun r8 => (some (r8.1, r8.2)))) else none) else ((atlasref01_Number.q0.l k (x0, 10)).bind fun r9 => (some (r9.1, r9.2)))) else none) else ((atlasref01_Number.q0.l k (x0, 10)).bind fun r10 => (some (r10.1, r10.2))))
theorem atlasref01_Number.run (k : Nat) (x0 : ByteArray) : runF Tryz.prog (gamOf [(57, atlasref01_worth.g)]) (lamOf [atlasref01_Number.q1.p k, atlasref01_Number.q0.p k]) Tryz.f56 [(.val (.string x0))] some = (atlasref01_Number.f k x0).bind fun r => some (.ret (.tup [(.val (.int .u64 r.1)), (.val (.int .i64 r.2))])) := by
  unfold atlasref01_Number.f
  try simp only [cond_bind, elim_bind, Option.bind_some, Option.bind_none, Option.bind_assoc, Sum.elim_inl, Sum.elim_inr]
  kernel_rfl
def atlasref01_Number.g (k : Nat) : GFun := fun β args K => match args with
  | [a0] => (strO a0).bind fun x0 => (atlasref01_Number.f k x0).bind fun r => K (.ret (.tup [(.val (.int .u64 r.1)), (.val (.int .i64 r.2))]))
  | _ => none
theorem atlasref01_Number.callable : callable Tryz.prog 56 = true := callable_of Tryz.func56 (by kernel_rfl)
theorem atlasref01_Number.ok (k : Nat) : GOk Tryz.prog 56 (atlasref01_Number.g k) := by
  intro β args K r h
  unfold atlasref01_Number.g at h
  split at h
  · obtain ⟨x0, e0, h⟩ := bs h
    obtain ⟨y, hy, hK⟩ := bs h
    have hrun := atlasref01_Number.run k x0
    rw [hy] at hrun
    obtain ⟨out, e, hs⟩ := sim_of_run Tryz.func56 (by kernel_rfl) mixed (gamOf_cons (atlasref01_worth.ok) atlasref01_worth.callable (gamOf_nil _)) (lamOf_cons (atlasref01_Number.q1.ok k) (lamOf_cons (atlasref01_Number.q0.ok k) (lamOf_nil _ _))) (args' := [(.val (.string x0))]) (RefsL.cons (Refs.of_eq (strO_eq e0)) RefsL.nil) hrun
    simp only [Option.some.injEq] at e
    subst e
    exact ⟨_, hK, hs⟩
  · cases h
/-! ### atlas/atlasref15.number: function 47 -/
def atlasref15_number.f (k : Nat) (x0 : ByteArray) (x1 : Int) : Option (Int × Int) := ((atlasref01_Number.f k x0).bind fun r1 => (bif (r1.2 != 0) then (some (0, 11)) else (bif (decide (r1.1 ≥ x1)) then (some (0, 11)) else (some (r1.1, 0)))))
theorem atlasref15_number.run (k : Nat) (x0 : ByteArray) (x1 : Int) : runF Tryz.prog (gamOf [(56, atlasref01_Number.g k)]) noLam Tryz.f47 [(.val (.string x0)), (.val (.int .u64 x1))] some = (atlasref15_number.f k x0 x1).bind fun r => some (.ret (.tup [(.val (.int .u64 r.1)), (.val (.int .i64 r.2))])) := by
  unfold atlasref15_number.f
  try simp only [cond_bind, elim_bind, Option.bind_some, Option.bind_none, Option.bind_assoc, Sum.elim_inl, Sum.elim_inr]
  kernel_rfl
def atlasref15_number.g (k : Nat) : GFun := fun β args K => match args with
  | [a0, a1] => (strO a0).bind fun x0 => (intO .u64 a1).bind fun x1 => (atlasref15_number.f k x0 x1).bind fun r => K (.ret (.tup [(.val (.int .u64 r.1)), (.val (.int .i64 r.2))]))
  | _ => none
theorem atlasref15_number.callable : callable Tryz.prog 47 = true := callable_of Tryz.func47 (by kernel_rfl)
theorem atlasref15_number.ok (k : Nat) : GOk Tryz.prog 47 (atlasref15_number.g k) := by
  intro β args K r h
  unfold atlasref15_number.g at h
  split at h
  · obtain ⟨x0, e0, h⟩ := bs h
    have ⟨x1, e1, h⟩ := bs h
    obtain ⟨y, hy, hK⟩ := bs h
    have hrun := atlasref15_number.run k x0 x1
    rw [hy] at hrun
    obtain ⟨out, e, hs⟩ := sim_of_run Tryz.func47 (by kernel_rfl) mixed (gamOf_cons (atlasref01_Number.ok k) atlasref01_Number.callable (gamOf_nil _)) (noLam_ok _ _) (args' := [(.val (.string x0)), (.val (.int .u64 x1))]) (RefsL.cons (Refs.of_eq (strO_eq e0)) (RefsL.cons (Refs.of_eq (intO_eq e1)) RefsL.nil)) hrun
    simp only [Option.some.injEq] at e
    subst e
    exact ⟨_, hK, hs⟩
  · cases h
end Go.Va
