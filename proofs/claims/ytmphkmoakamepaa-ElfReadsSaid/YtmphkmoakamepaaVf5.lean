-- Written by a program of this session (wip/va/vaprint.py). Not trusted: Lean checks it.
import Derived.Test.YtmphkmoakamepaaVaTy
import Derived.Test.YtmphkmoakamepaaVf4
set_option linter.unusedVariables false
set_option linter.unusedSimpArgs false
set_option autoImplicit false
set_option maxRecDepth 100000
namespace Go.Va
open Go.Proofs
/-! ### atlas/atlasref01.Rune: function 59 -/
def atlasref01_Rune.f (x0 : ByteArray) (x1 : Int) : Option (Int × Int) := (bif (decide (0 ≤ x1) && decide (x1 < ((x0).size : Int))) then (bif (decide ((IntKind.wrap .i64 (byteAt x0 x1)) < 128)) then (some ((IntKind.wrap .i64 (byteAt x0 x1)), 1)) else (bif (decide ((IntKind.wrap .i64 (byteAt x0 x1)) ≥ 194)) then (bif (decide ((IntKind.wrap .i64 (byteAt x0 x1)) ≤ 223)) then ((atlasref01_tail.f x0 (IntKind.wrap .i64 (x1 + 1))).bind fun r1 => (bif r1 then (bif (decide (0 ≤ (IntKind.wrap .i64 (x1 + 1))) && decide ((IntKind.wrap .i64 (x1 + 1)) < ((x0).size : Int))) then (some ((IntKind.wrap .i64 ((IntKind.wrap .i64 ((IntKind.wrap .i64 ((IntKind.wrap .i64 ((IntKind.wrap .i64 (byteAt x0 x1)) - 192)) * 64)) + (IntKind.wrap .i64 (byteAt x0 (IntKind.wrap .i64 (x1 + 1)))))) - 128)), 2)) else none) else (some ((-1), 1)))) else (bif (decide ((IntKind.wrap .i64 (byteAt x0 x1)) ≥ 224)) then (bif (decide ((IntKind.wrap .i64 (byteAt x0 x1)) ≤ 239)) then ((atlasref01_tail.f x0 (IntKind.wrap .i64 (x1 + 1))).bind fun r2 => (bif r2 then ((atlasref01_tail.f x0 (IntKind.wrap .i64 (x1 + 2))).bind fun r3 => (bif r3 then (bif (decide (0 ≤ (IntKind.wrap .i64 (x1 + 1))) && decide ((IntKind.wrap .i64 (x1 + 1)) < ((x0).size : Int))) then (bif (decide (0 ≤ (IntKind.wrap .i64 (x1 + 2))) && decide ((IntKind.wrap .i64 (x1 + 2)) < ((x0).size : Int))) then (bif (decide ((IntKind.wrap .i64 ((IntKind.wrap .i64 ((IntKind.wrap .i64 ((IntKind.wrap .i64 ((IntKind.wrap .i64 ((IntKind.wrap .i64 (byteAt x0 x1)) - 224)) * 4096)) + (IntKind.wrap .i64 ((IntKind.wrap .i64 ((IntKind.wrap .i64 (byteAt x0 (IntKind.wrap .i64 (x1 + 1)))) - 128)) * 64)))) + (IntKind.wrap .i64 (byteAt x0 (IntKind.wrap .i64 (x1 + 2)))))) - 128)) ≥ 2048)) then (bif (decide ((IntKind.wrap .i64 ((IntKind.wrap .i64 ((IntKind.wrap .i64 ((IntKind.wrap .i64 ((IntKind.wrap .i64 ((IntKind.wrap .i64 (byteAt x0 x1)) - 224)) * 4096)) + (IntKind.wrap .i64 ((IntKind.wrap .i64 ((IntKind.wrap .i64 (byteAt x0 (IntKind.wrap .i64 (x1 + 1)))) - 128)) * 64)))) + (IntKind.wrap .i64 (byteAt x0 (IntKind.wrap .i64 (x1 + 2)))))) - 128)) < 55296)) then (some ((IntKind.wrap .i64 ((IntKind.wrap .i64 ((IntKind.wrap .i64 ((IntKind.wrap .i64 ((IntKind.wrap .i64 ((IntKind.wrap .i64 (byteAt x0 x1)) - 224)) * 4096)) + (IntKind.wrap .i64 ((IntKind.wrap .i64 ((IntKind.wrap .i64 (byteAt x0 (IntKind.wrap .i64 (x1 + 1)))) - 128)) * 64)))) + (IntKind.wrap .i64 (byteAt x0 (IntKind.wrap .i64 (x1 + 2)))))) - 128)), 3)) else (bif (decide ((IntKind.wrap .i64 ((IntKind.wrap .i64 ((IntKind.wrap .i64 ((IntKind.wrap .i64 ((IntKind.wrap .i64 ((IntKind.wrap .i64 (byteAt x0 x1)) - 224)) * 4096)) + (IntKind.wrap .i64 ((IntKind.wrap .i64 ((IntKind.wrap .i64 (byteAt x0 (IntKind.wrap .i64 (x1 + 1)))) - 128)) * 64)))) + (IntKind.wrap .i64 (byteAt x0 (IntKind.wrap .i64 (x1 + 2)))))) - 128)) > 57343)) then (some ((IntKind.wrap .i64 ((IntKind.wrap .i64 ((IntKind.wrap .i64 ((IntKind.wrap .i64 ((IntKind.wrap .i64 ((IntKind.wrap .i64 (byteAt x0 x1)) - 224)) * 4096)) + (IntKind.wrap .i64 ((IntKind.wrap .i64 ((IntKind.wrap .i64 (byteAt x0 (IntKind.wrap .i64 (x1 + 1)))) - 128)) * 64)))) + (IntKind.wrap .i64 (byteAt x0 (IntKind.wrap .i64 (x1 + 2)))))) - 128)), 3)) else (some ((-1), 1)))) else (some ((-1), 1))) else none) else none) else (some ((-1), 1)))) else (some ((-1), 1)))) else (bif (decide ((IntKind.wrap .i64 (byteAt x0 x1)) ≥ 240)) then (bif (decide ((IntKind.wrap .i64 (byteAt x0 x1)) ≤ 244)) then ((atlasref01_tail.f x0 (IntKind.wrap .i64 (x1 + 1))).bind fun r4 => (bif r4 then ((atlasref01_tail.f x0 (IntKind.wrap .i64 (x1 + 2))).bind fun r5 => (bif r5 then ((atlasref01_tail.f x0 (IntKind.wrap .i64 (x1 + 3))).bind fun r6 => (bif r6 then (bif (decide (0 ≤ (IntKind.wrap .i64 (x1 + 1))) && decide ((IntKind.wrap .i64 (x1 + 1)) < ((x0).size : Int))) then (bif (decide (0 ≤ (IntKind.wrap .i64 (x1 + 2))) && decide ((IntKind.wrap .i64 (x1 + 2)) < ((x0).size : Int))) then (bif (decide (0 ≤ (IntKind.wrap .i64 (x1 + 3))) && decide ((IntKind.wrap .i64 (x1 + 3)) < ((x0).size : Int))) then (bif (decide ((IntKind.wrap .i64 ((IntKind.wrap .i64 ((IntKind.wrap .i64 ((IntKind.wrap .i64 ((IntKind.wrap .i64 ((IntKind.wrap .i64 ((IntKind.wrap .i64 (byteAt x0 x1)) - 240)) * 262144)) + (IntKind.wrap .i64 ((IntKind.wrap .i64 ((IntKind.wrap .i64 (byteAt x0 (IntKind.wrap .i64 (x1 + 1)))) - 128)) * 4096)))) + (IntKind.wrap .i64 ((IntKind.wrap .i64 ((IntKind.wrap .i64 (byteAt x0 (IntKind.wrap .i64 (x1 + 2)))) - 128)) * 64)))) + (IntKind.wrap .i64 (byteAt x0 (IntKind.wrap .i64 (x1 + 3)))))) - 128)) ≥ 65536)) then (bif (decide ((IntKind.wrap .i64 ((IntKind.wrap .i64 ((IntKind.wrap .i64 ((IntKind.wrap .i64 ((IntKind.wrap .i64 ((IntKind.wrap .i64 ((IntKind.wrap .i64 (byteAt x0 x1)) - 240)) * 262144)) + (IntKind.wrap .i64 ((IntKind.wrap .i64 ((IntKind.wrap .i64 (byteAt x0 (IntKind.wrap .i64 (x1 + 1)))) - 128)) * 4096)))) + (IntKind.wrap .i64 ((IntKind.wrap .i64 ((IntKind.wrap .i64 (byteAt x0 (IntKind.wrap .i64 (x1 + 2)))) - 128)) * 64)))) + (IntKind.wrap .i64 (byteAt x0 (IntKind.wrap .i64 (x1 + 3)))))) - 128)) ≤ 1114111)) then (some ((IntKind.wrap .i64 ((IntKind.wrap .i64 ((IntKind.wrap .i64 ((IntKind.wrap .i64 ((IntKind.wrap .i64 ((IntKind.wrap .i64 ((IntKind.wrap .i64 (byteAt x0 x1)) - 240)) * 262144)) + (IntKind.wrap .i64 ((IntKind.wrap .i64 ((IntKind.wrap .i64 (byteAt x0 (IntKind.wrap .i64 (x1 + 1)))) - 128)) * 4096)))) + (IntKind.wrap .i64 ((IntKind.wrap .i64 ((IntKind.wrap .i64 (byteAt x0 (IntKind.wrap .i64 (x1 + 2)))) - 128)) * 64)))) + (IntKind.wrap .i64 (byteAt x0 (IntKind.wrap .i64 (x1 + 3)))))) - 128)), 4)) else (some ((-1), 1))) else (some ((-1), 1))) else none) else none) else none) else (some ((-1), 1)))) else (some ((-1), 1)))) else (some ((-1), 1)))) else (some ((-1), 1))) else (some ((-1), 1)))) else (bif (decide ((IntKind.wrap .i64 (byteAt x0 x1)) ≥ 240)) then (bif (decide ((IntKind.wrap .i64 (byteAt x0 x1)) ≤ 244)) then ((atlasref01_tail.f x0 (IntKind.wrap .i64 (x1 + 1))).bind fun r7 => (bif r7 then ((atlasref01_tail.f x0 (IntKind.wrap .i64 (x1 + 2))).bind fun r8 => (bif r8 then ((atlasref01_tail.f x0 (IntKind.wrap .i64 (x1 + 3))).bind fun r9 => (bif r9 then (bif (decide (0 ≤ (IntKind.wrap .i64 (x1 + 1))) && decide ((IntKind.wrap .i64 (x1 + 1)) < ((x0).size : Int))) then (bif (decide (0 ≤ (IntKind.wrap .i64 (x1 + 2))) && decide ((IntKind.wrap .i64 (x1 + 2)) < ((x0).size : Int))) then (bif (decide (0 ≤ (IntKind.wrap .i64 (x1 + 3))) && decide ((IntKind.wrap .i64 (x1 + 3)) < ((x0).size : Int))) then (bif (decide ((IntKind.wrap .i64 ((IntKind.wrap .i64 ((IntKind.wrap .i64 ((IntKind.wrap .i64 ((IntKind.wrap .i64 ((IntKind.wrap .i64 ((IntKind.wrap .i64 (byteAt x0 x1)) - 240)) * 262144)) + (IntKind.wrap .i64 ((IntKind.wrap .i64 ((IntKind.wrap .i64 (byteAt x0 (IntKind.wrap .i64 (x1 + 1)))) - 128)) * 4096)))) + (IntKind.wrap .i64 ((IntKind.wrap .i64 ((IntKind.wrap .i64 (byteAt x0 (IntKind.wrap .i64 (x1 + 2)))) - 128)) * 64)))) + (IntKind.wrap .i64 (byteAt x0 (IntKind.wrap .i64 (x1 + 3)))))) - 128)) ≥ 65536)) then (bif (decide ((IntKind.wrap .i64 ((IntKind.wrap .i64 ((IntKind.wrap .i64 ((IntKind.wrap .i64 ((IntKind.wrap .i64 ((IntKind.wrap .i64 ((IntKind.wrap .i64 (byteAt x0 x1)) - 240)) * 262144)) + (IntKind.wrap .i64 ((IntKind.wrap .i64 ((IntKind.wrap .i64 (byteAt x0 (IntKind.wrap .i64 (x1 + 1)))) - 128)) * 4096)))) + (IntKind.wrap .i64 ((IntKind.wrap .i64 ((IntKind.wrap .i64 (byteAt x0 (IntKind.wrap .i64 (x1 + 2)))) - 128)) * 64)))) + (IntKind.wrap .i64 (byteAt x0 (IntKind.wrap .i64 (x1 + 3)))))) - 128)) ≤ 1114111)) then (some ((IntKind.wrap .i64 ((IntKind.wrap .i64 ((IntKind.wrap .i64 ((IntKind.wrap .i64 ((IntKind.wrap .i64 ((IntKind.wrap .i64 ((IntKind.wrap .i64 (byteAt x0 x1)) - 240)) * 262144)) + (IntKind.wrap .i64 ((IntKind.wrap .i64 ((IntKind.wrap .i64 (byteAt x0 (IntKind.wrap .i64 (x1 + 1)))) - 128)) * 4096)))) + (IntKind.wrap .i64 ((IntKind.wrap .i64 ((IntKind.wrap .i64 (byteAt x0 (IntKind.wrap .i64 (x1 + 2)))) - 128)) * 64)))) + (IntKind.wrap .i64 (byteAt x0 (IntKind.wrap .i64 (x1 + 3)))))) - 128)), 4)) else (some ((-1), 1))) else (some ((-1), 1))) else none) else none) else none) else (some ((-1), 1)))) else (some ((-1), 1)))) else (some ((-1), 1)))) else (some ((-1), 1))) else (some ((-1), 1))))) else (bif (decide ((IntKind.wrap .i64 (byteAt x0 x1)) ≥ 224)) then (bif (decide ((IntKind.wrap .i64 (byteAt x0 x1)) ≤ 239)) then ((atlasref01_tail.f x0 (IntKind.wrap .i64 (x1 + 1))).bind fun r10 => (bif r10 then ((atlasref01_tail.f x0 (IntKind.wrap .i64 (x1 + 2))).bind fun r11 => (bif r11 then (bif (decide (0 ≤ (IntKind.wrap .i64 (x1 + 1))) && decide ((IntKind.wrap .i64 (x1 + 1)) < ((x0).size : Int))) then (bif (decide (0 ≤ (IntKind.wrap .i64 (x1 + 2))) && decide ((IntKind.wrap .i64 (x1 + 2)) < ((x0).size : Int))) then (bif (decide ((IntKind.wrap .i64 ((IntKind.wrap .i64 ((IntKind.wrap .i64 ((IntKind.wrap .i64 ((IntKind.wrap .i64 ((IntKind.wrap .i64 (byteAt x0 x1)) - 224)) * 4096)) + (IntKind.wrap .i64 ((IntKind.wrap .i64 ((IntKind.wrap .i64 (byteAt x0 (IntKind.wrap .i64 (x1 + 1)))) - 128)) * 64)))) + (IntKind.wrap .i64 (byteAt x0 (IntKind.wrap .i64 (x1 + 2)))))) - 128)) ≥ 2048)) then (bif (decide ((IntKind.wrap .i64 ((IntKind.wrap .i64 ((IntKind.wrap .i64 ((IntKind.wrap .i64 ((IntKind.wrap .i64 ((IntKind.wrap .i64 (byteAt x0 x1)) - 224)) * 4096)) + (IntKind.wrap .i64 ((IntKind.wrap .i64 ((IntKind.wrap .i64 (byteAt x0 (IntKind.wrap .i64 (x1 + 1)))) - 128)) * 64)))) + (IntKind.wrap .i64 (byteAt x0 (IntKind.wrap .i64 (x1 + 2)))))) - 128)) < 55296)) then (some ((IntKind.wrap .i64 ((IntKind.wrap .i64 ((IntKind.wrap .i64 ((IntKind.wrap .i64 ((IntKind.wrap .i64 ((IntKind.wrap .i64 (byteAt x0 x1)) - 224)) * 4096)) + (IntKind.wrap .i64 ((IntKind.wrap .i64 ((IntKind.wrap .i64 (byteAt x0 (IntKind.wrap .i64 (x1 + 1)))) - 128)) * 64)))) + (IntKind.wrap .i64 (byteAt x0 (IntKind.wrap .i64 (x1 + 2)))))) - 128)), 3)) else (bif (decide ((IntKind.wrap .i64 ((IntKind.wrap .i64 ((IntKind.wrap .i64 ((IntKind.wrap .i64 ((IntKind.wrap .i64 ((IntKind.wrap .i64 (byteAt x0 x1)) - 224)) * 4096)) + (IntKind.wrap .i64 ((IntKind.wrap .i64 ((IntKind.wrap .i64 (byteAt x0 (IntKind.wrap .i64 (x1 + 1)))) - 128)) * 64)))) + (IntKind.wrap .i64 (byteAt x0 (IntKind.wrap .i64 (x1 + 2)))))) - 128)) > 57343)) then (some ((IntKind.wrap .i64 ((IntKind.wrap .i64 ((IntKind.wrap .i64 ((IntKind.wrap .i64 ((IntKind.wrap .i64 ((IntKind.wrap .i64 (byteAt x0 x1)) - 224)) * 4096)) + (IntKind.wrap .i64 ((IntKind.wrap .i64 ((IntKind.wrap .i64 (byteAt x0 (IntKind.wrap .i64 (x1 + 1)))) - 128)) * 64)))) + (IntKind.wrap .i64 (byteAt x0 (IntKind.wrap .i64 (x1 + 2)))))) - 128)), 3)) else (some ((-1), 1)))) else (some ((-1), 1))) else none) else none) else (some ((-1), 1)))) else (some ((-1), 1)))) else (bif (decide ((IntKind.wrap .i64 (byteAt x0 x1)) ≥ 240)) then (bif (decide ((IntKind.wrap .i64 (byteAt x0 x1)) ≤ 244)) then ((atlasref01_tail.f x0 (IntKind.wrap .i64 (x1 + 1))).bind fun r12 => (bif r12 then ((atlasref01_tail.f x0 (IntKind.wrap .i64 (x1 + 2))).bind fun r13 => (bif r13 then ((atlasref01_tail.f x0 (IntKind.wrap .i64 (x1 + 3))).bind fun r14 => (bif r14 then (bif (decide (0 ≤ (IntKind.wrap .i64 (x1 + 1))) && decide ((IntKind.wrap .i64 (x1 + 1)) < ((x0).size : Int))) then (bif (decide (0 ≤ (IntKind.wrap .i64 (x1 + 2))) && decide ((IntKind.wrap .i64 (x1 + 2)) < ((x0).size : Int))) then (bif (decide (0 ≤ (IntKind.wrap .i64 (x1 + 3))) && decide ((IntKind.wrap .i64 (x1 + 3)) < ((x0).size : Int))) then (bif (decide ((IntKind.wrap .i64 ((IntKind.wrap .i64 ((IntKind.wrap .i64 ((IntKind.wrap .i64 ((IntKind.wrap .i64 ((IntKind.wrap .i64 ((IntKind.wrap .i64 (byteAt x0 x1)) - 240)) * 262144)) + (IntKind.wrap .i64 ((IntKind.wrap .i64 ((IntKind.wrap .i64 (byteAt x0 (IntKind.wrap .i64 (x1 + 1)))) - 128)) * 4096)))) + (IntKind.wrap .i64 ((IntKind.wrap .i64 ((IntKind.wrap .i64 (byteAt x0 (IntKind.wrap .i64 (x1 + 2)))) - 128)) * 64)))) + (IntKind.wrap .i64 (byteAt x0 (IntKind.wrap .i64 (x1 + 3)))))) - 128)) ≥ 65536)) then (bif (decide ((IntKind.wrap .i64 ((IntKind.wrap .i64 ((IntKind.wrap .i64 ((IntKind.wrap .i64 ((IntKind.wrap .i64 ((IntKind.wrap .i64 ((IntKind.wrap .i64 (byteAt x0 x1)) - 240)) * 262144)) + (IntKind.wrap .i64 ((IntKind.wrap .i64 ((IntKind.wrap .i64 (byteAt x0 (IntKind.wrap .i64 (x1 + 1)))) - 128)) * 4096)))) + (IntKind.wrap .i64 ((IntKind.wrap .i64 ((IntKind.wrap .i64 (byteAt x0 (IntKind.wrap .i64 (x1 + 2)))) - 128)) * 64)))) + (IntKind.wrap .i64 (byteAt x0 (IntKind.wrap .i64 (x1 + 3)))))) - 128)) ≤ 1114111)) then (some ((IntKind.wrap .i64 ((IntKind.wrap .i64 ((IntKind.wrap .i64 ((IntKind.wrap .i64 ((IntKind.wrap .i64 ((IntKind.wrap .i64 ((IntKind.wrap .i64 (byteAt x0 x1)) - 240)) * 262144)) + (IntKind.wrap .i64 ((IntKind.wrap .i64 ((IntKind.wrap .i64 (byteAt x0 (IntKind.wrap .i64 (x1 + 1)))) - 128)) * 4096)))) + (IntKind.wrap .i64 ((IntKind.wrap .i64 ((IntKind.wrap .i64 (byteAt x0 (IntKind.wrap .i64 (x1 + 2)))) - 128)) * 64)))) + (IntKind.wrap .i64 (byteAt x0 (IntKind.wrap .i64 (x1 + 3)))))) - 128)), 4)) else (some ((-1), 1))) else (some ((-1), 1))) else none) else none) else none) else (some ((-1), 1)))) else (some ((-1), 1)))) else (some ((-1), 1)))) else (some ((-1), 1))) else (some ((-1), 1)))) else (bif (decide ((IntKind.wrap .i64 (byteAt x0 x1)) ≥ 240)) then (bif (decide ((IntKind.wrap .i64 (byteAt x0 x1)) ≤ 244)) then ((atlasref01_tail.f x0 (IntKind.wrap .i64 (x1 + 1))).bind fun r15 => (bif r15 then ((atlasref01_tail.f x0 (IntKind.wrap .i64 (x1 + 2))).bind fun r16 => (bif r16 then ((atlasref01_tail.f x0 (IntKind.wrap .i64 (x1 + 3))).bind fun r17 => (bif r17 then (bif (decide (0 ≤ (IntKind.wrap .i64 (x1 + 1))) && decide ((IntKind.wrap .i64 (x1 + 1)) < ((x0).size : Int))) then (bif (decide (0 ≤ (IntKind.wrap .i64 (x1 + 2))) && decide ((IntKind.wrap .i64 (x1 + 2)) < ((x0).size : Int))) then (bif (decide (0 ≤ (IntKind.wrap .i64 (x1 + 3))) && decide ((IntKind.wrap .i64 (x1 + 3)) < ((x0).size : Int))) then (bif (decide ((IntKind.wrap .i64 ((IntKind.wrap .i64 ((IntKind.wrap .i64 ((IntKind.wrap .i64 ((IntKind.wrap .i64 ((IntKind.wrap .i64 ((IntKind.wrap .i64 (byteAt x0 x1)) - 240)) * 262144)) + (IntKind.wrap .i64 ((IntKind.wrap .i64 ((IntKind.wrap .i64 (byteAt x0 (IntKind.wrap .i64 (x1 + 1)))) - 128)) * 4096)))) + (IntKind.wrap .i64 ((IntKind.wrap .i64 ((IntKind.wrap .i64 (byteAt x0 (IntKind.wrap .i64 (x1 + 2)))) - 128)) * 64)))) + (IntKind.wrap .i64 (byteAt x0 (IntKind.wrap .i64 (x1 + 3)))))) - 128)) ≥ 65536)) then (bif (decide ((IntKind.wrap .i64 ((IntKind.wrap .i64 ((IntKind.wrap .i64 ((IntKind.wrap .i64 ((IntKind.wrap .i64 ((IntKind.wrap .i64 ((IntKind.wrap .i64 (byteAt x0 x1)) - 240)) * 262144)) + (IntKind.wrap .i64 ((IntKind.wrap .i64 ((IntKind.wrap .i64 (byteAt x0 (IntKind.wrap .i64 (x1 + 1)))) - 128)) * 4096)))) + (IntKind.wrap .i64 ((IntKind.wrap .i64 ((IntKind.wrap .i64 (byteAt x0 (IntKind.wrap .i64 (x1 + 2)))) - 128)) * 64)))) + (IntKind.wrap .i64 (byteAt x0 (IntKind.wrap .i64 (x1 + 3)))))) - 128)) ≤ 1114111)) then (some ((IntKind.wrap .i64 ((IntKind.wrap .i64 ((IntKind.wrap .i64 ((IntKind.wrap .i64 ((IntKind.wrap .i64 ((IntKind.wrap .i64 ((IntKind.wrap .i64 (byteAt x0 x1)) - 240)) * 262144)) + (IntKind.wrap .i64 ((IntKind.wrap .i64 ((IntKind.wrap .i64 (byteAt x0 (IntKind.wrap .i64 (x1 + 1)))) - 128)) * 4096)))) + (IntKind.wrap .i64 ((IntKind.wrap .i64 ((IntKind.wrap .i64 (byteAt x0 (IntKind.wrap .i64 (x1 + 2)))) - 128)) * 64)))) + (IntKind.wrap .i64 (byteAt x0 (IntKind.wrap .i64 (x1 + 3)))))) - 128)), 4)) else (some ((-1), 1))) else (some ((-1), 1))) else none) else none) else none) else (some ((-1), 1)))) else (some ((-1), 1)))) else (some ((-1), 1)))) else (some ((-1), 1))) else (some ((-1), 1)))))) else none)
theorem atlasref01_Rune.run (x0 : ByteArray) (x1 : Int) : runF Try.prog (gamOf [(68, atlasref01_tail.g)]) noLam Try.f59 [(.val (.string x0)), (.val (.int .i64 x1))] some = (atlasref01_Rune.f x0 x1).bind fun r => some (.ret (.tup [(.val (.int .i64 r.1)), (.val (.int .i64 r.2))])) := by
  unfold atlasref01_Rune.f
  try simp only [cond_bind, elim_bind, Option.bind_some, Option.bind_none, Option.bind_assoc, Sum.elim_inl, Sum.elim_inr]
  kernel_rfl
def atlasref01_Rune.g : GFun := fun β args K => match args with
  | [a0, a1] => (strO a0).bind fun x0 => (intO .i64 a1).bind fun x1 => (atlasref01_Rune.f x0 x1).bind fun r => K (.ret (.tup [(.val (.int .i64 r.1)), (.val (.int .i64 r.2))]))
  | _ => none
theorem atlasref01_Rune.callable : callable Try.prog 59 = true := callable_of Try.func59 (by kernel_rfl)
theorem atlasref01_Rune.ok : GOk Try.prog 59 (atlasref01_Rune.g) := by
  intro β args K r h
  unfold atlasref01_Rune.g at h
  split at h
  · obtain ⟨x0, e0, h⟩ := Option.bind_eq_some_iff.1 h
    obtain ⟨x1, e1, h⟩ := Option.bind_eq_some_iff.1 h
    obtain ⟨y, hy, hK⟩ := Option.bind_eq_some_iff.1 h
    have hrun := atlasref01_Rune.run x0 x1
    rw [hy] at hrun
    obtain ⟨out, e, hs⟩ := sim_of_run Try.func59 (by kernel_rfl) mixed (gamOf_cons (atlasref01_tail.ok) atlasref01_tail.callable (gamOf_nil _)) (noLam_ok _ _) (args' := [(.val (.string x0)), (.val (.int .i64 x1))]) (RefsL.cons (Refs.of_eq (strO_eq e0)) (RefsL.cons (Refs.of_eq (intO_eq e1)) RefsL.nil)) hrun
    simp only [Option.some.injEq] at e
    subst e
    exact ⟨_, hK, hs⟩
  · cases h
/-! ### atlas/atlasref01.letter: function 60 -/
def atlasref01_letter.q0.h : Head (Int × Bool) where
  k γ s F := (sizedN 39 s).bind fun _ => (intO .i64 (gt s.tm 0)).bind fun v2 => (boolO (gt s.tm 3)).bind fun v4 => (distO []).bind fun _ => F (v2, v4)
  st x := ⟨sparseT [(0, (.val (.int .i64 x.1))), (3, (.val (.bool x.2)))] 39 0, []⟩
  ok γ s F r h := by
    obtain ⟨_, hz, h⟩ := Option.bind_eq_some_iff.1 h
    obtain ⟨v2, h1, h⟩ := Option.bind_eq_some_iff.1 h
    obtain ⟨v4, h3, h⟩ := Option.bind_eq_some_iff.1 h
    obtain ⟨_, h5, h⟩ := Option.bind_eq_some_iff.1 h
    exact ⟨_, h, weak_ren (l := []) (sizedN_ok hz) (distO_ok h5) (LiveR.cons (RefsR.plain (Refs.of_eq (intO_eq h1)) rfl) (LiveR.cons (RefsR.plain (Refs.of_eq (boolO_eq h3)) rfl) LiveR.nil)) BlksR.nil⟩

def atlasref01_letter.q0.x0 : Head (Bool) where
  k γ s F := (sizedN 39 s).bind fun _ => (boolO (gt s.tm 2)).bind fun v2 => (distO []).bind fun _ => F (v2)
  st x := ⟨sparseT [(2, (.val (.bool x)))] 39 0, []⟩
  ok γ s F r h := by
    obtain ⟨_, hz, h⟩ := Option.bind_eq_some_iff.1 h
    obtain ⟨v2, h1, h⟩ := Option.bind_eq_some_iff.1 h
    obtain ⟨_, h3, h⟩ := Option.bind_eq_some_iff.1 h
    exact ⟨_, h, weak_ren (l := []) (sizedN_ok hz) (distO_ok h3) (LiveR.cons (RefsR.plain (Refs.of_eq (boolO_eq h1)) rfl) LiveR.nil) BlksR.nil⟩

def atlasref01_letter.q0.x1 : Head (Int) where
  k γ s F := (sizedN 39 s).bind fun _ => (intO .i64 (gt s.tm 0)).bind fun v2 => (distO []).bind fun _ => F (v2)
  st x := ⟨sparseT [(0, (.val (.int .i64 x)))] 39 0, []⟩
  ok γ s F r h := by
    obtain ⟨_, hz, h⟩ := Option.bind_eq_some_iff.1 h
    obtain ⟨v2, h1, h⟩ := Option.bind_eq_some_iff.1 h
    obtain ⟨_, h3, h⟩ := Option.bind_eq_some_iff.1 h
    exact ⟨_, h, weak_ren (l := []) (sizedN_ok hz) (distO_ok h3) (LiveR.cons (RefsR.plain (Refs.of_eq (intO_eq h1)) rfl) LiveR.nil) BlksR.nil⟩

def atlasref01_letter.q0.t : Tail ((Bool) ⊕ (Int)) := Tail.or .ret atlasref01_letter.q0.x0 (Tail.one .normal atlasref01_letter.q0.x1)
theorem atlasref01_letter.q0.np (y : ((Bool) ⊕ (Int))) (v : AV) : (atlasref01_letter.q0.t.out y).1 = .panic v → nomem v = true := fun h => by rcases y with _ | y <;> first | (cases h; done) | (cases h; rfl) | (cases h)
def atlasref01_letter.q0.l (k : Nat) (x : (Int × Bool)) : Option ((Bool) ⊕ (Int)) := (bif x.2 then (some (Sum.inl true)) else (bif (decide (x.1 ≥ 192)) then (bif (decide (x.1 ≤ 591)) then (bif (x.1 != 215) then (some (Sum.inl (x.1 != 247))) else (some (Sum.inl false))) else (some (Sum.inr x.1))) else (some (Sum.inr x.1))))
theorem atlasref01_letter.q0.at : codeAt (bodyOf Try.f60) [true, false, false, true] = some (codeOf (bodyOf Try.f60) [true, false, false, true]) := by kernel_rfl
theorem atlasref01_letter.q0.goes (k : Nat) (x : (Int × Bool)) : E Try.prog (gamOf []) (lamOf []) (codeOf (bodyOf Try.f60) [true, false, false, true]) [true, false, false, true] (atlasref01_letter.q0.h.st x) (fun ex t => atlasref01_letter.q0.t.d _ ex t some) = atlasref01_letter.q0.l k x := by
  kernel_rfl
theorem atlasref01_letter.q0.ok_ (k : Nat) : PieceOk Try.prog (bodyOf Try.f60) ⟨[true, false, false, true], _, _, atlasref01_letter.q0.h, atlasref01_letter.q0.t, atlasref01_letter.q0.l k⟩ :=
  piece_code (gamOf_nil _) (lamOf_nil _ _) mixed atlasref01_letter.q0.at atlasref01_letter.q0.np (atlasref01_letter.q0.goes k)
def atlasref01_letter.q0.p (k : Nat) : Piece := ⟨[true, false, false, true], _, _, atlasref01_letter.q0.h, atlasref01_letter.q0.t, atlasref01_letter.q0.l k⟩
theorem atlasref01_letter.q0.ok (k : Nat) : PieceOk Try.prog (bodyOf Try.f60) (atlasref01_letter.q0.p k) := atlasref01_letter.q0.ok_ k
def atlasref01_letter.q1.h : Head (Int) where
  k γ s F := (sizedN 39 s).bind fun _ => (intO .i64 (gt s.tm 0)).bind fun v2 => (distO []).bind fun _ => F (v2)
  st x := ⟨sparseT [(0, (.val (.int .i64 x)))] 39 0, []⟩
  ok γ s F r h := by
    obtain ⟨_, hz, h⟩ := Option.bind_eq_some_iff.1 h
    obtain ⟨v2, h1, h⟩ := Option.bind_eq_some_iff.1 h
    obtain ⟨_, h3, h⟩ := Option.bind_eq_some_iff.1 h
    exact ⟨_, h, weak_ren (l := []) (sizedN_ok hz) (distO_ok h3) (LiveR.cons (RefsR.plain (Refs.of_eq (intO_eq h1)) rfl) LiveR.nil) BlksR.nil⟩

def atlasref01_letter.q1.x0 : Head (Bool) where
  k γ s F := (sizedN 39 s).bind fun _ => (boolO (gt s.tm 2)).bind fun v2 => (distO []).bind fun _ => F (v2)
  st x := ⟨sparseT [(2, (.val (.bool x)))] 39 0, []⟩
  ok γ s F r h := by
    obtain ⟨_, hz, h⟩ := Option.bind_eq_some_iff.1 h
    obtain ⟨v2, h1, h⟩ := Option.bind_eq_some_iff.1 h
    obtain ⟨_, h3, h⟩ := Option.bind_eq_some_iff.1 h
    exact ⟨_, h, weak_ren (l := []) (sizedN_ok hz) (distO_ok h3) (LiveR.cons (RefsR.plain (Refs.of_eq (boolO_eq h1)) rfl) LiveR.nil) BlksR.nil⟩

def atlasref01_letter.q1.t : Tail (Bool) := Tail.one .ret atlasref01_letter.q1.x0
theorem atlasref01_letter.q1.np (y : (Bool)) (v : AV) : (atlasref01_letter.q1.t.out y).1 = .panic v → nomem v = true := fun h => by cases h
def atlasref01_letter.q1.l (k : Nat) (x : (Int)) : Option (Bool) := (bif (decide (x ≥ 913)) then (bif (decide (x ≤ 969)) then (some (x != 930)) else (some false)) else (some false))
theorem atlasref01_letter.q1.at : codeAt (bodyOf Try.f60) [true, true] = some (codeOf (bodyOf Try.f60) [true, true]) := by kernel_rfl
theorem atlasref01_letter.q1.goes (k : Nat) (x : (Int)) : E Try.prog (gamOf []) (lamOf []) (codeOf (bodyOf Try.f60) [true, true]) [true, true] (atlasref01_letter.q1.h.st x) (fun ex t => atlasref01_letter.q1.t.d _ ex t some) = atlasref01_letter.q1.l k x := by
  kernel_rfl
theorem atlasref01_letter.q1.ok_ (k : Nat) : PieceOk Try.prog (bodyOf Try.f60) ⟨[true, true], _, _, atlasref01_letter.q1.h, atlasref01_letter.q1.t, atlasref01_letter.q1.l k⟩ :=
  piece_code (gamOf_nil _) (lamOf_nil _ _) mixed atlasref01_letter.q1.at atlasref01_letter.q1.np (atlasref01_letter.q1.goes k)
def atlasref01_letter.q1.p (k : Nat) : Piece := ⟨[true, true], _, _, atlasref01_letter.q1.h, atlasref01_letter.q1.t, atlasref01_letter.q1.l k⟩
theorem atlasref01_letter.q1.ok (k : Nat) : PieceOk Try.prog (bodyOf Try.f60) (atlasref01_letter.q1.p k) := atlasref01_letter.q1.ok_ k
def atlasref01_letter.f (k : Nat) (x0 : Int) : Option (Bool) := (bif (decide (x0 ≥ 97)) then (bif (decide (x0 ≤ 122)) then ((atlasref01_letter.q0.l k (x0, (decide (x0 ≤ 122)))).bind fun r1 => (Sum.elim (fun r2 => (some r2)) (fun r3 => ((atlasref01_letter.q1.l k r3).bind fun r4 => (some r4))) r1)) else (bif (decide (x0 ≥ 65)) then ((atlasref01_letter.q0.l k (x0, (decide (x0 ≤ 90)))).bind fun r5 => (Sum.elim (fun r6 => (some r6)) (fun r7 => ((atlasref01_letter.q1.l k r7).bind fun r8 => (some r8))) r5)) else ((atlasref01_letter.q0.l k (x0, false)).bind fun r9 => (Sum.elim (fun r10 => (some r10)) (fun r11 => ((atlasref01_letter.q1.l k r11).bind fun r12 => (some r12))) r9)))) else (bif (decide (x0 ≥ 65)) then ((atlasref01_letter.q0.l k (x0, (decide (x0 ≤ 90)))).bind fun r13 => (Sum.elim (fun r14 => (some r14)) (fun r15 => ((atlasref01_letter.q1.l k r15).bind fun r16 => (some r16))) r13)) else ((atlasref01_letter.q0.l k (x0, false)).bind fun r17 => (Sum.elim (fun r18 => (some r18)) (fun r19 => ((atlasref01_letter.q1.l k r19).bind fun r20 => (some r20))) r17))))
theorem atlasref01_letter.run (k : Nat) (x0 : Int) : runF Try.prog (gamOf []) (lamOf [atlasref01_letter.q0.p k, atlasref01_letter.q1.p k]) Try.f60 [(.val (.int .i64 x0))] some = (atlasref01_letter.f k x0).bind fun r => some (.ret (.val (.bool r))) := by
  unfold atlasref01_letter.f
  try simp only [cond_bind, elim_bind, Option.bind_some, Option.bind_none, Option.bind_assoc, Sum.elim_inl, Sum.elim_inr]
  kernel_rfl
def atlasref01_letter.g (k : Nat) : GFun := fun β args K => match args with
  | [a0] => (intO .i64 a0).bind fun x0 => (atlasref01_letter.f k x0).bind fun r => K (.ret (.val (.bool r)))
  | _ => none
theorem atlasref01_letter.callable : callable Try.prog 60 = true := callable_of Try.func60 (by kernel_rfl)
theorem atlasref01_letter.ok (k : Nat) : GOk Try.prog 60 (atlasref01_letter.g k) := by
  intro β args K r h
  unfold atlasref01_letter.g at h
  split at h
  · obtain ⟨x0, e0, h⟩ := Option.bind_eq_some_iff.1 h
    obtain ⟨y, hy, hK⟩ := Option.bind_eq_some_iff.1 h
    have hrun := atlasref01_letter.run k x0
    rw [hy] at hrun
    obtain ⟨out, e, hs⟩ := sim_of_run Try.func60 (by kernel_rfl) mixed (gamOf_nil _) (lamOf_cons (atlasref01_letter.q0.ok k) (lamOf_cons (atlasref01_letter.q1.ok k) (lamOf_nil _ _))) (args' := [(.val (.int .i64 x0))]) (RefsL.cons (Refs.of_eq (intO_eq e0)) RefsL.nil) hrun
    simp only [Option.some.injEq] at e
    subst e
    exact ⟨_, hK, hs⟩
  · cases h
/-! ### atlas/atlasref01.digit: function 61 -/
def atlasref01_digit.f (x0 : Int) : Option (Bool) := (bif (decide (x0 ≥ 48)) then (some (decide (x0 ≤ 57))) else (some false))
theorem atlasref01_digit.run (x0 : Int) : runF Try.prog (gamOf []) noLam Try.f61 [(.val (.int .i64 x0))] some = (atlasref01_digit.f x0).bind fun r => some (.ret (.val (.bool r))) := by
  unfold atlasref01_digit.f
  try simp only [cond_bind, elim_bind, Option.bind_some, Option.bind_none, Option.bind_assoc, Sum.elim_inl, Sum.elim_inr]
  kernel_rfl
def atlasref01_digit.g : GFun := fun β args K => match args with
  | [a0] => (intO .i64 a0).bind fun x0 => (atlasref01_digit.f x0).bind fun r => K (.ret (.val (.bool r)))
  | _ => none
theorem atlasref01_digit.callable : callable Try.prog 61 = true := callable_of Try.func61 (by kernel_rfl)
theorem atlasref01_digit.ok : GOk Try.prog 61 (atlasref01_digit.g) := by
  intro β args K r h
  unfold atlasref01_digit.g at h
  split at h
  · obtain ⟨x0, e0, h⟩ := Option.bind_eq_some_iff.1 h
    obtain ⟨y, hy, hK⟩ := Option.bind_eq_some_iff.1 h
    have hrun := atlasref01_digit.run x0
    rw [hy] at hrun
    obtain ⟨out, e, hs⟩ := sim_of_run Try.func61 (by kernel_rfl) mixed (gamOf_nil _) (noLam_ok _ _) (args' := [(.val (.int .i64 x0))]) (RefsL.cons (Refs.of_eq (intO_eq e0)) RefsL.nil) hrun
    simp only [Option.some.injEq] at e
    subst e
    exact ⟨_, hK, hs⟩
  · cases h
/-! ### atlas/atlasref01.Name: function 28 -/
def atlasref01_Name.q0.h : Head (ByteArray × Int × Int) where
  k γ s F := (sizedN 44 s).bind fun _ => (strO (gt s.tm 0)).bind fun v2 => (intO .i64 (gt s.tm 3)).bind fun v4 => (intO .i64 (gt s.tm 4)).bind fun v6 => (distO []).bind fun _ => F (v2, v4, v6)
  st x := ⟨sparseT [(0, (.val (.string x.1))), (3, (.val (.int .i64 x.2.1))), (4, (.val (.int .i64 x.2.2)))] 44 0, []⟩
  ok γ s F r h := by
    obtain ⟨_, hz, h⟩ := Option.bind_eq_some_iff.1 h
    obtain ⟨v2, h1, h⟩ := Option.bind_eq_some_iff.1 h
    obtain ⟨v4, h3, h⟩ := Option.bind_eq_some_iff.1 h
    obtain ⟨v6, h5, h⟩ := Option.bind_eq_some_iff.1 h
    obtain ⟨_, h7, h⟩ := Option.bind_eq_some_iff.1 h
    exact ⟨_, h, weak_ren (l := []) (sizedN_ok hz) (distO_ok h7) (LiveR.cons (RefsR.plain (Refs.of_eq (strO_eq h1)) rfl) (LiveR.cons (RefsR.plain (Refs.of_eq (intO_eq h3)) rfl) (LiveR.cons (RefsR.plain (Refs.of_eq (intO_eq h5)) rfl) LiveR.nil))) BlksR.nil⟩

def atlasref01_Name.q0.x0 : Head (Bool) where
  k γ s F := (sizedN 44 s).bind fun _ => (boolO (gt s.tm 2)).bind fun v2 => (distO []).bind fun _ => F (v2)
  st x := ⟨sparseT [(2, (.val (.bool x)))] 44 0, []⟩
  ok γ s F r h := by
    obtain ⟨_, hz, h⟩ := Option.bind_eq_some_iff.1 h
    obtain ⟨v2, h1, h⟩ := Option.bind_eq_some_iff.1 h
    obtain ⟨_, h3, h⟩ := Option.bind_eq_some_iff.1 h
    exact ⟨_, h, weak_ren (l := []) (sizedN_ok hz) (distO_ok h3) (LiveR.cons (RefsR.plain (Refs.of_eq (boolO_eq h1)) rfl) LiveR.nil) BlksR.nil⟩

def atlasref01_Name.q0.x1 : Head (Int) where
  k γ s F := (sizedN 44 s).bind fun _ => (intO .i64 (gt s.tm 3)).bind fun v2 => (distO []).bind fun _ => F (v2)
  st x := ⟨sparseT [(3, (.val (.int .i64 x)))] 44 0, []⟩
  ok γ s F r h := by
    obtain ⟨_, hz, h⟩ := Option.bind_eq_some_iff.1 h
    obtain ⟨v2, h1, h⟩ := Option.bind_eq_some_iff.1 h
    obtain ⟨_, h3, h⟩ := Option.bind_eq_some_iff.1 h
    exact ⟨_, h, weak_ren (l := []) (sizedN_ok hz) (distO_ok h3) (LiveR.cons (RefsR.plain (Refs.of_eq (intO_eq h1)) rfl) LiveR.nil) BlksR.nil⟩

def atlasref01_Name.q0.t : Tail ((Bool) ⊕ (Int)) := Tail.or .ret atlasref01_Name.q0.x0 (Tail.one (.exit 0) atlasref01_Name.q0.x1)
theorem atlasref01_Name.q0.np (y : ((Bool) ⊕ (Int))) (v : AV) : (atlasref01_Name.q0.t.out y).1 = .panic v → nomem v = true := fun h => by rcases y with _ | y <;> first | (cases h; done) | (cases h; rfl) | (cases h)
theorem atlasref01_Name.q0.nn (y : ((Bool) ⊕ (Int))) : (atlasref01_Name.q0.t.out y).1 ≠ .normal := fun h => by rcases y with _ | y <;> first | (cases h; done) | (cases h; rfl) | (cases h)
def atlasref01_Name.q0.l (k : Nat) : Nat → (ByteArray × Int × Int) → Option ((Bool) ⊕ (Int))
  | 0, _ => none
  | n + 1, x => (bif (decide (x.2.2 < ((x.1).size : Int))) then ((atlasref01_Rune.f x.1 x.2.2).bind fun r1 => ((atlasref01_letter.f k r1.1).bind fun r2 => (bif (!r2) then (bif (x.2.1 == 0) then (some (Sum.inl false)) else ((atlasref01_digit.f r1.1).bind fun r3 => (bif (!r3) then (bif (r1.1 != 95) then (some (Sum.inl false)) else (atlasref01_Name.q0.l k n (x.1, (IntKind.wrap .i64 (x.2.1 + 1)), (IntKind.wrap .i64 (x.2.2 + r1.2))))) else (atlasref01_Name.q0.l k n (x.1, (IntKind.wrap .i64 (x.2.1 + 1)), (IntKind.wrap .i64 (x.2.2 + r1.2))))))) else (atlasref01_Name.q0.l k n (x.1, (IntKind.wrap .i64 (x.2.1 + 1)), (IntKind.wrap .i64 (x.2.2 + r1.2))))))) else (some (Sum.inr x.2.1)))
theorem atlasref01_Name.q0.z (k : Nat) (x : (ByteArray × Int × Int)) : atlasref01_Name.q0.l k 0 x = none := rfl
theorem atlasref01_Name.q0.at : codeAt (bodyOf Try.f28) [false, true, false, true, true] = some (.loop (loopBody (bodyOf Try.f28) [false, true, false, true, true])) := by kernel_rfl
theorem atlasref01_Name.q0.goes (k n : Nat) (x : (ByteArray × Int × Int)) : E Try.prog (gamOf [(59, atlasref01_Rune.g), (60, atlasref01_letter.g k), (61, atlasref01_digit.g)]) (lamOf []) (loopBody (bodyOf Try.f28) [false, true, false, true, true]) (false :: [false, true, false, true, true]) (atlasref01_Name.q0.h.st x) (contD atlasref01_Name.q0.h atlasref01_Name.q0.t (atlasref01_Name.q0.l k n) some) = atlasref01_Name.q0.l k (n + 1) x := by
  kernel_rfl
theorem atlasref01_Name.q0.ok_ (k : Nat) : PieceOk Try.prog (bodyOf Try.f28) ⟨[false, true, false, true, true], _, _, atlasref01_Name.q0.h, atlasref01_Name.q0.t, atlasref01_Name.q0.l k k⟩ :=
  piece_loop (gamOf_cons (atlasref01_Rune.ok) atlasref01_Rune.callable (gamOf_cons (atlasref01_letter.ok k) atlasref01_letter.callable (gamOf_cons (atlasref01_digit.ok) atlasref01_digit.callable (gamOf_nil _)))) (lamOf_nil _ _) mixed atlasref01_Name.q0.at atlasref01_Name.q0.np atlasref01_Name.q0.nn (atlasref01_Name.q0.z k) (atlasref01_Name.q0.goes k) k
def atlasref01_Name.q0.p (k : Nat) : Piece := ⟨[false, true, false, true, true], _, _, atlasref01_Name.q0.h, atlasref01_Name.q0.t, atlasref01_Name.q0.l k k⟩
theorem atlasref01_Name.q0.ok (k : Nat) : PieceOk Try.prog (bodyOf Try.f28) (atlasref01_Name.q0.p k) := atlasref01_Name.q0.ok_ k
def atlasref01_Name.f (k : Nat) (x0 : ByteArray) : Option (Bool) := ((atlasref01_Name.q0.l k k (x0, 0, 0)).bind fun r4 => (Sum.elim (fun r5 => (some r5)) (fun r6 => (bif (decide (r6 ≥ 1)) then (some (decide (r6 ≤ 16))) else (some false))) r4))
theorem atlasref01_Name.run (k : Nat) (x0 : ByteArray) : runF Try.prog (gamOf [(59, atlasref01_Rune.g), (60, atlasref01_letter.g k), (61, atlasref01_digit.g)]) (lamOf [atlasref01_Name.q0.p k]) Try.f28 [(.val (.string x0))] some = (atlasref01_Name.f k x0).bind fun r => some (.ret (.val (.bool r))) := by
  unfold atlasref01_Name.f
  try simp only [cond_bind, elim_bind, Option.bind_some, Option.bind_none, Option.bind_assoc, Sum.elim_inl, Sum.elim_inr]
  kernel_rfl
def atlasref01_Name.g (k : Nat) : GFun := fun β args K => match args with
  | [a0] => (strO a0).bind fun x0 => (atlasref01_Name.f k x0).bind fun r => K (.ret (.val (.bool r)))
  | _ => none
theorem atlasref01_Name.callable : callable Try.prog 28 = true := callable_of Try.func28 (by kernel_rfl)
theorem atlasref01_Name.ok (k : Nat) : GOk Try.prog 28 (atlasref01_Name.g k) := by
  intro β args K r h
  unfold atlasref01_Name.g at h
  split at h
  · obtain ⟨x0, e0, h⟩ := Option.bind_eq_some_iff.1 h
    obtain ⟨y, hy, hK⟩ := Option.bind_eq_some_iff.1 h
    have hrun := atlasref01_Name.run k x0
    rw [hy] at hrun
    obtain ⟨out, e, hs⟩ := sim_of_run Try.func28 (by kernel_rfl) mixed (gamOf_cons (atlasref01_Rune.ok) atlasref01_Rune.callable (gamOf_cons (atlasref01_letter.ok k) atlasref01_letter.callable (gamOf_cons (atlasref01_digit.ok) atlasref01_digit.callable (gamOf_nil _)))) (lamOf_cons (atlasref01_Name.q0.ok k) (lamOf_nil _ _)) (args' := [(.val (.string x0))]) (RefsL.cons (Refs.of_eq (strO_eq e0)) RefsL.nil) hrun
    simp only [Option.some.injEq] at e
    subst e
    exact ⟨_, hK, hs⟩
  · cases h
/-! ### atlas/atlasref23.named: function 70 -/
def atlasref23_named.q0.h : Head ((List Int) × Int × Int) where
  k γ s F := (sizedN 30 s).bind fun _ => (vtO (.int .u8) (gt s.tm 0)).bind fun v2 => (intO .u64 (gt s.tm 1)).bind fun v4 => (intO .u64 (gt s.tm 6)).bind fun v6 => (distO []).bind fun _ => F (v2, v4, v6)
  st x := ⟨sparseT [(0, (.vt (.int .u8) x.1)), (1, (.val (.int .u64 x.2.1))), (6, (.val (.int .u64 x.2.2)))] 30 0, []⟩
  ok γ s F r h := by
    obtain ⟨_, hz, h⟩ := Option.bind_eq_some_iff.1 h
    obtain ⟨v2, h1, h⟩ := Option.bind_eq_some_iff.1 h
    obtain ⟨v4, h3, h⟩ := Option.bind_eq_some_iff.1 h
    obtain ⟨v6, h5, h⟩ := Option.bind_eq_some_iff.1 h
    obtain ⟨_, h7, h⟩ := Option.bind_eq_some_iff.1 h
    exact ⟨_, h, weak_ren (l := []) (sizedN_ok hz) (distO_ok h7) (LiveR.cons (RefsR.plain (vtO_refs h1) rfl) (LiveR.cons (RefsR.plain (Refs.of_eq (intO_eq h3)) rfl) (LiveR.cons (RefsR.plain (Refs.of_eq (intO_eq h5)) rfl) LiveR.nil))) BlksR.nil⟩

def atlasref23_named.q0.x0 : Head (ByteArray × Bool) where
  k γ s F := (sizedN 30 s).bind fun _ => (strO (gt s.tm 4)).bind fun v2 => (boolO (gt s.tm 5)).bind fun v4 => (distO []).bind fun _ => F (v2, v4)
  st x := ⟨sparseT [(4, (.val (.string x.1))), (5, (.val (.bool x.2)))] 30 0, []⟩
  ok γ s F r h := by
    obtain ⟨_, hz, h⟩ := Option.bind_eq_some_iff.1 h
    obtain ⟨v2, h1, h⟩ := Option.bind_eq_some_iff.1 h
    obtain ⟨v4, h3, h⟩ := Option.bind_eq_some_iff.1 h
    obtain ⟨_, h5, h⟩ := Option.bind_eq_some_iff.1 h
    exact ⟨_, h, weak_ren (l := []) (sizedN_ok hz) (distO_ok h5) (LiveR.cons (RefsR.plain (Refs.of_eq (strO_eq h1)) rfl) (LiveR.cons (RefsR.plain (Refs.of_eq (boolO_eq h3)) rfl) LiveR.nil)) BlksR.nil⟩

def atlasref23_named.q0.x1 : Head (Unit) where
  k γ s F := (sizedN 30 s).bind fun _ => (distO []).bind fun _ => F ()
  st x := ⟨sparseT [] 30 0, []⟩
  ok γ s F r h := by
    obtain ⟨_, hz, h⟩ := Option.bind_eq_some_iff.1 h
    obtain ⟨_, h1, h⟩ := Option.bind_eq_some_iff.1 h
    exact ⟨_, h, weak_ren (l := []) (sizedN_ok hz) (distO_ok h1) LiveR.nil BlksR.nil⟩

def atlasref23_named.q0.t : Tail ((ByteArray × Bool) ⊕ (Unit)) := Tail.or .ret atlasref23_named.q0.x0 (Tail.one (.exit 0) atlasref23_named.q0.x1)
theorem atlasref23_named.q0.np (y : ((ByteArray × Bool) ⊕ (Unit))) (v : AV) : (atlasref23_named.q0.t.out y).1 = .panic v → nomem v = true := fun h => by rcases y with _ | y <;> first | (cases h; done) | (cases h; rfl) | (cases h)
theorem atlasref23_named.q0.nn (y : ((ByteArray × Bool) ⊕ (Unit))) : (atlasref23_named.q0.t.out y).1 ≠ .normal := fun h => by rcases y with _ | y <;> first | (cases h; done) | (cases h; rfl) | (cases h)
def atlasref23_named.q0.l (k : Nat) : Nat → ((List Int) × Int × Int) → Option ((ByteArray × Bool) ⊕ (Unit))
  | 0, _ => none
  | n + 1, x => (bif (decide (x.2.2 < (IntKind.wrap .u64 ((x.1.length : Nat) : Int)))) then (bif (decide (0 ≤ x.2.2) && decide (x.2.2 < ((x.1.length : Nat) : Int))) then (bif ((x.1.getD (x.2.2).toNat 0) == 0) then (bif (decide (0 ≤ x.2.2) && decide (x.2.2 ≤ ((x.1.length : Nat) : Int))) then (bif (decide (0 ≤ x.2.1) && decide (x.2.1 ≤ (((x.2.2).toNat : Nat) : Int))) then (bif ((x.1.drop ((x.2.1).toNat)).take ((x.2.2).toNat - (x.2.1).toNat)).all (fun b => decide (0 ≤ b) && decide (b < 256)) then (some (Sum.inl ((bytesO ((x.1.drop ((x.2.1).toNat)).take ((x.2.2).toNat - (x.2.1).toNat))), true))) else none) else none) else none) else (atlasref23_named.q0.l k n (x.1, x.2.1, (IntKind.wrap .u64 (x.2.2 + 1))))) else none) else (some (Sum.inr ())))
theorem atlasref23_named.q0.z (k : Nat) (x : ((List Int) × Int × Int)) : atlasref23_named.q0.l k 0 x = none := rfl
theorem atlasref23_named.q0.at : codeAt (bodyOf Try.f70) [false, true, false, true, true] = some (.loop (loopBody (bodyOf Try.f70) [false, true, false, true, true])) := by kernel_rfl
theorem atlasref23_named.q0.goes (k n : Nat) (x : ((List Int) × Int × Int)) : E Try.prog (gamOf []) (lamOf []) (loopBody (bodyOf Try.f70) [false, true, false, true, true]) (false :: [false, true, false, true, true]) (atlasref23_named.q0.h.st x) (contD atlasref23_named.q0.h atlasref23_named.q0.t (atlasref23_named.q0.l k n) some) = atlasref23_named.q0.l k (n + 1) x := by
  kernel_rfl
theorem atlasref23_named.q0.ok_ (k : Nat) : PieceOk Try.prog (bodyOf Try.f70) ⟨[false, true, false, true, true], _, _, atlasref23_named.q0.h, atlasref23_named.q0.t, atlasref23_named.q0.l k k⟩ :=
  piece_loop (gamOf_nil _) (lamOf_nil _ _) mixed atlasref23_named.q0.at atlasref23_named.q0.np atlasref23_named.q0.nn (atlasref23_named.q0.z k) (atlasref23_named.q0.goes k) k
def atlasref23_named.q0.p (k : Nat) : Piece := ⟨[false, true, false, true, true], _, _, atlasref23_named.q0.h, atlasref23_named.q0.t, atlasref23_named.q0.l k k⟩
theorem atlasref23_named.q0.ok (k : Nat) : PieceOk Try.prog (bodyOf Try.f70) (atlasref23_named.q0.p k) := atlasref23_named.q0.ok_ k
def atlasref23_named.f (k : Nat) (x0 : (List Int)) (x1 : Int) : Option (ByteArray × Bool) := (bif (decide (x1 ≥ (IntKind.wrap .u64 ((x0.length : Nat) : Int)))) then (some ((⟨#[]⟩ : ByteArray), false)) else ((atlasref23_named.q0.l k k (x0, x1, x1)).bind fun r1 => (Sum.elim (fun r2 => (some (r2.1, r2.2))) (fun r3 => (some ((⟨#[]⟩ : ByteArray), false))) r1)))
theorem atlasref23_named.run (k : Nat) (x0 : (List Int)) (x1 : Int) : runF Try.prog (gamOf []) (lamOf [atlasref23_named.q0.p k]) Try.f70 [(.vt (.int .u8) x0), (.val (.int .u64 x1))] some = (atlasref23_named.f k x0 x1).bind fun r => some (.ret (.tup [(.val (.string r.1)), (.val (.bool r.2))])) := by
  unfold atlasref23_named.f
  try simp only [cond_bind, elim_bind, Option.bind_some, Option.bind_none, Option.bind_assoc, Sum.elim_inl, Sum.elim_inr]
  kernel_rfl
def atlasref23_named.g (k : Nat) : GFun := fun β args K => match args with
  | [a0, a1] => (vtO (.int .u8) a0).bind fun x0 => (intO .u64 a1).bind fun x1 => (atlasref23_named.f k x0 x1).bind fun r => K (.ret (.tup [(.val (.string r.1)), (.val (.bool r.2))]))
  | _ => none
theorem atlasref23_named.callable : callable Try.prog 70 = true := callable_of Try.func70 (by kernel_rfl)
theorem atlasref23_named.ok (k : Nat) : GOk Try.prog 70 (atlasref23_named.g k) := by
  intro β args K r h
  unfold atlasref23_named.g at h
  split at h
  · obtain ⟨x0, e0, h⟩ := Option.bind_eq_some_iff.1 h
    obtain ⟨x1, e1, h⟩ := Option.bind_eq_some_iff.1 h
    obtain ⟨y, hy, hK⟩ := Option.bind_eq_some_iff.1 h
    have hrun := atlasref23_named.run k x0 x1
    rw [hy] at hrun
    obtain ⟨out, e, hs⟩ := sim_of_run Try.func70 (by kernel_rfl) mixed (gamOf_nil _) (lamOf_cons (atlasref23_named.q0.ok k) (lamOf_nil _ _)) (args' := [(.vt (.int .u8) x0), (.val (.int .u64 x1))]) (RefsL.cons (vtO_refs e0) (RefsL.cons (Refs.of_eq (intO_eq e1)) RefsL.nil)) hrun
    simp only [Option.some.injEq] at e
    subst e
    exact ⟨_, hK, hs⟩
  · cases h
/-! ### atlas/atlasref23.table: function 66 -/
def atlasref23_table.q0.h : Head ((List Int) × Int × Int × (List Int) × Int × (List (ByteArray × Int × Unit))) where
  k γ s F := (sizedN 142 s).bind fun _ => (vtO (.int .u8) (gt s.tm 0)).bind fun v2 => (intO .u64 (gt s.tm 11)).bind fun v4 => (intO .u64 (gt s.tm 12)).bind fun v6 => (vtO (.int .u8) (gt s.tm 16)).bind fun v8 => (soN 2 s.hp (gt s.tm 17)).bind fun b10 => (intO .u64 (gt s.tm 18)).bind fun v12 => (rtN (.pair .str (.pair (.int .u32) .unit)) 48 s.hp b10).bind fun v14 => (distO [b10]).bind fun _ => F (v2, v4, v6, v8, v12, v14)
  st x := ⟨sparseT [(0, (.vt (.int .u8) x.1)), (11, (.val (.int .u64 x.2.1))), (12, (.val (.int .u64 x.2.2.1))), (16, (.vt (.int .u8) x.2.2.2.1)), (17, (.so 0 2)), (18, (.val (.int .u64 x.2.2.2.2.1)))] 142 0, [.rt (.pair .str (.pair (.int .u32) .unit)) x.2.2.2.2.2 48]⟩
  ok γ s F r h := by
    obtain ⟨_, hz, h⟩ := Option.bind_eq_some_iff.1 h
    obtain ⟨v2, h1, h⟩ := Option.bind_eq_some_iff.1 h
    obtain ⟨v4, h3, h⟩ := Option.bind_eq_some_iff.1 h
    obtain ⟨v6, h5, h⟩ := Option.bind_eq_some_iff.1 h
    obtain ⟨v8, h7, h⟩ := Option.bind_eq_some_iff.1 h
    obtain ⟨b10, h9, h⟩ := Option.bind_eq_some_iff.1 h
    obtain ⟨v12, h11, h⟩ := Option.bind_eq_some_iff.1 h
    obtain ⟨v14, h13, h⟩ := Option.bind_eq_some_iff.1 h
    obtain ⟨_, h15, h⟩ := Option.bind_eq_some_iff.1 h
    exact ⟨_, h, weak_ren (l := [b10]) (sizedN_ok hz) (distO_ok h15) (LiveR.cons (RefsR.plain (vtO_refs h1) rfl) (LiveR.cons (RefsR.plain (Refs.of_eq (intO_eq h3)) rfl) (LiveR.cons (RefsR.plain (Refs.of_eq (intO_eq h5)) rfl) (LiveR.cons (RefsR.plain (vtO_refs h7) rfl) (LiveR.cons (RefsR.so (l := [b10]) (i := 0) rfl (Nat.le_of_ble_eq_true rfl) h9) (LiveR.cons (RefsR.plain (Refs.of_eq (intO_eq h11)) rfl) LiveR.nil)))))) (BlksR.cons (rtN_blk h13) BlksR.nil)⟩

def atlasref23_table.q0.x0 : Head (Bool × (List (ByteArray × Int × Unit))) where
  k γ s F := (sizedN 142 s).bind fun _ => (soN 2 s.hp (gt s.tm 8)).bind fun b2 => (boolO (gt s.tm 9)).bind fun v4 => (rtN (.pair .str (.pair (.int .u32) .unit)) 48 s.hp b2).bind fun v6 => (distO [b2]).bind fun _ => F (v4, v6)
  st x := ⟨sparseT [(8, (.so 0 2)), (9, (.val (.bool x.1)))] 142 0, [.rt (.pair .str (.pair (.int .u32) .unit)) x.2 48]⟩
  ok γ s F r h := by
    obtain ⟨_, hz, h⟩ := Option.bind_eq_some_iff.1 h
    obtain ⟨b2, h1, h⟩ := Option.bind_eq_some_iff.1 h
    obtain ⟨v4, h3, h⟩ := Option.bind_eq_some_iff.1 h
    obtain ⟨v6, h5, h⟩ := Option.bind_eq_some_iff.1 h
    obtain ⟨_, h7, h⟩ := Option.bind_eq_some_iff.1 h
    exact ⟨_, h, weak_ren (l := [b2]) (sizedN_ok hz) (distO_ok h7) (LiveR.cons (RefsR.so (l := [b2]) (i := 0) rfl (Nat.le_of_ble_eq_true rfl) h1) (LiveR.cons (RefsR.plain (Refs.of_eq (boolO_eq h3)) rfl) LiveR.nil)) (BlksR.cons (rtN_blk h5) BlksR.nil)⟩

def atlasref23_table.q0.x1 : Head ((List (ByteArray × Int × Unit))) where
  k γ s F := (sizedN 142 s).bind fun _ => (soN 2 s.hp (gt s.tm 17)).bind fun b2 => (rtN (.pair .str (.pair (.int .u32) .unit)) 48 s.hp b2).bind fun v4 => (distO [b2]).bind fun _ => F (v4)
  st x := ⟨sparseT [(17, (.so 0 2))] 142 0, [.rt (.pair .str (.pair (.int .u32) .unit)) x 48]⟩
  ok γ s F r h := by
    obtain ⟨_, hz, h⟩ := Option.bind_eq_some_iff.1 h
    obtain ⟨b2, h1, h⟩ := Option.bind_eq_some_iff.1 h
    obtain ⟨v4, h3, h⟩ := Option.bind_eq_some_iff.1 h
    obtain ⟨_, h5, h⟩ := Option.bind_eq_some_iff.1 h
    exact ⟨_, h, weak_ren (l := [b2]) (sizedN_ok hz) (distO_ok h5) (LiveR.cons (RefsR.so (l := [b2]) (i := 0) rfl (Nat.le_of_ble_eq_true rfl) h1) LiveR.nil) (BlksR.cons (rtN_blk h3) BlksR.nil)⟩

def atlasref23_table.q0.t : Tail ((Bool × (List (ByteArray × Int × Unit))) ⊕ ((List (ByteArray × Int × Unit)))) := Tail.or .ret atlasref23_table.q0.x0 (Tail.one (.exit 0) atlasref23_table.q0.x1)
theorem atlasref23_table.q0.np (y : ((Bool × (List (ByteArray × Int × Unit))) ⊕ ((List (ByteArray × Int × Unit))))) (v : AV) : (atlasref23_table.q0.t.out y).1 = .panic v → nomem v = true := fun h => by rcases y with _ | y <;> first | (cases h; done) | (cases h; rfl) | (cases h)
theorem atlasref23_table.q0.nn (y : ((Bool × (List (ByteArray × Int × Unit))) ⊕ ((List (ByteArray × Int × Unit))))) : (atlasref23_table.q0.t.out y).1 ≠ .normal := fun h => by rcases y with _ | y <;> first | (cases h; done) | (cases h; rfl) | (cases h)
def atlasref23_table.q0.l (k : Nat) : Nat → ((List Int) × Int × Int × (List Int) × Int × (List (ByteArray × Int × Unit))) → Option ((Bool × (List (ByteArray × Int × Unit))) ⊕ ((List (ByteArray × Int × Unit))))
  | 0, _ => none
  | n + 1, x => (bif (decide (x.2.2.2.2.1 < (IntKind.wrap .u64 (Int.tdiv x.2.2.1 16)))) then ((atlasref23_word.f k x.1 (IntKind.wrap .u64 (x.2.1 + (IntKind.wrap .u64 (16 * x.2.2.2.2.1)))) 0).bind fun r9 => ((atlasref23_named.f k x.2.2.2.1 r9).bind fun r10 => ((atlasref23_Find.f k (⟨0, ([] : List (Int × Int × (Bool × Bool × Bool × Unit) × (List Int) × Unit)), x.2.2.2.2.2⟩ : T25) r10.1).bind fun r11 => (bif (!r10.2) then (some (Sum.inl (false, ([] : List (ByteArray × Int × Unit))))) else (bif r11.2 then (some (Sum.inl (false, ([] : List (ByteArray × Int × Unit))))) else ((atlasref01_Name.f k r10.1).bind fun r12 => (bif (!r12) then (some (Sum.inl (false, ([] : List (ByteArray × Int × Unit))))) else ((atlasref23_word.f k x.1 (IntKind.wrap .u64 (x.2.1 + (IntKind.wrap .u64 (16 * x.2.2.2.2.1)))) 1).bind fun r13 => (bif (decide ((x.2.2.2.2.2 ++ ([(r10.1, (IntKind.wrap .u32 r13), ())] : List (ByteArray × Int × Unit))).length ≤ maxLen) && decide ((x.2.2.2.2.2 ++ ([(r10.1, (IntKind.wrap .u32 r13), ())] : List (ByteArray × Int × Unit))).length * 24 ≤ 140737488355328)) then (atlasref23_table.q0.l k n (x.1, x.2.1, x.2.2.1, x.2.2.2.1, (IntKind.wrap .u64 (x.2.2.2.2.1 + 1)), (x.2.2.2.2.2 ++ ([(r10.1, (IntKind.wrap .u32 r13), ())] : List (ByteArray × Int × Unit))))) else none))))))))) else (some (Sum.inr x.2.2.2.2.2)))
theorem atlasref23_table.q0.z (k : Nat) (x : ((List Int) × Int × Int × (List Int) × Int × (List (ByteArray × Int × Unit)))) : atlasref23_table.q0.l k 0 x = none := rfl
theorem atlasref23_table.q0.at : codeAt (bodyOf Try.f66) [false, true, false, true, true, true, true, true, true, true, true, true, true, true, true] = some (.loop (loopBody (bodyOf Try.f66) [false, true, false, true, true, true, true, true, true, true, true, true, true, true, true])) := by kernel_rfl
theorem atlasref23_table.q0.goes (k n : Nat) (x : ((List Int) × Int × Int × (List Int) × Int × (List (ByteArray × Int × Unit)))) : E Try.prog (gamOf [(51, atlasref23_word.g k), (70, atlasref23_named.g k), (12, atlasref23_Find.g k), (28, atlasref01_Name.g k)]) (lamOf []) (loopBody (bodyOf Try.f66) [false, true, false, true, true, true, true, true, true, true, true, true, true, true, true]) (false :: [false, true, false, true, true, true, true, true, true, true, true, true, true, true, true]) (atlasref23_table.q0.h.st x) (contD atlasref23_table.q0.h atlasref23_table.q0.t (atlasref23_table.q0.l k n) some) = atlasref23_table.q0.l k (n + 1) x := by
  kernel_rfl
theorem atlasref23_table.q0.ok_ (k : Nat) : PieceOk Try.prog (bodyOf Try.f66) ⟨[false, true, false, true, true, true, true, true, true, true, true, true, true, true, true], _, _, atlasref23_table.q0.h, atlasref23_table.q0.t, atlasref23_table.q0.l k k⟩ :=
  piece_loop (gamOf_cons (atlasref23_word.ok k) atlasref23_word.callable (gamOf_cons (atlasref23_named.ok k) atlasref23_named.callable (gamOf_cons (atlasref23_Find.ok k) atlasref23_Find.callable (gamOf_cons (atlasref01_Name.ok k) atlasref01_Name.callable (gamOf_nil _))))) (lamOf_nil _ _) mixed atlasref23_table.q0.at atlasref23_table.q0.np atlasref23_table.q0.nn (atlasref23_table.q0.z k) (atlasref23_table.q0.goes k) k
def atlasref23_table.q0.p (k : Nat) : Piece := ⟨[false, true, false, true, true, true, true, true, true, true, true, true, true, true, true], _, _, atlasref23_table.q0.h, atlasref23_table.q0.t, atlasref23_table.q0.l k k⟩
theorem atlasref23_table.q0.ok (k : Nat) : PieceOk Try.prog (bodyOf Try.f66) (atlasref23_table.q0.p k) := atlasref23_table.q0.ok_ k
def atlasref23_table.f (k : Nat) (x0 : (List Int)) (x1 : Int) (x2 : Int) (x3 : Int) : Option ((List (ByteArray × Int × Unit)) × Bool) := ((atlasref23_word.f k x0 x3 4).bind fun r1 => ((atlasref23_word.f k x0 x3 5).bind fun r2 => ((atlasref23_word.f k x0 x3 6).bind fun r3 => (bif (r2 == 0) then (some (([] : List (ByteArray × Int × Unit)), false)) else (bif ((Int.tmod r2 16) != 0) then (some (([] : List (ByteArray × Int × Unit)), false)) else (bif (decide ((IntKind.wrap .u64 (r1 + r2)) > (IntKind.wrap .u64 ((x0.length : Nat) : Int)))) then (some (([] : List (ByteArray × Int × Unit)), false)) else (bif (decide (r3 ≥ x2)) then (some (([] : List (ByteArray × Int × Unit)), false)) else ((atlasref23_word.f k x0 (IntKind.wrap .u64 (x1 + (IntKind.wrap .u64 (40 * r3)))) 5).bind fun r4 => ((atlasref23_word.f k x0 (IntKind.wrap .u64 (x1 + (IntKind.wrap .u64 (40 * r3)))) 1).bind fun r5 => (bif (r5 != 3) then (some (([] : List (ByteArray × Int × Unit)), false)) else (bif (decide (r4 > 0)) then ((atlasref23_word.f k x0 (IntKind.wrap .u64 (x1 + (IntKind.wrap .u64 (40 * r3)))) 4).bind fun r6 => (bif (decide ((IntKind.wrap .u64 (r6 + r4)) > (IntKind.wrap .u64 ((x0.length : Nat) : Int)))) then (some (([] : List (ByteArray × Int × Unit)), false)) else (bif (decide ((IntKind.wrap .u64 (Int.tdiv r2 16)) > 1025)) then (some (([] : List (ByteArray × Int × Unit)), false)) else (bif (decide (r4 > 0)) then ((atlasref23_word.f k x0 (IntKind.wrap .u64 (x1 + (IntKind.wrap .u64 (40 * r3)))) 4).bind fun r7 => ((atlasref23_word.f k x0 (IntKind.wrap .u64 (x1 + (IntKind.wrap .u64 (40 * r3)))) 4).bind fun r8 => (bif (decide (0 ≤ (IntKind.wrap .u64 (r8 + r4))) && decide ((IntKind.wrap .u64 (r8 + r4)) ≤ ((x0.length : Nat) : Int))) then (bif (decide (0 ≤ r7) && decide (r7 ≤ ((((IntKind.wrap .u64 (r8 + r4))).toNat : Nat) : Int))) then ((atlasref23_table.q0.l k k (x0, r1, r2, ((x0.drop ((r7).toNat)).take (((IntKind.wrap .u64 (r8 + r4))).toNat - (r7).toNat)), 1, ([] : List (ByteArray × Int × Unit)))).bind fun r14 => (Sum.elim (fun r15 => (some (r15.2, r15.1))) (fun r16 => (some (r16, true))) r14)) else none) else none))) else ((atlasref23_table.q0.l k k (x0, r1, r2, ([] : List Int), 1, ([] : List (ByteArray × Int × Unit)))).bind fun r17 => (Sum.elim (fun r18 => (some (r18.2, r18.1))) (fun r19 => (some (r19, true))) r17)))))) else (bif (decide ((IntKind.wrap .u64 (Int.tdiv r2 16)) > 1025)) then (some (([] : List (ByteArray × Int × Unit)), false)) else (bif (decide (r4 > 0)) then ((atlasref23_word.f k x0 (IntKind.wrap .u64 (x1 + (IntKind.wrap .u64 (40 * r3)))) 4).bind fun r20 => ((atlasref23_word.f k x0 (IntKind.wrap .u64 (x1 + (IntKind.wrap .u64 (40 * r3)))) 4).bind fun r21 => (bif (decide (0 ≤ (IntKind.wrap .u64 (r21 + r4))) && decide ((IntKind.wrap .u64 (r21 + r4)) ≤ ((x0.length : Nat) : Int))) then (bif (decide (0 ≤ r20) && decide (r20 ≤ ((((IntKind.wrap .u64 (r21 + r4))).toNat : Nat) : Int))) then ((atlasref23_table.q0.l k k (x0, r1, r2, ((x0.drop ((r20).toNat)).take (((IntKind.wrap .u64 (r21 + r4))).toNat - (r20).toNat)), 1, ([] : List (ByteArray × Int × Unit)))).bind fun r22 => (Sum.elim (fun r23 => (some (r23.2, r23.1))) (fun r24 => (some (r24, true))) r22)) else none) else none))) else ((atlasref23_table.q0.l k k (x0, r1, r2, ([] : List Int), 1, ([] : List (ByteArray × Int × Unit)))).bind fun r25 => (Sum.elim (fun r26 => (some (r26.2, r26.1))) (fun r27 => (some (r27, true))) r25)))))))))))))))
theorem atlasref23_table.run (k : Nat) (x0 : (List Int)) (x1 : Int) (x2 : Int) (x3 : Int) : runF Try.prog (gamOf [(51, atlasref23_word.g k), (70, atlasref23_named.g k), (12, atlasref23_Find.g k), (28, atlasref01_Name.g k)]) (lamOf [atlasref23_table.q0.p k]) Try.f66 [(.vt (.int .u8) x0), (.val (.int .u64 x1)), (.val (.int .u64 x2)), (.val (.int .u64 x3))] some = (atlasref23_table.f k x0 x1 x2 x3).bind fun r => some (.ret (.tup [(.vt (.pair .str (.pair (.int .u32) .unit)) r.1), (.val (.bool r.2))])) := by
  unfold atlasref23_table.f
  try simp only [cond_bind, elim_bind, Option.bind_some, Option.bind_none, Option.bind_assoc, Sum.elim_inl, Sum.elim_inr]
  kernel_rfl
def atlasref23_table.g (k : Nat) : GFun := fun β args K => match args with
  | [a0, a1, a2, a3] => (vtO (.int .u8) a0).bind fun x0 => (intO .u64 a1).bind fun x1 => (intO .u64 a2).bind fun x2 => (intO .u64 a3).bind fun x3 => (atlasref23_table.f k x0 x1 x2 x3).bind fun r => K (.ret (.tup [(.vt (.pair .str (.pair (.int .u32) .unit)) r.1), (.val (.bool r.2))]))
  | _ => none
theorem atlasref23_table.callable : callable Try.prog 66 = true := callable_of Try.func66 (by kernel_rfl)
theorem atlasref23_table.ok (k : Nat) : GOk Try.prog 66 (atlasref23_table.g k) := by
  intro β args K r h
  unfold atlasref23_table.g at h
  split at h
  · obtain ⟨x0, e0, h⟩ := Option.bind_eq_some_iff.1 h
    obtain ⟨x1, e1, h⟩ := Option.bind_eq_some_iff.1 h
    obtain ⟨x2, e2, h⟩ := Option.bind_eq_some_iff.1 h
    obtain ⟨x3, e3, h⟩ := Option.bind_eq_some_iff.1 h
    obtain ⟨y, hy, hK⟩ := Option.bind_eq_some_iff.1 h
    have hrun := atlasref23_table.run k x0 x1 x2 x3
    rw [hy] at hrun
    obtain ⟨out, e, hs⟩ := sim_of_run Try.func66 (by kernel_rfl) mixed (gamOf_cons (atlasref23_word.ok k) atlasref23_word.callable (gamOf_cons (atlasref23_named.ok k) atlasref23_named.callable (gamOf_cons (atlasref23_Find.ok k) atlasref23_Find.callable (gamOf_cons (atlasref01_Name.ok k) atlasref01_Name.callable (gamOf_nil _))))) (lamOf_cons (atlasref23_table.q0.ok k) (lamOf_nil _ _)) (args' := [(.vt (.int .u8) x0), (.val (.int .u64 x1)), (.val (.int .u64 x2)), (.val (.int .u64 x3))]) (RefsL.cons (vtO_refs e0) (RefsL.cons (Refs.of_eq (intO_eq e1)) (RefsL.cons (Refs.of_eq (intO_eq e2)) (RefsL.cons (Refs.of_eq (intO_eq e3)) RefsL.nil)))) hrun
    simp only [Option.some.injEq] at e
    subst e
    exact ⟨_, hK, hs⟩
  · cases h
end Go.Va
