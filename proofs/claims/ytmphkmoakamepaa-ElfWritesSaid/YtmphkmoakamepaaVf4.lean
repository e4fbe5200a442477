-- Written by a program of this session (wip/va/vaprint.py). Not trusted: Lean checks it.
import Derived.Test.YtmphkmoakamepaaVaTy
import Derived.Test.YtmphkmoakamepaaVf3
set_option linter.unusedVariables false
set_option linter.unusedSimpArgs false
set_option autoImplicit false
set_option maxRecDepth 100000
namespace Go.Va
open Go.Proofs
/-! ### atlas/atlasref01.Rune: function 59 -/
def atlasref01_Rune.f (x0 : ByteArray) (x1 : Int) : Option (Int × Int) := (bif (decide (0 ≤ x1) && decide (x1 < ((x0).size : Int))) then (bif (decide ((IntKind.wrap .i64 (byteAt x0 x1)) < 128)) then (some ((IntKind.wrap .i64 (byteAt x0 x1)), 1)) else (bif (decide ((IntKind.wrap .i64 (byteAt x0 x1)) ≥ 194)) then (bif (decide ((IntKind.wrap .i64 (byteAt x0 x1)) ≤ 223)) then ((atlasref01_tail.f x0 (IntKind.wrap .i64 (x1 + 1))).bind fun r1 => (bif r1 then (bif (decide (0 ≤ (IntKind.wrap .i64 (x1 + 1))) && decide ((IntKind.wrap .i64 (x1 + 1)) < ((x0).size : Int))) then (some ((IntKind.wrap .i64 ((IntKind.wrap .i64 ((IntKind.wrap .i64 ((IntKind.wrap .i64 ((IntKind.wrap .i64 (byteAt x0 x1)) - 192)) * 64)) + (IntKind.wrap .i64 (byteAt x0 (IntKind.wrap .i64 (x1 + 1)))))) - 128)), 2)) else none) else (some ((-1), 1)))) else (bif (decide ((IntKind.wrap .i64 (byteAt x0 x1)) ≥ 224)) then (bif (decide ((IntKind.wrap .i64 (byteAt x0 x1)) ≤ 239)) then ((atlasref01_tail.f x0 (IntKind.wrap .i64 (x1 + 1))).bind fun r2 => (bif r2 then ((atlasref01_tail.f x0 (IntKind.wrap .i64 (x1 + 2))).bind fun r3 => (bif r3 then (bif (decide (0 ≤ (IntKind.wrap .i64 (x1 + 1))) && decide ((IntKind.wrap .i64 (x1 + 1)) < ((x0).size : Int))) then (bif (decide (0 ≤ (IntKind.wrap .i64 (x1 + 2))) && decide ((IntKind.wrap .i64 (x1 + 2)) < ((x0).size : Int))) then (bif (decide ((IntKind.wrap .i64 ((IntKind.wrap .i64 ((IntKind.wrap .i64 ((IntKind.wrap .i64 ((IntKind.wrap .i64 ((IntKind.wrap .i64 (byteAt x0 x1)) - 224)) * 4096)) + (IntKind.wrap .i64 ((IntKind.wrap .i64 ((IntKind.wrap .i64 (byteAt x0 (IntKind.wrap .i64 (x1 + 1)))) - 128)) * 64)))) + (IntKind.wrap .i64 (byteAt x0 (IntKind.wrap .i64 (x1 + 2)))))) - 128)) ≥ 2048)) then (bif (decide ((IntKind.wrap .i64 ((IntKind.wrap .i64 ((IntKind.wrap .i64 ((IntKind.wrap .i64 ((IntKind.wrap .i64 ((IntKind.wrap .i64 (byteAt x0 x1)) - 224)) * 4096)) + (IntKind.wrap .i64 ((IntKind.wrap .i64 ((IntKind.wrap .i64 (byteAt x0 (IntKind.wrap .i64 (x1 + 1)))) - 128)) * 64)))) + (IntKind.wrap .i64 (byteAt x0 (IntKind.wrap .i64 (x1 + 2)))))) - 128)) < 55296)) then (some ((IntKind.wrap .i64 ((IntKind.wrap .i64 ((IntKind.wrap .i64 ((IntKind.wrap .i64 ((IntKind.wrap .i64 ((IntKind.wrap .i64 (byteAt x0 x1)) - 224)) * 4096)) + (IntKind.wrap .i64 ((IntKind.wrap .i64 ((IntKind.wrap .i64 (byteAt x0 (IntKind.wrap .i64 (x1 + 1)))) - 128)) * 64)))) + (IntKind.wrap .i64 (byteAt x0 (IntKind.wrap .i64 (x1 + 2)))))) - 128)), 3)) else (bif (decide ((IntKind.wrap .i64 ((IntKind.wrap .i64 ((IntKind.wrap .i64 ((IntKind.wrap .i64 ((IntKind.wrap .i64 ((IntKind.wrap .i64 (byteAt x0 x1)) - 224)) * 4096)) + (IntKind.wrap .i64 ((IntKind.wrap .i64 ((IntKind.wrap .i64 (byteAt x0 (IntKind.wrap .i64 (x1 + 1)))) - 128)) * 64)))) + (IntKind.wrap .i64 (byteAt x0 (IntKind.wrap .i64 (x1 + 2)))))) - 128)) > 57343)) then (some ((IntKind.wrap .i64 ((IntKind.wrap .i64 ((IntKind.wrap .i64 ((IntKind.wrap .i64 ((IntKind.wrap .i64 ((IntKind.wrap .i64 (byteAt x0 x1)) - 224)) * 4096)) + (IntKind.wrap .i64 ((IntKind.wrap .i64 ((IntKind.wrap .i64 (byteAt x0 (IntKind.wrap .i64 (x1 + 1)))) - 128)) * 64)))) + (IntKind.wrap .i64 (byteAt x0 (IntKind.wrap .i64 (x1 + 2)))))) - 128)), 3)) else (some ((-1), 1)))) else (some ((-1), 1))) else none) else none) else (some ((-1), 1)))) else (some ((-1), 1)))) else (bif (decide ((IntKind.wrap .i64 (byteAt x0 x1)) ≥ 240)) then (bif (decide ((IntKind.wrap .i64 (byteAt x0 x1)) ≤ 244)) then ((atlasref01_tail.f x0 (IntKind.wrap .i64 (x1 + 1))).bind fun r4 => (bif r4 then ((atlasref01_tail.f x0 (IntKind.wrap .i64 (x1 + 2))).bind fun r5 => (bif r5 then ((atlasref01_tail.f x0 (IntKind.wrap .i64 (x1 + 3))).bind fun r6 => (bif r6 then (bif (decide (0 ≤ (IntKind.wrap .i64 (x1 + 1))) && decide ((IntKind.wrap .i64 (x1 + 1)) < ((x0).size : Int))) then (bif (decide (0 ≤ (IntKind.wrap .i64 (x1 + 2))) && decide ((IntKind.wrap .i64 (x1 + 2)) < ((x0).size : Int))) then (bif (decide (0 ≤ (IntKind.wrap .i64 (x1 + 3))) && decide ((IntKind.wrap .i64 (x1 + 3)) < ((x0).size : Int))) then (bif (decide ((IntKind.wrap .i64 ((IntKind.wrap .i64 ((IntKind.wrap .i64 ((IntKind.wrap .i64 ((IntKind.wrap .i64 ((IntKind.wrap .i64 ((IntKind.wrap .i64 (byteAt x0 x1)) - 240)) * 262144)) + (IntKind.wrap .i64 ((IntKind.wrap .i64 ((IntKind.wrap .i64 (byteAt x0 (IntKind.wrap .i64 (x1 + 1)))) - 128)) * 4096)))) + (IntKind.wrap .i64 ((IntKind.wrap .i64 ((IntKind.wrap .i64 (byteAt x0 (IntKind.wrap .i64 (x1 + 2)))) - 128)) * 64)))) + (IntKind.wrap .i64 (byteAt x0 (IntKind.wrap .i64 (x1 + 3)))))) - 128)) ≥ 65536)) then (bif (decide ((IntKind.wrap .i64 ((IntKind.wrap .i64 ((IntKind.wrap .i64 ((IntKind.wrap .i64 ((IntKind.wrap .i64 ((IntKind.wrap .i64 ((IntKind.wrap .i64 (byteAt x0 x1)) - 240)) * 262144)) + (IntKind.wrap .i64 ((IntKind.wrap .i64 ((IntKind.wrap .i64 (byteAt x0 (IntKind.wrap .i64 (x1 + 1)))) - 128)) * 4096)))) + (IntKind.wrap .i64 ((IntKind.wrap .i64 ((IntKind.wrap .i64 (byteAt x0 (IntKind.wrap .i64 (x1 + 2)))) - 128)) * 64)))) + (IntKind.wrap .i64 (byteAt x0 (IntKind.wrap .i64 (x1 + 3)))))) - 128)) ≤ 1114111)) then (some ((IntKind.wrap .i64 ((IntKind.wrap .i64 ((IntKind.wrap .i64 ((IntKind.wrap .i64 ((IntKind.wrap .i64 ((IntKind.wrap .i64 ((IntKind.wrap .i64 (byteAt x0 x1)) - 240)) * 262144)) + (IntKind.wrap .i64 ((IntKind.wrap .i64 ((IntKind.wrap .i64 (byteAt x0 (IntKind.wrap .i64 (x1 + 1)))) - 128)) * 4096)))) + (IntKind.wrap .i64 ((IntKind.wrap .i64 ((IntKind.wrap .i64 (byteAt x0 (IntKind.wrap .i64 (x1 + 2)))) - 128)) * 64)))) + (IntKind.wrap .i64 (byteAt x0 (IntKind.wrap .i64 (x1 + 3)))))) - 128)), 4)) else (some ((-1), 1))) else (some ((-1), 1))) else none) else none) else none) else (some ((-1), 1)))) else (some ((-1), 1)))) else (some ((-1), 1)))) else (some ((-1), 1))) else (some ((-1), 1)))) else (bif (decide ((IntKind.wrap .i64 (byteAt x0 x1)) ≥ 240)) then (bif (decide ((IntKind.wrap .i64 (byteAt x0 x1)) ≤ 244)) then ((atlasref01_tail.f x0 (IntKind.wrap .i64 (x1 + 1))).bind fun r7 => (bif r7 then ((atlasref01_tail.f x0 (IntKind.wrap .i64 (x1 + 2))).bind fun r8 => (bif r8 then ((atlasref01_tail.f x0 (IntKind.wrap .i64 (x1 + 3))).bind fun r9 => (bif r9 then (bif (decide (0 ≤ (IntKind.wrap .i64 (x1 + 1))) && decide ((IntKind.wrap .i64 (x1 + 1)) < ((x0).size : Int))) then (bif (decide (0 ≤ (IntKind.wrap .i64 (x1 + 2))) && decide ((IntKind.wrap .i64 (x1 + 2)) < ((x0).size : Int))) then (bif (decide (0 ≤ (IntKind.wrap .i64 (x1 + 3))) && decide ((IntKind.wrap .i64 (x1 + 3)) < ((x0).size : Int))) then (bif (decide ((IntKind.wrap .i64 ((IntKind.wrap .i64 ((IntKind.wrap .i64 ((IntKind.wrap .i64 ((IntKind.wrap .i64 ((IntKind.wrap .i64 ((IntKind.wrap .i64 (byteAt x0 x1)) - 240)) * 262144)) + (IntKind.wrap .i64 ((IntKind.wrap .i64 ((IntKind.wrap .i64 (byteAt x0 (IntKind.wrap .i64 (x1 + 1)))) - 128)) * 4096)))) + (IntKind.wrap .i64 ((IntKind.wrap .i64 ((IntKind.wrap .i64 (byteAt x0 (IntKind.wrap .i64 (x1 + 2)))) - 128)) * 64)))) + (IntKind.wrap .i64 (byteAt x0 (IntKind.wrap .i64 (x1 + 3)))))) - 128)) ≥ 65536)) then (bif (decide ((IntKind.wrap .i64 ((IntKind.wrap .i64 ((IntKind.wrap .i64 ((IntKind.wrap .i64 ((IntKind.wrap .i64 ((IntKind.wrap .i64 ((IntKind.wrap .i64 (byteAt x0 x1)) - 240)) * 262144)) + (IntKind.wrap .i64 ((IntKind.wrap .i64 ((IntKind.wrap .i64 (byteAt x0 (IntKind.wrap .i64 (x1 + 1)))) - 128)) * 4096)))) + (IntKind.wrap .i64 ((IntKind.wrap .i64 ((IntKind.wrap .i64 (byteAt x0 (IntKind.wrap .i64 (x1 + 2)))) - 128)) * 64)))) + (IntKind.wrap .i64 (byteAt x0 (IntKind.wrap .i64 (x1 + 3)))))) - 128)) ≤ 1114111)) then (some ((IntKind.wrap .i64 ((IntKind.wrap .i64 ((IntKind.wrap .i64 ((IntKind.wrap .i64 ((IntKind.wrap .i64 ((IntKind.wrap .i64 ((IntKind.wrap .i64 (byteAt x0 x1)) - 240)) * 262144)) + (IntKind.wrap .i64 ((IntKind.wrap .i64 ((IntKind.wrap .i64 (byteAt x0 (IntKind.wrap .i64 (x1 + 1)))) - 128)) * 4096)))) + (IntKind.wrap .i64 ((IntKind.wrap .i64 ((IntKind.wrap .i64 (byteAt x0 (IntKind.wrap .i64 (x1 + 2)))) - 128)) * 64)))) + (IntKind.wrap .i64 (byteAt x0 (IntKind.wrap .i64 (x1 + 3)))))) - 128)), 4)) else (some ((-1), 1))) else (some ((-1), 1))) else none) else none) else none) else (some ((-1), 1)))) else (some ((-1), 1)))) else (some ((-1), 1)))) else (some ((-1), 1))) else (some ((-1), 1))))) else (bif (decide ((IntKind.wrap .i64 (byteAt x0 x1)) ≥ 224)) then (bif (decide ((IntKind.wrap .i64 (byteAt x0 x1)) ≤ 239)) then ((atlasref01_tail.f x0 (IntKind.wrap .i64 (x1 + 1))).bind fun r10 => (bif r10 then ((atlasref01_tail.f x0 (IntKind.wrap .i64 (x1 + 2))).bind fun r11 => (bif r11 then (bif (decide (0 ≤ (IntKind.wrap .i64 (x1 + 1))) && decide ((IntKind.wrap .i64 (x1 + 1)) < ((x0).size : Int))) then (bif (decide (0 ≤ (IntKind.wrap .i64 (x1 + 2))) && decide ((IntKind.wrap .i64 (x1 + 2)) < ((x0).size : Int))) then (bif (decide ((IntKind.wrap .i64 ((IntKind.wrap .i64 ((IntKind.wrap .i64 ((IntKind.wrap .i64 ((IntKind.wrap .i64 ((IntKind.wrap .i64 (byteAt x0 x1)) - 224)) * 4096)) + (IntKind.wrap .i64 ((IntKind.wrap .i64 ((IntKind.wrap .i64 (byteAt x0 (IntKind.wrap .i64 (x1 + 1)))) - 128)) * 64)))) + (IntKind.wrap .i64 (byteAt x0 (IntKind.wrap .i64 (x1 + 2)))))) - 128)) ≥ 2048)) then (bif (decide ((IntKind.wrap .i64 ((IntKind.wrap .i64 ((IntKind.wrap .i64 ((IntKind.wrap .i64 ((IntKind.wrap .i64 ((IntKind.wrap .i64 (byteAt x0 x1)) - 224)) * 4096)) + (IntKind.wrap .i64 ((IntKind.wrap .i64 ((IntKind.wrap .i64 (byteAt x0 (IntKind.wrap .i64 (x1 + 1)))) - 128)) * 64)))) + (IntKind.wrap .i64 (byteAt x0 (IntKind.wrap .i64 (x1 + 2)))))) - 128)) < 55296)) then (some ((IntKind.wrap .i64 ((IntKind.wrap .i64 ((IntKind.wrap .i64 ((IntKind.wrap .i64 ((IntKind.wrap .i64 ((IntKind.wrap .i64 (byteAt x0 x1)) - 224)) * 4096)) + (IntKind.wrap .i64 ((IntKind.wrap .i64 ((IntKind.wrap .i64 (byteAt x0 (IntKind.wrap .i64 (x1 + 1)))) - 128)) * 64)))) + (IntKind.wrap .i64 (byteAt x0 (IntKind.wrap .i64 (x1 + 2)))))) - 128)), 3)) else (bif (decide ((IntKind.wrap .i64 ((IntKind.wrap .i64 ((IntKind.wrap .i64 ((IntKind.wrap .i64 ((IntKind.wrap .i64 ((IntKind.wrap .i64 (byteAt x0 x1)) - 224)) * 4096)) + (IntKind.wrap .i64 ((IntKind.wrap .i64 ((IntKind.wrap .i64 (byteAt x0 (IntKind.wrap .i64 (x1 + 1)))) - 128)) * 64)))) + (IntKind.wrap .i64 (byteAt x0 (IntKind.wrap .i64 (x1 + 2)))))) - 128)) > 57343)) then (some ((IntKind.wrap .i64 ((IntKind.wrap .i64 ((IntKind.wrap .i64 ((IntKind.wrap .i64 ((IntKind.wrap .i64 ((IntKind.wrap .i64 (byteAt x0 x1)) - 224)) * 4096)) + (IntKind.wrap .i64 ((IntKind.wrap .i64 ((IntKind.wrap .i64 (byteAt x0 (IntKind.wrap .i64 (x1 + 1)))) - 128)) * 64)))) + (IntKind.wrap .i64 (byteAt x0 (IntKind.wrap .i64 (x1 + 2)))))) - 128)), 3)) else (some ((-1), 1)))) else (some ((-1), 1))) else none) else none) else (some ((-1), 1)))) else (some ((-1), 1)))) else (bif (decide ((IntKind.wrap .i64 (byteAt x0 x1)) ≥ 240)) then (bif (decide ((IntKind.wrap .i64 (byteAt x0 x1)) ≤ 244)) then ((atlasref01_tail.f x0 (IntKind.wrap .i64 (x1 + 1))).bind fun r12 => (bif r12 then ((atlasref01_tail.f x0 (IntKind.wrap .i64 (x1 + 2))).bind fun r13 => (bif r13 then ((atlasref01_tail.f x0 (IntKind.wrap .i64 (x1 + 3))).bind fun r14 => (bif r14 then (bif (decide (0 ≤ (IntKind.wrap .i64 (x1 + 1))) && decide ((IntKind.wrap .i64 (x1 + 1)) < ((x0).size : Int))) then (bif (decide (0 ≤ (IntKind.wrap .i64 (x1 + 2))) && decide ((IntKind.wrap .i64 (x1 + 2)) < ((x0).size : Int))) then (bif (decide (0 ≤ (IntKind.wrap .i64 (x1 + 3))) && decide ((IntKind.wrap .i64 (x1 + 3)) < ((x0).size : Int))) then (bif (decide ((IntKind.wrap .i64 ((IntKind.wrap .i64 ((IntKind.wrap .i64 ((IntKind.wrap .i64 ((IntKind.wrap .i64 ((IntKind.wrap .i64 ((IntKind.wrap .i64 (byteAt x0 x1)) - 240)) * 262144)) + (IntKind.wrap .i64 ((IntKind.wrap .i64 ((IntKind.wrap .i64 (byteAt x0 (IntKind.wrap .i64 (x1 + 1)))) - 128)) * 4096)))) + (IntKind.wrap .i64 ((IntKind.wrap .i64 ((IntKind.wrap .i64 (byteAt x0 (IntKind.wrap .i64 (x1 + 2)))) - 128)) * 64)))) + (IntKind.wrap .i64 (byteAt x0 (IntKind.wrap .i64 (x1 + 3)))))) - 128)) ≥ 65536)) then (bif (decide ((IntKind.wrap .i64 ((IntKind.wrap .i64 ((IntKind.wrap .i64 ((IntKind.wrap .i64 ((IntKind.wrap .i64 ((IntKind.wrap .i64 ((IntKind.wrap .i64 (byteAt x0 x1)) - 240)) * 262144)) + (IntKind.wrap .i64 ((IntKind.wrap .i64 ((IntKind.wrap .i64 (byteAt x0 (IntKind.wrap .i64 (x1 + 1)))) - 128)) * 4096)))) + (IntKind.wrap .i64 ((IntKind.wrap .i64 ((IntKind.wrap .i64 (byteAt x0 (IntKind.wrap .i64 (x1 + 2)))) - 128)) * 64)))) + (IntKind.wrap .i64 (byteAt x0 (IntKind.wrap .i64 (x1 + 3)))))) - 128)) ≤ 1114111)) then (some ((IntKind.wrap .i64 ((IntKind.wrap .i64 ((IntKind.wrap .i64 ((IntKind.wrap .i64 ((IntKind.wrap .i64 ((IntKind.wrap .i64 ((IntKind.wrap .i64 (byteAt x0 x1)) - 240)) * 262144)) + (IntKind.wrap .i64 ((IntKind.wrap .i64 ((IntKind.wrap .i64 (byteAt x0 (IntKind.wrap .i64 (x1 + 1)))) - 128)) * 4096)))) + (IntKind.wrap .i64 ((IntKind.wrap .i64 ((IntKind.wrap .i64 (byteAt x0 (IntKind.wrap .i64 (x1 + 2)))) - 128)) * 64)))) + (IntKind.wrap .i64 (byteAt x0 (IntKind.wrap .i64 (x1 + 3)))))) - 128)), 4)) else (some ((-1), 1))) else (some ((-1), 1))) else none) else none) else none) else (some ((-1), 1)))) else (some ((-1), 1)))) else (some ((-1), 1)))) else (some ((-1), 1))) else (some ((-1), 1)))) else (bif (decide ((IntKind.wrap .i64 (byteAt x0 x1)) ≥ 240)) then (bif (decide ((IntKind.wrap .i64 (byteAt x0 x1)) ≤ 244)) then ((atlasref01_tail.f x0 (IntKind.wrap .i64 (x1 + 1))).bind fun r15 => (bif r15 then ((atlasref01_tail.f x0 (IntKind.wrap .i64 (x1 + 2))).bind fun r16 => (bif r16 then ((atlasref01_tail.f x0 (IntKind.wrap .i64 (x1 + 3))).bind fun r17 => (bif r17 then (bif (decide (0 ≤ (IntKind.wrap .i64 (x1 + 1))) && decide ((IntKind.wrap .i64 (x1 + 1)) < ((x0).size : Int))) then (bif (decide (0 ≤ (IntKind.wrap .i64 (x1 + 2))) && decide ((IntKind.wrap .i64 (x1 + 2)) < ((x0).size : Int))) then (bif (decide (0 ≤ (IntKind.wrap .i64 (x1 + 3))) && decide ((IntKind.wrap .i64 (x1 + 3)) < ((x0).size : Int))) then (bif (decide ((IntKind.wrap .i64 ((IntKind.wrap .i64 ((IntKind.wrap .i64 ((IntKind.wrap .i64 ((IntKind.wrap .i64 ((IntKind.wrap .i64 ((IntKind.wrap .i64 (byteAt x0 x1)) - 240)) * 262144)) + (IntKind.wrap .i64 ((IntKind.wrap .i64 ((IntKind.wrap .i64 (byteAt x0 (IntKind.wrap .i64 (x1 + 1)))) - 128)) * 4096)))) + (IntKind.wrap .i64 ((IntKind.wrap .i64 ((IntKind.wrap .i64 (byteAt x0 (IntKind.wrap .i64 (x1 + 2)))) - 128)) * 64)))) + (IntKind.wrap .i64 (byteAt x0 (IntKind.wrap .i64 (x1 + 3)))))) - 128)) ≥ 65536)) then (bif (decide ((IntKind.wrap .i64 ((IntKind.wrap .i64 ((IntKind.wrap .i64 ((IntKind.wrap .i64 ((IntKind.wrap .i64 ((IntKind.wrap .i64 ((IntKind.wrap .i64 (byteAt x0 x1)) - 240)) * 262144)) + (IntKind.wrap .i64 ((IntKind.wrap .i64 ((IntKind.wrap .i64 (byteAt x0 (IntKind.wrap .i64 (x1 + 1)))) - 128)) * 4096)))) + (IntKind.wrap .i64 ((IntKind.wrap .i64 ((IntKind.wrap .i64 (byteAt x0 (IntKind.wrap .i64 (x1 + 2)))) - 128)) * 64)))) + (IntKind.wrap .i64 (byteAt x0 (IntKind.wrap .i64 (x1 + 3)))))) - 128)) ≤ 1114111)) then (some ((IntKind.wrap .i64 ((IntKind.wrap .i64 ((IntKind.wrap .i64 ((IntKind.wrap .i64 ((IntKind.wrap .i64 ((IntKind.wrap .i64 ((IntKind.wrap .i64 (byteAt x0 x1)) - 240)) * 262144)) + (IntKind.wrap .i64 ((IntKind.wrap .i64 ((IntKind.wrap .i64 (byteAt x0 (IntKind.wrap .i64 (x1 + 1)))) - 128)) * 4096)))) + (IntKind.wrap .i64 ((IntKind.wrap .i64 ((IntKind.wrap .i64 (byteAt x0 (IntKind.wrap .i64 (x1 + 2)))) - 128)) * 64)))) + (IntKind.wrap .i64 (byteAt x0 (IntKind.wrap .i64 (x1 + 3)))))) - 128)), 4)) else (some ((-1), 1))) else (some ((-1), 1))) else none) else none) else none) else (some ((-1), 1)))) else (some ((-1), 1)))) else (some ((-1), 1)))) else (some ((-1), 1))) else (some ((-1), 1)))))) else none)
theorem atlasref01_Rune.run (x0 : ByteArray) (x1 : Int) : runF Try.prog (gamOf [(68, atlasref01_tail.g)]) noLam Try.f59 [(.val (.string x0)), (.val (.int .i64 x1))] some = (atlasref01_Rune.f x0 x1).bind fun r => some (.ret (.tup [(.val (.int .i64 r.1)), (.val (.int .i64 r.2))])) := by
  unfold atlasref01_Rune.f
  try simp only [cond_bind, elim_bind, Option.bind_some, Option.bind_none, Option.bind_assoc]
  kernel_rfl
def atlasref01_Rune.g : GFun := fun β args K => match args with
  | [a0, a1] => (strO a0).bind fun x0 => (intO .i64 a1).bind fun x1 => (atlasref01_Rune.f x0 x1).bind fun r => K (.ret (.tup [(.val (.int .i64 r.1)), (.val (.int .i64 r.2))]))
  | _ => none
theorem atlasref01_Rune.callable : callable Try.prog 59 = true := callable_of Try.func59 (by kernel_rfl)
theorem atlasref01_Rune.ok : GOk Try.prog 59 (atlasref01_Rune.g) := by
  intro β args K r h
  unfold atlasref01_Rune.g at h
  split at h
  · obtain ⟨x0, e0, h⟩ := Option.bind_eq_some_iff.1 h
    obtain ⟨x1, e1, h⟩ := Option.bind_eq_some_iff.1 h
    obtain ⟨y, hy, hK⟩ := Option.bind_eq_some_iff.1 h
    have hrun := atlasref01_Rune.run x0 x1
    rw [hy] at hrun
    obtain ⟨out, e, hs⟩ := sim_of_run Try.func59 (by kernel_rfl) mixed (gamOf_cons (atlasref01_tail.ok) atlasref01_tail.callable (gamOf_nil _)) (noLam_ok _ _) (args' := [(.val (.string x0)), (.val (.int .i64 x1))]) (RefsL.cons (Refs.of_eq (strO_eq e0)) (RefsL.cons (Refs.of_eq (intO_eq e1)) RefsL.nil)) hrun
    simp only [Option.some.injEq] at e
    subst e
    exact ⟨_, hK, hs⟩
  · cases h
/-! ### atlas/atlasref01.letter: function 60 -/
def atlasref01_letter.q0.h : Head (Int × Bool) where
  k γ s F := (sizedN 39 s).bind fun _ => (intO .i64 (gt s.tm 0)).bind fun v2 => (boolO (gt s.tm 3)).bind fun v4 => (distO []).bind fun _ => F (v2, v4)
  st x := ⟨sparseT [(0, (.val (.int .i64 x.1))), (3, (.val (.bool x.2)))] 39 0, []⟩
  ok γ s F r h := by
    obtain ⟨_, hz, h⟩ := Option.bind_eq_some_iff.1 h
    obtain ⟨v2, h1, h⟩ := Option.bind_eq_some_iff.1 h
    obtain ⟨v4, h3, h⟩ := Option.bind_eq_some_iff.1 h
    obtain ⟨_, h5, h⟩ := Option.bind_eq_some_iff.1 h
    exact ⟨_, h, weak_ren (l := []) (sizedN_ok hz) (distO_ok h5) (LiveR.cons (RefsR.plain (Refs.of_eq (intO_eq h1)) rfl) (LiveR.cons (RefsR.plain (Refs.of_eq (boolO_eq h3)) rfl) LiveR.nil)) BlksR.nil⟩

def atlasref01_letter.q0.x0 : Head (Bool) where
  k γ s F := (sizedN 39 s).bind fun _ => (boolO (gt s.tm 2)).bind fun v2 => (distO []).bind fun _ => F (v2)
  st x := ⟨sparseT [(2, (.val (.bool x)))] 39 0, []⟩
  ok γ s F r h := by
    obtain ⟨_, hz, h⟩ := Option.bind_eq_some_iff.1 h
    obtain ⟨v2, h1, h⟩ := Option.bind_eq_some_iff.1 h
    obtain ⟨_, h3, h⟩ := Option.bind_eq_some_iff.1 h
    exact ⟨_, h, weak_ren (l := []) (sizedN_ok hz) (distO_ok h3) (LiveR.cons (RefsR.plain (Refs.of_eq (boolO_eq h1)) rfl) LiveR.nil) BlksR.nil⟩

def atlasref01_letter.q0.x1 : Head (Int) where
  k γ s F := (sizedN 39 s).bind fun _ => (intO .i64 (gt s.tm 0)).bind fun v2 => (distO []).bind fun _ => F (v2)
  st x := ⟨sparseT [(0, (.val (.int .i64 x)))] 39 0, []⟩
  ok γ s F r h := by
    obtain ⟨_, hz, h⟩ := Option.bind_eq_some_iff.1 h
    obtain ⟨v2, h1, h⟩ := Option.bind_eq_some_iff.1 h
    obtain ⟨_, h3, h⟩ := Option.bind_eq_some_iff.1 h
    exact ⟨_, h, weak_ren (l := []) (sizedN_ok hz) (distO_ok h3) (LiveR.cons (RefsR.plain (Refs.of_eq (intO_eq h1)) rfl) LiveR.nil) BlksR.nil⟩

def atlasref01_letter.q0.t : Tail ((Bool) ⊕ (Int)) := Tail.or .ret atlasref01_letter.q0.x0 (Tail.one .normal atlasref01_letter.q0.x1)
theorem atlasref01_letter.q0.np (y : ((Bool) ⊕ (Int))) (v : AV) : (atlasref01_letter.q0.t.out y).1 ≠ .panic v := fun h => by rcases y with _ | y <;> first | (cases h; done) | (cases h)
def atlasref01_letter.q0.l (k : Nat) (x : (Int × Bool)) : Option ((Bool) ⊕ (Int)) := (bif x.2 then (some (Sum.inl true)) else (bif (decide (x.1 ≥ 192)) then (bif (decide (x.1 ≤ 591)) then (bif (x.1 != 215) then (some (Sum.inl (x.1 != 247))) else (some (Sum.inl false))) else (some (Sum.inr x.1))) else (some (Sum.inr x.1))))
theorem atlasref01_letter.q0.at : codeAt (bodyOf Try.f60) [true, false, false, true] = some (codeOf (bodyOf Try.f60) [true, false, false, true]) := by kernel_rfl
theorem atlasref01_letter.q0.goes (k : Nat) (x : (Int × Bool)) : E Try.prog (gamOf []) (lamOf []) (codeOf (bodyOf Try.f60) [true, false, false, true]) [true, false, false, true] (atlasref01_letter.q0.h.st x) (fun ex t => atlasref01_letter.q0.t.d _ ex t some) = atlasref01_letter.q0.l k x := by
  kernel_rfl
theorem atlasref01_letter.q0.ok_ (k : Nat) : PieceOk Try.prog (bodyOf Try.f60) ⟨[true, false, false, true], _, _, atlasref01_letter.q0.h, atlasref01_letter.q0.t, atlasref01_letter.q0.l k⟩ :=
  piece_code (gamOf_nil _) (lamOf_nil _ _) mixed atlasref01_letter.q0.at atlasref01_letter.q0.np (atlasref01_letter.q0.goes k)
def atlasref01_letter.q0.p (k : Nat) : Piece := ⟨[true, false, false, true], _, _, atlasref01_letter.q0.h, atlasref01_letter.q0.t, atlasref01_letter.q0.l k⟩
theorem atlasref01_letter.q0.ok (k : Nat) : PieceOk Try.prog (bodyOf Try.f60) (atlasref01_letter.q0.p k) := atlasref01_letter.q0.ok_ k
def atlasref01_letter.q1.h : Head (Int) where
  k γ s F := (sizedN 39 s).bind fun _ => (intO .i64 (gt s.tm 0)).bind fun v2 => (distO []).bind fun _ => F (v2)
  st x := ⟨sparseT [(0, (.val (.int .i64 x)))] 39 0, []⟩
  ok γ s F r h := by
    obtain ⟨_, hz, h⟩ := Option.bind_eq_some_iff.1 h
    obtain ⟨v2, h1, h⟩ := Option.bind_eq_some_iff.1 h
    obtain ⟨_, h3, h⟩ := Option.bind_eq_some_iff.1 h
    exact ⟨_, h, weak_ren (l := []) (sizedN_ok hz) (distO_ok h3) (LiveR.cons (RefsR.plain (Refs.of_eq (intO_eq h1)) rfl) LiveR.nil) BlksR.nil⟩

def atlasref01_letter.q1.x0 : Head (Bool) where
  k γ s F := (sizedN 39 s).bind fun _ => (boolO (gt s.tm 2)).bind fun v2 => (distO []).bind fun _ => F (v2)
  st x := ⟨sparseT [(2, (.val (.bool x)))] 39 0, []⟩
  ok γ s F r h := by
    obtain ⟨_, hz, h⟩ := Option.bind_eq_some_iff.1 h
    obtain ⟨v2, h1, h⟩ := Option.bind_eq_some_iff.1 h
    obtain ⟨_, h3, h⟩ := Option.bind_eq_some_iff.1 h
    exact ⟨_, h, weak_ren (l := []) (sizedN_ok hz) (distO_ok h3) (LiveR.cons (RefsR.plain (Refs.of_eq (boolO_eq h1)) rfl) LiveR.nil) BlksR.nil⟩

def atlasref01_letter.q1.t : Tail (Bool) := Tail.one .ret atlasref01_letter.q1.x0
theorem atlasref01_letter.q1.np (y : (Bool)) (v : AV) : (atlasref01_letter.q1.t.out y).1 ≠ .panic v := fun h => by cases h
def atlasref01_letter.q1.l (k : Nat) (x : (Int)) : Option (Bool) := (bif (decide (x ≥ 913)) then (bif (decide (x ≤ 969)) then (some (x != 930)) else (some false)) else (some false))
theorem atlasref01_letter.q1.at : codeAt (bodyOf Try.f60) [true, true] = some (codeOf (bodyOf Try.f60) [true, true]) := by kernel_rfl
theorem atlasref01_letter.q1.goes (k : Nat) (x : (Int)) : E Try.prog (gamOf []) (lamOf []) (codeOf (bodyOf Try.f60) [true, true]) [true, true] (atlasref01_letter.q1.h.st x) (fun ex t => atlasref01_letter.q1.t.d _ ex t some) = atlasref01_letter.q1.l k x := by
  kernel_rfl
theorem atlasref01_letter.q1.ok_ (k : Nat) : PieceOk Try.prog (bodyOf Try.f60) ⟨[true, true], _, _, atlasref01_letter.q1.h, atlasref01_letter.q1.t, atlasref01_letter.q1.l k⟩ :=
  piece_code (gamOf_nil _) (lamOf_nil _ _) mixed atlasref01_letter.q1.at atlasref01_letter.q1.np (atlasref01_letter.q1.goes k)
def atlasref01_letter.q1.p (k : Nat) : Piece := ⟨[true, true], _, _, atlasref01_letter.q1.h, atlasref01_letter.q1.t, atlasref01_letter.q1.l k⟩
theorem atlasref01_letter.q1.ok (k : Nat) : PieceOk Try.prog (bodyOf Try.f60) (atlasref01_letter.q1.p k) := atlasref01_letter.q1.ok_ k
def atlasref01_letter.f (k : Nat) (x0 : Int) : Option (Bool) := (bif (decide (x0 ≥ 97)) then (bif (decide (x0 ≤ 122)) then ((atlasref01_letter.q0.l k (x0, (decide (x0 ≤ 122)))).bind fun r1 => (Sum.elim (fun r2 => (some r2)) (fun r3 => ((atlasref01_letter.q1.l k r3).bind fun r4 => (some r4))) r1)) else (bif (decide (x0 ≥ 65)) then ((atlasref01_letter.q0.l k (x0, (decide (x0 ≤ 90)))).bind fun r5 => (Sum.elim (fun r6 => (some r6)) (fun r7 => ((atlasref01_letter.q1.l k r7).bind fun r8 => (some r8))) r5)) else ((atlasref01_letter.q0.l k (x0, false)).bind fun r9 => (Sum.elim (fun r10 => (some r10)) (fun r11 => ((atlasref01_letter.q1.l k r11).bind fun r12 => (some r12))) r9)))) else (bif (decide (x0 ≥ 65)) then ((atlasref01_letter.q0.l k (x0, (decide (x0 ≤ 90)))).bind fun r13 => (Sum.elim (fun r14 => (some r14)) (fun r15 => ((atlasref01_letter.q1.l k r15).bind fun r16 => (some r16))) r13)) else ((atlasref01_letter.q0.l k (x0, false)).bind fun r17 => (Sum.elim (fun r18 => (some r18)) (fun r19 => ((atlasref01_letter.q1.l k r19).bind fun r20 => (some r20))) r17))))
theorem atlasref01_letter.run (k : Nat) (x0 : Int) : runF Try.prog (gamOf []) (lamOf [atlasref01_letter.q0.p k, atlasref01_letter.q1.p k]) Try.f60 [(.val (.int .i64 x0))] some = (atlasref01_letter.f k x0).bind fun r => some (.ret (.val (.bool r))) := by
  unfold atlasref01_letter.f
  try simp only [cond_bind, elim_bind, Option.bind_some, Option.bind_none, Option.bind_assoc]
  kernel_rfl
def atlasref01_letter.g (k : Nat) : GFun := fun β args K => match args with
  | [a0] => (intO .i64 a0).bind fun x0 => (atlasref01_letter.f k x0).bind fun r => K (.ret (.val (.bool r)))
  | _ => none
theorem atlasref01_letter.callable : callable Try.prog 60 = true := callable_of Try.func60 (by kernel_rfl)
theorem atlasref01_letter.ok (k : Nat) : GOk Try.prog 60 (atlasref01_letter.g k) := by
  intro β args K r h
  unfold atlasref01_letter.g at h
  split at h
  · obtain ⟨x0, e0, h⟩ := Option.bind_eq_some_iff.1 h
    obtain ⟨y, hy, hK⟩ := Option.bind_eq_some_iff.1 h
    have hrun := atlasref01_letter.run k x0
    rw [hy] at hrun
    obtain ⟨out, e, hs⟩ := sim_of_run Try.func60 (by kernel_rfl) mixed (gamOf_nil _) (lamOf_cons (atlasref01_letter.q0.ok k) (lamOf_cons (atlasref01_letter.q1.ok k) (lamOf_nil _ _))) (args' := [(.val (.int .i64 x0))]) (RefsL.cons (Refs.of_eq (intO_eq e0)) RefsL.nil) hrun
    simp only [Option.some.injEq] at e
    subst e
    exact ⟨_, hK, hs⟩
  · cases h
/-! ### atlas/atlasref01.digit: function 61 -/
def atlasref01_digit.f (x0 : Int) : Option (Bool) := (bif (decide (x0 ≥ 48)) then (some (decide (x0 ≤ 57))) else (some false))
theorem atlasref01_digit.run (x0 : Int) : runF Try.prog (gamOf []) noLam Try.f61 [(.val (.int .i64 x0))] some = (atlasref01_digit.f x0).bind fun r => some (.ret (.val (.bool r))) := by
  unfold atlasref01_digit.f
  try simp only [cond_bind, elim_bind, Option.bind_some, Option.bind_none, Option.bind_assoc]
  kernel_rfl
def atlasref01_digit.g : GFun := fun β args K => match args with
  | [a0] => (intO .i64 a0).bind fun x0 => (atlasref01_digit.f x0).bind fun r => K (.ret (.val (.bool r)))
  | _ => none
theorem atlasref01_digit.callable : callable Try.prog 61 = true := callable_of Try.func61 (by kernel_rfl)
theorem atlasref01_digit.ok : GOk Try.prog 61 (atlasref01_digit.g) := by
  intro β args K r h
  unfold atlasref01_digit.g at h
  split at h
  · obtain ⟨x0, e0, h⟩ := Option.bind_eq_some_iff.1 h
    obtain ⟨y, hy, hK⟩ := Option.bind_eq_some_iff.1 h
    have hrun := atlasref01_digit.run x0
    rw [hy] at hrun
    obtain ⟨out, e, hs⟩ := sim_of_run Try.func61 (by kernel_rfl) mixed (gamOf_nil _) (noLam_ok _ _) (args' := [(.val (.int .i64 x0))]) (RefsL.cons (Refs.of_eq (intO_eq e0)) RefsL.nil) hrun
    simp only [Option.some.injEq] at e
    subst e
    exact ⟨_, hK, hs⟩
  · cases h
/-! ### atlas/atlasref01.Name: function 28 -/
def atlasref01_Name.q0.h : Head (ByteArray × Int × Int) where
  k γ s F := (sizedN 44 s).bind fun _ => (strO (gt s.tm 0)).bind fun v2 => (intO .i64 (gt s.tm 3)).bind fun v4 => (intO .i64 (gt s.tm 4)).bind fun v6 => (distO []).bind fun _ => F (v2, v4, v6)
  st x := ⟨sparseT [(0, (.val (.string x.1))), (3, (.val (.int .i64 x.2.1))), (4, (.val (.int .i64 x.2.2)))] 44 0, []⟩
  ok γ s F r h := by
    obtain ⟨_, hz, h⟩ := Option.bind_eq_some_iff.1 h
    obtain ⟨v2, h1, h⟩ := Option.bind_eq_some_iff.1 h
    obtain ⟨v4, h3, h⟩ := Option.bind_eq_some_iff.1 h
    obtain ⟨v6, h5, h⟩ := Option.bind_eq_some_iff.1 h
    obtain ⟨_, h7, h⟩ := Option.bind_eq_some_iff.1 h
    exact ⟨_, h, weak_ren (l := []) (sizedN_ok hz) (distO_ok h7) (LiveR.cons (RefsR.plain (Refs.of_eq (strO_eq h1)) rfl) (LiveR.cons (RefsR.plain (Refs.of_eq (intO_eq h3)) rfl) (LiveR.cons (RefsR.plain (Refs.of_eq (intO_eq h5)) rfl) LiveR.nil))) BlksR.nil⟩

def atlasref01_Name.q0.x0 : Head (Bool) where
  k γ s F := (sizedN 44 s).bind fun _ => (boolO (gt s.tm 2)).bind fun v2 => (distO []).bind fun _ => F (v2)
  st x := ⟨sparseT [(2, (.val (.bool x)))] 44 0, []⟩
  ok γ s F r h := by
    obtain ⟨_, hz, h⟩ := Option.bind_eq_some_iff.1 h
    obtain ⟨v2, h1, h⟩ := Option.bind_eq_some_iff.1 h
    obtain ⟨_, h3, h⟩ := Option.bind_eq_some_iff.1 h
    exact ⟨_, h, weak_ren (l := []) (sizedN_ok hz) (distO_ok h3) (LiveR.cons (RefsR.plain (Refs.of_eq (boolO_eq h1)) rfl) LiveR.nil) BlksR.nil⟩

def atlasref01_Name.q0.x1 : Head (Int) where
  k γ s F := (sizedN 44 s).bind fun _ => (intO .i64 (gt s.tm 3)).bind fun v2 => (distO []).bind fun _ => F (v2)
  st x := ⟨sparseT [(3, (.val (.int .i64 x)))] 44 0, []⟩
  ok γ s F r h := by
    obtain ⟨_, hz, h⟩ := Option.bind_eq_some_iff.1 h
    obtain ⟨v2, h1, h⟩ := Option.bind_eq_some_iff.1 h
    obtain ⟨_, h3, h⟩ := Option.bind_eq_some_iff.1 h
    exact ⟨_, h, weak_ren (l := []) (sizedN_ok hz) (distO_ok h3) (LiveR.cons (RefsR.plain (Refs.of_eq (intO_eq h1)) rfl) LiveR.nil) BlksR.nil⟩

def atlasref01_Name.q0.t : Tail ((Bool) ⊕ (Int)) := Tail.or .ret atlasref01_Name.q0.x0 (Tail.one (.exit 0) atlasref01_Name.q0.x1)
theorem atlasref01_Name.q0.np (y : ((Bool) ⊕ (Int))) (v : AV) : (atlasref01_Name.q0.t.out y).1 ≠ .panic v := fun h => by rcases y with _ | y <;> first | (cases h; done) | (cases h)
theorem atlasref01_Name.q0.nn (y : ((Bool) ⊕ (Int))) : (atlasref01_Name.q0.t.out y).1 ≠ .normal := fun h => by rcases y with _ | y <;> first | (cases h; done) | (cases h)
def atlasref01_Name.q0.l (k : Nat) : Nat → (ByteArray × Int × Int) → Option ((Bool) ⊕ (Int))
  | 0, _ => none
  | n + 1, x => (bif (decide (x.2.2 < ((x.1).size : Int))) then ((atlasref01_Rune.f x.1 x.2.2).bind fun r1 => ((atlasref01_letter.f k r1.1).bind fun r2 => (bif (!r2) then (bif (x.2.1 == 0) then (some (Sum.inl false)) else ((atlasref01_digit.f r1.1).bind fun r3 => (bif (!r3) then (bif (r1.1 != 95) then (some (Sum.inl false)) else (atlasref01_Name.q0.l k n (x.1, (IntKind.wrap .i64 (x.2.1 + 1)), (IntKind.wrap .i64 (x.2.2 + r1.2))))) else (atlasref01_Name.q0.l k n (x.1, (IntKind.wrap .i64 (x.2.1 + 1)), (IntKind.wrap .i64 (x.2.2 + r1.2))))))) else (atlasref01_Name.q0.l k n (x.1, (IntKind.wrap .i64 (x.2.1 + 1)), (IntKind.wrap .i64 (x.2.2 + r1.2))))))) else (some (Sum.inr x.2.1)))
theorem atlasref01_Name.q0.z (k : Nat) (x : (ByteArray × Int × Int)) : atlasref01_Name.q0.l k 0 x = none := rfl
theorem atlasref01_Name.q0.at : codeAt (bodyOf Try.f28) [false, true, false, true, true] = some (.loop (loopBody (bodyOf Try.f28) [false, true, false, true, true])) := by kernel_rfl
theorem atlasref01_Name.q0.goes (k n : Nat) (x : (ByteArray × Int × Int)) : E Try.prog (gamOf [(59, atlasref01_Rune.g), (60, atlasref01_letter.g k), (61, atlasref01_digit.g)]) (lamOf []) (loopBody (bodyOf Try.f28) [false, true, false, true, true]) (false :: [false, true, false, true, true]) (atlasref01_Name.q0.h.st x) (contD atlasref01_Name.q0.h atlasref01_Name.q0.t (atlasref01_Name.q0.l k n) some) = atlasref01_Name.q0.l k (n + 1) x := by
  kernel_rfl
theorem atlasref01_Name.q0.ok_ (k : Nat) : PieceOk Try.prog (bodyOf Try.f28) ⟨[false, true, false, true, true], _, _, atlasref01_Name.q0.h, atlasref01_Name.q0.t, atlasref01_Name.q0.l k k⟩ :=
  piece_loop (gamOf_cons (atlasref01_Rune.ok) atlasref01_Rune.callable (gamOf_cons (atlasref01_letter.ok k) atlasref01_letter.callable (gamOf_cons (atlasref01_digit.ok) atlasref01_digit.callable (gamOf_nil _)))) (lamOf_nil _ _) mixed atlasref01_Name.q0.at atlasref01_Name.q0.np atlasref01_Name.q0.nn (atlasref01_Name.q0.z k) (atlasref01_Name.q0.goes k) k
def atlasref01_Name.q0.p (k : Nat) : Piece := ⟨[false, true, false, true, true], _, _, atlasref01_Name.q0.h, atlasref01_Name.q0.t, atlasref01_Name.q0.l k k⟩
theorem atlasref01_Name.q0.ok (k : Nat) : PieceOk Try.prog (bodyOf Try.f28) (atlasref01_Name.q0.p k) := atlasref01_Name.q0.ok_ k
def atlasref01_Name.f (k : Nat) (x0 : ByteArray) : Option (Bool) := ((atlasref01_Name.q0.l k k (x0, 0, 0)).bind fun r4 => (Sum.elim (fun r5 => (some r5)) (fun r6 => (bif (decide (r6 ≥ 1)) then (some (decide (r6 ≤ 16))) else (some false))) r4))
theorem atlasref01_Name.run (k : Nat) (x0 : ByteArray) : runF Try.prog (gamOf [(59, atlasref01_Rune.g), (60, atlasref01_letter.g k), (61, atlasref01_digit.g)]) (lamOf [atlasref01_Name.q0.p k]) Try.f28 [(.val (.string x0))] some = (atlasref01_Name.f k x0).bind fun r => some (.ret (.val (.bool r))) := by
  unfold atlasref01_Name.f
  try simp only [cond_bind, elim_bind, Option.bind_some, Option.bind_none, Option.bind_assoc]
  kernel_rfl
def atlasref01_Name.g (k : Nat) : GFun := fun β args K => match args with
  | [a0] => (strO a0).bind fun x0 => (atlasref01_Name.f k x0).bind fun r => K (.ret (.val (.bool r)))
  | _ => none
theorem atlasref01_Name.callable : callable Try.prog 28 = true := callable_of Try.func28 (by kernel_rfl)
theorem atlasref01_Name.ok (k : Nat) : GOk Try.prog 28 (atlasref01_Name.g k) := by
  intro β args K r h
  unfold atlasref01_Name.g at h
  split at h
  · obtain ⟨x0, e0, h⟩ := Option.bind_eq_some_iff.1 h
    obtain ⟨y, hy, hK⟩ := Option.bind_eq_some_iff.1 h
    have hrun := atlasref01_Name.run k x0
    rw [hy] at hrun
    obtain ⟨out, e, hs⟩ := sim_of_run Try.func28 (by kernel_rfl) mixed (gamOf_cons (atlasref01_Rune.ok) atlasref01_Rune.callable (gamOf_cons (atlasref01_letter.ok k) atlasref01_letter.callable (gamOf_cons (atlasref01_digit.ok) atlasref01_digit.callable (gamOf_nil _)))) (lamOf_cons (atlasref01_Name.q0.ok k) (lamOf_nil _ _)) (args' := [(.val (.string x0))]) (RefsL.cons (Refs.of_eq (strO_eq e0)) RefsL.nil) hrun
    simp only [Option.some.injEq] at e
    subst e
    exact ⟨_, hK, hs⟩
  · cases h
/-! ### atlas/atlasref23.end: function 62 -/
def atlasref23_end.f (x0 : T45) : Option (Int) := (some (IntKind.wrap .u64 ((IntKind.wrap .u64 (Int.tdiv (IntKind.wrap .u64 ((IntKind.wrap .u64 ((IntKind.wrap .u64 ((IntKind.wrap .u64 x0.f0_VA) + (IntKind.wrap .u64 x0.f1_Size))) + 4096)) - 1)) 4096)) * 4096)))
theorem atlasref23_end.run (x0 : T45) : runF Try.prog (gamOf []) noLam Try.f62 [(T45.av x0)] some = (atlasref23_end.f x0).bind fun r => some (.ret (.val (.int .u64 r))) := by
  unfold atlasref23_end.f
  try simp only [cond_bind, elim_bind, Option.bind_some, Option.bind_none, Option.bind_assoc]
  kernel_rfl
def atlasref23_end.g : GFun := fun β args K => match args with
  | [a0] => (T45.of a0).bind fun x0 => (atlasref23_end.f x0).bind fun r => K (.ret (.val (.int .u64 r)))
  | _ => none
theorem atlasref23_end.callable : callable Try.prog 62 = true := callable_of Try.func62 (by kernel_rfl)
theorem atlasref23_end.ok : GOk Try.prog 62 (atlasref23_end.g) := by
  intro β args K r h
  unfold atlasref23_end.g at h
  split at h
  · obtain ⟨x0, e0, h⟩ := Option.bind_eq_some_iff.1 h
    obtain ⟨y, hy, hK⟩ := Option.bind_eq_some_iff.1 h
    have hrun := atlasref23_end.run x0
    rw [hy] at hrun
    obtain ⟨out, e, hs⟩ := sim_of_run Try.func62 (by kernel_rfl) mixed (gamOf_nil _) (noLam_ok _ _) (args' := [(T45.av x0)]) (RefsL.cons (T45.refs e0) RefsL.nil) hrun
    simp only [Option.some.injEq] at e
    subst e
    exact ⟨_, hK, hs⟩
  · cases h
/-! ### atlas/atlasref23.rise: function 29 -/
def atlasref23_rise.q0.h : Head ((List (Int × Int × (Bool × Bool × Bool × Unit) × (List Int) × Unit)) × Int) where
  k γ s F := (sizedN 23 s).bind fun _ => (vtO (.pair (.int .u32) (.pair (.int .u32) (.pair (.pair .bool (.pair .bool (.pair .bool .unit))) (.pair (.vec (.int .u8)) .unit)))) (gt s.tm 0)).bind fun v2 => (intO .i64 (gt s.tm 3)).bind fun v4 => (distO []).bind fun _ => F (v2, v4)
  st x := ⟨sparseT [(0, (.vt (.pair (.int .u32) (.pair (.int .u32) (.pair (.pair .bool (.pair .bool (.pair .bool .unit))) (.pair (.vec (.int .u8)) .unit)))) x.1)), (3, (.val (.int .i64 x.2)))] 23 0, []⟩
  ok γ s F r h := by
    obtain ⟨_, hz, h⟩ := Option.bind_eq_some_iff.1 h
    obtain ⟨v2, h1, h⟩ := Option.bind_eq_some_iff.1 h
    obtain ⟨v4, h3, h⟩ := Option.bind_eq_some_iff.1 h
    obtain ⟨_, h5, h⟩ := Option.bind_eq_some_iff.1 h
    exact ⟨_, h, weak_ren (l := []) (sizedN_ok hz) (distO_ok h5) (LiveR.cons (RefsR.plain (vtO_refs h1) rfl) (LiveR.cons (RefsR.plain (Refs.of_eq (intO_eq h3)) rfl) LiveR.nil)) BlksR.nil⟩

def atlasref23_rise.q0.x0 : Head (Bool) where
  k γ s F := (sizedN 23 s).bind fun _ => (boolO (gt s.tm 2)).bind fun v2 => (distO []).bind fun _ => F (v2)
  st x := ⟨sparseT [(2, (.val (.bool x)))] 23 0, []⟩
  ok γ s F r h := by
    obtain ⟨_, hz, h⟩ := Option.bind_eq_some_iff.1 h
    obtain ⟨v2, h1, h⟩ := Option.bind_eq_some_iff.1 h
    obtain ⟨_, h3, h⟩ := Option.bind_eq_some_iff.1 h
    exact ⟨_, h, weak_ren (l := []) (sizedN_ok hz) (distO_ok h3) (LiveR.cons (RefsR.plain (Refs.of_eq (boolO_eq h1)) rfl) LiveR.nil) BlksR.nil⟩

def atlasref23_rise.q0.x1 : Head (Unit) where
  k γ s F := (sizedN 23 s).bind fun _ => (distO []).bind fun _ => F ()
  st x := ⟨sparseT [] 23 0, []⟩
  ok γ s F r h := by
    obtain ⟨_, hz, h⟩ := Option.bind_eq_some_iff.1 h
    obtain ⟨_, h1, h⟩ := Option.bind_eq_some_iff.1 h
    exact ⟨_, h, weak_ren (l := []) (sizedN_ok hz) (distO_ok h1) LiveR.nil BlksR.nil⟩

def atlasref23_rise.q0.t : Tail ((Bool) ⊕ (Unit)) := Tail.or .ret atlasref23_rise.q0.x0 (Tail.one (.exit 0) atlasref23_rise.q0.x1)
theorem atlasref23_rise.q0.np (y : ((Bool) ⊕ (Unit))) (v : AV) : (atlasref23_rise.q0.t.out y).1 ≠ .panic v := fun h => by rcases y with _ | y <;> first | (cases h; done) | (cases h)
theorem atlasref23_rise.q0.nn (y : ((Bool) ⊕ (Unit))) : (atlasref23_rise.q0.t.out y).1 ≠ .normal := fun h => by rcases y with _ | y <;> first | (cases h; done) | (cases h)
def atlasref23_rise.q0.l (k : Nat) : Nat → ((List (Int × Int × (Bool × Bool × Bool × Unit) × (List Int) × Unit)) × Int) → Option ((Bool) ⊕ (Unit))
  | 0, _ => none
  | n + 1, x => (bif (decide (x.2 < ((x.1.length : Nat) : Int))) then (bif (decide (0 ≤ x.2) && decide (x.2 < ((x.1.length : Nat) : Int))) then (bif (decide (0 ≤ (IntKind.wrap .i64 (x.2 - 1))) && decide ((IntKind.wrap .i64 (x.2 - 1)) < ((x.1.length : Nat) : Int))) then ((atlasref23_end.f (⟨(x.1.getD ((IntKind.wrap .i64 (x.2 - 1))).toNat (0, 0, (false, false, false, ()), [], ())).1, (x.1.getD ((IntKind.wrap .i64 (x.2 - 1))).toNat (0, 0, (false, false, false, ()), [], ())).2.1, (x.1.getD ((IntKind.wrap .i64 (x.2 - 1))).toNat (0, 0, (false, false, false, ()), [], ())).2.2.1.1, (x.1.getD ((IntKind.wrap .i64 (x.2 - 1))).toNat (0, 0, (false, false, false, ()), [], ())).2.2.1.2.1, (x.1.getD ((IntKind.wrap .i64 (x.2 - 1))).toNat (0, 0, (false, false, false, ()), [], ())).2.2.1.2.2.1, (x.1.getD ((IntKind.wrap .i64 (x.2 - 1))).toNat (0, 0, (false, false, false, ()), [], ())).2.2.2.1⟩ : T45)).bind fun r1 => (bif (decide ((IntKind.wrap .u64 ((x.1.getD (x.2).toNat (0, 0, (false, false, false, ()), [], ())).1)) < r1)) then (some (Sum.inl false)) else (atlasref23_rise.q0.l k n (x.1, (IntKind.wrap .i64 (x.2 + 1)))))) else none) else none) else (some (Sum.inr ())))
theorem atlasref23_rise.q0.z (k : Nat) (x : ((List (Int × Int × (Bool × Bool × Bool × Unit) × (List Int) × Unit)) × Int)) : atlasref23_rise.q0.l k 0 x = none := rfl
theorem atlasref23_rise.q0.at : codeAt (bodyOf Try.f29) [false, true, false, true] = some (.loop (loopBody (bodyOf Try.f29) [false, true, false, true])) := by kernel_rfl
theorem atlasref23_rise.q0.goes (k n : Nat) (x : ((List (Int × Int × (Bool × Bool × Bool × Unit) × (List Int) × Unit)) × Int)) : E Try.prog (gamOf [(62, atlasref23_end.g)]) (lamOf []) (loopBody (bodyOf Try.f29) [false, true, false, true]) (false :: [false, true, false, true]) (atlasref23_rise.q0.h.st x) (contD atlasref23_rise.q0.h atlasref23_rise.q0.t (atlasref23_rise.q0.l k n) some) = atlasref23_rise.q0.l k (n + 1) x := by
  kernel_rfl
theorem atlasref23_rise.q0.ok_ (k : Nat) : PieceOk Try.prog (bodyOf Try.f29) ⟨[false, true, false, true], _, _, atlasref23_rise.q0.h, atlasref23_rise.q0.t, atlasref23_rise.q0.l k k⟩ :=
  piece_loop (gamOf_cons (atlasref23_end.ok) atlasref23_end.callable (gamOf_nil _)) (lamOf_nil _ _) mixed atlasref23_rise.q0.at atlasref23_rise.q0.np atlasref23_rise.q0.nn (atlasref23_rise.q0.z k) (atlasref23_rise.q0.goes k) k
def atlasref23_rise.q0.p (k : Nat) : Piece := ⟨[false, true, false, true], _, _, atlasref23_rise.q0.h, atlasref23_rise.q0.t, atlasref23_rise.q0.l k k⟩
theorem atlasref23_rise.q0.ok (k : Nat) : PieceOk Try.prog (bodyOf Try.f29) (atlasref23_rise.q0.p k) := atlasref23_rise.q0.ok_ k
def atlasref23_rise.f (k : Nat) (x0 : (List (Int × Int × (Bool × Bool × Bool × Unit) × (List Int) × Unit))) : Option (Bool) := ((atlasref23_rise.q0.l k k (x0, 1)).bind fun r2 => (Sum.elim (fun r3 => (some r3)) (fun r4 => (some true)) r2))
theorem atlasref23_rise.run (k : Nat) (x0 : (List (Int × Int × (Bool × Bool × Bool × Unit) × (List Int) × Unit))) : runF Try.prog (gamOf [(62, atlasref23_end.g)]) (lamOf [atlasref23_rise.q0.p k]) Try.f29 [(.vt (.pair (.int .u32) (.pair (.int .u32) (.pair (.pair .bool (.pair .bool (.pair .bool .unit))) (.pair (.vec (.int .u8)) .unit)))) x0)] some = (atlasref23_rise.f k x0).bind fun r => some (.ret (.val (.bool r))) := by
  unfold atlasref23_rise.f
  try simp only [cond_bind, elim_bind, Option.bind_some, Option.bind_none, Option.bind_assoc]
  kernel_rfl
def atlasref23_rise.g (k : Nat) : GFun := fun β args K => match args with
  | [a0] => (vtO (.pair (.int .u32) (.pair (.int .u32) (.pair (.pair .bool (.pair .bool (.pair .bool .unit))) (.pair (.vec (.int .u8)) .unit)))) a0).bind fun x0 => (atlasref23_rise.f k x0).bind fun r => K (.ret (.val (.bool r)))
  | _ => none
theorem atlasref23_rise.callable : callable Try.prog 29 = true := callable_of Try.func29 (by kernel_rfl)
theorem atlasref23_rise.ok (k : Nat) : GOk Try.prog 29 (atlasref23_rise.g k) := by
  intro β args K r h
  unfold atlasref23_rise.g at h
  split at h
  · obtain ⟨x0, e0, h⟩ := Option.bind_eq_some_iff.1 h
    obtain ⟨y, hy, hK⟩ := Option.bind_eq_some_iff.1 h
    have hrun := atlasref23_rise.run k x0
    rw [hy] at hrun
    obtain ⟨out, e, hs⟩ := sim_of_run Try.func29 (by kernel_rfl) mixed (gamOf_cons (atlasref23_end.ok) atlasref23_end.callable (gamOf_nil _)) (lamOf_cons (atlasref23_rise.q0.ok k) (lamOf_nil _ _)) (args' := [(.vt (.pair (.int .u32) (.pair (.int .u32) (.pair (.pair .bool (.pair .bool (.pair .bool .unit))) (.pair (.vec (.int .u8)) .unit)))) x0)]) (RefsL.cons (vtO_refs e0) RefsL.nil) hrun
    simp only [Option.some.injEq] at e
    subst e
    exact ⟨_, hK, hs⟩
  · cases h
/-! ### atlas/atlasref23.start: function 30 -/
def atlasref23_start.q0.h : Head ((List (Int × Int × (Bool × Bool × Bool × Unit) × (List Int) × Unit)) × Int × Int) where
  k γ s F := (sizedN 52 s).bind fun _ => (vtO (.pair (.int .u32) (.pair (.int .u32) (.pair (.pair .bool (.pair .bool (.pair .bool .unit))) (.pair (.vec (.int .u8)) .unit)))) (gt s.tm 0)).bind fun v2 => (intO .u32 (gt s.tm 1)).bind fun v4 => (intO .i64 (gt s.tm 5)).bind fun v6 => (distO []).bind fun _ => F (v2, v4, v6)
  st x := ⟨sparseT [(0, (.vt (.pair (.int .u32) (.pair (.int .u32) (.pair (.pair .bool (.pair .bool (.pair .bool .unit))) (.pair (.vec (.int .u8)) .unit)))) x.1)), (1, (.val (.int .u32 x.2.1))), (5, (.val (.int .i64 x.2.2)))] 52 0, []⟩
  ok γ s F r h := by
    obtain ⟨_, hz, h⟩ := Option.bind_eq_some_iff.1 h
    obtain ⟨v2, h1, h⟩ := Option.bind_eq_some_iff.1 h
    obtain ⟨v4, h3, h⟩ := Option.bind_eq_some_iff.1 h
    obtain ⟨v6, h5, h⟩ := Option.bind_eq_some_iff.1 h
    obtain ⟨_, h7, h⟩ := Option.bind_eq_some_iff.1 h
    exact ⟨_, h, weak_ren (l := []) (sizedN_ok hz) (distO_ok h7) (LiveR.cons (RefsR.plain (vtO_refs h1) rfl) (LiveR.cons (RefsR.plain (Refs.of_eq (intO_eq h3)) rfl) (LiveR.cons (RefsR.plain (Refs.of_eq (intO_eq h5)) rfl) LiveR.nil))) BlksR.nil⟩

def atlasref23_start.q0.x0 : Head (Bool) where
  k γ s F := (sizedN 52 s).bind fun _ => (boolO (gt s.tm 4)).bind fun v2 => (distO []).bind fun _ => F (v2)
  st x := ⟨sparseT [(4, (.val (.bool x)))] 52 0, []⟩
  ok γ s F r h := by
    obtain ⟨_, hz, h⟩ := Option.bind_eq_some_iff.1 h
    obtain ⟨v2, h1, h⟩ := Option.bind_eq_some_iff.1 h
    obtain ⟨_, h3, h⟩ := Option.bind_eq_some_iff.1 h
    exact ⟨_, h, weak_ren (l := []) (sizedN_ok hz) (distO_ok h3) (LiveR.cons (RefsR.plain (Refs.of_eq (boolO_eq h1)) rfl) LiveR.nil) BlksR.nil⟩

def atlasref23_start.q0.x1 : Head (Unit) where
  k γ s F := (sizedN 52 s).bind fun _ => (distO []).bind fun _ => F ()
  st x := ⟨sparseT [] 52 0, []⟩
  ok γ s F r h := by
    obtain ⟨_, hz, h⟩ := Option.bind_eq_some_iff.1 h
    obtain ⟨_, h1, h⟩ := Option.bind_eq_some_iff.1 h
    exact ⟨_, h, weak_ren (l := []) (sizedN_ok hz) (distO_ok h1) LiveR.nil BlksR.nil⟩

def atlasref23_start.q0.t : Tail ((Bool) ⊕ (Unit)) := Tail.or .ret atlasref23_start.q0.x0 (Tail.one (.exit 0) atlasref23_start.q0.x1)
theorem atlasref23_start.q0.np (y : ((Bool) ⊕ (Unit))) (v : AV) : (atlasref23_start.q0.t.out y).1 ≠ .panic v := fun h => by rcases y with _ | y <;> first | (cases h; done) | (cases h)
theorem atlasref23_start.q0.nn (y : ((Bool) ⊕ (Unit))) : (atlasref23_start.q0.t.out y).1 ≠ .normal := fun h => by rcases y with _ | y <;> first | (cases h; done) | (cases h)
def atlasref23_start.q0.l (k : Nat) : Nat → ((List (Int × Int × (Bool × Bool × Bool × Unit) × (List Int) × Unit)) × Int × Int) → Option ((Bool) ⊕ (Unit))
  | 0, _ => none
  | n + 1, x => (bif (decide (x.2.2 < ((x.1.length : Nat) : Int))) then (bif (decide (0 ≤ x.2.2) && decide (x.2.2 < ((x.1.length : Nat) : Int))) then (bif (x.1.getD (x.2.2).toNat (0, 0, (false, false, false, ()), [], ())).2.2.1.2.2.1 then (bif (decide (0 ≤ x.2.2) && decide (x.2.2 < ((x.1.length : Nat) : Int))) then (bif (decide ((IntKind.wrap .u64 x.2.1) ≥ (IntKind.wrap .u64 ((x.1.getD (x.2.2).toNat (0, 0, (false, false, false, ()), [], ())).1)))) then (bif (decide (0 ≤ x.2.2) && decide (x.2.2 < ((x.1.length : Nat) : Int))) then (bif (decide (0 ≤ x.2.2) && decide (x.2.2 < ((x.1.length : Nat) : Int))) then (bif (decide ((IntKind.wrap .u64 ((IntKind.wrap .u64 x.2.1) + 4)) ≤ (IntKind.wrap .u64 ((IntKind.wrap .u64 ((x.1.getD (x.2.2).toNat (0, 0, (false, false, false, ()), [], ())).1)) + (IntKind.wrap .u64 ((x.1.getD (x.2.2).toNat (0, 0, (false, false, false, ()), [], ())).2.1)))))) then (some (Sum.inl true)) else (atlasref23_start.q0.l k n (x.1, x.2.1, (IntKind.wrap .i64 (x.2.2 + 1))))) else none) else none) else (atlasref23_start.q0.l k n (x.1, x.2.1, (IntKind.wrap .i64 (x.2.2 + 1))))) else none) else (atlasref23_start.q0.l k n (x.1, x.2.1, (IntKind.wrap .i64 (x.2.2 + 1))))) else none) else (some (Sum.inr ())))
theorem atlasref23_start.q0.z (k : Nat) (x : ((List (Int × Int × (Bool × Bool × Bool × Unit) × (List Int) × Unit)) × Int × Int)) : atlasref23_start.q0.l k 0 x = none := rfl
theorem atlasref23_start.q0.at : codeAt (bodyOf Try.f30) [false, true, false, true, true] = some (.loop (loopBody (bodyOf Try.f30) [false, true, false, true, true])) := by kernel_rfl
theorem atlasref23_start.q0.goes (k n : Nat) (x : ((List (Int × Int × (Bool × Bool × Bool × Unit) × (List Int) × Unit)) × Int × Int)) : E Try.prog (gamOf []) (lamOf []) (loopBody (bodyOf Try.f30) [false, true, false, true, true]) (false :: [false, true, false, true, true]) (atlasref23_start.q0.h.st x) (contD atlasref23_start.q0.h atlasref23_start.q0.t (atlasref23_start.q0.l k n) some) = atlasref23_start.q0.l k (n + 1) x := by
  kernel_rfl
theorem atlasref23_start.q0.ok_ (k : Nat) : PieceOk Try.prog (bodyOf Try.f30) ⟨[false, true, false, true, true], _, _, atlasref23_start.q0.h, atlasref23_start.q0.t, atlasref23_start.q0.l k k⟩ :=
  piece_loop (gamOf_nil _) (lamOf_nil _ _) mixed atlasref23_start.q0.at atlasref23_start.q0.np atlasref23_start.q0.nn (atlasref23_start.q0.z k) (atlasref23_start.q0.goes k) k
def atlasref23_start.q0.p (k : Nat) : Piece := ⟨[false, true, false, true, true], _, _, atlasref23_start.q0.h, atlasref23_start.q0.t, atlasref23_start.q0.l k k⟩
theorem atlasref23_start.q0.ok (k : Nat) : PieceOk Try.prog (bodyOf Try.f30) (atlasref23_start.q0.p k) := atlasref23_start.q0.ok_ k
def atlasref23_start.f (k : Nat) (x0 : (List (Int × Int × (Bool × Bool × Bool × Unit) × (List Int) × Unit))) (x1 : Int) : Option (Bool) := (bif ((Int.tmod x1 4) != 0) then (some false) else ((atlasref23_start.q0.l k k (x0, x1, 0)).bind fun r1 => (Sum.elim (fun r2 => (some r2)) (fun r3 => (some false)) r1)))
theorem atlasref23_start.run (k : Nat) (x0 : (List (Int × Int × (Bool × Bool × Bool × Unit) × (List Int) × Unit))) (x1 : Int) : runF Try.prog (gamOf []) (lamOf [atlasref23_start.q0.p k]) Try.f30 [(.vt (.pair (.int .u32) (.pair (.int .u32) (.pair (.pair .bool (.pair .bool (.pair .bool .unit))) (.pair (.vec (.int .u8)) .unit)))) x0), (.val (.int .u32 x1))] some = (atlasref23_start.f k x0 x1).bind fun r => some (.ret (.val (.bool r))) := by
  unfold atlasref23_start.f
  try simp only [cond_bind, elim_bind, Option.bind_some, Option.bind_none, Option.bind_assoc]
  kernel_rfl
def atlasref23_start.g (k : Nat) : GFun := fun β args K => match args with
  | [a0, a1] => (vtO (.pair (.int .u32) (.pair (.int .u32) (.pair (.pair .bool (.pair .bool (.pair .bool .unit))) (.pair (.vec (.int .u8)) .unit)))) a0).bind fun x0 => (intO .u32 a1).bind fun x1 => (atlasref23_start.f k x0 x1).bind fun r => K (.ret (.val (.bool r)))
  | _ => none
theorem atlasref23_start.callable : callable Try.prog 30 = true := callable_of Try.func30 (by kernel_rfl)
theorem atlasref23_start.ok (k : Nat) : GOk Try.prog 30 (atlasref23_start.g k) := by
  intro β args K r h
  unfold atlasref23_start.g at h
  split at h
  · obtain ⟨x0, e0, h⟩ := Option.bind_eq_some_iff.1 h
    obtain ⟨x1, e1, h⟩ := Option.bind_eq_some_iff.1 h
    obtain ⟨y, hy, hK⟩ := Option.bind_eq_some_iff.1 h
    have hrun := atlasref23_start.run k x0 x1
    rw [hy] at hrun
    obtain ⟨out, e, hs⟩ := sim_of_run Try.func30 (by kernel_rfl) mixed (gamOf_nil _) (lamOf_cons (atlasref23_start.q0.ok k) (lamOf_nil _ _)) (args' := [(.vt (.pair (.int .u32) (.pair (.int .u32) (.pair (.pair .bool (.pair .bool (.pair .bool .unit))) (.pair (.vec (.int .u8)) .unit)))) x0), (.val (.int .u32 x1))]) (RefsL.cons (vtO_refs e0) (RefsL.cons (Refs.of_eq (intO_eq e1)) RefsL.nil)) hrun
    simp only [Option.some.injEq] at e
    subst e
    exact ⟨_, hK, hs⟩
  · cases h
end Go.Va
