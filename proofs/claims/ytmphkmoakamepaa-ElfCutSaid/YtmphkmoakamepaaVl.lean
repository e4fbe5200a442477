-- Written by a program of this session (wip/va/vaprint.py). Not trusted: Lean checks it.
import Derived.Test.YtmphkmoakamepaaVaLaw
import Derived.Test.YtmphkmoakamepaaVf7
import Derived.Test.YtmphkmoakamepaaVf8
import Derived.Test.YtmphkmoakamepaaVf10
set_option linter.unusedVariables false
set_option linter.unusedSimpArgs false
set_option autoImplicit false
set_option maxRecDepth 100000
namespace Go.Va
open Go.Proofs
theorem atlaslaw23_ElfCut.calls (k : Nat) (x0 : T25) (x1 : Int) (x2 : (List Int)) (r : Bool) (w : World) (vs : List Value) (hc : Cells (cx0 (fun _ => False) w) false [(T25.av x0), (.val (.int .i64 x1)), (.vt (.int .u8) x2)] vs) (h : atlaslaw23_ElfCut.f k x0 x1 x2 = some r) :
    Calls Try.prog 9 vs.toArray w fun e w' => e = .returned (.bool r) ∧ RowKit.Below w.heap.size w w' := by
  have e : atlaslaw23_ElfCut.g k Out [(T25.av x0), (.val (.int .i64 x1)), (.vt (.int .u8) x2)] some = (atlaslaw23_ElfCut.f k x0 x1 x2).bind fun r => some (.ret (.val (.bool r))) := by kernel_rfl
  rw [h] at e
  exact calls_of (atlaslaw23_ElfCut.ok k) e w hc
theorem atlasref23_Right.calls (k : Nat) (x0 : T25) (r : Bool) (w : World) (vs : List Value) (hc : Cells (cx0 (fun _ => False) w) false [(T25.av x0)] vs) (h : atlasref23_Right.f k x0 = some r) :
    Calls Try.prog 16 vs.toArray w fun e w' => e = .returned (.bool r) ∧ RowKit.Below w.heap.size w w' := by
  have e : atlasref23_Right.g k Out [(T25.av x0)] some = (atlasref23_Right.f k x0).bind fun r => some (.ret (.val (.bool r))) := by kernel_rfl
  rw [h] at e
  exact calls_of (atlasref23_Right.ok k) e w hc
end Go.Va
