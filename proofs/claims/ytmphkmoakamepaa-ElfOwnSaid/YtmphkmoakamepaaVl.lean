-- Written by a program of this session (wip/va/vaprint.py). Not trusted: Lean checks it.
import Derived.Test.YtmphkmoakamepaaVaLaw
import Derived.Test.YtmphkmoakamepaaVf3
import Derived.Test.YtmphkmoakamepaaVf6
import Derived.Test.YtmphkmoakamepaaVf7
import Derived.Test.YtmphkmoakamepaaVf8
import Derived.Test.YtmphkmoakamepaaVf10
set_option linter.unusedVariables false
set_option linter.unusedSimpArgs false
set_option autoImplicit false
set_option maxRecDepth 100000
namespace Go.Va
open Go.Proofs
theorem atlaslaw23_alive.calls (k : Nat)  (r : Bool) (w : World) (h : atlaslaw23_alive.f k  = some r) :
    Calls Try.prog 22 #[] w fun e w' => e = .returned (.bool r) ∧ RowKit.Below w.heap.size w w' := by
  have e : atlaslaw23_alive.g k Out [] some = (atlaslaw23_alive.f k ).bind fun r => some (.ret (.val (.bool r))) := by kernel_rfl
  rw [h] at e
  exact calls_of (atlaslaw23_alive.ok k) e w (vs := []) cells_nil
theorem atlaslaw23_same.calls (k : Nat) (x0 : T25) (x1 : T25) (r : Bool) (w : World) (vs : List Value) (hc : Cells (cx0 (fun _ => False) w) false [(T25.av x0), (T25.av x1)] vs) (h : atlaslaw23_same.f k x0 x1 = some r) :
    Calls Try.prog 19 vs.toArray w fun e w' => e = .returned (.bool r) ∧ RowKit.Below w.heap.size w w' := by
  have e : atlaslaw23_same.g k Out [(T25.av x0), (T25.av x1)] some = (atlaslaw23_same.f k x0 x1).bind fun r => some (.ret (.val (.bool r))) := by kernel_rfl
  rw [h] at e
  exact calls_of (atlaslaw23_same.ok k) e w hc
theorem atlasref23_Right.calls (k : Nat) (x0 : T25) (r : Bool) (w : World) (vs : List Value) (hc : Cells (cx0 (fun _ => False) w) false [(T25.av x0)] vs) (h : atlasref23_Right.f k x0 = some r) :
    Calls Try.prog 16 vs.toArray w fun e w' => e = .returned (.bool r) ∧ RowKit.Below w.heap.size w w' := by
  have e : atlasref23_Right.g k Out [(T25.av x0)] some = (atlasref23_Right.f k x0).bind fun r => some (.ret (.val (.bool r))) := by kernel_rfl
  rw [h] at e
  exact calls_of (atlasref23_Right.ok k) e w hc
end Go.Va
