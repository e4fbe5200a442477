-- Written by a program of this session (wip/va/vaprint.py). Not trusted: Lean checks it.
import Derived.Test.YtmphkmoakamepaaVaLaw
import Derived.Test.YtmphkmoakamepaaVf6
set_option linter.unusedVariables false
set_option linter.unusedSimpArgs false
set_option autoImplicit false
set_option maxRecDepth 100000
namespace Go.Va
open Go.Proofs
theorem atlaslaw23_ElfReads.calls (k : Nat) (x0 : (List Int)) (r : Bool) (w : World) (vs : List Value) (hc : Cells (cx0 (fun _ => False) w) false [(.vt (.int .u8) x0)] vs) (h : atlaslaw23_ElfReads.f k x0 = some r) :
    Calls Try.prog 6 vs.toArray w fun e w' => e = .returned (.bool r) ∧ RowKit.Below w.heap.size w w' := by
  have e : atlaslaw23_ElfReads.g k Out [(.vt (.int .u8) x0)] some = (atlaslaw23_ElfReads.f k x0).bind fun r => some (.ret (.val (.bool r))) := by kernel_rfl
  rw [h] at e
  exact calls_of (atlaslaw23_ElfReads.ok k) e w hc
end Go.Va
