/-
  The chapter's examples of layer 6 come out.
  Conditions: none.
-/
import Derived.Test.YtkljijkejbfopaaDoorS14
set_option linter.unusedSimpArgs false
set_option linter.unusedVariables false
namespace Go.Proofs.YtkljijkejbfopaaDoor.Pure
open Go.RowKit Go.Proofs.YtkljijkejbfopaaDoorG Go.Proofs.YtkljijkejbfopaaDoor.S Go.Proofs.YtkljijkejbfopaaDoorW.PrintWords Go.Proofs.YtkljijkejbfopaaDoorW.PrintLast Go.Proofs.YtkljijkejbfopaaDoorW.PrintMore

theorem live_ev : Ev (fun k => atlaslaw06_live.f k) true := Ev.of (fun k => atlaslaw06_live.mono k) (k := 80) (by decide +kernel)
theorem wf32 {x : Int} (h : (Lit.int .u32 x).wf = true) : 0 ≤ x ∧ x < 4294967296 := by
  simp only [Lit.wf, Bool.and_eq_true, decide_eq_true_eq, show IntKind.u32.min = 0 from rfl, show IntKind.u32.max = 4294967295 from rfl] at h
  omega
end Go.Proofs.YtkljijkejbfopaaDoor.Pure
