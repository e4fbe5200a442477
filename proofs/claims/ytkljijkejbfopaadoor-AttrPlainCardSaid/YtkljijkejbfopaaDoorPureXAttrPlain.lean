/-
  The kind of any bits without remap is the same by the program and by the document's answer.
  Conditions: none beyond the row's own.
-/
import Derived.Test.YtkljijkejbfopaaDoorS15
import Derived.Test.YtkljijkejbfopaaDoorPureAttr
import Derived.Test.YtkljijkejbfopaaDoorPureAttrLive
set_option linter.unusedSimpArgs false
set_option linter.unusedVariables false
namespace Go.Proofs.YtkljijkejbfopaaDoor.Pure
open Go.RowKit Go.Proofs.YtkljijkejbfopaaDoorG Go.Proofs.YtkljijkejbfopaaDoor.S Go.Proofs.YtkljijkejbfopaaDoorW.PrintWords Go.Proofs.YtkljijkejbfopaaDoorW.PrintLast Go.Proofs.YtkljijkejbfopaaDoorW.PrintMore

theorem XAttrPlain (a0 : Int) (a1 : Int) (a2 : Int) (w0 : (Lit.int .u32 a0).wf = true) (w1 : (Lit.int .u32 a1).wf = true) (w2 : (Lit.int .u32 a2).wf = true) : ∃ k, atlaslaw06_AttrPlain.f k a0 a1 a2 = some true := by
  obtain ⟨e, f⟩ := of_ev false a0 a1 a2 (wf32 w0).1 (wf32 w0).2 (wf32 w1).1 (wf32 w1).2 (wf32 w2).1
  refine Ev.rounds (r := true) ?_
  unfold atlaslaw06_AttrPlain.f
  refine Ev.bind e (Ev.bind f (Ev.bind live_ev ?_))
  simp only [if_true, beq_self_eq_true, Bool.and_self, atlaslaw06_no.f, Option.bind_some]
  exact Ev.now _
end Go.Proofs.YtkljijkejbfopaaDoor.Pure
