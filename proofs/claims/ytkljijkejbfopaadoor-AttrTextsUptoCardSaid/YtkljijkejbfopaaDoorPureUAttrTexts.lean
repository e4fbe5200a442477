/-
  The text of any kind and the kind of any text are the same by the program and by the document's answer.
  Conditions: none beyond the row's own.
-/
import Derived.Test.YtkljijkejbfopaaDoorS22
import Derived.Test.YtkljijkejbfopaaDoorPureAttrRef
import Derived.Test.YtkljijkejbfopaaDoorPureAttrLive
set_option linter.unusedSimpArgs false
set_option linter.unusedVariables false
namespace Go.Proofs.YtkljijkejbfopaaDoor.Pure
open Go.RowKit Go.Proofs.YtkljijkejbfopaaDoorG Go.Proofs.YtkljijkejbfopaaDoor.S Go.Proofs.YtkljijkejbfopaaDoorW.PrintWords Go.Proofs.YtkljijkejbfopaaDoorW.PrintLast Go.Proofs.YtkljijkejbfopaaDoorW.PrintMore

theorem UAttrTexts (a0_0 : Int) (a0_1 : Int) (a0_2 : Int) (a0_3 : Int) (a1 : ByteArray) (w0_0 : (Lit.int .i64 a0_0).wf = true) (w0_1 : (Lit.int .i64 a0_1).wf = true) (w0_2 : (Lit.int .i64 a0_2).wf = true) (w0_3 : (Lit.int .i64 a0_3).wf = true) (w1 : a1.size ≤ 1048576) (hb : (a1.size + 1) ≤ 1048576) : ∃ k, atlaslaw06_AttrTexts.f k a0_0 a0_1 a0_2 a0_3 a1 = some true := by
  refine Ev.rounds (r := true) ?_
  unfold atlaslaw06_AttrTexts.f
  refine Ev.bind (show_ev a0_0 a0_1 a0_2 a0_3) (Ev.bind (rshow_ev a0_0 a0_1 a0_2 a0_3) (Ev.bind live_ev ?_))
  simp only [if_true, atlaslaw06_no.f, Option.bind_some, bne_self_eq_false]
  refine Ev.step (fun k => rfl) ?_
  simp only [atlaslaw06_AttrTexts.j0, Bool.false_eq_true, if_false, atlaslaw06_no.f, Option.bind_some]
  by_cases h : ∃ T I O S, isK T I O S = true ∧ txt T I O S = a1
  · obtain ⟨T, I, O, S, hk, rfl⟩ := h
    refine Ev.bind (read_yes hk) (Ev.bind (rread_yes hk) ?_)
    simp only [beq_self_eq_true, Bool.and_self, if_true]
    exact Ev.now _
  · have hno : ∀ T I O S, isK T I O S = true → txt T I O S ≠ a1 := fun T I O S hk e => h ⟨T, I, O, S, hk, e⟩
    refine Ev.bind (read_no a1 w1 hno) (Ev.bind (rread_no a1 hno) ?_)
    simp only [beq_self_eq_true, Bool.and_self, if_true]
    exact Ev.now _
end Go.Proofs.YtkljijkejbfopaaDoor.Pure
