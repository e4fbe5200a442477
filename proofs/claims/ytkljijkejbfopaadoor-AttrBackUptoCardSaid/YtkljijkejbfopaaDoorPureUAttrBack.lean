/-
  A text that is written is read as its kind; a text that is read is written as it was.
  Conditions: none beyond the row's own.
-/
import Derived.Test.YtkljijkejbfopaaDoorS24
import Derived.Test.YtkljijkejbfopaaDoorPureAttrNone
import Derived.Test.YtkljijkejbfopaaDoorPureAttrLive
set_option linter.unusedSimpArgs false
set_option linter.unusedVariables false
namespace Go.Proofs.YtkljijkejbfopaaDoor.Pure
open Go.RowKit Go.Proofs.YtkljijkejbfopaaDoorG Go.Proofs.YtkljijkejbfopaaDoor.S Go.Proofs.YtkljijkejbfopaaDoorW.PrintWords Go.Proofs.YtkljijkejbfopaaDoorW.PrintLast Go.Proofs.YtkljijkejbfopaaDoorW.PrintMore

theorem back_end (s : ByteArray) (hs : s.size ≤ 1048576) : Ev (fun k => atlaslaw06_AttrBack.j0 k s false) true := by
  refine Ev.step (fun k => rfl) ?_
  simp only [atlaslaw06_AttrBack.j0, Bool.false_eq_true, if_false, atlaslaw06_no.f, Option.bind_some]
  by_cases h : ∃ T I O S, isK T I O S = true ∧ txt T I O S = s
  · obtain ⟨T, I, O, S, hk, rfl⟩ := h
    refine Ev.bind (read_yes hk) ?_
    simp only [if_true]
    refine Ev.bind (show_ev T I O S) ?_
    simp only [shV, if_pos hk, if_true, beq_self_eq_true]
    exact Ev.now _
  · have hno : ∀ T I O S, isK T I O S = true → txt T I O S ≠ s := fun T I O S hk e => h ⟨T, I, O, S, hk, e⟩
    refine Ev.bind (read_no s hs hno) ?_
    simp only [if_neg (show ¬ ((62 : Int) = 0) by decide), if_true, beq_self_eq_true, Bool.and_self]
    exact Ev.now _
theorem UAttrBack (a0_0 : Int) (a0_1 : Int) (a0_2 : Int) (a0_3 : Int) (a1 : ByteArray) (w0_0 : (Lit.int .i64 a0_0).wf = true) (w0_1 : (Lit.int .i64 a0_1).wf = true) (w0_2 : (Lit.int .i64 a0_2).wf = true) (w0_3 : (Lit.int .i64 a0_3).wf = true) (w1 : a1.size ≤ 1048576) (hb : (a1.size + 1) ≤ 1048576) : ∃ k, atlaslaw06_AttrBack.f k a0_0 a0_1 a0_2 a0_3 a1 = some true := by
  refine Ev.rounds (r := true) ?_
  unfold atlaslaw06_AttrBack.f
  refine Ev.bind (show_ev a0_0 a0_1 a0_2 a0_3) ?_
  unfold shV
  by_cases h : isK a0_0 a0_1 a0_2 a0_3 = true
  · simp only [if_pos h]
    refine Ev.bind (read_yes h) (Ev.bind live_ev ?_)
    simp only [if_true, atlaslaw06_no.f, Option.bind_some, beq_self_eq_true, Bool.not_true, Bool.or_self, Bool.false_eq_true, if_false]
    exact back_end a1 w1
  · simp only [if_neg h]
    refine Ev.bind (read_no ⟨#[]⟩ (by decide) empty_no) (Ev.bind live_ev ?_)
    simp only [if_true, atlaslaw06_no.f, Option.bind_some, if_neg (show ¬ ((62 : Int) = 0) by decide), if_pos (show (⟨#[]⟩ : ByteArray).toList = ([] : List UInt8) by rw [Lib.toList_data]), beq_self_eq_true, Bool.not_true, Bool.or_self]
    exact back_end a1 w1
end Go.Proofs.YtkljijkejbfopaaDoor.Pure
