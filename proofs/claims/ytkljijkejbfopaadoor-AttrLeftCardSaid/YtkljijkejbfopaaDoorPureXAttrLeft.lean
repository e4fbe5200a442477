/-
  What is left out changes nothing: without remap both registers; with it the two upper bits of TEX, and the second register where memory is not normal.
  Conditions: none beyond the row's own.
-/
import Derived.Test.YtkljijkejbfopaaDoorS26
import Derived.Test.YtkljijkejbfopaaDoorPureAttr
import Derived.Test.YtkljijkejbfopaaDoorPureAttrLive
set_option linter.unusedSimpArgs false
set_option linter.unusedVariables false
namespace Go.Proofs.YtkljijkejbfopaaDoor.Pure
open Go.RowKit Go.Proofs.YtkljijkejbfopaaDoorG Go.Proofs.YtkljijkejbfopaaDoor.S Go.Proofs.YtkljijkejbfopaaDoorW.PrintWords Go.Proofs.YtkljijkejbfopaaDoorW.PrintLast Go.Proofs.YtkljijkejbfopaaDoorW.PrintMore

theorem rem_low (p m b : Int) (h0 : 0 ≤ b) (h1 : b ≤ 63) : ofV true p m (b % 16) = ofV true p m b := by
  unfold ofV remV
  rw [if_neg (show ¬ (b % 16 > 63) by omega), if_neg (show ¬ (b > 63) by omega), show b % 16 / 2 % 8 = b / 2 % 8 by omega, show b % 16 % 2 = b % 2 by omega, if_pos rfl, if_pos rfl]
/-- What the second register cannot change. -/
theorem rem_type (p m m' b : Int) (h1 : b ≤ 63) : (ofV true p m b).2.2.2.2 = (ofV true p m' b).2.2.2.2 ∧ (ofV true p m b).1 = (ofV true p m' b).1 ∧ (ofV true p m b).2.2.2.1 = (ofV true p m' b).2.2.2.1 ∧ ((ofV true p m b).1 ≠ 2 → ofV true p m b = ofV true p m' b) := by
  unfold ofV remV
  rw [if_neg (show ¬ (b > 63) by omega), if_pos rfl, if_neg (show ¬ (b > 63) by omega), if_pos rfl]
  generalize bd p ((if fd p (2 * (b / 2 % 8)) = 2 then 18 else 16) + b % 2) = s
  generalize bd p (24 + b / 2 % 8) = q
  generalize fd p (2 * (b / 2 % 8)) = T
  generalize fd m (2 * (b / 2 % 8)) = I
  generalize fd m (2 * (b / 2 % 8) + 16) = O
  generalize fd m' (2 * (b / 2 % 8)) = I'
  generalize fd m' (2 * (b / 2 % 8) + 16) = O'
  generalize b / 2 % 8 = n
  unfold mapV
  split
  · exact ⟨rfl, rfl, rfl, fun _ => rfl⟩
  · split
    · exact ⟨rfl, rfl, rfl, fun _ => rfl⟩
    · split
      · exact ⟨rfl, rfl, rfl, fun _ => rfl⟩
      · refine ⟨rfl, rfl, rfl, fun hne => ?_⟩
        have h2 : ¬ T = 2 := hne
        simp only [if_neg h2]
theorem XAttrLeft (a0 : Int) (a1 : Int) (a2 : Int) (a3 : Int) (a4 : Int) (w0 : (Lit.int .u32 a0).wf = true) (w1 : (Lit.int .u32 a1).wf = true) (w2 : (Lit.int .u32 a2).wf = true) (w3 : (Lit.int .u32 a3).wf = true) (w4 : (Lit.int .u32 a4).wf = true) : ∃ k, atlaslaw06_AttrLeft.f k a0 a1 a2 a3 a4 = some true := by
  have hb : Go.bits .and .u32 a4 63 = a4 % 64 := u32_and 6 (by decide) a4 (wf32 w4).1 (wf32 w4).2
  have hb0 : 0 ≤ a4 % 64 := by omega
  have hb1 : a4 % 64 ≤ 63 := by omega
  refine Ev.rounds (r := true) ?_
  unfold atlaslaw06_AttrLeft.f
  simp only [hb]
  generalize a4 % 64 = b at hb0 hb1
  have hc : Go.bits .and .u32 b 15 = b % 16 := u32_and 4 (by decide) b hb0 (by omega)
  have e1 := (of_ev false a0 a1 b (wf32 w0).1 (wf32 w0).2 (wf32 w1).1 (wf32 w1).2 hb0).1
  have e2 := (of_ev false a2 a3 b (wf32 w2).1 (wf32 w2).2 (wf32 w3).1 (wf32 w3).2 hb0).1
  have e3 := (of_ev true a0 a1 b (wf32 w0).1 (wf32 w0).2 (wf32 w1).1 (wf32 w1).2 hb0).1
  have e4 := (of_ev true a0 a1 (b % 16) (wf32 w0).1 (wf32 w0).2 (wf32 w1).1 (wf32 w1).2 (by omega)).1
  have e5 := (of_ev true a0 a3 b (wf32 w0).1 (wf32 w0).2 (wf32 w3).1 (wf32 w3).2 hb0).1
  rw [rem_low a0 a1 b hb0 hb1] at e4
  have e2' : Ev (fun k => attr_Of.f k false a2 a3 b) (ofV false a0 a1 b) := e2
  refine Ev.bind e1 (Ev.bind e2' (Ev.bind live_ev ?_))
  simp only [if_true, beq_self_eq_true, Bool.not_true, Bool.or_self, Bool.false_eq_true, if_false, atlaslaw06_no.f, Option.bind_some, bne_self_eq_false]
  refine Ev.step (fun k => rfl) ?_
  simp only [atlaslaw06_AttrLeft.j0, Bool.false_eq_true, if_false, hc]
  refine Ev.bind e3 (Ev.bind e4 ?_)
  simp only [if_true, beq_self_eq_true, Bool.not_true, Bool.or_self, Bool.false_eq_true, if_false, atlaslaw06_no.f, Option.bind_some, bne_self_eq_false]
  refine Ev.step (fun k => rfl) ?_
  simp only [atlaslaw06_AttrLeft.j1, Bool.false_eq_true, if_false]
  refine Ev.bind e5 ?_
  obtain ⟨h1, h2, h3, h4⟩ := rem_type a0 a1 a3 b hb1
  simp only [atlaslaw06_no.f, Option.bind_some, if_pos h1, if_pos h2, if_pos h3]
  by_cases h : (ofV true a0 a1 b).1 = 2
  · simp only [if_pos h]
    exact Ev.now _
  · simp only [if_neg h, ← h4 h, beq_self_eq_true, Bool.and_self]
    exact Ev.now _
end Go.Proofs.YtkljijkejbfopaaDoor.Pure
