/-
  Which kinds there are, by the document's answer.
  Conditions: none.
-/
import Derived.Test.YtkljijkejbfopaaDoorS17
import Derived.Test.YtkljijkejbfopaaDoorPureAttrText
set_option linter.unusedSimpArgs false
set_option linter.unusedVariables false
namespace Go.Proofs.YtkljijkejbfopaaDoor.Pure
open Go.RowKit Go.Proofs.YtkljijkejbfopaaDoorG Go.Proofs.YtkljijkejbfopaaDoor.S Go.Proofs.YtkljijkejbfopaaDoorW.PrintWords Go.Proofs.YtkljijkejbfopaaDoorW.PrintLast Go.Proofs.YtkljijkejbfopaaDoorW.PrintMore

theorem isK_rng {T I O S : Int} (h : isK T I O S = true) : (0 ≤ T ∧ T ≤ 2) ∧ (0 ≤ I ∧ I ≤ 3) ∧ (0 ≤ O ∧ O ≤ 3) ∧ (0 ≤ S ∧ S ≤ 2) := by
  simp only [isK, Bool.and_eq_true, decide_eq_true_eq] at h
  exact ⟨h.1, h.2.1, h.2.2.1, h.2.2.2.1⟩
theorem mem_ev (T I O S : Int) : Ev (fun k => atlasref06_IsMem.f k T I O S) (isK T I O S) := by
  refine ⟨1, fun k hk => ?_⟩
  obtain ⟨k, rfl⟩ : ∃ j, k = j + 1 := ⟨k - 1, by omega⟩
  have no : ¬ ((0 ≤ T ∧ T ≤ 2) ∧ (0 ≤ I ∧ I ≤ 3) ∧ (0 ≤ O ∧ O ≤ 3) ∧ (0 ≤ S ∧ S ≤ 2)) → isK T I O S = false := fun h => Bool.eq_false_iff.2 (fun e => h (isK_rng e))
  simp only [atlasref06_IsMem.f, atlasref06_IsMem.j0]
  by_cases a1 : T < 0
  · rw [no (by omega)]; simp [a1]
  by_cases a2 : T > 2
  · rw [no (by omega)]; simp [a2]
  by_cases a3 : S < 0
  · rw [no (by omega)]; simp [a1, a2, a3]
  by_cases a4 : S > 2
  · rw [no (by omega)]; simp [a1, a2, a4]
  by_cases a5 : I < 0
  · rw [no (by omega)]; simp [a1, a2, a3, a4, a5]
  by_cases a6 : I > 3
  · rw [no (by omega)]; simp [a1, a2, a3, a4, a6]
  by_cases a7 : O < 0
  · rw [no (by omega)]; simp [a1, a2, a3, a4, a5, a6, a7]
  by_cases a8 : O > 3
  · rw [no (by omega)]; simp [a1, a2, a3, a4, a5, a6, a8]
  have e1 : decide (0 ≤ T ∧ T ≤ 2) = true := decide_eq_true (by omega)
  have e2 : decide (0 ≤ I ∧ I ≤ 3) = true := decide_eq_true (by omega)
  have e3 : decide (0 ≤ O ∧ O ≤ 3) = true := decide_eq_true (by omega)
  have e4 : decide (0 ≤ S ∧ S ≤ 2) = true := decide_eq_true (by omega)
  simp only [if_neg a1, if_neg a2, if_neg a3, if_neg a4, if_neg a5, if_neg a6, if_neg a7, decide_eq_false a8, isK, e1, e2, e3, e4, Bool.true_and, Bool.false_eq_true, if_false]
  by_cases h2 : T = 2
  · subst h2
    simp
  · by_cases h0 : T = 0 <;> by_cases hI : I = 0 <;> by_cases hO : O = 0 <;> simp [h2, h0, hI, hO]
end Go.Proofs.YtkljijkejbfopaaDoor.Pure
