/-
  No kind's text is empty.
  Conditions: none.
-/
import Derived.Test.YtkljijkejbfopaaDoorPureAttrText
set_option linter.unusedSimpArgs false
set_option linter.unusedVariables false
namespace Go.Proofs.YtkljijkejbfopaaDoor.Pure
open Go.RowKit Go.Proofs.YtkljijkejbfopaaDoorG Go.Proofs.YtkljijkejbfopaaDoor.S Go.Proofs.YtkljijkejbfopaaDoorW.PrintWords Go.Proofs.YtkljijkejbfopaaDoorW.PrintLast Go.Proofs.YtkljijkejbfopaaDoorW.PrintMore

theorem txt_ne : ∀ (a : Fin 3) (b : Fin 4) (c : Fin 4) (d : Fin 3), isK (a.val : Int) (b.val : Int) (c.val : Int) (d.val : Int) = true → txt (a.val : Int) (b.val : Int) (c.val : Int) (d.val : Int) ≠ ⟨#[]⟩ := by decide +kernel
theorem empty_no : ∀ T I O S, isK T I O S = true → txt T I O S ≠ ⟨#[]⟩ := fun T I O S h => by
  obtain ⟨a, b, c, d, rfl, rfl, rfl, rfl⟩ := isK_fin h
  exact txt_ne a b c d h
end Go.Proofs.YtkljijkejbfopaaDoor.Pure
