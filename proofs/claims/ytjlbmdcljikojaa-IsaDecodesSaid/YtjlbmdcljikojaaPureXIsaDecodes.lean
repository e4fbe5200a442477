/-
  What any word says is what the document says: what isa.IsaDecodes computes is true.
  Conditions: none.
-/
import Derived.Test.YtjlbmdcljikojaaPureIsaRef6
set_option linter.unusedVariables false
set_option linter.unusedSimpArgs false
set_option autoImplicit false
set_option maxRecDepth 10000
namespace Go.Proofs.Ytjlbmdcljikojaa.Pure
open Go.Va
theorem XIsaDecodes (a0 : Int) (w0 : (Lit.int .u32 a0).wf = true) : ∃ k, atlaslaw19_IsaDecodes.f k a0 = some true := by
  refine ⟨64, ?_⟩
  have w : 0 ≤ a0 ∧ a0 < 4294967296 := by
    simp only [Lit.wf, IntKind.min, IntKind.max, Bool.and_eq_true, decide_eq_true_eq] at w0
    simp [IntKind.bits, IntKind.signed] at w0
    omega
  unfold atlaslaw19_IsaDecodes.f
  rw [rdecode_eq a0 w.1]
  rcases both a0 w.1 w.2 with ⟨h1, h2⟩ | ⟨j, k, h1, h2⟩
  · rw [h1, h2]; rfl
  · rw [h1, h2]
    simp only [Option.bind_some, beq_self_eq_true, Bool.and_true, Bool.and_self, cond_true]
end Go.Proofs.Ytjlbmdcljikojaa.Pure
