/-
  What a word says is right, and is said by that word alone: what isa.IsaBack computes is true.
  Conditions: none.
-/
import Derived.Test.YtjlbmdcljikojaaPureIsaBack4
set_option linter.unusedVariables false
set_option linter.unusedSimpArgs false
set_option autoImplicit false
namespace Go.Proofs.Ytjlbmdcljikojaa.Pure
open Go.Va
theorem XIsaBack (a0 : Int) (w0 : (Lit.int .u32 a0).wf = true) : ∃ k, atlaslaw19_IsaBack.f k a0 = some true := by
  refine ⟨8, ?_⟩
  have w : 0 ≤ a0 ∧ a0 < 4294967296 := by
    simp only [Lit.wf, IntKind.min, IntKind.max, Bool.and_eq_true, decide_eq_true_eq] at w0
    have m0 : IntKind.u32.bits = 32 := rfl
    simp [IntKind.bits, IntKind.signed] at w0
    omega
  unfold atlaslaw19_IsaBack.f
  rw [alive_8, Option.bind_some, Bool.not_true, cond_false]
  rcases decode_8 a0 w.1 w.2 with h | ⟨j, h, o1, o2, hl, _, _⟩
  · rw [h]; rfl
  · have he := encode_back a0 j o1 o2 hl h
    have hr := right_back a0 j he
    rw [h, Option.bind_some, Bool.not_true, cond_false]
    show (isa_Encode.f 8 j).bind _ = _
    rw [he, Option.bind_some]
    show (bif (a0 == a0) then (bif true then (isa_Right.f 8 j).bind some else _) else _) = _
    rw [hr, beq_self_eq_true]; rfl
end Go.Proofs.Ytjlbmdcljikojaa.Pure
