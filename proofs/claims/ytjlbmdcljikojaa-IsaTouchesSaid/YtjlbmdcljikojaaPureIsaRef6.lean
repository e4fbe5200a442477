/-
  What the two decoders answer is the same.
  Conditions: none.
-/
import Derived.Test.YtjlbmdcljikojaaPureIsaRef5
set_option linter.unusedVariables false
set_option linter.unusedSimpArgs false
set_option autoImplicit false
set_option maxRecDepth 10000
namespace Go.Va
/-- What the program decodes, what the reference finds. -/
theorem both (x : Int) (h0 : 0 ≤ x) (h1 : x < 4294967296) : (isa_Decode.f 64 x = some (⟨0, 0, false, 0, 0, 0, 0, 0, 0, 0, 0, 0, false, false, false, 0, 0, 0, 0, 0⟩, false) ∧ firstV x rowsV = none) ∨ ∃ j k, isa_Decode.f 64 x = some (j, true) ∧ firstV x rowsV = some (rowD k, j) := by
  obtain ⟨j, hj, hr⟩ := says_same 64 x h0 h1
  obtain ⟨b, hb⟩ := may_tot j
  have e : isa_Decode.f 64 x = (bif (!b) then (some (⟨0, 0, false, 0, 0, 0, 0, 0, 0, 0, 0, 0, false, false, false, 0, 0, 0, 0, 0⟩, false)) else (some (j, true))) := by
    have e1 : isa_Decode.f 64 x = (isa_says.f 64 x).bind fun r1 => (isa_may.f 64 r1).bind fun r2 => bif (!r2) then (some (⟨0, 0, false, 0, 0, 0, 0, 0, 0, 0, 0, 0, false, false, false, 0, 0, 0, 0, 0⟩, false)) else (some (r1, true)) := rfl
    rw [e1, hj, Option.bind_some, hb, Option.bind_some]
  rcases hr with ⟨rfl, hf⟩ | ⟨o1, k, hm, hok, hf⟩
  · cases b with
    | false => exact .inl ⟨e, hf⟩
    | true => exact absurd rfl (may_op0 64 _ hb).1
  · have hmb : mayV (rowD k) j = b := by
      have := may_eq (rowD k) hok j
      rw [← hm, hb] at this
      exact (Option.some.inj this).symm
    rw [hmb] at hf
    cases b with
    | false => exact .inl ⟨e, hf⟩
    | true => exact .inr ⟨j, k, e, hf⟩
end Go.Va
