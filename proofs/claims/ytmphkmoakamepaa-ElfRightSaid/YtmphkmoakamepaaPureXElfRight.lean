/-
  Any image: elf.Right says of it what the document's answer does.
  Conditions: none.
-/
import Derived.Test.YtmphkmoakamepaaPureElfRight
set_option linter.unusedVariables false
set_option linter.unusedSimpArgs false
set_option autoImplicit false
namespace Go.Va
theorem right_law (x : T25) (h : ImgOk x) : ∃ k, atlaslaw23_ElfRight.f k x = some true := by
  have hr := reach_v
  have hs := h.sl
  refine ⟨reachBytes + 1, ?_⟩
  generalize hk : reachBytes + 1 = k
  have ho := own_eq x h k (by omega)
  obtain ⟨h1, h2⟩ := right_eq x h k (by omega)
  have e : atlaslaw23_ElfRight.f k x = ((atlaslaw23_own.f k x).bind fun r1 => (elf_Right.f k r1).bind fun r2 => (atlasref23_Right.f k x).bind fun r3 => some (r2 == r3)) := rfl
  rw [e, ho, Option.bind_some, h1, Option.bind_some, h2, Option.bind_some, beq_self_eq_true]
end Go.Va
namespace Go.Proofs.Ytmphkmoakamepaa.Pure
open Go.Va
theorem XElfRight (y0 : ImgC.D) (w0 : ImgC.wf y0) : ∃ k, atlaslaw23_ElfRight.f k ⟨y0.1, y0.2.1, y0.2.2.1⟩ = some true :=
  right_law _ (img_ok w0)
end Go.Proofs.Ytmphkmoakamepaa.Pure
