/-
  With the chapter's two registers each of the 64 bits has the kind that the promise names.
  Conditions: none beyond the row's own.
-/
import Derived.Test.YtkljijkejbfopaaDoorS27
import Derived.Test.YtkljijkejbfopaaDoorPureAttr
import Derived.Test.YtkljijkejbfopaaDoorPureAttrLive
set_option linter.unusedSimpArgs false
set_option linter.unusedVariables false
namespace Go.Proofs.YtkljijkejbfopaaDoor.Pure
open Go.RowKit Go.Proofs.YtkljijkejbfopaaDoorG Go.Proofs.YtkljijkejbfopaaDoor.S Go.Proofs.YtkljijkejbfopaaDoorW.PrintWords Go.Proofs.YtkljijkejbfopaaDoorW.PrintLast Go.Proofs.YtkljijkejbfopaaDoorW.PrintMore

theorem usual_all : ∀ x : Fin 64, atlaslaw06_AttrUsual.f 80 (x.val : Int) = some true := by decide +kernel
theorem XAttrUsual (a0 : Int) (w0 : (Lit.int .u32 a0).wf = true) : ∃ k, atlaslaw06_AttrUsual.f k a0 = some true := by
  have hb : Go.bits .and .u32 a0 63 = a0 % 64 := u32_and 6 (by decide) a0 (wf32 w0).1 (wf32 w0).2
  have hc : Go.bits .and .u32 (a0 % 64) 63 = a0 % 64 := by
    have := u32_and 6 (by decide) (a0 % 64) (by omega) (by omega)
    rw [show (2 : Int) ^ 6 - 1 = 63 by decide, show (2 : Int) ^ 6 = 64 by decide] at this
    omega
  have h : atlaslaw06_AttrUsual.f 80 a0 = atlaslaw06_AttrUsual.f 80 (a0 % 64) := by
    unfold atlaslaw06_AttrUsual.f
    rw [hb, hc]
  obtain ⟨x, hx⟩ : ∃ x : Fin 64, a0 % 64 = (x.val : Int) := ⟨⟨(a0 % 64).toNat, by omega⟩, by simp; omega⟩
  exact ⟨80, by rw [h, hx]; exact usual_all x⟩
end Go.Proofs.YtkljijkejbfopaaDoor.Pure
