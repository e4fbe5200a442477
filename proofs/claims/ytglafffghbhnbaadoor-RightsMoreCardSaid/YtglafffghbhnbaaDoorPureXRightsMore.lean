/-
  With more rights no access of a user is barred that was not; each right of the eight that there is gives just its accesses.
  Conditions: none beyond the row's own.
-/
import Derived.Test.YtglafffghbhnbaaDoorS4
namespace Go.Proofs.YtglafffghbhnbaaDoor.Pure
open Go.RowKit Go.Proofs.YtglafffghbhnbaaDoorG Go.Proofs.YtglafffghbhnbaaDoor.S Go.Proofs.YtglafffghbhnbaaDoorW.PrintWords Go.Proofs.YtglafffghbhnbaaDoorW.PrintLast

theorem more_all : ∀ a b c d e f : Bool, atlaslaw07_RightsMore.f 40 a b c d e f = some true := by decide +kernel
theorem XRightsMore (a0_0 : Bool) (a0_1 : Bool) (a0_2 : Bool) (a1_0 : Bool) (a1_1 : Bool) (a1_2 : Bool) : ∃ k, atlaslaw07_RightsMore.f k a0_0 a0_1 a0_2 a1_0 a1_1 a1_2 = some true :=
  ⟨40, more_all a0_0 a0_1 a0_2 a1_0 a1_1 a1_2⟩
end Go.Proofs.YtglafffghbhnbaaDoor.Pure
