/-
  The text of any number is the same by the program and by the document's answer.
  Conditions: none beyond the row's own.
-/
import Derived.Test.YtihjlkdobdffjaaDoorPureHexText
set_option linter.unusedSimpArgs false
set_option linter.unusedVariables false
namespace Go.Proofs.YtihjlkdobdffjaaDoor.Pure
open Go.RowKit Go.Proofs.YtihjlkdobdffjaaDoor.S Go.Proofs.YtihjlkdobdffjaaDoorW.PrintWords Go.Proofs.YtihjlkdobdffjaaDoorW.PrintLast
theorem XWordsHex (a0 : Int) (w0 : (Lit.int .u64 a0).wf = true) : ∃ k, atlaslaw01_WordsHex.f k a0 = some true := by
  have hw : 0 ≤ a0 ∧ a0 < 18446744073709551616 := by
    simp only [Lit.wf] at w0
    rw [Bool.and_eq_true, decide_eq_true_eq, decide_eq_true_eq] at w0
    have e1 : IntKind.u64.min = 0 := rfl
    have e2 : IntKind.u64.max = 18446744073709551615 := rfl
    omega
  obtain ⟨u, rfl⟩ := Int.eq_ofNat_of_zero_le hw.1
  have hu : u < 18446744073709551616 := by omega
  refine Ev.rounds (r := true) ?_
  unfold atlaslaw01_WordsHex.f
  refine Ev.bind (hex_ev u hu) ?_
  refine Ev.bind (a := ((⟨#[48, 120]⟩ : ByteArray) ++ ⟨(hexs 16 u []).toArray⟩)) ?_ ?_
  · unfold atlasref01_Hex.f
    exact ref_ev 15 u [] (by simpa using hu) hu (by simp)
  · simp only [BEq.rfl]
    exact Ev.now _
end Go.Proofs.YtihjlkdobdffjaaDoor.Pure
