-- Written by a program of this session (wip/xprint.py), over the kit's print. Not trusted: Lean checks it.
import Derived.Test.YtglafffghbhnbaaRows
import Derived.Test.YtglafffghbhnbaaGRow
import Derived.Test.YtglafffghbhnbaaS4
import Derived.Test.YtglafffghbhnbaaPureXRightsStatus
import Derived.WalkKit
import Derived.ProofKit
import Derived.OpenShut
import Derived.ShutString
import Derived.ChangeOld
import Derived.Below
import Derived.SizedLaws
import Derived.JoinedCond
namespace Go.Proofs.Ytglafffghbhnbaa.rightsStatusX
open Go.Proofs.YtglafffghbhnbaaG
open Go.ChangeShapes Go.WideShapes Go.ChangeAt Go.RowKit
open Go.ChangeMaps (open_string shut_string)
set_option linter.unusedVariables false
theorem own : ownKnob Try.prog.godebug = none := by kernel_rfl
theorem laidOut : laidOutB Try.prog = true := by kernel_rfl
theorem leaves25 : leaves Try.prog 9 25 = some [Lk.int .i64, Lk.int .i64, Lk.int .i64] := by kernel_rfl
set_option maxRecDepth 100000 in
theorem lifted (os : Os) (started : os.Started) (H : Type) (enc : TypeId × Value → H) :
    ReturnsInHanded {} Try.checked os 4 .any (Rows.rightsStatusSpec.pre6 enc Try.prog Try.f4 Rows.rightsStatusRow.domain false) (Rows.rightsStatusSpec.post enc Try.prog Try.f4 false true false false) := by
  refine returnsInHanded_of_change_sized (C := Try.checked) own started (by kernel_rfl) Try.func4
    (ChangeSpec.witness6 (enc := enc) (C := Try.checked) false ⟨#[], #[.agg #[.int .i64 0, .int .i64 0, .int .i64 0]], []⟩ 8 (by kernel_rfl) (by kernel_rfl) (by kernel_rfl) (by kernel_rfl)) ?_
  intro W base args ds gs before hval0 hW hcnd hsz0 _
  have hsz : (DataW.weightsEach Try.prog (Try.f4.params.toList ++ Rows.rightsStatusSpec.plain.varTypes Try.prog) (ds ++ gs)).all (· ≤ reachBytes) = true := hsz0
  have hval : ∀ (j : Nat) t v, Try.f4.params[j]? = some t → args[j]? = some v → Value.okWide Try.prog W .any base t v := hval0
  have hW' := hW
  obtain ⟨p, q, hA0, hV, rfl, hfz, hnd⟩ := hW
  have hA : DataW.TrodAll enc Try.prog W 0 (fun _ => true) true Try.f4.params.toList args.toList ds p := hA0
  rw [Try.params4] at hA hval hsz
  obtain ⟨v0, vs0, d0, ds0, p0, q0, hargs, rfl, rfl, h0, r0⟩ := trodAll_cons hA
  obtain ⟨rfl, rfl, rfl⟩ := trodAll_nil r0
  obtain rfl : args = #[v0] := by cases args; simp_all
  obtain ⟨rfl, rfl⟩ := trodVars_none hV
  have k0 := h0
  have lt0 : ∀ x ∈ p0, x.block < W.heap.size := by obtain ⟨m, hm⟩ := k0; exact DataW.trod_lt m _ _ _ hm
  obtain ⟨cs0, rfl, ok0_0⟩ := open_flat Try.underlying25 leaves25 (hval 0 25 v0 rfl rfl) h0
  obtain ⟨c0_0, rs0_0, rfl, o0_0, ok0_1⟩ := okAll_cons ok0_0
  obtain ⟨a0_0, rfl, w0_0⟩ := o0_0
  obtain ⟨c0_1, rs0_1, rfl, o0_1, ok0_2⟩ := okAll_cons ok0_1
  obtain ⟨a0_1, rfl, w0_1⟩ := o0_1
  obtain ⟨c0_2, rs0_2, rfl, o0_2, ok0_3⟩ := okAll_cons ok0_2
  obtain ⟨a0_2, rfl, w0_2⟩ := o0_2
  obtain rfl := okAll_nil ok0_3
  clear hA0 hval0 hsz0 hsz
  obtain ⟨k, hf⟩ := Pure.XRightsStatus a0_0 a0_1 a0_2 w0_0 w0_1 w0_2
  refine (S.atlaslaw07_RightsStatus.calls k a0_0 a0_1 a0_2 true W hf).mono fun e W' ⟨he, bel0⟩ => ?_
  have bel : Below W.heap.size W W' := bel0
  subst he
  exact ⟨_, rfl, _, _, _, [], _, [], hW', trodAll_mk1 (shut_bool Try.underlying4 _), (trodAll_cons_mk (Below.trod laidOut (by kernel_rfl) (of_decide_eq_true (by kernel_rfl)) k0 bel lt0) trodAll_mk0), rfl, bel.frame _, fun h => by cases h⟩
theorem over : Rows.rightsStatusRow.holds Try.pinned (OpenSpec.ofChange Rows.rightsStatusSpec) :=
  OpenClaim.holds_of_wide 4 Try.f4 rfl rfl rfl rfl rfl rfl rfl ⟨rfl, rfl, rfl, rfl, rfl⟩ rfl rfl rfl rfl rfl (by kernel_rfl) Try.func4 (by kernel_rfl)
    (of_decide_eq_true (by kernel_rfl)) (by unfold Func.isWrapper; first | (rw [if_pos (by decide +kernel)]; kernel_rfl) | (rw [if_neg (by decide +kernel)]; exact ⟨rfl, rfl⟩))
    (fun os started H enc _ => lifted os started H enc)
theorem proved : Rows.RightsStatusSaid := over
#print axioms proved
end Go.Proofs.Ytglafffghbhnbaa.rightsStatusX
namespace Go.Proofs.Ytglafffghbhnbaa
/-- The row, under a short name, for the claim. -/
theorem rightsStatusX_holds : Rows.RightsStatusSaid := rightsStatusX.proved
end Go.Proofs.Ytglafffghbhnbaa
