-- Written by a program of this session (wip/xprint.py, wip/va/turnlaw.py). Not trusted: Lean checks it.
import Derived.Test.YtjlbmdcljikojaaRows
import Derived.Test.YtjlbmdcljikojaaGRow
import Derived.Test.YtjlbmdcljikojaaVl
import Derived.Test.YtjlbmdcljikojaaPureXIsaTouches
import Derived.WalkKit
import Derived.ProofKit
import Derived.OpenShut
import Derived.ShutString
import Derived.ChangeOld
import Derived.Below
import Derived.SizedLaws
import Derived.JoinedCond
namespace Go.Proofs.Ytjlbmdcljikojaa.isaTouchesX
open Go.Proofs.YtjlbmdcljikojaaG
open Go.ChangeShapes Go.WideShapes Go.ChangeAt Go.RowKit
open Go.ChangeMaps (open_string shut_string)
set_option linter.unusedVariables false
theorem own : ownKnob Try.prog.godebug = none := by kernel_rfl
theorem laidOut : laidOutB Try.prog = true := by kernel_rfl
theorem leaves27 : leaves Try.prog 9 27 = some [Lk.int .i64, Lk.int .i64, Lk.bool, Lk.int .i64, Lk.int .i64, Lk.int .i64, Lk.int .i64, Lk.int .i64, Lk.int .i64, Lk.int .u32, Lk.int .i64, Lk.int .i64, Lk.bool, Lk.bool, Lk.bool, Lk.int .u16, Lk.int .i64, Lk.int .i64, Lk.int .i64, Lk.int .i64] := by kernel_rfl
set_option maxRecDepth 100000 in
theorem lifted (os : Os) (started : os.Started) (H : Type) (enc : TypeId × Value → H) :
    ReturnsInHanded {} Try.checked os 7 .any (Rows.isaTouchesSpec.pre6 enc Try.prog Try.f7 Rows.isaTouchesRow.domain false) (Rows.isaTouchesSpec.post enc Try.prog Try.f7 false true false false) := by
  refine returnsInHanded_of_change_sized (C := Try.checked) own started (by kernel_rfl) Try.func7
    (ChangeSpec.witness6 (enc := enc) (C := Try.checked) false ⟨#[], #[.agg #[.int .i64 0, .int .i64 0, .bool false, .int .i64 0, .int .i64 0, .int .i64 0, .int .i64 0, .int .i64 0, .int .i64 0, .int .u32 0, .int .i64 0, .int .i64 0, .bool false, .bool false, .bool false, .int .u16 0, .int .i64 0, .int .i64 0, .int .i64 0, .int .i64 0]], []⟩ 8 (by kernel_rfl) (by kernel_rfl) (by kernel_rfl) (by kernel_rfl)) ?_
  intro W base args ds gs before hval0 hW hcnd hsz0 _
  have hsz : (DataW.weightsEach Try.prog (Try.f7.params.toList ++ Rows.isaTouchesSpec.plain.varTypes Try.prog) (ds ++ gs)).all (· ≤ reachBytes) = true := hsz0
  have hval : ∀ (j : Nat) t v, Try.f7.params[j]? = some t → args[j]? = some v → Value.okWide Try.prog W .any base t v := hval0
  have hW' := hW
  obtain ⟨p, q, hA0, hV, rfl, hfz, hnd⟩ := hW
  have hA : DataW.TrodAll enc Try.prog W 0 (fun _ => true) true Try.f7.params.toList args.toList ds p := hA0
  rw [Try.params7] at hA hval hsz
  obtain ⟨v0, vs0, d0, ds0, p0, q0, hargs, rfl, rfl, h0, r0⟩ := trodAll_cons hA
  obtain ⟨rfl, rfl, rfl⟩ := trodAll_nil r0
  obtain rfl : args = #[v0] := by cases args; simp_all
  obtain ⟨rfl, rfl⟩ := trodVars_none hV
  have k0 := h0
  have lt0 : ∀ x ∈ p0, x.block < W.heap.size := by obtain ⟨m, hm⟩ := k0; exact DataW.trod_lt m _ _ _ hm
  obtain ⟨cs0, rfl, ok0_0⟩ := open_flat Try.underlying27 leaves27 (hval 0 27 v0 rfl rfl) h0
  obtain ⟨c0_0, rs0_0, rfl, o0_0, ok0_1⟩ := okAll_cons ok0_0
  obtain ⟨a0_0, rfl, w0_0⟩ := o0_0
  obtain ⟨c0_1, rs0_1, rfl, o0_1, ok0_2⟩ := okAll_cons ok0_1
  obtain ⟨a0_1, rfl, w0_1⟩ := o0_1
  obtain ⟨c0_2, rs0_2, rfl, o0_2, ok0_3⟩ := okAll_cons ok0_2
  obtain ⟨a0_2, rfl⟩ := o0_2
  obtain ⟨c0_3, rs0_3, rfl, o0_3, ok0_4⟩ := okAll_cons ok0_3
  obtain ⟨a0_3, rfl, w0_3⟩ := o0_3
  obtain ⟨c0_4, rs0_4, rfl, o0_4, ok0_5⟩ := okAll_cons ok0_4
  obtain ⟨a0_4, rfl, w0_4⟩ := o0_4
  obtain ⟨c0_5, rs0_5, rfl, o0_5, ok0_6⟩ := okAll_cons ok0_5
  obtain ⟨a0_5, rfl, w0_5⟩ := o0_5
  obtain ⟨c0_6, rs0_6, rfl, o0_6, ok0_7⟩ := okAll_cons ok0_6
  obtain ⟨a0_6, rfl, w0_6⟩ := o0_6
  obtain ⟨c0_7, rs0_7, rfl, o0_7, ok0_8⟩ := okAll_cons ok0_7
  obtain ⟨a0_7, rfl, w0_7⟩ := o0_7
  obtain ⟨c0_8, rs0_8, rfl, o0_8, ok0_9⟩ := okAll_cons ok0_8
  obtain ⟨a0_8, rfl, w0_8⟩ := o0_8
  obtain ⟨c0_9, rs0_9, rfl, o0_9, ok0_10⟩ := okAll_cons ok0_9
  obtain ⟨a0_9, rfl, w0_9⟩ := o0_9
  obtain ⟨c0_10, rs0_10, rfl, o0_10, ok0_11⟩ := okAll_cons ok0_10
  obtain ⟨a0_10, rfl, w0_10⟩ := o0_10
  obtain ⟨c0_11, rs0_11, rfl, o0_11, ok0_12⟩ := okAll_cons ok0_11
  obtain ⟨a0_11, rfl, w0_11⟩ := o0_11
  obtain ⟨c0_12, rs0_12, rfl, o0_12, ok0_13⟩ := okAll_cons ok0_12
  obtain ⟨a0_12, rfl⟩ := o0_12
  obtain ⟨c0_13, rs0_13, rfl, o0_13, ok0_14⟩ := okAll_cons ok0_13
  obtain ⟨a0_13, rfl⟩ := o0_13
  obtain ⟨c0_14, rs0_14, rfl, o0_14, ok0_15⟩ := okAll_cons ok0_14
  obtain ⟨a0_14, rfl⟩ := o0_14
  obtain ⟨c0_15, rs0_15, rfl, o0_15, ok0_16⟩ := okAll_cons ok0_15
  obtain ⟨a0_15, rfl, w0_15⟩ := o0_15
  obtain ⟨c0_16, rs0_16, rfl, o0_16, ok0_17⟩ := okAll_cons ok0_16
  obtain ⟨a0_16, rfl, w0_16⟩ := o0_16
  obtain ⟨c0_17, rs0_17, rfl, o0_17, ok0_18⟩ := okAll_cons ok0_17
  obtain ⟨a0_17, rfl, w0_17⟩ := o0_17
  obtain ⟨c0_18, rs0_18, rfl, o0_18, ok0_19⟩ := okAll_cons ok0_18
  obtain ⟨a0_18, rfl, w0_18⟩ := o0_18
  obtain ⟨c0_19, rs0_19, rfl, o0_19, ok0_20⟩ := okAll_cons ok0_19
  obtain ⟨a0_19, rfl, w0_19⟩ := o0_19
  obtain rfl := okAll_nil ok0_20
  clear hA0 hval0 hsz0 hsz
  obtain ⟨k, hf⟩ := Pure.XIsaTouches a0_0 a0_1 a0_2 a0_3 a0_4 a0_5 a0_6 a0_7 a0_8 a0_9 a0_10 a0_11 a0_12 a0_13 a0_14 a0_15 a0_16 a0_17 a0_18 a0_19 w0_0 w0_1 w0_3 w0_4 w0_5 w0_6 w0_7 w0_8 w0_9 w0_10 w0_11 w0_15 w0_16 w0_17 w0_18 w0_19
  refine (Go.Va.atlaslaw19_IsaTouches.calls k ⟨a0_0, a0_1, a0_2, a0_3, a0_4, a0_5, a0_6, a0_7, a0_8, a0_9, a0_10, a0_11, a0_12, a0_13, a0_14, a0_15, a0_16, a0_17, a0_18, a0_19⟩ true W hf).mono fun e W' ⟨he, bel0⟩ => ?_
  have bel : Below W.heap.size W W' := bel0
  subst he
  exact ⟨_, rfl, _, _, _, [], _, [], hW', trodAll_mk1 (shut_bool Try.underlying4 _), (trodAll_cons_mk (Below.trod laidOut (by kernel_rfl) (of_decide_eq_true (by kernel_rfl)) k0 bel lt0) trodAll_mk0), rfl, bel.frame _, fun h => by cases h⟩
theorem over : Rows.isaTouchesRow.holds Try.pinned (OpenSpec.ofChange Rows.isaTouchesSpec) :=
  OpenClaim.holds_of_wide 7 Try.f7 rfl rfl rfl rfl rfl rfl rfl ⟨rfl, rfl, rfl, rfl, rfl⟩ rfl rfl rfl rfl rfl (by kernel_rfl) Try.func7 (by kernel_rfl)
    (of_decide_eq_true (by kernel_rfl)) (by unfold Func.isWrapper; first | (rw [if_pos (by decide +kernel)]; kernel_rfl) | (rw [if_neg (by decide +kernel)]; exact ⟨rfl, rfl⟩))
    (fun os started H enc _ => lifted os started H enc)
theorem proved : Rows.IsaTouchesSaid := over
#print axioms proved
end Go.Proofs.Ytjlbmdcljikojaa.isaTouchesX
namespace Go.Proofs.Ytjlbmdcljikojaa
/-- The row, under a short name, for the claim. -/
theorem isaTouchesX_holds : Rows.IsaTouchesSaid := isaTouchesX.proved
end Go.Proofs.Ytjlbmdcljikojaa
