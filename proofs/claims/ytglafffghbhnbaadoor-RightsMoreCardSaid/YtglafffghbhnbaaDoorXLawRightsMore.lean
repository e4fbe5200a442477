-- Written by a program of this session (wip/xprint.py), over the kit's print. Not trusted: Lean checks it.
import Derived.Test.YtglafffghbhnbaaDoorCards
import Derived.Test.YtglafffghbhnbaaDoorTie
import Derived.Test.YtglafffghbhnbaaDoorGRow
import Derived.Test.YtglafffghbhnbaaDoorGl
import Derived.Test.YtglafffghbhnbaaDoorS4
import Derived.Test.YtglafffghbhnbaaDoorPureXRightsMore
import Derived.WalkKit
import Derived.ProofKit
import Derived.OpenShut
import Derived.ShutString
import Derived.ChangeOld
import Derived.Below
import Derived.SizedLaws
import Derived.JoinedCond
import Derived.Deep.DeepHandedRow
import Derived.Lib.LaidTab
namespace Go.Proofs.YtglafffghbhnbaaDoor.rightsMoreX
open Go.Proofs.YtglafffghbhnbaaDoorG
open Go.ChangeShapes Go.WideShapes Go.ChangeAt Go.RowKit
open Go.ChangeMaps (open_string shut_string)
open Go.Proofs.YtglafffghbhnbaaDoorW.PrintWords
set_option linter.unusedVariables false
theorem own : ownKnob Tryd.prog.godebug = none := by kernel_rfl
theorem laidOut : laidOutB Tryd.prog = true := by kernel_rfl
theorem leaves28 : leaves Tryd.prog 9 28 = some [Lk.bool, Lk.bool, Lk.bool] := by kernel_rfl
/-- A world for the witness: the settled one, each listed table holding what its initialiser lays. -/
noncomputable def laidWorld (os : Os) : World :=
  { World.holding Tryd.prog os ⟨#[], #[], []⟩ with heap := (((World.holding Tryd.prog os ⟨#[], #[], []⟩).heap.modify 0 (fun | .cells _ t frozen => .cells #[.int .i64 (0), .int .i64 (0), .int .i64 (0), .int .i64 (3), .int .i64 (1), .int .i64 (3), .int .i64 (3), .int .i64 (3), .int .i64 (0), .int .i64 (0), .int .i64 (0), .int .i64 (1), .int .i64 (1), .int .i64 (1), .int .i64 (1), .int .i64 (1)] t frozen | o => o)).modify 1 (fun | .cells _ t frozen => .cells #[.int .i64 (0), .int .i64 (3), .int .i64 (3), .int .i64 (3), .int .i64 (0), .int .i64 (1), .int .i64 (1), .int .i64 (1)] t frozen | o => o)) }
set_option maxRecDepth 100000 in
theorem laid_met (os : Os) : laidMet Tryd.prog Rows.rightsMoreRow.laid ((laidWorld os).forCall (fun _ _ => 0) ⟨#[], #[.agg #[.bool false, .bool false, .bool false], .agg #[.bool false, .bool false, .bool false]], []⟩).memory :=
  laidMet_of_run' 8 (by kernel_rfl) (by kernel_rfl)
theorem reads (os : Os) {H : Type} (enc : TypeId × Value → H) : ∃ places, DataW.whole enc Tryd.prog ((laidWorld os).forCall (fun _ _ => 0) ⟨#[], #[.agg #[.bool false, .bool false, .bool false], .agg #[.bool false, .bool false, .bool false]], []⟩).memory Tryd.f6.params.toList Rows.rightsMoreSpec.vars false (#[.agg #[.bool false, .bool false, .bool false], .agg #[.bool false, .bool false, .bool false]] : Array Value).toList 8 = some ([.agg [.lit (.bool false), .lit (.bool false), .lit (.bool false)], .agg [.lit (.bool false), .lit (.bool false), .lit (.bool false)]], [], places) :=
  ⟨[], by kernel_rfl⟩
set_option maxRecDepth 100000 in
theorem lifted (os : Os) (started : os.Started) (H : Type) (enc : TypeId × Value → H) (F : Stop.Interp) :
    ReturnsInHanded {} Tryd.checked os 6 .any ((OpenSpec.ofChange Rows.rightsMoreSpec).preRow enc Tryd.prog Tryd.f6 Rows.rightsMoreRow.domain false Rows.rightsMoreRow.laid) (((OpenSpec.ofChange Rows.rightsMoreSpec).at F).post enc Tryd.prog Tryd.f6 false true false false) := by
  obtain ⟨places, hx⟩ := reads os enc
  refine returnsInHanded_of_row (C := Tryd.checked) (s := OpenSpec.ofChange Rows.rightsMoreSpec) own started (by kernel_rfl) Tryd.func6
    (witness_row_at (enc := enc) (C := Tryd.checked) false (laidWorld os) #[.agg #[.bool false, .bool false, .bool false], .agg #[.bool false, .bool false, .bool false]] rfl (by kernel_rfl) (by kernel_rfl) (by kernel_rfl)
      (OpenSpec.preRow_of_cond 8 hx (by kernel_rfl) (fun k hk => by cases hk) (by kernel_rfl) (laid_met os))) ?_
  intro W base args ds gs before hval0 hW _ hk0 hsz0 hL _ _
  have hsz : (DataW.weightsEach Tryd.prog (Tryd.f6.params.toList ++ Rows.rightsMoreSpec.plain.varTypes Tryd.prog) (ds ++ gs)).all (· ≤ reachBytes) = true := hsz0
  have hG0 : Aside0 (G0 W) := ⟨G0.of_laid (l := Rows.rightsMoreRow.laid) hL (.head _)⟩
  have hG1 : Aside0 (G1 W) := ⟨G1.of_laid (l := Rows.rightsMoreRow.laid) hL (.tail _ (.head _))⟩
  clear hk0 hL
  have hval : ∀ (j : Nat) t v, Tryd.f6.params[j]? = some t → args[j]? = some v → Value.okWide Tryd.prog W .any base t v := hval0
  have hW' := hW
  obtain ⟨p, q, hA0, hV, rfl, hfz, hnd⟩ := hW
  have hA : DataW.TrodAll enc Tryd.prog W 0 (fun _ => true) true Tryd.f6.params.toList args.toList ds p := hA0
  rw [Tryd.params6] at hA hval hsz
  obtain ⟨v0, vs0, d0, ds0, p0, q0, hargs, rfl, rfl, h0, r0⟩ := trodAll_cons hA
  obtain ⟨v1, vs1, d1, ds1, p1, q1, rfl, rfl, rfl, h1, r1⟩ := trodAll_cons r0
  obtain ⟨rfl, rfl, rfl⟩ := trodAll_nil r1
  obtain rfl : args = #[v0, v1] := by cases args; simp_all
  obtain ⟨rfl, rfl⟩ := trodVars_none hV
  have k0 := h0
  have lt0 : ∀ x ∈ p0, x.block < W.heap.size := by obtain ⟨m, hm⟩ := k0; exact DataW.trod_lt m _ _ _ hm
  obtain ⟨cs0, rfl, ok0_0⟩ := open_flat Tryd.underlying28 leaves28 (hval 0 28 v0 rfl rfl) h0
  obtain ⟨c0_0, rs0_0, rfl, o0_0, ok0_1⟩ := okAll_cons ok0_0
  obtain ⟨a0_0, rfl⟩ := o0_0
  obtain ⟨c0_1, rs0_1, rfl, o0_1, ok0_2⟩ := okAll_cons ok0_1
  obtain ⟨a0_1, rfl⟩ := o0_1
  obtain ⟨c0_2, rs0_2, rfl, o0_2, ok0_3⟩ := okAll_cons ok0_2
  obtain ⟨a0_2, rfl⟩ := o0_2
  obtain rfl := okAll_nil ok0_3
  have k1 := h1
  have lt1 : ∀ x ∈ p1, x.block < W.heap.size := by obtain ⟨m, hm⟩ := k1; exact DataW.trod_lt m _ _ _ hm
  obtain ⟨cs1, rfl, ok1_0⟩ := open_flat Tryd.underlying28 leaves28 (hval 1 28 v1 rfl rfl) h1
  obtain ⟨c1_0, rs1_0, rfl, o1_0, ok1_1⟩ := okAll_cons ok1_0
  obtain ⟨a1_0, rfl⟩ := o1_0
  obtain ⟨c1_1, rs1_1, rfl, o1_1, ok1_2⟩ := okAll_cons ok1_1
  obtain ⟨a1_1, rfl⟩ := o1_1
  obtain ⟨c1_2, rs1_2, rfl, o1_2, ok1_3⟩ := okAll_cons ok1_2
  obtain ⟨a1_2, rfl⟩ := o1_2
  obtain rfl := okAll_nil ok1_3
  clear hA0 hval0 hsz0 hsz
  obtain ⟨k, hf⟩ := Pure.XRightsMore a0_0 a0_1 a0_2 a1_0 a1_1 a1_2 
  refine (S.atlaslaw07_RightsMore.calls k a0_0 a0_1 a0_2 a1_0 a1_1 a1_2 true W hG0 hG1 hf).mono fun e W' ⟨he, bel0⟩ => ?_
  have bel : Below W.heap.size W W' := bel0
  subst he
  exact ⟨_, rfl, _, _, _, [], _, [], hW', trodAll_mk1 (shut_bool Tryd.underlying4 _), (trodAll_cons_mk (Below.trod laidOut (by kernel_rfl) (of_decide_eq_true (by kernel_rfl)) k0 bel lt0) (trodAll_cons_mk (Below.trod laidOut (by kernel_rfl) (of_decide_eq_true (by kernel_rfl)) k1 bel lt1) trodAll_mk0)), rfl, bel.frame _, fun h => by cases h⟩
theorem over : Rows.rightsMoreRow.holds Tryd.pinned (OpenSpec.ofChange Rows.rightsMoreSpec) :=
  OpenClaim.holds_of_cond 6 Tryd.f6 rfl rfl rfl rfl rfl rfl rfl ⟨rfl, rfl, rfl, rfl, rfl⟩ rfl rfl rfl rfl rfl (by kernel_rfl) Tryd.func6 (by kernel_rfl)
    (of_decide_eq_true (by kernel_rfl)) (by unfold Func.isWrapper; first | (rw [if_pos (by decide +kernel)]; kernel_rfl) | (rw [if_neg (by decide +kernel)]; exact ⟨rfl, rfl⟩))
    (fun os started H enc _ F => by rw [OpenClaim.pre_eq_preRow]; exact lifted os started H enc F)
theorem plain (f : FuncId) (fn : Func) (hf : Tryd.pinned.checked.prog.funcNamed "atlas/atlaslaw07.RightsMore" = some f) (hfn : Tryd.pinned.checked.prog.funcs[f]? = some fn) :
    false = Tryd.pinned.checked.prog.looks [] ∧ ∀ (j : Nat) t, fn.params[j]? = some t → Tryd.pinned.checked.prog.wantsStandIn t = false := by
  obtain rfl : f = 6 := Option.some.inj ((show Tryd.prog.funcNamed "atlas/atlaslaw07.RightsMore" = some 6 by kernel_rfl).symm.trans hf) |>.symm
  obtain rfl : fn = Tryd.f6 := (Option.some.inj (Tryd.func6.symm.trans hfn)).symm
  refine ⟨by kernel_rfl, fun j t ht => ?_⟩
  rw [Tryd.params6] at ht
  have hm := Array.mem_of_getElem? ht
  simp only [List.mem_toArray, List.mem_cons, List.not_mem_nil, or_false] at hm
  rcases hm with rfl | rfl
  all_goals (show Tryd.prog.wantsStandIn _ = false; kernel_rfl)
/-- The card. -/
theorem proved : Rows.RightsMoreCardSaid :=
  Claim7.holds_tied_plain_at .later [] _ _ _ _ over (fun _ h => by cases h) (by kernel_rfl) (fun _ h => by cases h) rightsMore_row_tie rfl ⟨rfl, rfl⟩ (by kernel_rfl) rfl plain (by kernel_rfl)
#print axioms proved
end Go.Proofs.YtglafffghbhnbaaDoor.rightsMoreX
namespace Go.Proofs.YtglafffghbhnbaaDoor
/-- The card, under a short name, for the claim. -/
theorem rightsMoreX_holds : Rows.RightsMoreCardSaid := rightsMoreX.proved
end Go.Proofs.YtglafffghbhnbaaDoor
