-- Written by a program of this session (wip/xprint.py), over the kit's print. Not trusted: Lean checks it.
import Derived.Test.YtglafffghbhnbaaDoorCards
import Derived.Test.YtglafffghbhnbaaDoorTie
import Derived.Test.YtglafffghbhnbaaDoorGRow
import Derived.Test.YtglafffghbhnbaaDoorGl
import Derived.Test.YtglafffghbhnbaaDoorS16
import Derived.Test.YtglafffghbhnbaaDoorPureXRightsCheck
import Derived.WalkKit
import Derived.ProofKit
import Derived.OpenShut
import Derived.ShutString
import Derived.ChangeOld
import Derived.Below
import Derived.SizedLaws
import Derived.JoinedCond
import Derived.Deep.DeepHandedRow
import Derived.Lib.LaidTab
namespace Go.Proofs.YtglafffghbhnbaaDoor.rightsCheckX
open Go.Proofs.YtglafffghbhnbaaDoorG
open Go.ChangeShapes Go.WideShapes Go.ChangeAt Go.RowKit
open Go.ChangeMaps (open_string shut_string)
open Go.Proofs.YtglafffghbhnbaaDoorW.PrintWords
set_option linter.unusedVariables false
theorem own : ownKnob Tryd.prog.godebug = none := by kernel_rfl
theorem laidOut : laidOutB Tryd.prog = true := by kernel_rfl
theorem leaves36 : leaves Tryd.prog 9 36 = some [Lk.int .i64, Lk.int .u32, Lk.int .u64, Lk.int .i64, Lk.int .i64, Lk.int .u32, Lk.bool, Lk.bool] := by kernel_rfl
theorem leaves38 : leaves Tryd.prog 9 38 = some [Lk.bool, Lk.bool, Lk.bool, Lk.int .i64, Lk.bool, Lk.bool, Lk.int .u64, Lk.int .u64, Lk.int .u32, Lk.int .u32, Lk.int .u32, Lk.int .i64] := by kernel_rfl
/-- A world for the witness: the settled one, each listed table holding what its initialiser lays. -/
noncomputable def laidWorld (os : Os) : World :=
  { World.holding Tryd.prog os ⟨#[], #[], []⟩ with heap := ((((World.holding Tryd.prog os ⟨#[], #[], []⟩).heap.modify 3 (fun | .cells _ t frozen => .cells #[.int .u64 (0), .int .u64 (12), .int .u64 (16), .int .u64 (20), .int .u64 (24)] t frozen | o => o)).modify 0 (fun | .cells _ t frozen => .cells #[.int .i64 (0), .int .i64 (0), .int .i64 (0), .int .i64 (3), .int .i64 (1), .int .i64 (3), .int .i64 (3), .int .i64 (3), .int .i64 (0), .int .i64 (0), .int .i64 (0), .int .i64 (1), .int .i64 (1), .int .i64 (1), .int .i64 (1), .int .i64 (1)] t frozen | o => o)).modify 1 (fun | .cells _ t frozen => .cells #[.int .i64 (0), .int .i64 (3), .int .i64 (3), .int .i64 (3), .int .i64 (0), .int .i64 (1), .int .i64 (1), .int .i64 (1)] t frozen | o => o)) }
set_option maxRecDepth 100000 in
theorem laid_met (os : Os) : laidMet Tryd.prog Rows.rightsCheckRow.laid ((laidWorld os).forCall (fun _ _ => 0) ⟨#[], #[.agg #[.int .i64 0, .int .u32 0, .int .u64 0, .int .i64 0, .int .i64 0, .int .u32 0, .bool false, .bool false], .agg #[.bool false, .bool false, .bool false, .int .i64 0, .bool false, .bool false, .int .u64 0, .int .u64 0, .int .u32 0, .int .u32 0, .int .u32 0, .int .i64 0], .int .i64 0], []⟩).memory :=
  laidMet_of_run' 8 (by kernel_rfl) (by kernel_rfl)
theorem reads (os : Os) {H : Type} (enc : TypeId × Value → H) : ∃ places, DataW.whole enc Tryd.prog ((laidWorld os).forCall (fun _ _ => 0) ⟨#[], #[.agg #[.int .i64 0, .int .u32 0, .int .u64 0, .int .i64 0, .int .i64 0, .int .u32 0, .bool false, .bool false], .agg #[.bool false, .bool false, .bool false, .int .i64 0, .bool false, .bool false, .int .u64 0, .int .u64 0, .int .u32 0, .int .u32 0, .int .u32 0, .int .i64 0], .int .i64 0], []⟩).memory Tryd.f5.params.toList Rows.rightsCheckSpec.vars false (#[.agg #[.int .i64 0, .int .u32 0, .int .u64 0, .int .i64 0, .int .i64 0, .int .u32 0, .bool false, .bool false], .agg #[.bool false, .bool false, .bool false, .int .i64 0, .bool false, .bool false, .int .u64 0, .int .u64 0, .int .u32 0, .int .u32 0, .int .u32 0, .int .i64 0], .int .i64 0] : Array Value).toList 8 = some ([.agg [.lit (.int .i64 0), .lit (.int .u32 0), .lit (.int .u64 0), .lit (.int .i64 0), .agg [.lit (.int .i64 0), .lit (.int .u32 0), .lit (.bool false), .lit (.bool false)]], .agg [.lit (.bool false), .lit (.bool false), .lit (.bool false), .lit (.int .i64 0), .lit (.bool false), .lit (.bool false), .lit (.int .u64 0), .lit (.int .u64 0), .lit (.int .u32 0), .lit (.int .u32 0), .lit (.int .u32 0), .lit (.int .i64 0)], .lit (.int .i64 0)], [], places) :=
  ⟨[], by kernel_rfl⟩
set_option maxRecDepth 100000 in
theorem lifted (os : Os) (started : os.Started) (H : Type) (enc : TypeId × Value → H) (F : Stop.Interp) :
    ReturnsInHanded {} Tryd.checked os 5 .any ((OpenSpec.ofChange Rows.rightsCheckSpec).preRow enc Tryd.prog Tryd.f5 Rows.rightsCheckRow.domain false Rows.rightsCheckRow.laid) (((OpenSpec.ofChange Rows.rightsCheckSpec).at F).post enc Tryd.prog Tryd.f5 false true false false) := by
  obtain ⟨places, hx⟩ := reads os enc
  refine returnsInHanded_of_row (C := Tryd.checked) (s := OpenSpec.ofChange Rows.rightsCheckSpec) own started (by kernel_rfl) Tryd.func5
    (witness_row_at (enc := enc) (C := Tryd.checked) false (laidWorld os) #[.agg #[.int .i64 0, .int .u32 0, .int .u64 0, .int .i64 0, .int .i64 0, .int .u32 0, .bool false, .bool false], .agg #[.bool false, .bool false, .bool false, .int .i64 0, .bool false, .bool false, .int .u64 0, .int .u64 0, .int .u32 0, .int .u32 0, .int .u32 0, .int .i64 0], .int .i64 0] rfl (by kernel_rfl) (by kernel_rfl) (by kernel_rfl)
      (OpenSpec.preRow_of_cond 8 hx (by kernel_rfl) (fun k hk => by cases hk) (by kernel_rfl) (laid_met os))) ?_
  intro W base args ds gs before hval0 hW _ hk0 hsz0 hL _ _
  have hsz : (DataW.weightsEach Tryd.prog (Tryd.f5.params.toList ++ Rows.rightsCheckSpec.plain.varTypes Tryd.prog) (ds ++ gs)).all (· ≤ reachBytes) = true := hsz0
  have hG0 : Aside0 (G0 W) := ⟨G0.of_laid (l := Rows.rightsCheckRow.laid) hL (.tail _ (.head _))⟩
  have hG1 : Aside0 (G1 W) := ⟨G1.of_laid (l := Rows.rightsCheckRow.laid) hL (.tail _ (.tail _ (.head _)))⟩
  have hG3 : Aside0 (G3 W) := ⟨G3.of_laid (l := Rows.rightsCheckRow.laid) hL (.head _)⟩
  clear hk0 hL
  have hval : ∀ (j : Nat) t v, Tryd.f5.params[j]? = some t → args[j]? = some v → Value.okWide Tryd.prog W .any base t v := hval0
  have hW' := hW
  obtain ⟨p, q, hA0, hV, rfl, hfz, hnd⟩ := hW
  have hA : DataW.TrodAll enc Tryd.prog W 0 (fun _ => true) true Tryd.f5.params.toList args.toList ds p := hA0
  rw [Tryd.params5] at hA hval hsz
  obtain ⟨v0, vs0, d0, ds0, p0, q0, hargs, rfl, rfl, h0, r0⟩ := trodAll_cons hA
  obtain ⟨v1, vs1, d1, ds1, p1, q1, rfl, rfl, rfl, h1, r1⟩ := trodAll_cons r0
  obtain ⟨v2, vs2, d2, ds2, p2, q2, rfl, rfl, rfl, h2, r2⟩ := trodAll_cons r1
  obtain ⟨rfl, rfl, rfl⟩ := trodAll_nil r2
  obtain rfl : args = #[v0, v1, v2] := by cases args; simp_all
  obtain ⟨rfl, rfl⟩ := trodVars_none hV
  have k0 := h0
  have lt0 : ∀ x ∈ p0, x.block < W.heap.size := by obtain ⟨m, hm⟩ := k0; exact DataW.trod_lt m _ _ _ hm
  obtain ⟨cs0, rfl, ok0_0⟩ := open_flat Tryd.underlying36 leaves36 (hval 0 36 v0 rfl rfl) h0
  obtain ⟨c0_0, rs0_0, rfl, o0_0, ok0_1⟩ := okAll_cons ok0_0
  obtain ⟨a0_0, rfl, w0_0⟩ := o0_0
  obtain ⟨c0_1, rs0_1, rfl, o0_1, ok0_2⟩ := okAll_cons ok0_1
  obtain ⟨a0_1, rfl, w0_1⟩ := o0_1
  obtain ⟨c0_2, rs0_2, rfl, o0_2, ok0_3⟩ := okAll_cons ok0_2
  obtain ⟨a0_2, rfl, w0_2⟩ := o0_2
  obtain ⟨c0_3, rs0_3, rfl, o0_3, ok0_4⟩ := okAll_cons ok0_3
  obtain ⟨a0_3, rfl, w0_3⟩ := o0_3
  obtain ⟨c0_4, rs0_4, rfl, o0_4, ok0_5⟩ := okAll_cons ok0_4
  obtain ⟨a0_4, rfl, w0_4⟩ := o0_4
  obtain ⟨c0_5, rs0_5, rfl, o0_5, ok0_6⟩ := okAll_cons ok0_5
  obtain ⟨a0_5, rfl, w0_5⟩ := o0_5
  obtain ⟨c0_6, rs0_6, rfl, o0_6, ok0_7⟩ := okAll_cons ok0_6
  obtain ⟨a0_6, rfl⟩ := o0_6
  obtain ⟨c0_7, rs0_7, rfl, o0_7, ok0_8⟩ := okAll_cons ok0_7
  obtain ⟨a0_7, rfl⟩ := o0_7
  obtain rfl := okAll_nil ok0_8
  have k1 := h1
  have lt1 : ∀ x ∈ p1, x.block < W.heap.size := by obtain ⟨m, hm⟩ := k1; exact DataW.trod_lt m _ _ _ hm
  obtain ⟨cs1, rfl, ok1_0⟩ := open_flat Tryd.underlying38 leaves38 (hval 1 38 v1 rfl rfl) h1
  obtain ⟨c1_0, rs1_0, rfl, o1_0, ok1_1⟩ := okAll_cons ok1_0
  obtain ⟨a1_0, rfl⟩ := o1_0
  obtain ⟨c1_1, rs1_1, rfl, o1_1, ok1_2⟩ := okAll_cons ok1_1
  obtain ⟨a1_1, rfl⟩ := o1_1
  obtain ⟨c1_2, rs1_2, rfl, o1_2, ok1_3⟩ := okAll_cons ok1_2
  obtain ⟨a1_2, rfl⟩ := o1_2
  obtain ⟨c1_3, rs1_3, rfl, o1_3, ok1_4⟩ := okAll_cons ok1_3
  obtain ⟨a1_3, rfl, w1_3⟩ := o1_3
  obtain ⟨c1_4, rs1_4, rfl, o1_4, ok1_5⟩ := okAll_cons ok1_4
  obtain ⟨a1_4, rfl⟩ := o1_4
  obtain ⟨c1_5, rs1_5, rfl, o1_5, ok1_6⟩ := okAll_cons ok1_5
  obtain ⟨a1_5, rfl⟩ := o1_5
  obtain ⟨c1_6, rs1_6, rfl, o1_6, ok1_7⟩ := okAll_cons ok1_6
  obtain ⟨a1_6, rfl, w1_6⟩ := o1_6
  obtain ⟨c1_7, rs1_7, rfl, o1_7, ok1_8⟩ := okAll_cons ok1_7
  obtain ⟨a1_7, rfl, w1_7⟩ := o1_7
  obtain ⟨c1_8, rs1_8, rfl, o1_8, ok1_9⟩ := okAll_cons ok1_8
  obtain ⟨a1_8, rfl, w1_8⟩ := o1_8
  obtain ⟨c1_9, rs1_9, rfl, o1_9, ok1_10⟩ := okAll_cons ok1_9
  obtain ⟨a1_9, rfl, w1_9⟩ := o1_9
  obtain ⟨c1_10, rs1_10, rfl, o1_10, ok1_11⟩ := okAll_cons ok1_10
  obtain ⟨a1_10, rfl, w1_10⟩ := o1_10
  obtain ⟨c1_11, rs1_11, rfl, o1_11, ok1_12⟩ := okAll_cons ok1_11
  obtain ⟨a1_11, rfl, w1_11⟩ := o1_11
  obtain rfl := okAll_nil ok1_12
  obtain ⟨a2, rfl, rfl, rfl, w2⟩ := open_int Tryd.underlying3 (hval 2 3 v2 rfl rfl) h2
  clear hA0 hval0 hsz0 hsz
  obtain ⟨k, hf⟩ := Pure.XRightsCheck a0_0 a0_1 a0_2 a0_3 a0_4 a0_5 a0_6 a0_7 a1_0 a1_1 a1_2 a1_3 a1_4 a1_5 a1_6 a1_7 a1_8 a1_9 a1_10 a1_11 a2 w0_0 w0_1 w0_2 w0_3 w0_4 w0_5 w1_3 w1_6 w1_7 w1_8 w1_9 w1_10 w1_11 w2
  refine (S.atlaslaw07_RightsCheck.calls k a0_0 a0_1 a0_2 a0_3 a0_4 a0_5 a0_6 a0_7 a1_0 a1_1 a1_2 a1_3 a1_4 a1_5 a1_6 a1_7 a1_8 a1_9 a1_10 a1_11 a2 true W hG0 hG1 hG3 hf).mono fun e W' ⟨he, bel0⟩ => ?_
  have bel : Below W.heap.size W W' := bel0
  subst he
  exact ⟨_, rfl, _, _, _, [], _, [], hW', trodAll_mk1 (shut_bool Tryd.underlying4 _), (trodAll_cons_mk (Below.trod laidOut (by kernel_rfl) (of_decide_eq_true (by kernel_rfl)) k0 bel lt0) (trodAll_cons_mk (Below.trod laidOut (by kernel_rfl) (of_decide_eq_true (by kernel_rfl)) k1 bel lt1) (trodAll_cons_mk (shut_int Tryd.underlying3 w2) trodAll_mk0))), rfl, bel.frame _, fun h => by cases h⟩
theorem over : Rows.rightsCheckRow.holds Tryd.pinned (OpenSpec.ofChange Rows.rightsCheckSpec) :=
  OpenClaim.holds_of_cond 5 Tryd.f5 rfl rfl rfl rfl rfl rfl rfl ⟨rfl, rfl, rfl, rfl, rfl⟩ rfl rfl rfl rfl rfl (by kernel_rfl) Tryd.func5 (by kernel_rfl)
    (of_decide_eq_true (by kernel_rfl)) (by unfold Func.isWrapper; first | (rw [if_pos (by decide +kernel)]; kernel_rfl) | (rw [if_neg (by decide +kernel)]; exact ⟨rfl, rfl⟩))
    (fun os started H enc _ F => by rw [OpenClaim.pre_eq_preRow]; exact lifted os started H enc F)
theorem plain (f : FuncId) (fn : Func) (hf : Tryd.pinned.checked.prog.funcNamed "atlas/atlaslaw07.RightsCheck" = some f) (hfn : Tryd.pinned.checked.prog.funcs[f]? = some fn) :
    false = Tryd.pinned.checked.prog.looks [] ∧ ∀ (j : Nat) t, fn.params[j]? = some t → Tryd.pinned.checked.prog.wantsStandIn t = false := by
  obtain rfl : f = 5 := Option.some.inj ((show Tryd.prog.funcNamed "atlas/atlaslaw07.RightsCheck" = some 5 by kernel_rfl).symm.trans hf) |>.symm
  obtain rfl : fn = Tryd.f5 := (Option.some.inj (Tryd.func5.symm.trans hfn)).symm
  refine ⟨by kernel_rfl, fun j t ht => ?_⟩
  rw [Tryd.params5] at ht
  have hm := Array.mem_of_getElem? ht
  simp only [List.mem_toArray, List.mem_cons, List.not_mem_nil, or_false] at hm
  rcases hm with rfl | rfl | rfl
  all_goals (show Tryd.prog.wantsStandIn _ = false; kernel_rfl)
/-- The card. -/
theorem proved : Rows.RightsCheckCardSaid :=
  Claim7.holds_tied_plain_at .later [] _ _ _ _ over (fun _ h => by cases h) (by kernel_rfl) (fun _ h => by cases h) rightsCheck_row_tie rfl ⟨rfl, rfl⟩ (by kernel_rfl) rfl plain (by kernel_rfl)
#print axioms proved
end Go.Proofs.YtglafffghbhnbaaDoor.rightsCheckX
namespace Go.Proofs.YtglafffghbhnbaaDoor
/-- The card, under a short name, for the claim. -/
theorem rightsCheckX_holds : Rows.RightsCheckCardSaid := rightsCheckX.proved
end Go.Proofs.YtglafffghbhnbaaDoor
