-- Written by a program of this session (wip/xprint.py), over the kit's print. Not trusted: Lean checks it.
import Derived.Test.YtglafffghbhnbaaDoorShelf
import Derived.Test.YtglafffghbhnbaaDoorCards
import Derived.Test.YtglafffghbhnbaaDoorTie
import Derived.Test.YtglafffghbhnbaaDoorGRow
import Derived.Test.YtglafffghbhnbaaDoorGl
import Derived.Test.YtglafffghbhnbaaDoorS7
import Derived.Test.YtglafffghbhnbaaDoorPureXRightsText
import Derived.WalkKit
import Derived.ProofKit
import Derived.OpenShut
import Derived.ShutString
import Derived.ChangeOld
import Derived.Below
import Derived.SizedLaws
import Derived.JoinedCond
import Derived.Deep.DeepHandedRow
import Derived.Lib.LaidTab
namespace Go.Proofs.YtglafffghbhnbaaDoor.rightsTextX
open Go.Proofs.YtglafffghbhnbaaDoorG
open Go.ChangeShapes Go.WideShapes Go.ChangeAt Go.RowKit
open Go.ChangeMaps (open_string shut_string)
open Go.Proofs.YtglafffghbhnbaaDoorW.PrintWords
set_option linter.unusedVariables false
theorem own : ownKnob Tryd.prog.godebug = none := by kernel_rfl
theorem laidOut : laidOutB Tryd.prog = true := by kernel_rfl
theorem leaves40 : leaves Tryd.prog 9 40 = some [Lk.int .i64, Lk.int .i64, Lk.int .i64] := by kernel_rfl
/-- A world for the witness: the settled one, each listed table holding what its initialiser lays. -/
noncomputable def laidWorld (os : Os) : World :=
  { World.holding Tryd.prog os ⟨#[], #[], []⟩ with heap := (((((World.holding Tryd.prog os ⟨#[], #[], []⟩).heap.modify 5 (fun | .cells _ t frozen => .cells #[.int .u8 (0), .int .u8 (1), .int .u8 (28), .int .u8 (2), .int .u8 (29), .int .u8 (14), .int .u8 (24), .int .u8 (3), .int .u8 (30), .int .u8 (22), .int .u8 (20), .int .u8 (15), .int .u8 (25), .int .u8 (17), .int .u8 (4), .int .u8 (8), .int .u8 (31), .int .u8 (27), .int .u8 (13), .int .u8 (23), .int .u8 (21), .int .u8 (19), .int .u8 (16), .int .u8 (7), .int .u8 (26), .int .u8 (12), .int .u8 (18), .int .u8 (6), .int .u8 (11), .int .u8 (5), .int .u8 (10), .int .u8 (9)] t frozen | o => o)).modify 6 (fun | .cells _ t frozen => .cells #[.int .u8 (0), .int .u8 (1), .int .u8 (56), .int .u8 (2), .int .u8 (57), .int .u8 (49), .int .u8 (28), .int .u8 (3), .int .u8 (61), .int .u8 (58), .int .u8 (42), .int .u8 (50), .int .u8 (38), .int .u8 (29), .int .u8 (17), .int .u8 (4), .int .u8 (62), .int .u8 (47), .int .u8 (59), .int .u8 (36), .int .u8 (45), .int .u8 (43), .int .u8 (51), .int .u8 (22), .int .u8 (53), .int .u8 (39), .int .u8 (33), .int .u8 (30), .int .u8 (24), .int .u8 (18), .int .u8 (12), .int .u8 (5), .int .u8 (63), .int .u8 (55), .int .u8 (48), .int .u8 (27), .int .u8 (60), .int .u8 (41), .int .u8 (37), .int .u8 (16), .int .u8 (46), .int .u8 (35), .int .u8 (44), .int .u8 (21), .int .u8 (52), .int .u8 (32), .int .u8 (23), .int .u8 (11), .int .u8 (54), .int .u8 (26), .int .u8 (40), .int .u8 (15), .int .u8 (34), .int .u8 (20), .int .u8 (31), .int .u8 (10), .int .u8 (25), .int .u8 (14), .int .u8 (19), .int .u8 (9), .int .u8 (13), .int .u8 (8), .int .u8 (7), .int .u8 (6)] t frozen | o => o)).modify 4 (fun | .cells _ t frozen => .cells #[.int .u64 (1), .int .u64 (10), .int .u64 (100), .int .u64 (1000), .int .u64 (10000), .int .u64 (100000), .int .u64 (1000000), .int .u64 (10000000), .int .u64 (100000000), .int .u64 (1000000000), .int .u64 (10000000000), .int .u64 (100000000000), .int .u64 (1000000000000), .int .u64 (10000000000000), .int .u64 (100000000000000), .int .u64 (1000000000000000), .int .u64 (10000000000000000), .int .u64 (100000000000000000), .int .u64 (1000000000000000000), .int .u64 (10000000000000000000)] t frozen | o => o)).modify 2 (fun | .cells _ t frozen => .cells #[.string ((⟨#[110, 111, 110, 101]⟩ : ByteArray)), .string ((⟨#[97, 108, 105, 103, 110, 109, 101, 110, 116]⟩ : ByteArray)), .string ((⟨#[119, 97, 108, 107, 32, 49]⟩ : ByteArray)), .string ((⟨#[116, 114, 97, 110, 115, 108, 97, 116, 105, 111, 110, 32, 49]⟩ : ByteArray)), .string ((⟨#[119, 97, 108, 107, 32, 50]⟩ : ByteArray)), .string ((⟨#[116, 114, 97, 110, 115, 108, 97, 116, 105, 111, 110, 32, 50]⟩ : ByteArray)), .string ((⟨#[99, 111, 110, 102, 108, 105, 99, 116]⟩ : ByteArray)), .string ((⟨#[97, 99, 99, 101, 115, 115]⟩ : ByteArray)), .string ((⟨#[100, 111, 109, 97, 105, 110]⟩ : ByteArray)), .string ((⟨#[112, 101, 114, 109, 105, 115, 115, 105, 111, 110]⟩ : ByteArray)), .string ((⟨#[98, 117, 115]⟩ : ByteArray))] t frozen | o => o)) }
set_option maxRecDepth 100000 in
theorem laid_met (os : Os) : laidMet Tryd.prog Rows.rightsTextRow.laid ((laidWorld os).forCall (fun _ _ => 0) ⟨#[], #[.agg #[.int .i64 0, .int .i64 0, .int .i64 0], .agg #[.int .i64 0, .int .i64 0, .int .i64 0]], []⟩).memory :=
  laidMet_of_run' 8 (by kernel_rfl) (by kernel_rfl)
theorem reads (os : Os) {H : Type} (enc : TypeId × Value → H) : ∃ places, DataW.whole enc Tryd.prog ((laidWorld os).forCall (fun _ _ => 0) ⟨#[], #[.agg #[.int .i64 0, .int .i64 0, .int .i64 0], .agg #[.int .i64 0, .int .i64 0, .int .i64 0]], []⟩).memory Tryd.f9.params.toList Rows.rightsTextSpec.vars false (#[.agg #[.int .i64 0, .int .i64 0, .int .i64 0], .agg #[.int .i64 0, .int .i64 0, .int .i64 0]] : Array Value).toList 8 = some ([.agg [.lit (.int .i64 0), .lit (.int .i64 0), .lit (.int .i64 0)], .agg [.lit (.int .i64 0), .lit (.int .i64 0), .lit (.int .i64 0)]], [], places) :=
  ⟨[], by kernel_rfl⟩
set_option maxRecDepth 100000 in
theorem lifted (os : Os) (started : os.Started) (H : Type) (enc : TypeId × Value → H) (F : Stop.Interp) :
    ReturnsInHanded {} Tryd.checked os 9 .any ((OpenSpec.ofChange Rows.rightsTextSpec).preRow enc Tryd.prog Tryd.f9 Rows.rightsTextRow.domain false Rows.rightsTextRow.laid) (((OpenSpec.ofChange Rows.rightsTextSpec).at F).post enc Tryd.prog Tryd.f9 false true false false) := by
  obtain ⟨places, hx⟩ := reads os enc
  refine returnsInHanded_of_row (C := Tryd.checked) (s := OpenSpec.ofChange Rows.rightsTextSpec) own started (by kernel_rfl) Tryd.func9
    (witness_row_at (enc := enc) (C := Tryd.checked) false (laidWorld os) #[.agg #[.int .i64 0, .int .i64 0, .int .i64 0], .agg #[.int .i64 0, .int .i64 0, .int .i64 0]] rfl (by kernel_rfl) (by kernel_rfl) (by kernel_rfl)
      (OpenSpec.preRow_of_cond 8 hx (by kernel_rfl) (fun k hk => by cases hk) (by kernel_rfl) (laid_met os))) ?_
  intro W base args ds gs before hval0 hW _ hk0 hsz0 hL hsh _
  have hsz : (DataW.weightsEach Tryd.prog (Tryd.f9.params.toList ++ Rows.rightsTextSpec.plain.varTypes Tryd.prog) (ds ++ gs)).all (· ≤ reachBytes) = true := hsz0
  have hG2 : Aside0 (G2 W) := ⟨G2.of_laid (l := Rows.rightsTextRow.laid) hL (.tail _ (.tail _ (.tail _ (.head _))))⟩
  clear hk0 hL
  have hval : ∀ (j : Nat) t v, Tryd.f9.params[j]? = some t → args[j]? = some v → Value.okWide Tryd.prog W .any base t v := hval0
  have hW' := hW
  obtain ⟨p, q, hA0, hV, rfl, hfz, hnd⟩ := hW
  have hA : DataW.TrodAll enc Tryd.prog W 0 (fun _ => true) true Tryd.f9.params.toList args.toList ds p := hA0
  rw [Tryd.params9] at hA hval hsz
  obtain ⟨v0, vs0, d0, ds0, p0, q0, hargs, rfl, rfl, h0, r0⟩ := trodAll_cons hA
  obtain ⟨v1, vs1, d1, ds1, p1, q1, rfl, rfl, rfl, h1, r1⟩ := trodAll_cons r0
  obtain ⟨rfl, rfl, rfl⟩ := trodAll_nil r1
  obtain rfl : args = #[v0, v1] := by cases args; simp_all
  obtain ⟨rfl, rfl⟩ := trodVars_none hV
  have k0 := h0
  have lt0 : ∀ x ∈ p0, x.block < W.heap.size := by obtain ⟨m, hm⟩ := k0; exact DataW.trod_lt m _ _ _ hm
  obtain ⟨cs0, rfl, ok0_0⟩ := open_flat Tryd.underlying40 leaves40 (hval 0 40 v0 rfl rfl) h0
  obtain ⟨c0_0, rs0_0, rfl, o0_0, ok0_1⟩ := okAll_cons ok0_0
  obtain ⟨a0_0, rfl, w0_0⟩ := o0_0
  obtain ⟨c0_1, rs0_1, rfl, o0_1, ok0_2⟩ := okAll_cons ok0_1
  obtain ⟨a0_1, rfl, w0_1⟩ := o0_1
  obtain ⟨c0_2, rs0_2, rfl, o0_2, ok0_3⟩ := okAll_cons ok0_2
  obtain ⟨a0_2, rfl, w0_2⟩ := o0_2
  obtain rfl := okAll_nil ok0_3
  have k1 := h1
  have lt1 : ∀ x ∈ p1, x.block < W.heap.size := by obtain ⟨m, hm⟩ := k1; exact DataW.trod_lt m _ _ _ hm
  obtain ⟨cs1, rfl, ok1_0⟩ := open_flat Tryd.underlying40 leaves40 (hval 1 40 v1 rfl rfl) h1
  obtain ⟨c1_0, rs1_0, rfl, o1_0, ok1_1⟩ := okAll_cons ok1_0
  obtain ⟨a1_0, rfl, w1_0⟩ := o1_0
  obtain ⟨c1_1, rs1_1, rfl, o1_1, ok1_2⟩ := okAll_cons ok1_1
  obtain ⟨a1_1, rfl, w1_1⟩ := o1_1
  obtain ⟨c1_2, rs1_2, rfl, o1_2, ok1_3⟩ := okAll_cons ok1_2
  obtain ⟨a1_2, rfl, w1_2⟩ := o1_2
  obtain rfl := okAll_nil ok1_3
  clear hA0 hval0 hsz0 hsz
  obtain ⟨k, hf⟩ := Pure.XRightsText a0_0 a0_1 a0_2 a1_0 a1_1 a1_2 w0_0 w0_1 w0_2 w1_0 w1_1 w1_2
  refine (S.atlaslaw07_RightsText.calls k a0_0 a0_1 a0_2 a1_0 a1_1 a1_2 true W hG2 hf).mono fun e W' ⟨he, bel0⟩ => ?_
  have bel : Below W.heap.size W W' := bel0
  subst he
  exact ⟨_, rfl, _, _, _, [], _, [], hW', trodAll_mk1 (shut_bool Tryd.underlying4 _), (trodAll_cons_mk (Below.trod laidOut (by kernel_rfl) (of_decide_eq_true (by kernel_rfl)) k0 bel lt0) (trodAll_cons_mk (Below.trod laidOut (by kernel_rfl) (of_decide_eq_true (by kernel_rfl)) k1 bel lt1) trodAll_mk0)), rfl, bel.frame _, fun h => by cases h⟩
theorem over : Rows.rightsTextRow.holds Tryd.pinned (OpenSpec.ofChange Rows.rightsTextSpec) :=
  OpenClaim.holds_of_cond 9 Tryd.f9 rfl rfl rfl rfl rfl rfl rfl ⟨rfl, rfl, rfl, rfl, rfl⟩ rfl rfl rfl rfl rfl (by kernel_rfl) Tryd.func9 (by kernel_rfl)
    (of_decide_eq_true (by kernel_rfl)) (by unfold Func.isWrapper; first | (rw [if_pos (by decide +kernel)]; kernel_rfl) | (rw [if_neg (by decide +kernel)]; exact ⟨rfl, rfl⟩))
    (fun os started H enc _ F => by rw [OpenClaim.pre_eq_preRow]; exact lifted os started H enc F)
theorem plain (f : FuncId) (fn : Func) (hf : Tryd.pinned.checked.prog.funcNamed "atlas/atlaslaw07.RightsText" = some f) (hfn : Tryd.pinned.checked.prog.funcs[f]? = some fn) :
    false = Tryd.pinned.checked.prog.looks [] ∧ ∀ (j : Nat) t, fn.params[j]? = some t → Tryd.pinned.checked.prog.wantsStandIn t = false := by
  obtain rfl : f = 9 := Option.some.inj ((show Tryd.prog.funcNamed "atlas/atlaslaw07.RightsText" = some 9 by kernel_rfl).symm.trans hf) |>.symm
  obtain rfl : fn = Tryd.f9 := (Option.some.inj (Tryd.func9.symm.trans hfn)).symm
  refine ⟨by kernel_rfl, fun j t ht => ?_⟩
  rw [Tryd.params9] at ht
  have hm := Array.mem_of_getElem? ht
  simp only [List.mem_toArray, List.mem_cons, List.not_mem_nil, or_false] at hm
  rcases hm with rfl | rfl
  all_goals (show Tryd.prog.wantsStandIn _ = false; kernel_rfl)
/-- The card. -/
theorem proved : Rows.RightsTextCardSaid :=
  Claim7.holds_tied_plain_at .later [] _ _ _ _ over (fun _ h => by cases h) (by kernel_rfl) (fun _ h => by cases h) rightsText_row_tie rfl ⟨rfl, rfl⟩ (by kernel_rfl) rfl plain (by kernel_rfl)
#print axioms proved
end Go.Proofs.YtglafffghbhnbaaDoor.rightsTextX
namespace Go.Proofs.YtglafffghbhnbaaDoor
/-- The card, under a short name, for the claim. -/
theorem rightsTextX_holds : Rows.RightsTextCardSaid := rightsTextX.proved
end Go.Proofs.YtglafffghbhnbaaDoor
