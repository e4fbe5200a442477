-- Written by a program of this session (wip/xprint.py), over the kit's print. Not trusted: Lean checks it.
import Derived.Test.YtkljijkejbfopaaDoorShelf
import Derived.Test.YtkljijkejbfopaaDoorCards
import Derived.Test.YtkljijkejbfopaaDoorTie
import Derived.Test.YtkljijkejbfopaaDoorGRow
import Derived.Test.YtkljijkejbfopaaDoorGl
import Derived.Test.YtkljijkejbfopaaDoorS27
import Derived.Test.YtkljijkejbfopaaDoorPureXAttrUsual
import Derived.WalkKit
import Derived.ProofKit
import Derived.OpenShut
import Derived.ShutString
import Derived.ChangeOld
import Derived.Below
import Derived.SizedLaws
import Derived.JoinedCond
import Derived.Deep.DeepHandedRow
import Derived.Lib.LaidTab
namespace Go.Proofs.YtkljijkejbfopaaDoor.attrUsualX
open Go.Proofs.YtkljijkejbfopaaDoorG
open Go.ChangeShapes Go.WideShapes Go.ChangeAt Go.RowKit
open Go.ChangeMaps (open_string shut_string)
open Go.Proofs.YtkljijkejbfopaaDoorW.PrintWords
set_option linter.unusedVariables false
theorem own : ownKnob Tryd.prog.godebug = none := by kernel_rfl
/-- A world for the witness: the settled one, each listed table holding what its initialiser lays. -/
noncomputable def laidWorld (os : Os) : World :=
  { World.holding Tryd.prog os ⟨#[], #[], []⟩ with heap := ((((((World.holding Tryd.prog os ⟨#[], #[], []⟩).heap.modify 5 (fun | .cells _ t frozen => .cells #[.int .u8 (128), .int .u8 (191), .int .u8 (160), .int .u8 (191), .int .u8 (128), .int .u8 (159), .int .u8 (144), .int .u8 (191), .int .u8 (128), .int .u8 (143), .int .u8 (0), .int .u8 (0), .int .u8 (0), .int .u8 (0), .int .u8 (0), .int .u8 (0), .int .u8 (0), .int .u8 (0), .int .u8 (0), .int .u8 (0), .int .u8 (0), .int .u8 (0), .int .u8 (0), .int .u8 (0), .int .u8 (0), .int .u8 (0), .int .u8 (0), .int .u8 (0), .int .u8 (0), .int .u8 (0), .int .u8 (0), .int .u8 (0)] t frozen | o => o)).modify 0 (fun | .cells _ t frozen => .cells #[.bool (true), .int .i64 (0), .int .i64 (0), .int .i64 (0), .int .i64 (2), .bool (true), .int .i64 (1), .int .i64 (0), .int .i64 (0), .int .i64 (2), .bool (true), .int .i64 (2), .int .i64 (2), .int .i64 (2), .int .i64 (0), .bool (true), .int .i64 (2), .int .i64 (3), .int .i64 (3), .int .i64 (0), .bool (true), .int .i64 (2), .int .i64 (0), .int .i64 (0), .int .i64 (0), .bool (false), .int .i64 (0), .int .i64 (0), .int .i64 (0), .int .i64 (0), .bool (false), .int .i64 (0), .int .i64 (0), .int .i64 (0), .int .i64 (0), .bool (true), .int .i64 (2), .int .i64 (1), .int .i64 (1), .int .i64 (0), .bool (true), .int .i64 (1), .int .i64 (0), .int .i64 (0), .int .i64 (0), .bool (false), .int .i64 (0), .int .i64 (0), .int .i64 (0), .int .i64 (0), .bool (false), .int .i64 (0), .int .i64 (0), .int .i64 (0), .int .i64 (0), .bool (false), .int .i64 (0), .int .i64 (0), .int .i64 (0), .int .i64 (0), .bool (false), .int .i64 (0), .int .i64 (0), .int .i64 (0), .int .i64 (0), .bool (false), .int .i64 (0), .int .i64 (0), .int .i64 (0), .int .i64 (0), .bool (false), .int .i64 (0), .int .i64 (0), .int .i64 (0), .int .i64 (0), .bool (false), .int .i64 (0), .int .i64 (0), .int .i64 (0), .int .i64 (0)] t frozen | o => o)).modify 1 (fun | .cells _ t frozen => .cells #[.string ((⟨#[112, 114, 105, 118, 97, 116, 101]⟩ : ByteArray)), .string ((⟨#[105, 110, 110, 101, 114]⟩ : ByteArray)), .string ((⟨#[111, 117, 116, 101, 114]⟩ : ByteArray))] t frozen | o => o)).modify 2 (fun | .cells _ t frozen => .cells #[.string ((⟨#[110, 111, 110, 101]⟩ : ByteArray)), .string ((⟨#[97, 108, 108, 111, 99]⟩ : ByteArray)), .string ((⟨#[116, 104, 114, 111, 117, 103, 104]⟩ : ByteArray)), .string ((⟨#[98, 97, 99, 107]⟩ : ByteArray))] t frozen | o => o)).modify 4 (fun | .cells _ t frozen => .cells (Go.Pinned.utf8FirstZ.map (fun z : Nat => Value.int .u8 z)).toArray t frozen | o => o)) }
set_option maxRecDepth 100000 in
theorem laid_met (os : Os) : laidMet Tryd.prog Rows.attrUsualRow.laid ((laidWorld os).forCall (fun _ _ => 0) ⟨#[], #[.int .u32 0], []⟩).memory :=
  laidMet_of_run' 8 (by kernel_rfl) (by kernel_rfl)
theorem reads (os : Os) {H : Type} (enc : TypeId × Value → H) : ∃ places, DataW.whole enc Tryd.prog ((laidWorld os).forCall (fun _ _ => 0) ⟨#[], #[.int .u32 0], []⟩).memory Tryd.f11.params.toList Rows.attrUsualSpec.vars false (#[.int .u32 0] : Array Value).toList 8 = some ([.lit (.int .u32 0)], [], places) :=
  ⟨[], by kernel_rfl⟩
set_option maxRecDepth 100000 in
theorem lifted (os : Os) (started : os.Started) (H : Type) (enc : TypeId × Value → H) (F : Stop.Interp) :
    ReturnsInHanded {} Tryd.checked os 11 .any ((OpenSpec.ofChange Rows.attrUsualSpec).preRow enc Tryd.prog Tryd.f11 Rows.attrUsualRow.domain false Rows.attrUsualRow.laid) (((OpenSpec.ofChange Rows.attrUsualSpec).at F).post enc Tryd.prog Tryd.f11 false true false false) := by
  obtain ⟨places, hx⟩ := reads os enc
  refine returnsInHanded_of_row (C := Tryd.checked) (s := OpenSpec.ofChange Rows.attrUsualSpec) own started (by kernel_rfl) Tryd.func11
    (witness_row_at (enc := enc) (C := Tryd.checked) false (laidWorld os) #[.int .u32 0] rfl (by kernel_rfl) (by kernel_rfl) (by kernel_rfl)
      (OpenSpec.preRow_of_cond 8 hx (by kernel_rfl) (fun k hk => by cases hk) (by kernel_rfl) (laid_met os))) ?_
  intro W base args ds gs before hval0 hW _ hk0 hsz0 hL hsh _
  have hsz : (DataW.weightsEach Tryd.prog (Tryd.f11.params.toList ++ Rows.attrUsualSpec.plain.varTypes Tryd.prog) (ds ++ gs)).all (· ≤ reachBytes) = true := hsz0
  have hG0 : Aside0 (G0 W) := ⟨G0.of_laid (l := Rows.attrUsualRow.laid) hL (.tail _ (.head _))⟩
  have hG1 : Aside0 (G1 W) := ⟨G1.of_laid (l := Rows.attrUsualRow.laid) hL (.tail _ (.tail _ (.head _)))⟩
  have hG2 : Aside0 (G2 W) := ⟨G2.of_laid (l := Rows.attrUsualRow.laid) hL (.tail _ (.tail _ (.tail _ (.head _))))⟩
  have hG3 : Aside0 (G3 W) := ⟨⟨Tryd.laysM219.s1_3 W hsh⟩⟩
  clear hk0 hL
  have hval : ∀ (j : Nat) t v, Tryd.f11.params[j]? = some t → args[j]? = some v → Value.okWide Tryd.prog W .any base t v := hval0
  have hW' := hW
  obtain ⟨p, q, hA0, hV, rfl, hfz, hnd⟩ := hW
  have hA : DataW.TrodAll enc Tryd.prog W 0 (fun _ => true) true Tryd.f11.params.toList args.toList ds p := hA0
  rw [Tryd.params11] at hA hval hsz
  obtain ⟨v0, vs0, d0, ds0, p0, q0, hargs, rfl, rfl, h0, r0⟩ := trodAll_cons hA
  obtain ⟨rfl, rfl, rfl⟩ := trodAll_nil r0
  obtain rfl : args = #[v0] := by cases args; simp_all
  obtain ⟨rfl, rfl⟩ := trodVars_none hV
  obtain ⟨a0, rfl, rfl, rfl, w0⟩ := open_int Tryd.underlying22 (hval 0 22 v0 rfl rfl) h0
  clear hA0 hval0 hsz0 hsz
  obtain ⟨k, hf⟩ := Pure.XAttrUsual a0 w0
  refine (S.atlaslaw06_AttrUsual.calls k a0 true W hG0 hG1 hG2 hG3 hf).mono fun e W' ⟨he, bel0⟩ => ?_
  have bel : Below W.heap.size W W' := bel0
  subst he
  exact ⟨_, rfl, _, _, _, [], _, [], hW', trodAll_mk1 (shut_bool Tryd.underlying4 _), (trodAll_cons_mk (shut_int Tryd.underlying22 w0) trodAll_mk0), rfl, bel.frame _, fun h => by cases h⟩
theorem over : Rows.attrUsualRow.holds Tryd.pinned (OpenSpec.ofChange Rows.attrUsualSpec) :=
  OpenClaim.holds_of_cond 11 Tryd.f11 rfl rfl rfl rfl rfl rfl rfl ⟨rfl, rfl, rfl, rfl, rfl⟩ rfl rfl rfl rfl rfl (by kernel_rfl) Tryd.func11 (by kernel_rfl)
    (of_decide_eq_true (by kernel_rfl)) (by unfold Func.isWrapper; first | (rw [if_pos (by decide +kernel)]; kernel_rfl) | (rw [if_neg (by decide +kernel)]; exact ⟨rfl, rfl⟩))
    (fun os started H enc _ F => by rw [OpenClaim.pre_eq_preRow]; exact lifted os started H enc F)
theorem plain (f : FuncId) (fn : Func) (hf : Tryd.pinned.checked.prog.funcNamed "atlas/atlaslaw06.AttrUsual" = some f) (hfn : Tryd.pinned.checked.prog.funcs[f]? = some fn) :
    false = Tryd.pinned.checked.prog.looks [] ∧ ∀ (j : Nat) t, fn.params[j]? = some t → Tryd.pinned.checked.prog.wantsStandIn t = false := by
  obtain rfl : f = 11 := Option.some.inj ((show Tryd.prog.funcNamed "atlas/atlaslaw06.AttrUsual" = some 11 by kernel_rfl).symm.trans hf) |>.symm
  obtain rfl : fn = Tryd.f11 := (Option.some.inj (Tryd.func11.symm.trans hfn)).symm
  refine ⟨by kernel_rfl, fun j t ht => ?_⟩
  rw [Tryd.params11] at ht
  have hm := Array.mem_of_getElem? ht
  simp only [List.mem_toArray, List.mem_cons, List.not_mem_nil, or_false] at hm
  rcases hm with rfl
  all_goals (show Tryd.prog.wantsStandIn _ = false; kernel_rfl)
/-- The card. -/
theorem proved : Rows.AttrUsualCardSaid :=
  Claim7.holds_tied_plain_at .later [] _ _ _ _ over (fun _ h => by cases h) (by kernel_rfl) (fun _ h => by cases h) attrUsual_row_tie rfl ⟨rfl, rfl⟩ (by kernel_rfl) rfl plain (by kernel_rfl)
#print axioms proved
end Go.Proofs.YtkljijkejbfopaaDoor.attrUsualX
namespace Go.Proofs.YtkljijkejbfopaaDoor
/-- The card, under a short name, for the claim. -/
theorem attrUsualX_holds : Rows.AttrUsualCardSaid := attrUsualX.proved
end Go.Proofs.YtkljijkejbfopaaDoor
