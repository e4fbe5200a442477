-- Written by a program of this session (wip/xprint.py), over the kit's print. Not trusted: Lean checks it.
import Derived.Test.YtkljijkejbfopaaDoorShelf
import Derived.Test.YtkljijkejbfopaaDoorCards
import Derived.Test.YtkljijkejbfopaaDoorTie
import Derived.Test.YtkljijkejbfopaaDoorGRow
import Derived.Test.YtkljijkejbfopaaDoorGl
import Derived.Test.YtkljijkejbfopaaDoorS24
import Derived.Test.YtkljijkejbfopaaDoorPureUAttrBack
import Derived.WalkKit
import Derived.ProofKit
import Derived.OpenShut
import Derived.ShutString
import Derived.ChangeOld
import Derived.Below
import Derived.SizedLaws
import Derived.JoinedCond
import Derived.Deep.DeepHandedRow
import Derived.Lib.LaidTab
namespace Go.Proofs.YtkljijkejbfopaaDoor.attrBackU
open Go.Proofs.YtkljijkejbfopaaDoorG
open Go.ChangeShapes Go.WideShapes Go.ChangeAt Go.RowKit
open Go.ChangeMaps (open_string shut_string)
open Go.Proofs.YtkljijkejbfopaaDoorW.PrintWords
set_option linter.unusedVariables false
theorem own : ownKnob Tryd.prog.godebug = none := by kernel_rfl
theorem laidOut : laidOutB Tryd.prog = true := by kernel_rfl
theorem leaves24 : leaves Tryd.prog 9 24 = some [Lk.int .i64, Lk.int .i64, Lk.int .i64, Lk.int .i64] := by kernel_rfl
/-- A world for the witness: the settled one, each listed table holding what its initialiser lays. -/
noncomputable def laidWorld (os : Os) : World :=
  { World.holding Tryd.prog os ⟨#[], #[], []⟩ with heap := ((((((World.holding Tryd.prog os ⟨#[], #[], []⟩).heap.modify 5 (fun | .cells _ t frozen => .cells #[.int .u8 (128), .int .u8 (191), .int .u8 (160), .int .u8 (191), .int .u8 (128), .int .u8 (159), .int .u8 (144), .int .u8 (191), .int .u8 (128), .int .u8 (143), .int .u8 (0), .int .u8 (0), .int .u8 (0), .int .u8 (0), .int .u8 (0), .int .u8 (0), .int .u8 (0), .int .u8 (0), .int .u8 (0), .int .u8 (0), .int .u8 (0), .int .u8 (0), .int .u8 (0), .int .u8 (0), .int .u8 (0), .int .u8 (0), .int .u8 (0), .int .u8 (0), .int .u8 (0), .int .u8 (0), .int .u8 (0), .int .u8 (0)] t frozen | o => o)).modify 0 (fun | .cells _ t frozen => .cells #[.bool (true), .int .i64 (0), .int .i64 (0), .int .i64 (0), .int .i64 (2), .bool (true), .int .i64 (1), .int .i64 (0), .int .i64 (0), .int .i64 (2), .bool (true), .int .i64 (2), .int .i64 (2), .int .i64 (2), .int .i64 (0), .bool (true), .int .i64 (2), .int .i64 (3), .int .i64 (3), .int .i64 (0), .bool (true), .int .i64 (2), .int .i64 (0), .int .i64 (0), .int .i64 (0), .bool (false), .int .i64 (0), .int .i64 (0), .int .i64 (0), .int .i64 (0), .bool (false), .int .i64 (0), .int .i64 (0), .int .i64 (0), .int .i64 (0), .bool (true), .int .i64 (2), .int .i64 (1), .int .i64 (1), .int .i64 (0), .bool (true), .int .i64 (1), .int .i64 (0), .int .i64 (0), .int .i64 (0), .bool (false), .int .i64 (0), .int .i64 (0), .int .i64 (0), .int .i64 (0), .bool (false), .int .i64 (0), .int .i64 (0), .int .i64 (0), .int .i64 (0), .bool (false), .int .i64 (0), .int .i64 (0), .int .i64 (0), .int .i64 (0), .bool (false), .int .i64 (0), .int .i64 (0), .int .i64 (0), .int .i64 (0), .bool (false), .int .i64 (0), .int .i64 (0), .int .i64 (0), .int .i64 (0), .bool (false), .int .i64 (0), .int .i64 (0), .int .i64 (0), .int .i64 (0), .bool (false), .int .i64 (0), .int .i64 (0), .int .i64 (0), .int .i64 (0)] t frozen | o => o)).modify 1 (fun | .cells _ t frozen => .cells #[.string ((⟨#[112, 114, 105, 118, 97, 116, 101]⟩ : ByteArray)), .string ((⟨#[105, 110, 110, 101, 114]⟩ : ByteArray)), .string ((⟨#[111, 117, 116, 101, 114]⟩ : ByteArray))] t frozen | o => o)).modify 2 (fun | .cells _ t frozen => .cells #[.string ((⟨#[110, 111, 110, 101]⟩ : ByteArray)), .string ((⟨#[97, 108, 108, 111, 99]⟩ : ByteArray)), .string ((⟨#[116, 104, 114, 111, 117, 103, 104]⟩ : ByteArray)), .string ((⟨#[98, 97, 99, 107]⟩ : ByteArray))] t frozen | o => o)).modify 4 (fun | .cells _ t frozen => .cells (Go.Pinned.utf8FirstZ.map (fun z : Nat => Value.int .u8 z)).toArray t frozen | o => o)) }
set_option maxRecDepth 100000 in
theorem laid_met (os : Os) : laidMet Tryd.prog Rows.attrBackUptoRow.laid ((laidWorld os).forCall (fun _ _ => 0) ⟨#[], #[.agg #[.int .i64 0, .int .i64 0, .int .i64 0, .int .i64 0], .string ByteArray.empty], []⟩).memory :=
  laidMet_of_run' 8 (by kernel_rfl) (by kernel_rfl)
theorem reads (os : Os) {H : Type} (enc : TypeId × Value → H) : ∃ places, DataW.whole enc Tryd.prog ((laidWorld os).forCall (fun _ _ => 0) ⟨#[], #[.agg #[.int .i64 0, .int .i64 0, .int .i64 0, .int .i64 0], .string ByteArray.empty], []⟩).memory Tryd.f8.params.toList Rows.attrBackSpec.vars false (#[.agg #[.int .i64 0, .int .i64 0, .int .i64 0, .int .i64 0], .string ByteArray.empty] : Array Value).toList 8 = some ([.agg [.lit (.int .i64 0), .lit (.int .i64 0), .lit (.int .i64 0), .lit (.int .i64 0)], .lit (.string [])], [], places) :=
  ⟨[], by kernel_rfl⟩
set_option maxRecDepth 100000 in
theorem lifted (os : Os) (started : os.Started) (H : Type) (enc : TypeId × Value → H) (F : Stop.Interp) :
    ReturnsInHanded {} Tryd.checked os 8 .any ((Rows.OpenSpec.upto Rows.attrBackSpec).preRow enc Tryd.prog Tryd.f8 Rows.attrBackUptoRow.domain false Rows.attrBackUptoRow.laid) (((Rows.OpenSpec.upto Rows.attrBackSpec).at F).post enc Tryd.prog Tryd.f8 false true false false) := by
  obtain ⟨places, hx⟩ := reads os enc
  refine returnsInHanded_of_row (C := Tryd.checked) (s := Rows.OpenSpec.upto Rows.attrBackSpec) own started (by kernel_rfl) Tryd.func8
    (witness_row_at (enc := enc) (C := Tryd.checked) false (laidWorld os) #[.agg #[.int .i64 0, .int .i64 0, .int .i64 0, .int .i64 0], .string ByteArray.empty] rfl (by kernel_rfl) (by kernel_rfl) (by kernel_rfl)
      (OpenSpec.preRow_of_cond 8 hx (by kernel_rfl) (fun k hk => by cases hk; kernel_rfl) (by kernel_rfl) (laid_met os))) ?_
  intro W base args ds gs before hval0 hW _ hk0 hsz0 hL hsh _
  have hk := hk0 _ rfl
  have hG0 : Aside0 (G0 W) := ⟨G0.of_laid (l := Rows.attrBackUptoRow.laid) hL (.tail _ (.head _))⟩
  have hG1 : Aside0 (G1 W) := ⟨G1.of_laid (l := Rows.attrBackUptoRow.laid) hL (.tail _ (.tail _ (.head _)))⟩
  have hG2 : Aside0 (G2 W) := ⟨G2.of_laid (l := Rows.attrBackUptoRow.laid) hL (.tail _ (.tail _ (.tail _ (.head _))))⟩
  have hG3 : Aside0 (G3 W) := ⟨⟨Tryd.laysM219.s1_3 W hsh⟩⟩
  clear hk0 hsz0 hL
  have hval : ∀ (j : Nat) t v, Tryd.f8.params[j]? = some t → args[j]? = some v → Value.okWide Tryd.prog W .any base t v := hval0
  have hW' := hW
  obtain ⟨p, q, hA0, hV, rfl, hfz, hnd⟩ := hW
  have hA : DataW.TrodAll enc Tryd.prog W 0 (fun _ => true) true Tryd.f8.params.toList args.toList ds p := hA0
  rw [Tryd.params8] at hA hval
  obtain ⟨v0, vs0, d0, ds0, p0, q0, hargs, rfl, rfl, h0, r0⟩ := trodAll_cons hA
  obtain ⟨v1, vs1, d1, ds1, p1, q1, rfl, rfl, rfl, h1, r1⟩ := trodAll_cons r0
  obtain ⟨rfl, rfl, rfl⟩ := trodAll_nil r1
  obtain rfl : args = #[v0, v1] := by cases args; simp_all
  obtain ⟨rfl, rfl⟩ := trodVars_none hV
  have k0 := h0
  have lt0 : ∀ x ∈ p0, x.block < W.heap.size := by obtain ⟨m, hm⟩ := k0; exact DataW.trod_lt m _ _ _ hm
  obtain ⟨cs0, rfl, ok0_0⟩ := open_flat Tryd.underlying24 leaves24 (hval 0 24 v0 rfl rfl) h0
  obtain ⟨c0_0, rs0_0, rfl, o0_0, ok0_1⟩ := okAll_cons ok0_0
  obtain ⟨a0_0, rfl, w0_0⟩ := o0_0
  obtain ⟨c0_1, rs0_1, rfl, o0_1, ok0_2⟩ := okAll_cons ok0_1
  obtain ⟨a0_1, rfl, w0_1⟩ := o0_1
  obtain ⟨c0_2, rs0_2, rfl, o0_2, ok0_3⟩ := okAll_cons ok0_2
  obtain ⟨a0_2, rfl, w0_2⟩ := o0_2
  obtain ⟨c0_3, rs0_3, rfl, o0_3, ok0_4⟩ := okAll_cons ok0_3
  obtain ⟨a0_3, rfl, w0_3⟩ := o0_3
  obtain rfl := okAll_nil ok0_4
  obtain ⟨a1, rfl, rfl, rfl, y1⟩ := open_string Tryd.underlying9 (hval 1 9 v1 rfl rfl) h1
  have hb : (a1.size + 1) ≤ 1048576 := by
    have h := of_decide_eq_true hk
    simp only [List.append_nil, Rows.uptoBulkAll, Rows.uptoBulk, Array.length_toList] at h
    have e1 : a1.data.size = a1.size := rfl
    omega
  clear hA0 hval0
  obtain ⟨k, hf⟩ := Pure.UAttrBack a0_0 a0_1 a0_2 a0_3 a1 w0_0 w0_1 w0_2 w0_3 (by omega) hb
  refine (S.atlaslaw06_AttrBack.calls k a0_0 a0_1 a0_2 a0_3 a1 true W hG0 hG1 hG2 hG3 hf).mono fun e W' ⟨he, bel0⟩ => ?_
  have bel : Below W.heap.size W W' := bel0
  subst he
  exact ⟨_, rfl, _, _, _, [], _, [], hW', trodAll_mk1 (shut_bool Tryd.underlying4 _), (trodAll_cons_mk (Below.trod laidOut (by kernel_rfl) (of_decide_eq_true (by kernel_rfl)) k0 bel lt0) (trodAll_cons_mk (shut_string Tryd.underlying9 y1) trodAll_mk0)), rfl, bel.frame _, fun h => by cases h⟩
theorem over : Rows.attrBackUptoRow.holds Tryd.pinned (Rows.OpenSpec.upto Rows.attrBackSpec) :=
  OpenClaim.holds_of_cond 8 Tryd.f8 rfl rfl rfl rfl rfl rfl rfl ⟨rfl, rfl, rfl, rfl, rfl⟩ rfl rfl rfl rfl rfl (by kernel_rfl) Tryd.func8 (by kernel_rfl)
    (of_decide_eq_true (by kernel_rfl)) (by unfold Func.isWrapper; first | (rw [if_pos (by decide +kernel)]; kernel_rfl) | (rw [if_neg (by decide +kernel)]; exact ⟨rfl, rfl⟩))
    (fun os started H enc _ F => by rw [OpenClaim.pre_eq_preRow]; exact lifted os started H enc F)
theorem plain (f : FuncId) (fn : Func) (hf : Tryd.pinned.checked.prog.funcNamed "atlas/atlaslaw06.AttrBack" = some f) (hfn : Tryd.pinned.checked.prog.funcs[f]? = some fn) :
    false = Tryd.pinned.checked.prog.looks [] ∧ ∀ (j : Nat) t, fn.params[j]? = some t → Tryd.pinned.checked.prog.wantsStandIn t = false := by
  obtain rfl : f = 8 := Option.some.inj ((show Tryd.prog.funcNamed "atlas/atlaslaw06.AttrBack" = some 8 by kernel_rfl).symm.trans hf) |>.symm
  obtain rfl : fn = Tryd.f8 := (Option.some.inj (Tryd.func8.symm.trans hfn)).symm
  refine ⟨by kernel_rfl, fun j t ht => ?_⟩
  rw [Tryd.params8] at ht
  have hm := Array.mem_of_getElem? ht
  simp only [List.mem_toArray, List.mem_cons, List.not_mem_nil, or_false] at hm
  rcases hm with rfl | rfl
  all_goals (show Tryd.prog.wantsStandIn _ = false; kernel_rfl)
/-- The card. -/
theorem proved : Rows.AttrBackUptoCardSaid :=
  Claim7.holds_tied_plain_at .later [] _ _ _ _ over (fun _ h => by cases h) (by kernel_rfl) (fun _ h => by cases h) attrBackUpto_row_tie rfl ⟨rfl, rfl⟩ (by kernel_rfl) rfl plain (by kernel_rfl)
#print axioms proved
end Go.Proofs.YtkljijkejbfopaaDoor.attrBackU
namespace Go.Proofs.YtkljijkejbfopaaDoor
/-- The card, under a short name, for the claim. -/
theorem attrBackU_holds : Rows.AttrBackUptoCardSaid := attrBackU.proved
end Go.Proofs.YtkljijkejbfopaaDoor
