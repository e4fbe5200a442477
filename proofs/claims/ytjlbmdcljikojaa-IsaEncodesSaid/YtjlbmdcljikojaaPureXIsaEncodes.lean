/-
  The word of any instruction, or that there is none, and whether it is right: what isa.IsaEncodes computes is true.
  Conditions: none.
-/
import Derived.Test.YtjlbmdcljikojaaPureIsaRef9
set_option linter.unusedVariables false
set_option linter.unusedSimpArgs false
set_option autoImplicit false
namespace Go.Va
theorem encodes_8 (j : T26) (i0 : 0 ≤ j.f9_Imm) (i1 : j.f9_Imm < 4294967296) : atlaslaw19_IsaEncodes.f 64 j = some true := by
  unfold atlaslaw19_IsaEncodes.f
  show (isa_Encode.f 64 j).bind (fun r1 => (atlasref19_Encode.f 64 j).bind fun r2 => bif r1.1 == r2.1 then (bif r1.2 == r2.2 then ((isa_Right.f 64 j).bind fun r3 => (atlasref19_Right.f 64 j).bind fun r4 => some (r3 == r4)) else some false) else some false) = some true
  rw [rencode_eq j i0 i1, rright_eq j i0 i1]
  rcases encode_8 j with he | ⟨x, he, _⟩
  · have hr : isa_Right.f 64 j = some false := by
      have e : isa_Right.f 64 j = (isa_Encode.f 64 j).bind fun r1 => (some (r1.2 == 0)) := rfl
      rw [e, he]; rfl
    rw [he, hr]; rfl
  · have hr := right_back x j he
    rw [he, hr]
    simp only [Option.bind_some, beq_self_eq_true, cond_true]
end Go.Va
namespace Go.Proofs.Ytjlbmdcljikojaa.Pure
open Go.Va
theorem XIsaEncodes (a0_0 : Int) (a0_1 : Int) (a0_2 : Bool) (a0_3 : Int) (a0_4 : Int) (a0_5 : Int) (a0_6 : Int) (a0_7 : Int) (a0_8 : Int) (a0_9 : Int) (a0_10 : Int) (a0_11 : Int) (a0_12 : Bool) (a0_13 : Bool) (a0_14 : Bool) (a0_15 : Int) (a0_16 : Int) (a0_17 : Int) (a0_18 : Int) (a0_19 : Int) (w0_0 : (Lit.int .i64 a0_0).wf = true) (w0_1 : (Lit.int .i64 a0_1).wf = true) (w0_3 : (Lit.int .i64 a0_3).wf = true) (w0_4 : (Lit.int .i64 a0_4).wf = true) (w0_5 : (Lit.int .i64 a0_5).wf = true) (w0_6 : (Lit.int .i64 a0_6).wf = true) (w0_7 : (Lit.int .i64 a0_7).wf = true) (w0_8 : (Lit.int .i64 a0_8).wf = true) (w0_9 : (Lit.int .u32 a0_9).wf = true) (w0_10 : (Lit.int .i64 a0_10).wf = true) (w0_11 : (Lit.int .i64 a0_11).wf = true) (w0_15 : (Lit.int .u16 a0_15).wf = true) (w0_16 : (Lit.int .i64 a0_16).wf = true) (w0_17 : (Lit.int .i64 a0_17).wf = true) (w0_18 : (Lit.int .i64 a0_18).wf = true) (w0_19 : (Lit.int .i64 a0_19).wf = true) : ∃ k, atlaslaw19_IsaEncodes.f k ⟨a0_0, a0_1, a0_2, a0_3, a0_4, a0_5, a0_6, a0_7, a0_8, a0_9, a0_10, a0_11, a0_12, a0_13, a0_14, a0_15, a0_16, a0_17, a0_18, a0_19⟩ = some true := by
  have w : 0 ≤ a0_9 ∧ a0_9 < 4294967296 := by
    simp only [Lit.wf, IntKind.min, IntKind.max, Bool.and_eq_true, decide_eq_true_eq] at w0_9
    simp [IntKind.bits, IntKind.signed] at w0_9
    omega
  exact ⟨64, encodes_8 _ w.1 w.2⟩
end Go.Proofs.Ytjlbmdcljikojaa.Pure
