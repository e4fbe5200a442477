/-
  The word of an instruction that is right says it; of one that is not there is none, and it reads and writes nothing: what isa.IsaSaid computes is true.
  Conditions: none.
-/
import Derived.Test.YtjlbmdcljikojaaPureIsaLaid
set_option linter.unusedVariables false
set_option linter.unusedSimpArgs false
set_option autoImplicit false
namespace Go.Va
theorem said_8 (j : T26) : atlaslaw19_IsaSaid.f 8 j = some true := by
  unfold atlaslaw19_IsaSaid.f
  rw [alive_8, Option.bind_some, Bool.not_true, cond_false]
  show (isa_Encode.f 8 j).bind _ = _
  rcases encode_8 j with he | ⟨x, he, hd, _, _⟩
  · rw [he, Option.bind_some]
    have hr : isa_Right.f 8 j = some false := by
      have e : isa_Right.f 8 j = (isa_Encode.f 8 j).bind fun r1 => (some (r1.2 == 0)) := rfl
      rw [e, he]; rfl
    have h1 : isa_Reads.f 8 j = some 0 := by
      unfold isa_Reads.f
      show (isa_Right.f 8 j).bind _ = _
      rw [hr]; rfl
    have h2 : isa_Writes.f 8 j = some 0 := by
      unfold isa_Writes.f
      show (isa_Right.f 8 j).bind _ = _
      rw [hr]; rfl
    show (isa_Right.f 8 j).bind _ = _
    rw [hr, Option.bind_some]
    show (isa_Reads.f 8 j).bind _ = _
    rw [h1, Option.bind_some]
    show (isa_Writes.f 8 j).bind _ = _
    rw [h2]; rfl
  · have hr := right_back x j he
    rw [he, Option.bind_some]
    show (isa_Decode.f 8 x).bind _ = _
    rw [hd, Option.bind_some]
    simp only [bne_self_eq_false, cond_false, cond_true, beq_self_eq_true, Bool.and_true, Bool.and_self]
    show (isa_Right.f 8 j).bind _ = _
    rw [hr]; rfl
end Go.Va
namespace Go.Proofs.Ytjlbmdcljikojaa.Pure
open Go.Va
theorem XIsaSaid (a0_0 : Int) (a0_1 : Int) (a0_2 : Bool) (a0_3 : Int) (a0_4 : Int) (a0_5 : Int) (a0_6 : Int) (a0_7 : Int) (a0_8 : Int) (a0_9 : Int) (a0_10 : Int) (a0_11 : Int) (a0_12 : Bool) (a0_13 : Bool) (a0_14 : Bool) (a0_15 : Int) (a0_16 : Int) (a0_17 : Int) (a0_18 : Int) (a0_19 : Int) (w0_0 : (Lit.int .i64 a0_0).wf = true) (w0_1 : (Lit.int .i64 a0_1).wf = true) (w0_3 : (Lit.int .i64 a0_3).wf = true) (w0_4 : (Lit.int .i64 a0_4).wf = true) (w0_5 : (Lit.int .i64 a0_5).wf = true) (w0_6 : (Lit.int .i64 a0_6).wf = true) (w0_7 : (Lit.int .i64 a0_7).wf = true) (w0_8 : (Lit.int .i64 a0_8).wf = true) (w0_9 : (Lit.int .u32 a0_9).wf = true) (w0_10 : (Lit.int .i64 a0_10).wf = true) (w0_11 : (Lit.int .i64 a0_11).wf = true) (w0_15 : (Lit.int .u16 a0_15).wf = true) (w0_16 : (Lit.int .i64 a0_16).wf = true) (w0_17 : (Lit.int .i64 a0_17).wf = true) (w0_18 : (Lit.int .i64 a0_18).wf = true) (w0_19 : (Lit.int .i64 a0_19).wf = true) : ∃ k, atlaslaw19_IsaSaid.f k ⟨a0_0, a0_1, a0_2, a0_3, a0_4, a0_5, a0_6, a0_7, a0_8, a0_9, a0_10, a0_11, a0_12, a0_13, a0_14, a0_15, a0_16, a0_17, a0_18, a0_19⟩ = some true := ⟨8, said_8 _⟩
end Go.Proofs.Ytjlbmdcljikojaa.Pure
