-- Written by a program of this session (wip/va/vaprint.py). Not trusted: Lean checks it.
import Derived.Test.YtjlbmdcljikojaaVaTy
import Derived.Test.YtjlbmdcljikojaaVf2
import Derived.Test.YtjlbmdcljikojaaVf4
import Derived.Test.YtjlbmdcljikojaaVf5
import Derived.Test.YtjlbmdcljikojaaVf8
set_option linter.unusedVariables false
set_option linter.unusedSimpArgs false
set_option autoImplicit false
set_option maxRecDepth 100000
namespace Go.Va
open Go.Proofs
/-! ### atlas/atlasref19.Encode: function 13 -/
def atlasref19_Encode.q0.h : Head ((List ((List Int) × Int × ByteArray × Unit)) × Int × Int × Int × Bool × Int × Int × Int × Int × Int × Int × Int × Int × Int × Bool × Bool × Bool × Int × Int × Int × Int × Int) where
  k γ s F := (sizedN 53 s).bind fun _ => (ptrN 0 (gt s.tm 1)).bind fun b2 => (vtO (.pair (.vec (.int .i64)) (.pair (.int .i64) (.pair .str .unit))) (gt s.tm 4)).bind fun v4 => (intO .i64 (gt s.tm 5)).bind fun v6 => (rowN 27 20 s.hp b2).bind fun l8 => (intO .i64 (gt l8 0)).bind fun v10 => (intO .i64 (gt l8 1)).bind fun v12 => (boolO (gt l8 2)).bind fun v14 => (intO .i64 (gt l8 3)).bind fun v16 => (intO .i64 (gt l8 4)).bind fun v18 => (intO .i64 (gt l8 5)).bind fun v20 => (intO .i64 (gt l8 6)).bind fun v22 => (intO .i64 (gt l8 7)).bind fun v24 => (intO .i64 (gt l8 8)).bind fun v26 => (intO .u32 (gt l8 9)).bind fun v28 => (intO .i64 (gt l8 10)).bind fun v30 => (intO .i64 (gt l8 11)).bind fun v32 => (boolO (gt l8 12)).bind fun v34 => (boolO (gt l8 13)).bind fun v36 => (boolO (gt l8 14)).bind fun v38 => (intO .u16 (gt l8 15)).bind fun v40 => (intO .i64 (gt l8 16)).bind fun v42 => (intO .i64 (gt l8 17)).bind fun v44 => (intO .i64 (gt l8 18)).bind fun v46 => (intO .i64 (gt l8 19)).bind fun v48 => (distO [some b2]).bind fun _ => F (v4, v6, v10, v12, v14, v16, v18, v20, v22, v24, v26, v28, v30, v32, v34, v36, v38, v40, v42, v44, v46, v48)
  st x := ⟨sparseT [(1, (.ptr 0 0)), (4, (.vt (.pair (.vec (.int .i64)) (.pair (.int .i64) (.pair .str .unit))) x.1)), (5, (.val (.int .i64 x.2.1)))] 53 0, [.row [(.val (.int .i64 x.2.2.1)), (.val (.int .i64 x.2.2.2.1)), (.val (.bool x.2.2.2.2.1)), (.val (.int .i64 x.2.2.2.2.2.1)), (.val (.int .i64 x.2.2.2.2.2.2.1)), (.val (.int .i64 x.2.2.2.2.2.2.2.1)), (.val (.int .i64 x.2.2.2.2.2.2.2.2.1)), (.val (.int .i64 x.2.2.2.2.2.2.2.2.2.1)), (.val (.int .i64 x.2.2.2.2.2.2.2.2.2.2.1)), (.val (.int .u32 x.2.2.2.2.2.2.2.2.2.2.2.1)), (.val (.int .i64 x.2.2.2.2.2.2.2.2.2.2.2.2.1)), (.val (.int .i64 x.2.2.2.2.2.2.2.2.2.2.2.2.2.1)), (.val (.bool x.2.2.2.2.2.2.2.2.2.2.2.2.2.2.1)), (.val (.bool x.2.2.2.2.2.2.2.2.2.2.2.2.2.2.2.1)), (.val (.bool x.2.2.2.2.2.2.2.2.2.2.2.2.2.2.2.2.1)), (.val (.int .u16 x.2.2.2.2.2.2.2.2.2.2.2.2.2.2.2.2.2.1)), (.val (.int .i64 x.2.2.2.2.2.2.2.2.2.2.2.2.2.2.2.2.2.2.1)), (.val (.int .i64 x.2.2.2.2.2.2.2.2.2.2.2.2.2.2.2.2.2.2.2.1)), (.val (.int .i64 x.2.2.2.2.2.2.2.2.2.2.2.2.2.2.2.2.2.2.2.2.1)), (.val (.int .i64 x.2.2.2.2.2.2.2.2.2.2.2.2.2.2.2.2.2.2.2.2.2))] 27 true]⟩
  ok γ s F r h := by
    obtain ⟨_, hz, h⟩ := Option.bind_eq_some_iff.1 h
    obtain ⟨b2, h1, h⟩ := Option.bind_eq_some_iff.1 h
    obtain ⟨v4, h3, h⟩ := Option.bind_eq_some_iff.1 h
    obtain ⟨v6, h5, h⟩ := Option.bind_eq_some_iff.1 h
    obtain ⟨l8, h7, h⟩ := Option.bind_eq_some_iff.1 h
    obtain ⟨v10, h9, h⟩ := Option.bind_eq_some_iff.1 h
    obtain ⟨v12, h11, h⟩ := Option.bind_eq_some_iff.1 h
    obtain ⟨v14, h13, h⟩ := Option.bind_eq_some_iff.1 h
    obtain ⟨v16, h15, h⟩ := Option.bind_eq_some_iff.1 h
    obtain ⟨v18, h17, h⟩ := Option.bind_eq_some_iff.1 h
    obtain ⟨v20, h19, h⟩ := Option.bind_eq_some_iff.1 h
    obtain ⟨v22, h21, h⟩ := Option.bind_eq_some_iff.1 h
    obtain ⟨v24, h23, h⟩ := Option.bind_eq_some_iff.1 h
    obtain ⟨v26, h25, h⟩ := Option.bind_eq_some_iff.1 h
    obtain ⟨v28, h27, h⟩ := Option.bind_eq_some_iff.1 h
    obtain ⟨v30, h29, h⟩ := Option.bind_eq_some_iff.1 h
    obtain ⟨v32, h31, h⟩ := Option.bind_eq_some_iff.1 h
    obtain ⟨v34, h33, h⟩ := Option.bind_eq_some_iff.1 h
    obtain ⟨v36, h35, h⟩ := Option.bind_eq_some_iff.1 h
    obtain ⟨v38, h37, h⟩ := Option.bind_eq_some_iff.1 h
    obtain ⟨v40, h39, h⟩ := Option.bind_eq_some_iff.1 h
    obtain ⟨v42, h41, h⟩ := Option.bind_eq_some_iff.1 h
    obtain ⟨v44, h43, h⟩ := Option.bind_eq_some_iff.1 h
    obtain ⟨v46, h45, h⟩ := Option.bind_eq_some_iff.1 h
    obtain ⟨v48, h47, h⟩ := Option.bind_eq_some_iff.1 h
    obtain ⟨_, h49, h⟩ := Option.bind_eq_some_iff.1 h
    exact ⟨_, h, weak_ren (l := [some b2]) (sizedN_ok hz) (distO_ok h49) (LiveR.cons (RefsR.ptr (l := [some b2]) (i := 0) rfl (ptrN_eq h1)) (LiveR.cons (RefsR.plain (vtO_refs h3) rfl) (LiveR.cons (RefsR.plain (Refs.of_eq (intO_eq h5)) rfl) LiveR.nil))) (BlksR.cons (rowN_refs h7 rfl (GtRefsR.cons (RefsR.plain (Refs.of_eq (intO_eq h9)) rfl) (GtRefsR.cons (RefsR.plain (Refs.of_eq (intO_eq h11)) rfl) (GtRefsR.cons (RefsR.plain (Refs.of_eq (boolO_eq h13)) rfl) (GtRefsR.cons (RefsR.plain (Refs.of_eq (intO_eq h15)) rfl) (GtRefsR.cons (RefsR.plain (Refs.of_eq (intO_eq h17)) rfl) (GtRefsR.cons (RefsR.plain (Refs.of_eq (intO_eq h19)) rfl) (GtRefsR.cons (RefsR.plain (Refs.of_eq (intO_eq h21)) rfl) (GtRefsR.cons (RefsR.plain (Refs.of_eq (intO_eq h23)) rfl) (GtRefsR.cons (RefsR.plain (Refs.of_eq (intO_eq h25)) rfl) (GtRefsR.cons (RefsR.plain (Refs.of_eq (intO_eq h27)) rfl) (GtRefsR.cons (RefsR.plain (Refs.of_eq (intO_eq h29)) rfl) (GtRefsR.cons (RefsR.plain (Refs.of_eq (intO_eq h31)) rfl) (GtRefsR.cons (RefsR.plain (Refs.of_eq (boolO_eq h33)) rfl) (GtRefsR.cons (RefsR.plain (Refs.of_eq (boolO_eq h35)) rfl) (GtRefsR.cons (RefsR.plain (Refs.of_eq (boolO_eq h37)) rfl) (GtRefsR.cons (RefsR.plain (Refs.of_eq (intO_eq h39)) rfl) (GtRefsR.cons (RefsR.plain (Refs.of_eq (intO_eq h41)) rfl) (GtRefsR.cons (RefsR.plain (Refs.of_eq (intO_eq h43)) rfl) (GtRefsR.cons (RefsR.plain (Refs.of_eq (intO_eq h45)) rfl) (GtRefsR.cons (RefsR.plain (Refs.of_eq (intO_eq h47)) rfl) GtRefsR.nil)))))))))))))))))))) rfl) BlksR.nil)⟩

def atlasref19_Encode.q0.x0 : Head (Int × Int) where
  k γ s F := (sizedN 53 s).bind fun _ => (intO .u32 (gt s.tm 2)).bind fun v2 => (intO .i64 (gt s.tm 3)).bind fun v4 => (distO []).bind fun _ => F (v2, v4)
  st x := ⟨sparseT [(2, (.val (.int .u32 x.1))), (3, (.val (.int .i64 x.2)))] 53 0, []⟩
  ok γ s F r h := by
    obtain ⟨_, hz, h⟩ := Option.bind_eq_some_iff.1 h
    obtain ⟨v2, h1, h⟩ := Option.bind_eq_some_iff.1 h
    obtain ⟨v4, h3, h⟩ := Option.bind_eq_some_iff.1 h
    obtain ⟨_, h5, h⟩ := Option.bind_eq_some_iff.1 h
    exact ⟨_, h, weak_ren (l := []) (sizedN_ok hz) (distO_ok h5) (LiveR.cons (RefsR.plain (Refs.of_eq (intO_eq h1)) rfl) (LiveR.cons (RefsR.plain (Refs.of_eq (intO_eq h3)) rfl) LiveR.nil)) BlksR.nil⟩

def atlasref19_Encode.q0.x1 : Head (Unit) where
  k γ s F := (sizedN 53 s).bind fun _ => (distO []).bind fun _ => F ()
  st x := ⟨sparseT [] 53 0, []⟩
  ok γ s F r h := by
    obtain ⟨_, hz, h⟩ := Option.bind_eq_some_iff.1 h
    obtain ⟨_, h1, h⟩ := Option.bind_eq_some_iff.1 h
    exact ⟨_, h, weak_ren (l := []) (sizedN_ok hz) (distO_ok h1) LiveR.nil BlksR.nil⟩

def atlasref19_Encode.q0.t : Tail ((Int × Int) ⊕ (Unit)) := Tail.or .ret atlasref19_Encode.q0.x0 (Tail.one (.exit 0) atlasref19_Encode.q0.x1)
theorem atlasref19_Encode.q0.np (y : ((Int × Int) ⊕ (Unit))) (v : AV) : (atlasref19_Encode.q0.t.out y).1 ≠ .panic v := fun h => by rcases y with _ | y <;> first | (cases h; done) | (cases h)
theorem atlasref19_Encode.q0.nn (y : ((Int × Int) ⊕ (Unit))) : (atlasref19_Encode.q0.t.out y).1 ≠ .normal := fun h => by rcases y with _ | y <;> first | (cases h; done) | (cases h)
def atlasref19_Encode.q0.l (k : Nat) : Nat → ((List ((List Int) × Int × ByteArray × Unit)) × Int × Int × Int × Bool × Int × Int × Int × Int × Int × Int × Int × Int × Int × Bool × Bool × Bool × Int × Int × Int × Int × Int) → Option ((Int × Int) ⊕ (Unit))
  | 0, _ => none
  | n + 1, x => (bif (decide (x.2.1 < ((x.1.length : Nat) : Int))) then (bif (decide (0 ≤ x.2.1) && decide (x.2.1 < ((x.1.length : Nat) : Int))) then ((atlasref19_in.f k ((x.1.getD (x.2.1).toNat ([], 0, ByteArray.empty, ())).1) x.2.2.2.1).bind fun r2 => (bif (!r2) then (atlasref19_Encode.q0.l k n (x.1, (IntKind.wrap .i64 (x.2.1 + 1)), x.2.2.1, x.2.2.2.1, x.2.2.2.2.1, x.2.2.2.2.2.1, x.2.2.2.2.2.2.1, x.2.2.2.2.2.2.2.1, x.2.2.2.2.2.2.2.2.1, x.2.2.2.2.2.2.2.2.2.1, x.2.2.2.2.2.2.2.2.2.2.1, x.2.2.2.2.2.2.2.2.2.2.2.1, x.2.2.2.2.2.2.2.2.2.2.2.2.1, x.2.2.2.2.2.2.2.2.2.2.2.2.2.1, x.2.2.2.2.2.2.2.2.2.2.2.2.2.2.1, x.2.2.2.2.2.2.2.2.2.2.2.2.2.2.2.1, x.2.2.2.2.2.2.2.2.2.2.2.2.2.2.2.2.1, x.2.2.2.2.2.2.2.2.2.2.2.2.2.2.2.2.2.1, x.2.2.2.2.2.2.2.2.2.2.2.2.2.2.2.2.2.2.1, x.2.2.2.2.2.2.2.2.2.2.2.2.2.2.2.2.2.2.2.1, x.2.2.2.2.2.2.2.2.2.2.2.2.2.2.2.2.2.2.2.2.1, x.2.2.2.2.2.2.2.2.2.2.2.2.2.2.2.2.2.2.2.2.2)) else (bif (decide (0 ≤ x.2.1) && decide (x.2.1 < ((x.1.length : Nat) : Int))) then (bif (((x.1.getD (x.2.1).toNat ([], 0, ByteArray.empty, ())).2.1) != x.2.2.2.2.2.1) then (atlasref19_Encode.q0.l k n (x.1, (IntKind.wrap .i64 (x.2.1 + 1)), x.2.2.1, x.2.2.2.1, x.2.2.2.2.1, x.2.2.2.2.2.1, x.2.2.2.2.2.2.1, x.2.2.2.2.2.2.2.1, x.2.2.2.2.2.2.2.2.1, x.2.2.2.2.2.2.2.2.2.1, x.2.2.2.2.2.2.2.2.2.2.1, x.2.2.2.2.2.2.2.2.2.2.2.1, x.2.2.2.2.2.2.2.2.2.2.2.2.1, x.2.2.2.2.2.2.2.2.2.2.2.2.2.1, x.2.2.2.2.2.2.2.2.2.2.2.2.2.2.1, x.2.2.2.2.2.2.2.2.2.2.2.2.2.2.2.1, x.2.2.2.2.2.2.2.2.2.2.2.2.2.2.2.2.1, x.2.2.2.2.2.2.2.2.2.2.2.2.2.2.2.2.2.1, x.2.2.2.2.2.2.2.2.2.2.2.2.2.2.2.2.2.2.1, x.2.2.2.2.2.2.2.2.2.2.2.2.2.2.2.2.2.2.2.1, x.2.2.2.2.2.2.2.2.2.2.2.2.2.2.2.2.2.2.2.2.1, x.2.2.2.2.2.2.2.2.2.2.2.2.2.2.2.2.2.2.2.2.2)) else (bif (decide (0 ≤ x.2.1) && decide (x.2.1 < ((x.1.length : Nat) : Int))) then ((atlasref19_word.f k (⟨(x.1.getD (x.2.1).toNat ([], 0, ByteArray.empty, ())).1, (x.1.getD (x.2.1).toNat ([], 0, ByteArray.empty, ())).2.1, (x.1.getD (x.2.1).toNat ([], 0, ByteArray.empty, ())).2.2.1⟩ : T42) (⟨x.2.2.1, x.2.2.2.1, x.2.2.2.2.1, x.2.2.2.2.2.1, x.2.2.2.2.2.2.1, x.2.2.2.2.2.2.2.1, x.2.2.2.2.2.2.2.2.1, x.2.2.2.2.2.2.2.2.2.1, x.2.2.2.2.2.2.2.2.2.2.1, x.2.2.2.2.2.2.2.2.2.2.2.1, x.2.2.2.2.2.2.2.2.2.2.2.2.1, x.2.2.2.2.2.2.2.2.2.2.2.2.2.1, x.2.2.2.2.2.2.2.2.2.2.2.2.2.2.1, x.2.2.2.2.2.2.2.2.2.2.2.2.2.2.2.1, x.2.2.2.2.2.2.2.2.2.2.2.2.2.2.2.2.1, x.2.2.2.2.2.2.2.2.2.2.2.2.2.2.2.2.2.1, x.2.2.2.2.2.2.2.2.2.2.2.2.2.2.2.2.2.2.1, x.2.2.2.2.2.2.2.2.2.2.2.2.2.2.2.2.2.2.2.1, x.2.2.2.2.2.2.2.2.2.2.2.2.2.2.2.2.2.2.2.2.1, x.2.2.2.2.2.2.2.2.2.2.2.2.2.2.2.2.2.2.2.2.2⟩ : T26)).bind fun r3 => ((atlasref19_Decode.f k r3).bind fun r4 => (bif r4.2 then (bif ((r4.1.f0_Cond == x.2.2.1) && ((r4.1.f1_Op == x.2.2.2.1) && ((r4.1.f2_S == x.2.2.2.2.1) && ((r4.1.f3_Form == x.2.2.2.2.2.1) && ((r4.1.f4_Rd == x.2.2.2.2.2.2.1) && ((r4.1.f5_Rn == x.2.2.2.2.2.2.2.1) && ((r4.1.f6_Rm == x.2.2.2.2.2.2.2.2.1) && ((r4.1.f7_Rs == x.2.2.2.2.2.2.2.2.2.1) && ((r4.1.f8_Ra == x.2.2.2.2.2.2.2.2.2.2.1) && ((r4.1.f9_Imm == x.2.2.2.2.2.2.2.2.2.2.2.1) && ((r4.1.f10_Shift == x.2.2.2.2.2.2.2.2.2.2.2.2.1) && ((r4.1.f11_Amount == x.2.2.2.2.2.2.2.2.2.2.2.2.2.1) && ((r4.1.f12_Pre == x.2.2.2.2.2.2.2.2.2.2.2.2.2.2.1) && ((r4.1.f13_Up == x.2.2.2.2.2.2.2.2.2.2.2.2.2.2.2.1) && ((r4.1.f14_Write == x.2.2.2.2.2.2.2.2.2.2.2.2.2.2.2.2.1) && ((r4.1.f15_List == x.2.2.2.2.2.2.2.2.2.2.2.2.2.2.2.2.2.1) && (((r4.1.f16_Tuple_CRn == x.2.2.2.2.2.2.2.2.2.2.2.2.2.2.2.2.2.2.1) && ((r4.1.f17_Tuple_Op1 == x.2.2.2.2.2.2.2.2.2.2.2.2.2.2.2.2.2.2.2.1) && ((r4.1.f18_Tuple_CRm == x.2.2.2.2.2.2.2.2.2.2.2.2.2.2.2.2.2.2.2.2.1) && ((r4.1.f19_Tuple_Op2 == x.2.2.2.2.2.2.2.2.2.2.2.2.2.2.2.2.2.2.2.2.2) && true)))) && true))))))))))))))))) then (some (Sum.inl (r3, 0))) else (atlasref19_Encode.q0.l k n (x.1, (IntKind.wrap .i64 (x.2.1 + 1)), x.2.2.1, x.2.2.2.1, x.2.2.2.2.1, x.2.2.2.2.2.1, x.2.2.2.2.2.2.1, x.2.2.2.2.2.2.2.1, x.2.2.2.2.2.2.2.2.1, x.2.2.2.2.2.2.2.2.2.1, x.2.2.2.2.2.2.2.2.2.2.1, x.2.2.2.2.2.2.2.2.2.2.2.1, x.2.2.2.2.2.2.2.2.2.2.2.2.1, x.2.2.2.2.2.2.2.2.2.2.2.2.2.1, x.2.2.2.2.2.2.2.2.2.2.2.2.2.2.1, x.2.2.2.2.2.2.2.2.2.2.2.2.2.2.2.1, x.2.2.2.2.2.2.2.2.2.2.2.2.2.2.2.2.1, x.2.2.2.2.2.2.2.2.2.2.2.2.2.2.2.2.2.1, x.2.2.2.2.2.2.2.2.2.2.2.2.2.2.2.2.2.2.1, x.2.2.2.2.2.2.2.2.2.2.2.2.2.2.2.2.2.2.2.1, x.2.2.2.2.2.2.2.2.2.2.2.2.2.2.2.2.2.2.2.2.1, x.2.2.2.2.2.2.2.2.2.2.2.2.2.2.2.2.2.2.2.2.2))) else (atlasref19_Encode.q0.l k n (x.1, (IntKind.wrap .i64 (x.2.1 + 1)), x.2.2.1, x.2.2.2.1, x.2.2.2.2.1, x.2.2.2.2.2.1, x.2.2.2.2.2.2.1, x.2.2.2.2.2.2.2.1, x.2.2.2.2.2.2.2.2.1, x.2.2.2.2.2.2.2.2.2.1, x.2.2.2.2.2.2.2.2.2.2.1, x.2.2.2.2.2.2.2.2.2.2.2.1, x.2.2.2.2.2.2.2.2.2.2.2.2.1, x.2.2.2.2.2.2.2.2.2.2.2.2.2.1, x.2.2.2.2.2.2.2.2.2.2.2.2.2.2.1, x.2.2.2.2.2.2.2.2.2.2.2.2.2.2.2.1, x.2.2.2.2.2.2.2.2.2.2.2.2.2.2.2.2.1, x.2.2.2.2.2.2.2.2.2.2.2.2.2.2.2.2.2.1, x.2.2.2.2.2.2.2.2.2.2.2.2.2.2.2.2.2.2.1, x.2.2.2.2.2.2.2.2.2.2.2.2.2.2.2.2.2.2.2.1, x.2.2.2.2.2.2.2.2.2.2.2.2.2.2.2.2.2.2.2.2.1, x.2.2.2.2.2.2.2.2.2.2.2.2.2.2.2.2.2.2.2.2.2))))) else none)) else none))) else none) else (some (Sum.inr ())))
theorem atlasref19_Encode.q0.z (k : Nat) (x : ((List ((List Int) × Int × ByteArray × Unit)) × Int × Int × Int × Bool × Int × Int × Int × Int × Int × Int × Int × Int × Int × Bool × Bool × Bool × Int × Int × Int × Int × Int)) : atlasref19_Encode.q0.l k 0 x = none := rfl
theorem atlasref19_Encode.q0.at : codeAt (bodyOf Try.f13) [false, true, false, true, true] = some (.loop (loopBody (bodyOf Try.f13) [false, true, false, true, true])) := by kernel_rfl
theorem atlasref19_Encode.q0.goes (k n : Nat) (x : ((List ((List Int) × Int × ByteArray × Unit)) × Int × Int × Int × Bool × Int × Int × Int × Int × Int × Int × Int × Int × Int × Bool × Bool × Bool × Int × Int × Int × Int × Int)) : E Try.prog (gamOf [(24, atlasref19_Rows.g), (25, atlasref19_in.g k), (26, atlasref19_word.g k), (10, atlasref19_Decode.g k)]) (lamOf []) (loopBody (bodyOf Try.f13) [false, true, false, true, true]) (false :: [false, true, false, true, true]) (atlasref19_Encode.q0.h.st x) (contD atlasref19_Encode.q0.h atlasref19_Encode.q0.t (atlasref19_Encode.q0.l k n) some) = atlasref19_Encode.q0.l k (n + 1) x := by
  kernel_rfl
theorem atlasref19_Encode.q0.ok_ (k : Nat) : PieceOk Try.prog (bodyOf Try.f13) ⟨[false, true, false, true, true], _, _, atlasref19_Encode.q0.h, atlasref19_Encode.q0.t, atlasref19_Encode.q0.l k k⟩ :=
  piece_loop (gamOf_cons (atlasref19_Rows.ok) atlasref19_Rows.callable (gamOf_cons (atlasref19_in.ok k) atlasref19_in.callable (gamOf_cons (atlasref19_word.ok k) atlasref19_word.callable (gamOf_cons (atlasref19_Decode.ok k) atlasref19_Decode.callable (gamOf_nil _))))) (lamOf_nil _ _) mixed atlasref19_Encode.q0.at atlasref19_Encode.q0.np atlasref19_Encode.q0.nn (atlasref19_Encode.q0.z k) (atlasref19_Encode.q0.goes k) k
def atlasref19_Encode.q0.p (k : Nat) : Piece := ⟨[false, true, false, true, true], _, _, atlasref19_Encode.q0.h, atlasref19_Encode.q0.t, atlasref19_Encode.q0.l k k⟩
theorem atlasref19_Encode.q0.ok (k : Nat) : PieceOk Try.prog (bodyOf Try.f13) (atlasref19_Encode.q0.p k) := atlasref19_Encode.q0.ok_ k
def atlasref19_Encode.f (k : Nat) (x0 : T26) : Option (Int × Int) := ((atlasref19_Rows.f ).bind fun r1 => ((atlasref19_Encode.q0.l k k (r1, 0, x0.f0_Cond, x0.f1_Op, x0.f2_S, x0.f3_Form, x0.f4_Rd, x0.f5_Rn, x0.f6_Rm, x0.f7_Rs, x0.f8_Ra, x0.f9_Imm, x0.f10_Shift, x0.f11_Amount, x0.f12_Pre, x0.f13_Up, x0.f14_Write, x0.f15_List, x0.f16_Tuple_CRn, x0.f17_Tuple_Op1, x0.f18_Tuple_CRm, x0.f19_Tuple_Op2)).bind fun r5 => (Sum.elim (fun r6 => (some (r6.1, r6.2))) (fun r7 => (some (0, 190))) r5)))
theorem atlasref19_Encode.run (k : Nat) (x0 : T26) : runF Try.prog (gamOf [(24, atlasref19_Rows.g), (25, atlasref19_in.g k), (26, atlasref19_word.g k), (10, atlasref19_Decode.g k)]) (lamOf [atlasref19_Encode.q0.p k]) Try.f13 [(T26.av x0)] some = (atlasref19_Encode.f k x0).bind fun r => some (.ret (.tup [(.val (.int .u32 r.1)), (.val (.int .i64 r.2))])) := by
  unfold atlasref19_Encode.f
  try simp only [cond_bind, elim_bind, Option.bind_some, Option.bind_none, Option.bind_assoc]
  kernel_rfl
def atlasref19_Encode.g (k : Nat) : GFun := fun β args K => match args with
  | [a0] => (T26.of a0).bind fun x0 => (atlasref19_Encode.f k x0).bind fun r => K (.ret (.tup [(.val (.int .u32 r.1)), (.val (.int .i64 r.2))]))
  | _ => none
theorem atlasref19_Encode.callable : callable Try.prog 13 = true := callable_of Try.func13 (by kernel_rfl)
theorem atlasref19_Encode.ok (k : Nat) : GOk Try.prog 13 (atlasref19_Encode.g k) := by
  intro β args K r h
  unfold atlasref19_Encode.g at h
  split at h
  · obtain ⟨x0, e0, h⟩ := Option.bind_eq_some_iff.1 h
    obtain ⟨y, hy, hK⟩ := Option.bind_eq_some_iff.1 h
    have hrun := atlasref19_Encode.run k x0
    rw [hy] at hrun
    obtain ⟨out, e, hs⟩ := sim_of_run Try.func13 (by kernel_rfl) mixed (gamOf_cons (atlasref19_Rows.ok) atlasref19_Rows.callable (gamOf_cons (atlasref19_in.ok k) atlasref19_in.callable (gamOf_cons (atlasref19_word.ok k) atlasref19_word.callable (gamOf_cons (atlasref19_Decode.ok k) atlasref19_Decode.callable (gamOf_nil _))))) (lamOf_cons (atlasref19_Encode.q0.ok k) (lamOf_nil _ _)) (args' := [(T26.av x0)]) (RefsL.cons (T26.refs e0) RefsL.nil) hrun
    simp only [Option.some.injEq] at e
    subst e
    exact ⟨_, hK, hs⟩
  · cases h
/-! ### atlas/atlasref19.Right: function 15 -/
def atlasref19_Right.f (k : Nat) (x0 : T26) : Option (Bool) := ((atlasref19_Encode.f k (⟨x0.f0_Cond, x0.f1_Op, x0.f2_S, x0.f3_Form, x0.f4_Rd, x0.f5_Rn, x0.f6_Rm, x0.f7_Rs, x0.f8_Ra, x0.f9_Imm, x0.f10_Shift, x0.f11_Amount, x0.f12_Pre, x0.f13_Up, x0.f14_Write, x0.f15_List, x0.f16_Tuple_CRn, x0.f17_Tuple_Op1, x0.f18_Tuple_CRm, x0.f19_Tuple_Op2⟩ : T26)).bind fun r1 => (some (r1.2 == 0)))
theorem atlasref19_Right.run (k : Nat) (x0 : T26) : runF Try.prog (gamOf [(13, atlasref19_Encode.g k)]) noLam Try.f15 [(T26.av x0)] some = (atlasref19_Right.f k x0).bind fun r => some (.ret (.val (.bool r))) := by
  unfold atlasref19_Right.f
  try simp only [cond_bind, elim_bind, Option.bind_some, Option.bind_none, Option.bind_assoc]
  kernel_rfl
def atlasref19_Right.g (k : Nat) : GFun := fun β args K => match args with
  | [a0] => (T26.of a0).bind fun x0 => (atlasref19_Right.f k x0).bind fun r => K (.ret (.val (.bool r)))
  | _ => none
theorem atlasref19_Right.callable : callable Try.prog 15 = true := callable_of Try.func15 (by kernel_rfl)
theorem atlasref19_Right.ok (k : Nat) : GOk Try.prog 15 (atlasref19_Right.g k) := by
  intro β args K r h
  unfold atlasref19_Right.g at h
  split at h
  · obtain ⟨x0, e0, h⟩ := Option.bind_eq_some_iff.1 h
    obtain ⟨y, hy, hK⟩ := Option.bind_eq_some_iff.1 h
    have hrun := atlasref19_Right.run k x0
    rw [hy] at hrun
    obtain ⟨out, e, hs⟩ := sim_of_run Try.func15 (by kernel_rfl) mixed (gamOf_cons (atlasref19_Encode.ok k) atlasref19_Encode.callable (gamOf_nil _)) (noLam_ok _ _) (args' := [(T26.av x0)]) (RefsL.cons (T26.refs e0) RefsL.nil) hrun
    simp only [Option.some.injEq] at e
    subst e
    exact ⟨_, hK, hs⟩
  · cases h
/-! ### atlas/atlaslaw19.IsaEncodes: function 5 -/
def atlaslaw19_IsaEncodes.f (k : Nat) (x0 : T26) : Option (Bool) := ((isa_Encode.f k (⟨x0.f0_Cond, x0.f1_Op, x0.f2_S, x0.f3_Form, x0.f4_Rd, x0.f5_Rn, x0.f6_Rm, x0.f7_Rs, x0.f8_Ra, x0.f9_Imm, x0.f10_Shift, x0.f11_Amount, x0.f12_Pre, x0.f13_Up, x0.f14_Write, x0.f15_List, x0.f16_Tuple_CRn, x0.f17_Tuple_Op1, x0.f18_Tuple_CRm, x0.f19_Tuple_Op2⟩ : T26)).bind fun r1 => ((atlasref19_Encode.f k (⟨x0.f0_Cond, x0.f1_Op, x0.f2_S, x0.f3_Form, x0.f4_Rd, x0.f5_Rn, x0.f6_Rm, x0.f7_Rs, x0.f8_Ra, x0.f9_Imm, x0.f10_Shift, x0.f11_Amount, x0.f12_Pre, x0.f13_Up, x0.f14_Write, x0.f15_List, x0.f16_Tuple_CRn, x0.f17_Tuple_Op1, x0.f18_Tuple_CRm, x0.f19_Tuple_Op2⟩ : T26)).bind fun r2 => (bif (r1.1 == r2.1) then (bif (r1.2 == r2.2) then ((isa_Right.f k (⟨x0.f0_Cond, x0.f1_Op, x0.f2_S, x0.f3_Form, x0.f4_Rd, x0.f5_Rn, x0.f6_Rm, x0.f7_Rs, x0.f8_Ra, x0.f9_Imm, x0.f10_Shift, x0.f11_Amount, x0.f12_Pre, x0.f13_Up, x0.f14_Write, x0.f15_List, x0.f16_Tuple_CRn, x0.f17_Tuple_Op1, x0.f18_Tuple_CRm, x0.f19_Tuple_Op2⟩ : T26)).bind fun r3 => ((atlasref19_Right.f k (⟨x0.f0_Cond, x0.f1_Op, x0.f2_S, x0.f3_Form, x0.f4_Rd, x0.f5_Rn, x0.f6_Rm, x0.f7_Rs, x0.f8_Ra, x0.f9_Imm, x0.f10_Shift, x0.f11_Amount, x0.f12_Pre, x0.f13_Up, x0.f14_Write, x0.f15_List, x0.f16_Tuple_CRn, x0.f17_Tuple_Op1, x0.f18_Tuple_CRm, x0.f19_Tuple_Op2⟩ : T26)).bind fun r4 => (some (r3 == r4)))) else (some false)) else (some false))))
theorem atlaslaw19_IsaEncodes.run (k : Nat) (x0 : T26) : runF Try.prog (gamOf [(12, isa_Encode.g k), (13, atlasref19_Encode.g k), (14, isa_Right.g k), (15, atlasref19_Right.g k)]) noLam Try.f5 [(T26.av x0)] some = (atlaslaw19_IsaEncodes.f k x0).bind fun r => some (.ret (.val (.bool r))) := by
  unfold atlaslaw19_IsaEncodes.f
  try simp only [cond_bind, elim_bind, Option.bind_some, Option.bind_none, Option.bind_assoc]
  kernel_rfl
def atlaslaw19_IsaEncodes.g (k : Nat) : GFun := fun β args K => match args with
  | [a0] => (T26.of a0).bind fun x0 => (atlaslaw19_IsaEncodes.f k x0).bind fun r => K (.ret (.val (.bool r)))
  | _ => none
theorem atlaslaw19_IsaEncodes.callable : callable Try.prog 5 = true := callable_of Try.func5 (by kernel_rfl)
theorem atlaslaw19_IsaEncodes.ok (k : Nat) : GOk Try.prog 5 (atlaslaw19_IsaEncodes.g k) := by
  intro β args K r h
  unfold atlaslaw19_IsaEncodes.g at h
  split at h
  · obtain ⟨x0, e0, h⟩ := Option.bind_eq_some_iff.1 h
    obtain ⟨y, hy, hK⟩ := Option.bind_eq_some_iff.1 h
    have hrun := atlaslaw19_IsaEncodes.run k x0
    rw [hy] at hrun
    obtain ⟨out, e, hs⟩ := sim_of_run Try.func5 (by kernel_rfl) mixed (gamOf_cons (isa_Encode.ok k) isa_Encode.callable (gamOf_cons (atlasref19_Encode.ok k) atlasref19_Encode.callable (gamOf_cons (isa_Right.ok k) isa_Right.callable (gamOf_cons (atlasref19_Right.ok k) atlasref19_Right.callable (gamOf_nil _))))) (noLam_ok _ _) (args' := [(T26.av x0)]) (RefsL.cons (T26.refs e0) RefsL.nil) hrun
    simp only [Option.some.injEq] at e
    subst e
    exact ⟨_, hK, hs⟩
  · cases h
/-! ### atlas/atlasref19.one: function 29 -/
def atlasref19_one.f (x0 : Bool) (x1 : Int) : Option (Int) := (bif (!x0) then (some 0) else (bif decide ((IntKind.wrap .u64 x1) < 0) then none else (some (shlI .u16 1 (IntKind.wrap .u64 x1)))))
theorem atlasref19_one.run (x0 : Bool) (x1 : Int) : runF Try.prog (gamOf []) noLam Try.f29 [(.val (.bool x0)), (.val (.int .i64 x1))] some = (atlasref19_one.f x0 x1).bind fun r => some (.ret (.val (.int .u16 r))) := by
  unfold atlasref19_one.f
  try simp only [cond_bind, elim_bind, Option.bind_some, Option.bind_none, Option.bind_assoc]
  kernel_rfl
def atlasref19_one.g : GFun := fun β args K => match args with
  | [a0, a1] => (boolO a0).bind fun x0 => (intO .i64 a1).bind fun x1 => (atlasref19_one.f x0 x1).bind fun r => K (.ret (.val (.int .u16 r)))
  | _ => none
theorem atlasref19_one.callable : callable Try.prog 29 = true := callable_of Try.func29 (by kernel_rfl)
theorem atlasref19_one.ok : GOk Try.prog 29 (atlasref19_one.g) := by
  intro β args K r h
  unfold atlasref19_one.g at h
  split at h
  · obtain ⟨x0, e0, h⟩ := Option.bind_eq_some_iff.1 h
    obtain ⟨x1, e1, h⟩ := Option.bind_eq_some_iff.1 h
    obtain ⟨y, hy, hK⟩ := Option.bind_eq_some_iff.1 h
    have hrun := atlasref19_one.run x0 x1
    rw [hy] at hrun
    obtain ⟨out, e, hs⟩ := sim_of_run Try.func29 (by kernel_rfl) mixed (gamOf_nil _) (noLam_ok _ _) (args' := [(.val (.bool x0)), (.val (.int .i64 x1))]) (RefsL.cons (Refs.of_eq (boolO_eq e0)) (RefsL.cons (Refs.of_eq (intO_eq e1)) RefsL.nil)) hrun
    simp only [Option.some.injEq] at e
    subst e
    exact ⟨_, hK, hs⟩
  · cases h
/-! ### atlas/atlasref19.Reads: function 17 -/
def atlasref19_Reads.f (k : Nat) (x0 : T26) : Option (Int) := ((atlasref19_Encode.f k (⟨x0.f0_Cond, x0.f1_Op, x0.f2_S, x0.f3_Form, x0.f4_Rd, x0.f5_Rn, x0.f6_Rm, x0.f7_Rs, x0.f8_Ra, x0.f9_Imm, x0.f10_Shift, x0.f11_Amount, x0.f12_Pre, x0.f13_Up, x0.f14_Write, x0.f15_List, x0.f16_Tuple_CRn, x0.f17_Tuple_Op1, x0.f18_Tuple_CRm, x0.f19_Tuple_Op2⟩ : T26)).bind fun r1 => (bif (r1.2 != 0) then (some 0) else ((atlasref19_find.f k r1.1).bind fun r2 => ((atlasref19_Has.f k (⟨r2.1.f0_Ops, r2.1.f1_Form, r2.1.f2_Pattern⟩ : T42) 110).bind fun r3 => ((atlasref19_one.f r3 x0.f5_Rn).bind fun r4 => ((atlasref19_Has.f k (⟨r2.1.f0_Ops, r2.1.f1_Form, r2.1.f2_Pattern⟩ : T42) 109).bind fun r5 => ((atlasref19_one.f r5 x0.f6_Rm).bind fun r6 => ((atlasref19_Has.f k (⟨r2.1.f0_Ops, r2.1.f1_Form, r2.1.f2_Pattern⟩ : T42) 114).bind fun r7 => ((atlasref19_one.f r7 x0.f7_Rs).bind fun r8 => ((atlasref19_in.f k ([20, 22, 24] : List Int) x0.f1_Op).bind fun r9 => ((atlasref19_one.f r9 x0.f8_Ra).bind fun r10 => ((atlasref19_in.f k ([18, 22, 24, 32, 34, 36, 49] : List Int) x0.f1_Op).bind fun r11 => ((atlasref19_one.f r11 x0.f4_Rd).bind fun r12 => (bif (x0.f1_Op == 40) then (some (orI .u16 (orI .u16 (orI .u16 (orI .u16 (orI .u16 r4 r6) r8) r10) r12) x0.f15_List)) else (some (orI .u16 (orI .u16 (orI .u16 (orI .u16 r4 r6) r8) r10) r12))))))))))))))))
theorem atlasref19_Reads.run (k : Nat) (x0 : T26) : runF Try.prog (gamOf [(13, atlasref19_Encode.g k), (22, atlasref19_find.g k), (30, atlasref19_Has.g k), (29, atlasref19_one.g), (25, atlasref19_in.g k)]) noLam Try.f17 [(T26.av x0)] some = (atlasref19_Reads.f k x0).bind fun r => some (.ret (.val (.int .u16 r))) := by
  unfold atlasref19_Reads.f
  try simp only [cond_bind, elim_bind, Option.bind_some, Option.bind_none, Option.bind_assoc]
  kernel_rfl
def atlasref19_Reads.g (k : Nat) : GFun := fun β args K => match args with
  | [a0] => (T26.of a0).bind fun x0 => (atlasref19_Reads.f k x0).bind fun r => K (.ret (.val (.int .u16 r)))
  | _ => none
theorem atlasref19_Reads.callable : callable Try.prog 17 = true := callable_of Try.func17 (by kernel_rfl)
theorem atlasref19_Reads.ok (k : Nat) : GOk Try.prog 17 (atlasref19_Reads.g k) := by
  intro β args K r h
  unfold atlasref19_Reads.g at h
  split at h
  · obtain ⟨x0, e0, h⟩ := Option.bind_eq_some_iff.1 h
    obtain ⟨y, hy, hK⟩ := Option.bind_eq_some_iff.1 h
    have hrun := atlasref19_Reads.run k x0
    rw [hy] at hrun
    obtain ⟨out, e, hs⟩ := sim_of_run Try.func17 (by kernel_rfl) mixed (gamOf_cons (atlasref19_Encode.ok k) atlasref19_Encode.callable (gamOf_cons (atlasref19_find.ok k) atlasref19_find.callable (gamOf_cons (atlasref19_Has.ok k) atlasref19_Has.callable (gamOf_cons (atlasref19_one.ok) atlasref19_one.callable (gamOf_cons (atlasref19_in.ok k) atlasref19_in.callable (gamOf_nil _)))))) (noLam_ok _ _) (args' := [(T26.av x0)]) (RefsL.cons (T26.refs e0) RefsL.nil) hrun
    simp only [Option.some.injEq] at e
    subst e
    exact ⟨_, hK, hs⟩
  · cases h
end Go.Va
