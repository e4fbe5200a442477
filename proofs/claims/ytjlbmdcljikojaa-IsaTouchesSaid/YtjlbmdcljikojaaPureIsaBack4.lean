/-
  What Decode answers of a word: an instruction that is laid as it, or none.
  Conditions: none.
-/
import Derived.Test.YtjlbmdcljikojaaPureIsaBack3
set_option linter.unusedVariables false
set_option linter.unusedSimpArgs false
set_option autoImplicit false
set_option maxRecDepth 10000
namespace Go.Va
theorem alive_8 : atlaslaw19_alive.f 64 = some true := by kernel_rfl
theorem any15_8 (a b c d : Int) : isa_any15.f 64 [a, b, c, d] = some (a == 15 || (b == 15 || (c == 15 || d == 15))) := by
  have l : isa_any15.q0.l 64 64 ([a, b, c, d], 4, 0) = bif a == 15 then some (Sum.inl true) else (bif b == 15 then some (Sum.inl true) else (bif c == 15 then some (Sum.inl true) else (bif d == 15 then some (Sum.inl true) else some (Sum.inr ())))) := by kernel_rfl
  have e : isa_any15.f 64 [a, b, c, d] = (isa_any15.q0.l 64 64 ([a, b, c, d], 4, 0)).bind fun r3 => (Sum.elim (fun r4 => (some r4)) (fun r5 => (some false)) r3) := by kernel_rfl
  rw [e, l]
  cases (a == 15) <;> cases (b == 15) <;> cases (c == 15) <;> cases (d == 15) <;> rfl
/-- Something is answered. -/
def Tot {α : Type} (r : Option α) : Prop := ∃ v, r = some v
theorem Tot.bif {α : Type} {b : Bool} {p q : Option α} (h1 : b = true → Tot p) (h2 : b = false → Tot q) : Tot (bif b then p else q) := by cases b; exact h2 rfl; exact h1 rfl
theorem Tot.is {α : Type} {v : α} : Tot (some v) := ⟨v, rfl⟩
theorem rn_low (n : Int) : decide (IntKind.wrap .u64 n < 0) = false := by
  have e : IntKind.wrap .u64 n = n % 18446744073709551616 := by rfl
  rw [e]; simp; omega
theorem may_tot (j : T26) : Tot (isa_may.f 64 j) := by
  unfold isa_may.f isa_may.q0.l isa_wide.f
  simp only [any15_8, rn_low, cond_false, Option.bind_some, cond_bind]
  repeat' first
    | exact Tot.is
    | refine Tot.bif (fun _ => ?_) fun _ => ?_
theorem may_op0 (k : Nat) (j : T26) (h : isa_may.f k j = some true) : j.f1_Op ≠ 0 ∧ j.f0_Cond ≠ 15 := by
  unfold isa_may.f at h
  refine ⟨fun e => ?_, fun e => ?_⟩
  · rw [e] at h
    cases hc : (j.f0_Cond == 15) <;> rw [hc] at h <;> cases h
  · rw [e] at h
    cases h
/-- What Decode answers of a word. -/
theorem decode_8 (x : Int) (h0 : 0 ≤ x) (h1 : x < 4294967296) :
    isa_Decode.f 64 x = some (⟨0, 0, false, 0, 0, 0, 0, 0, 0, 0, 0, 0, false, false, false, 0, 0, 0, 0, 0⟩, false) ∨
    ∃ j, isa_Decode.f 64 x = some (j, true) ∧ 1 ≤ j.f1_Op ∧ j.f1_Op ≤ 52 ∧ isa_lay.f j = some x ∧ isa_says.f 64 x = some j ∧ isa_may.f 64 j = some true := by
  obtain ⟨j, hj, hr⟩ := says_row 64 x h0 h1
  obtain ⟨b, hb⟩ := may_tot j
  have e : isa_Decode.f 64 x = (bif (!b) then (some (⟨0, 0, false, 0, 0, 0, 0, 0, 0, 0, 0, 0, false, false, false, 0, 0, 0, 0, 0⟩, false)) else (some (j, true))) := by
    have e1 : isa_Decode.f 64 x = (isa_says.f 64 x).bind fun r1 => (isa_may.f 64 r1).bind fun r2 => bif (!r2) then (some (⟨0, 0, false, 0, 0, 0, 0, 0, 0, 0, 0, 0, false, false, false, 0, 0, 0, 0, 0⟩, false)) else (some (r1, true)) := rfl
    rw [e1, hj, Option.bind_some, hb, Option.bind_some]
  cases b with
  | false => exact Or.inl e
  | true =>
    have m := may_op0 64 j hb
    rcases hr with rfl | ⟨o1, o2, hl⟩
    · exact absurd rfl m.1
    · exact Or.inr ⟨j, e, o1, o2, hl, hj, hb⟩
theorem decode_any (x : Int) (h0 : 0 ≤ x) (h1 : x < 4294967296) : ∃ j b, isa_Decode.f 64 x = some (j, b) := by
  rcases decode_8 x h0 h1 with h | ⟨j, h, _⟩
  · exact ⟨_, _, h⟩
  · exact ⟨_, _, h⟩
theorem encode_back (x : Int) (j : T26) (o1 : 1 ≤ j.f1_Op) (o2 : j.f1_Op ≤ 52) (hl : isa_lay.f j = some x) (h : isa_Decode.f 64 x = some (j, true)) : isa_Encode.f 64 j = some (x, 0) := by
  have d1 : decide (j.f1_Op < 1) = false := by simp; omega
  have d2 : decide (j.f1_Op > 52) = false := by simp; omega
  have hl' : isa_lay.f ⟨j.f0_Cond, j.f1_Op, j.f2_S, j.f3_Form, j.f4_Rd, j.f5_Rn, j.f6_Rm, j.f7_Rs, j.f8_Ra, j.f9_Imm, j.f10_Shift, j.f11_Amount, j.f12_Pre, j.f13_Up, j.f14_Write, j.f15_List, j.f16_Tuple_CRn, j.f17_Tuple_Op1, j.f18_Tuple_CRm, j.f19_Tuple_Op2⟩ = some x := hl
  unfold isa_Encode.f
  simp only [d1, d2, hl', h, cond_false, Option.bind_some, Bool.not_true, beq_self_eq_true, Bool.and_true, Bool.and_self]
theorem right_back (x : Int) (j : T26) (h : isa_Encode.f 64 j = some (x, 0)) : isa_Right.f 64 j = some true := by
  have e : isa_Right.f 64 j = (isa_Encode.f 64 j).bind fun r1 => (some (r1.2 == 0)) := rfl
  rw [e, h]; rfl
end Go.Va
