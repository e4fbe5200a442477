/-
  No two words say the same, and the condition stands by itself: what isa.IsaBits computes is true.
  Conditions: none.
-/
import Derived.Test.YtjlbmdcljikojaaPureIsaTwin
set_option linter.unusedVariables false
set_option linter.unusedSimpArgs false
set_option autoImplicit false
set_option maxRecDepth 10000
namespace Go.Va
theorem bits_rest (c : Int) (j j2 : T26) (b2 : Bool) (h15 : c = 15 → j2 = ⟨0, 0, false, 0, 0, 0, 0, 0, 0, 0, 0, 0, false, false, false, 0, 0, 0, 0, 0⟩ ∧ b2 = false) (h46 : c ≠ 15 → j.f1_Op = 46 → c ≠ 14 → j2 = ⟨0, 0, false, 0, 0, 0, 0, 0, 0, 0, 0, 0, false, false, false, 0, 0, 0, 0, 0⟩ ∧ b2 = false) (hc : c ≠ 15 → (j.f1_Op = 46 → c = 14) → j2 = withC j c ∧ b2 = true) :
    (bif (c == 15) then (bif (!b2) then (some ((j2.f0_Cond == 0) && ((j2.f1_Op == 0) && ((j2.f2_S == false) && ((j2.f3_Form == 0) && ((j2.f4_Rd == 0) && ((j2.f5_Rn == 0) && ((j2.f6_Rm == 0) && ((j2.f7_Rs == 0) && ((j2.f8_Ra == 0) && ((j2.f9_Imm == 0) && ((j2.f10_Shift == 0) && ((j2.f11_Amount == 0) && ((j2.f12_Pre == false) && ((j2.f13_Up == false) && ((j2.f14_Write == false) && ((j2.f15_List == 0) && (((j2.f16_Tuple_CRn == 0) && ((j2.f17_Tuple_Op1 == 0) && ((j2.f18_Tuple_CRm == 0) && ((j2.f19_Tuple_Op2 == 0) && true)))) && true)))))))))))))))))) else (some false)) else (bif (j.f1_Op == 46) then (bif (c != 14) then (bif (!b2) then (some ((j2.f0_Cond == 0) && ((j2.f1_Op == 0) && ((j2.f2_S == false) && ((j2.f3_Form == 0) && ((j2.f4_Rd == 0) && ((j2.f5_Rn == 0) && ((j2.f6_Rm == 0) && ((j2.f7_Rs == 0) && ((j2.f8_Ra == 0) && ((j2.f9_Imm == 0) && ((j2.f10_Shift == 0) && ((j2.f11_Amount == 0) && ((j2.f12_Pre == false) && ((j2.f13_Up == false) && ((j2.f14_Write == false) && ((j2.f15_List == 0) && (((j2.f16_Tuple_CRn == 0) && ((j2.f17_Tuple_Op1 == 0) && ((j2.f18_Tuple_CRm == 0) && ((j2.f19_Tuple_Op2 == 0) && true)))) && true)))))))))))))))))) else (some false)) else (bif b2 then (some ((j2.f0_Cond == c) && ((j2.f1_Op == j.f1_Op) && ((j2.f2_S == j.f2_S) && ((j2.f3_Form == j.f3_Form) && ((j2.f4_Rd == j.f4_Rd) && ((j2.f5_Rn == j.f5_Rn) && ((j2.f6_Rm == j.f6_Rm) && ((j2.f7_Rs == j.f7_Rs) && ((j2.f8_Ra == j.f8_Ra) && ((j2.f9_Imm == j.f9_Imm) && ((j2.f10_Shift == j.f10_Shift) && ((j2.f11_Amount == j.f11_Amount) && ((j2.f12_Pre == j.f12_Pre) && ((j2.f13_Up == j.f13_Up) && ((j2.f14_Write == j.f14_Write) && ((j2.f15_List == j.f15_List) && (((j2.f16_Tuple_CRn == j.f16_Tuple_CRn) && ((j2.f17_Tuple_Op1 == j.f17_Tuple_Op1) && ((j2.f18_Tuple_CRm == j.f18_Tuple_CRm) && ((j2.f19_Tuple_Op2 == j.f19_Tuple_Op2) && true)))) && true)))))))))))))))))) else (some false))) else (bif b2 then (some ((j2.f0_Cond == c) && ((j2.f1_Op == j.f1_Op) && ((j2.f2_S == j.f2_S) && ((j2.f3_Form == j.f3_Form) && ((j2.f4_Rd == j.f4_Rd) && ((j2.f5_Rn == j.f5_Rn) && ((j2.f6_Rm == j.f6_Rm) && ((j2.f7_Rs == j.f7_Rs) && ((j2.f8_Ra == j.f8_Ra) && ((j2.f9_Imm == j.f9_Imm) && ((j2.f10_Shift == j.f10_Shift) && ((j2.f11_Amount == j.f11_Amount) && ((j2.f12_Pre == j.f12_Pre) && ((j2.f13_Up == j.f13_Up) && ((j2.f14_Write == j.f14_Write) && ((j2.f15_List == j.f15_List) && (((j2.f16_Tuple_CRn == j.f16_Tuple_CRn) && ((j2.f17_Tuple_Op1 == j.f17_Tuple_Op1) && ((j2.f18_Tuple_CRm == j.f18_Tuple_CRm) && ((j2.f19_Tuple_Op2 == j.f19_Tuple_Op2) && true)))) && true)))))))))))))))))) else (some false)))) = some true := by
  by_cases e : c = 15
  · obtain ⟨rfl, rfl⟩ := h15 e
    subst e; rfl
  · have a1 : (c == 15) = false := by simpa using e
    rw [a1, cond_false]
    by_cases e2 : j.f1_Op = 46
    · have a2 : (j.f1_Op == 46) = true := by simpa using e2
      rw [a2, cond_true]
      by_cases e3 : c = 14
      · obtain ⟨rfl, rfl⟩ := hc e (fun _ => e3)
        subst e3
        simp only [bne_self_eq_false, cond_false, cond_true, beq_self_eq_true, Bool.and_true, Bool.and_self]
      · have a3 : (c != 14) = true := by simpa using e3
        obtain ⟨rfl, rfl⟩ := h46 e e2 e3
        rw [a3, cond_true]; rfl
    · have a2 : (j.f1_Op == 46) = false := by simpa using e2
      obtain ⟨rfl, rfl⟩ := hc e (fun h => absurd h e2)
      rw [a2, cond_false]
      simp only [cond_false, cond_true, beq_self_eq_true, Bool.and_true, Bool.and_self]

theorem fields_eqB {a b : T26} (h : ((a.f0_Cond == b.f0_Cond) && ((a.f1_Op == b.f1_Op) && ((a.f2_S == b.f2_S) && ((a.f3_Form == b.f3_Form) && ((a.f4_Rd == b.f4_Rd) && ((a.f5_Rn == b.f5_Rn) && ((a.f6_Rm == b.f6_Rm) && ((a.f7_Rs == b.f7_Rs) && ((a.f8_Ra == b.f8_Ra) && ((a.f9_Imm == b.f9_Imm) && ((a.f10_Shift == b.f10_Shift) && ((a.f11_Amount == b.f11_Amount) && ((a.f12_Pre == b.f12_Pre) && ((a.f13_Up == b.f13_Up) && ((a.f14_Write == b.f14_Write) && ((a.f15_List == b.f15_List) && (((a.f16_Tuple_CRn == b.f16_Tuple_CRn) && ((a.f17_Tuple_Op1 == b.f17_Tuple_Op1) && ((a.f18_Tuple_CRm == b.f18_Tuple_CRm) && ((a.f19_Tuple_Op2 == b.f19_Tuple_Op2) && true)))) && true))))))))))))))))) = true) : a = b := by
  cases a; cases b
  simp only [Bool.and_eq_true, beq_iff_eq, Bool.and_true, and_assoc] at h
  simp only [T26.mk.injEq]
  exact h
theorem low_bit (a : Int) (w : (Lit.int .i64 a).wf = true) : 0 ≤ Int.tmod (IntKind.wrap .u64 a) 32 ∧ Int.tmod (IntKind.wrap .u64 a) 32 < 32 := by
  have e : IntKind.wrap .u64 a = a % 18446744073709551616 := by rfl
  rw [e, Int.tmod_eq_emod_of_nonneg (by omega)]; omega
theorem and_15_i64 (a : Int) (h0 : -9223372036854775808 ≤ a) (h1 : a < 9223372036854775808) : andI .i64 a 15 = a % 16 := by
  have hb : IntKind.i64.bits = 64 := rfl
  unfold andI
  rw [hb, BitVec.toNat_and]
  have e1 : (BitVec.ofInt 64 (15 : Int)).toNat = 2 ^ 4 - 1 := by rfl
  rw [e1, Nat.and_two_pow_sub_one_eq_mod]
  have e2 : (((BitVec.ofInt 64 a).toNat % 2 ^ 4 : Nat) : Int) = a % 16 := by
    rw [BitVec.toNat_ofInt]
    have : (0 : Int) ≤ a % ((2 ^ 64 : Nat) : Int) := Int.emod_nonneg _ (by decide)
    rw [Int.natCast_emod, Int.toNat_of_nonneg this]
    simp only [Nat.reducePow]
    omega
  rw [e2, wrap_i64 _ (by omega) (by omega)]
theorem xor_ne (x n : Int) (h0 : 0 ≤ x) (h1 : x < 4294967296) (n0 : 0 ≤ n) (n1 : n < 32) : xorI .u32 x (shlI .u32 1 n) ≠ x ∧ 0 ≤ xorI .u32 x (shlI .u32 1 n) ∧ xorI .u32 x (shlI .u32 1 n) < 4294967296 := by
  have hb : IntKind.u32.bits = 32 := rfl
  obtain ⟨X, rfl⟩ := Int.eq_ofNat_of_zero_le h0
  obtain ⟨m, rfl⟩ := Int.eq_ofNat_of_zero_le n0
  have q : 2 ^ m ≤ 2 ^ 31 := Nat.pow_le_pow_right (by omega) (by omega)
  have q1 : 0 < 2 ^ m := Nat.two_pow_pos m
  have a3 : shlI .u32 1 (m : Int) = ((2 ^ m : Nat) : Int) := by
    unfold shlI
    have : min (m : Int).toNat (IntKind.u32.bits) = m := by omega
    rw [this, Int.one_mul]
    have p : ((2 : Int) ^ m) = ((2 ^ m : Nat) : Int) := by simp
    rw [p]
    exact wrap_u32 _ (by omega) (by omega)
  have e : xorI .u32 (X : Int) (shlI .u32 1 (m : Int)) = ((X ^^^ 2 ^ m : Nat) : Int) := by
    rw [a3]
    unfold xorI
    rw [hb, BitVec.toNat_xor, ofInt_toNat _ (by omega) (by omega), ofInt_toNat _ (by omega) (by omega), Int.toNat_natCast, Int.toNat_natCast]
    have l : X ^^^ 2 ^ m < 2 ^ 32 := Nat.xor_lt_two_pow (by simp only [Nat.reducePow]; omega) (by simp only [Nat.reducePow] at *; omega)
    exact wrap_u32 _ (by omega) (by simp only [Nat.reducePow] at l; omega)
  have l : X ^^^ 2 ^ m < 2 ^ 32 := Nat.xor_lt_two_pow (by simp only [Nat.reducePow]; omega) (by simp only [Nat.reducePow] at *; omega)
  rw [e]
  refine ⟨fun h => ?_, by omega, by simp only [Nat.reducePow] at l; omega⟩
  have h : X ^^^ 2 ^ m = X := by exact_mod_cast h
  have t := congrArg (fun z => z.testBit m) h
  simp [Nat.testBit_xor, Nat.testBit_two_pow_self] at t
theorem top_eq (x c : Int) (h0 : 0 ≤ x) (h1 : x < 4294967296) (c0 : 0 ≤ c) (c1 : c < 16) : orI .u32 (andNotI .u32 x 4026531840) (shlI .u32 (IntKind.wrap .u32 c) 28) = x % 268435456 + c * 268435456 := by
  have e1 : andNotI .u32 x 4026531840 = x % 268435456 := by
    have a : andNotI .u32 x 4026531840 = andI .u32 x 268435455 := by
      have hb : IntKind.u32.bits = 32 := rfl
      unfold andNotI andI
      rw [hb]; congr 2
    rw [a]; exact and_low x 28 (by decide) h0 h1
  have e2 : shlI .u32 (IntKind.wrap .u32 c) 28 = c * 2 ^ 28 := by
    rw [wrap_u32 c (by omega) (by omega)]
    show IntKind.wrap .u32 (c * 2 ^ 28) = _
    rw [wrap_u32 _ (by omega) (by omega)]
  rw [e1, e2, or_field (x % 268435456) c 28 4 (by omega) (by omega) (by omega) (by omega) (by decide) (by simp only [Int.reducePow]; omega)]
  rfl
end Go.Va
namespace Go.Proofs.Ytjlbmdcljikojaa.Pure
open Go.Va
theorem XIsaBits (a0 : Int) (a1 : Int) (a2 : Int) (w0 : (Lit.int .u32 a0).wf = true) (w1 : (Lit.int .i64 a1).wf = true) (w2 : (Lit.int .i64 a2).wf = true) : ∃ k, atlaslaw19_IsaBits.f k a0 a1 a2 = some true := by
  refine ⟨8, ?_⟩
  have w : 0 ≤ a0 ∧ a0 < 4294967296 := by
    simp only [Lit.wf, IntKind.min, IntKind.max, Bool.and_eq_true, decide_eq_true_eq] at w0
    simp [IntKind.bits, IntKind.signed] at w0
    omega
  have v : -9223372036854775808 ≤ a2 ∧ a2 < 9223372036854775808 := by
    simp only [Lit.wf, IntKind.min, IntKind.max, Bool.and_eq_true, decide_eq_true_eq] at w2
    simp [IntKind.bits, IntKind.signed] at w2
    omega
  unfold atlaslaw19_IsaBits.f
  rw [alive_8, Option.bind_some, Bool.not_true, cond_false]
  rcases decode_8 a0 w.1 w.2 with h | ⟨j, h, o1, o2, hl, hs, hm⟩
  · rw [h]; rfl
  have b := low_bit a1 w1
  obtain ⟨n, hn⟩ : ∃ n, n = Int.tmod (IntKind.wrap .u64 a1) 32 := ⟨_, rfl⟩
  rw [← hn] at b
  rw [h, Option.bind_some, Bool.not_true, cond_false, ← hn]
  have bn : decide (n < 0) = false := by simp; omega
  rw [bn, cond_false]
  obtain ⟨x1, x2, x3⟩ := xor_ne a0 n w.1 w.2 b.1 b.2
  have hc : andI .i64 a2 15 = a2 % 16 := and_15_i64 a2 v.1 v.2
  obtain ⟨c, hcc⟩ : ∃ c, c = a2 % 16 := ⟨_, rfl⟩
  have c0 : 0 ≤ c := by omega
  have c1 : c < 16 := by omega
  rw [hc, ← hcc, top_eq a0 c w.1 w.2 c0 c1]
  have dy : ∃ j2 b2, isa_Decode.f 8 (a0 % 268435456 + c * 268435456) = some (j2, b2) ∧ (c = 15 → j2 = ⟨0, 0, false, 0, 0, 0, 0, 0, 0, 0, 0, 0, false, false, false, 0, 0, 0, 0, 0⟩ ∧ b2 = false) ∧ (c ≠ 15 → j.f1_Op = 46 → c ≠ 14 → j2 = ⟨0, 0, false, 0, 0, 0, 0, 0, 0, 0, 0, 0, false, false, false, 0, 0, 0, 0, 0⟩ ∧ b2 = false) ∧ (c ≠ 15 → (j.f1_Op = 46 → c = 14) → j2 = withC j c ∧ b2 = true) := by
    have t := says_tw 8 (x := a0) (y := a0 % 268435456 + c * 268435456) (by omega) w.1 w.2 (by omega) (by omega)
    have tc : (a0 % 268435456 + c * 268435456) / 268435456 % 16 = c := by omega
    rw [tc, hs] at t
    have sy : isa_says.f 8 (a0 % 268435456 + c * 268435456) = some (withC j c) := by
      rcases t with ⟨t, _⟩ | ⟨t, _⟩ | ⟨i, t, t2⟩
      · cases t
      · injection t with t; subst t; exact absurd o1 (by decide)
      · injection t with t; subst t; exact t2
    have hj := (may_op0 8 j hm).2
    have dec : ∀ b, isa_may.f 8 (withC j c) = some b → isa_Decode.f 8 (a0 % 268435456 + c * 268435456) = (bif (!b) then (some (⟨0, 0, false, 0, 0, 0, 0, 0, 0, 0, 0, 0, false, false, false, 0, 0, 0, 0, 0⟩, false)) else (some (withC j c, true))) := by
      intro b hb
      have e1 : isa_Decode.f 8 (a0 % 268435456 + c * 268435456) = (isa_says.f 8 (a0 % 268435456 + c * 268435456)).bind fun r1 => (isa_may.f 8 r1).bind fun r2 => bif (!r2) then (some (⟨0, 0, false, 0, 0, 0, 0, 0, 0, 0, 0, 0, false, false, false, 0, 0, 0, 0, 0⟩, false)) else (some (r1, true)) := rfl
      rw [e1, sy, Option.bind_some, hb, Option.bind_some]
    by_cases e : c = 15
    · have := dec false (by rw [e]; exact may_15 8 j)
      exact ⟨_, _, this, fun _ => ⟨rfl, rfl⟩, fun h => absurd e h, fun h => absurd e h⟩
    · by_cases o46 : j.f1_Op = 46
      · have m := may_46 8 j c e o46
        by_cases e4 : c = 14
        · have := dec true (by rw [m, e4]; rfl)
          exact ⟨_, _, this, fun h => absurd h e, fun _ _ h => absurd e4 h, fun _ _ => ⟨rfl, rfl⟩⟩
        · have := dec false (by rw [m]; simpa using e4)
          exact ⟨_, _, this, fun h => absurd h e, fun _ _ _ => ⟨rfl, rfl⟩, fun _ h => absurd (h o46) e4⟩
      · have := dec true (by rw [may_c 8 j c hj e o46]; exact hm)
        exact ⟨_, _, this, fun h => absurd h e, fun _ h => absurd h o46, fun _ _ => ⟨rfl, rfl⟩⟩
  obtain ⟨j2, b2, hy, d1, d2, d3⟩ := dy
  have fin := bits_rest c j j2 b2 d1 d2 d3
  rw [hy]
  simp only [Option.bind_some]
  rcases decode_8 _ x2 x3 with g | ⟨i, g, _, _, gl, _, _⟩
  · rw [g]; exact fin
  · rw [g, Option.bind_some, cond_true]
    have ne : i ≠ j := by
      intro e
      rw [e, hl] at gl
      injection gl with gl
      exact x1 gl.symm
    rw [Bool.eq_false_iff.2 (fun hh => ne (fields_eqB hh)), cond_false]
    exact fin
end Go.Proofs.Ytjlbmdcljikojaa.Pure
