/-
  The condition of a word stands by itself: two words that differ there alone are read alike.
  Conditions: none.
-/
import Derived.Test.YtjlbmdcljikojaaPureIsaBack4
set_option linter.unusedVariables false
set_option linter.unusedSimpArgs false
set_option autoImplicit false
set_option maxRecDepth 10000
namespace Go.Va
theorem tw_0_4 {x y : Int} (e : y % 268435456 = x % 268435456) : y % 16 = x % 16 := by omega
theorem tw_0_12 {x y : Int} (e : y % 268435456 = x % 268435456) : y % 4096 = x % 4096 := by omega
theorem tw_0_24 {x y : Int} (e : y % 268435456 = x % 268435456) : y % 16777216 = x % 16777216 := by omega
theorem tw_4_1 {x y : Int} (e : y % 268435456 = x % 268435456) : y / 16 % 2 = x / 16 % 2 := by omega
theorem tw_4_4 {x y : Int} (e : y % 268435456 = x % 268435456) : y / 16 % 16 = x / 16 % 16 := by omega
theorem tw_5_2 {x y : Int} (e : y % 268435456 = x % 268435456) : y / 32 % 4 = x / 32 % 4 := by omega
theorem tw_5_3 {x y : Int} (e : y % 268435456 = x % 268435456) : y / 32 % 8 = x / 32 % 8 := by omega
theorem tw_7_1 {x y : Int} (e : y % 268435456 = x % 268435456) : y / 128 % 2 = x / 128 % 2 := by omega
theorem tw_7_5 {x y : Int} (e : y % 268435456 = x % 268435456) : y / 128 % 32 = x / 128 % 32 := by omega
theorem tw_8_4 {x y : Int} (e : y % 268435456 = x % 268435456) : y / 256 % 16 = x / 256 % 16 := by omega
theorem tw_8_12 {x y : Int} (e : y % 268435456 = x % 268435456) : y / 256 % 4096 = x / 256 % 4096 := by omega
theorem tw_10_2 {x y : Int} (e : y % 268435456 = x % 268435456) : y / 1024 % 4 = x / 1024 % 4 := by omega
theorem tw_12_4 {x y : Int} (e : y % 268435456 = x % 268435456) : y / 4096 % 16 = x / 4096 % 16 := by omega
theorem tw_16_4 {x y : Int} (e : y % 268435456 = x % 268435456) : y / 65536 % 16 = x / 65536 % 16 := by omega
theorem tw_20_1 {x y : Int} (e : y % 268435456 = x % 268435456) : y / 1048576 % 2 = x / 1048576 % 2 := by omega
theorem tw_20_3 {x y : Int} (e : y % 268435456 = x % 268435456) : y / 1048576 % 8 = x / 1048576 % 8 := by omega
theorem tw_21_1 {x y : Int} (e : y % 268435456 = x % 268435456) : y / 2097152 % 2 = x / 2097152 % 2 := by omega
theorem tw_21_3 {x y : Int} (e : y % 268435456 = x % 268435456) : y / 2097152 % 8 = x / 2097152 % 8 := by omega
theorem tw_21_4 {x y : Int} (e : y % 268435456 = x % 268435456) : y / 2097152 % 16 = x / 2097152 % 16 := by omega
theorem tw_22_1 {x y : Int} (e : y % 268435456 = x % 268435456) : y / 4194304 % 2 = x / 4194304 % 2 := by omega
theorem tw_23_1 {x y : Int} (e : y % 268435456 = x % 268435456) : y / 8388608 % 2 = x / 8388608 % 2 := by omega
theorem tw_23_2 {x y : Int} (e : y % 268435456 = x % 268435456) : y / 8388608 % 4 = x / 8388608 % 4 := by omega
theorem tw_24_1 {x y : Int} (e : y % 268435456 = x % 268435456) : y / 16777216 % 2 = x / 16777216 % 2 := by omega
theorem tw_24_4 {x y : Int} (e : y % 268435456 = x % 268435456) : y / 16777216 % 16 = x / 16777216 % 16 := by omega
theorem tw_25_1 {x y : Int} (e : y % 268435456 = x % 268435456) : y / 33554432 % 2 = x / 33554432 % 2 := by omega
theorem tw_25_3 {x y : Int} (e : y % 268435456 = x % 268435456) : y / 33554432 % 8 = x / 33554432 % 8 := by omega
theorem tw_shl {x y : Int} (e : y % 268435456 = x % 268435456) : shlI .u32 y 8 = shlI .u32 x 8 := by
  have f : ∀ z : Int, shlI .u32 z 8 = z * 256 % 4294967296 := fun z => by rfl
  rw [f, f]; omega
theorem tw_u16 {x y : Int} (e : y % 268435456 = x % 268435456) : IntKind.wrap .u16 y = IntKind.wrap .u16 x := by
  have f : ∀ z : Int, IntKind.wrap .u16 z = z % 65536 := fun z => by rfl
  rw [f, f]; omega
theorem and_28 (x m : Int) (h0 : 0 ≤ x) (h1 : x < 4294967296) (m0 : 0 ≤ m) (m1 : m < 268435456) : andI .u32 x m = andI .u32 (x % 268435456) m := by
  have key : ∀ X : Nat, X < 4294967296 → ∀ M : Nat, M < 268435456 → andI .u32 (X : Int) (M : Int) = ((X % 268435456 &&& M : Nat) : Int) := by
    intro X hX M hM
    have hb : IntKind.u32.bits = 32 := rfl
    unfold andI
    rw [hb, BitVec.toNat_and, ofInt_toNat _ (by omega) (by omega), ofInt_toNat _ (by omega) (by omega), Int.toNat_natCast, Int.toNat_natCast]
    have l : X &&& M ≤ M := Nat.and_le_right
    have p : X &&& M = X % 268435456 &&& M := by
      have a : (X &&& M) % 2 ^ 28 = X % 2 ^ 28 &&& M % 2 ^ 28 := Nat.and_mod_two_pow
      rw [Nat.mod_eq_of_lt (show X &&& M < 2 ^ 28 by simp only [Nat.reducePow]; omega), Nat.mod_eq_of_lt (show M < 2 ^ 28 by simp only [Nat.reducePow]; omega)] at a
      exact a
    rw [wrap_u32 _ (by omega) (by omega), p]
  obtain ⟨X, rfl⟩ := Int.eq_ofNat_of_zero_le h0
  obtain ⟨M, rfl⟩ := Int.eq_ofNat_of_zero_le m0
  have c : ((X : Int) % 268435456) = ((X % 268435456 : Nat) : Int) := by omega
  rw [c, key X (by omega) M (by omega), key (X % 268435456) (by omega) M (by omega), Nat.mod_mod]
theorem tw_and {x y : Int} (e : y % 268435456 = x % 268435456) (x0 : 0 ≤ x) (x1 : x < 4294967296) (y0 : 0 ≤ y) (y1 : y < 4294967296) {m : Int} (m0 : 0 ≤ m) (m1 : m < 268435456) : andI .u32 y m = andI .u32 x m := by
  rw [and_28 y m y0 y1 m0 m1, and_28 x m x0 x1 m0 m1, e]
/-- The same answer, but for the condition. -/
def Twin (c : Int) (r r' : Option T26) : Prop := (r = none ∧ r' = none) ∨ (r = some ⟨0, 0, false, 0, 0, 0, 0, 0, 0, 0, 0, 0, false, false, false, 0, 0, 0, 0, 0⟩ ∧ r' = some ⟨0, 0, false, 0, 0, 0, 0, 0, 0, 0, 0, 0, false, false, false, 0, 0, 0, 0, 0⟩) ∨ ∃ j : T26, r = some j ∧ r' = some ⟨c, j.f1_Op, j.f2_S, j.f3_Form, j.f4_Rd, j.f5_Rn, j.f6_Rm, j.f7_Rs, j.f8_Ra, j.f9_Imm, j.f10_Shift, j.f11_Amount, j.f12_Pre, j.f13_Up, j.f14_Write, j.f15_List, j.f16_Tuple_CRn, j.f17_Tuple_Op1, j.f18_Tuple_CRm, j.f19_Tuple_Op2⟩
theorem Twin.no {c : Int} : Twin c none none := Or.inl ⟨rfl, rfl⟩
theorem Twin.not {c : Int} : Twin c (some ⟨0, 0, false, 0, 0, 0, 0, 0, 0, 0, 0, 0, false, false, false, 0, 0, 0, 0, 0⟩) (some ⟨0, 0, false, 0, 0, 0, 0, 0, 0, 0, 0, 0, false, false, false, 0, 0, 0, 0, 0⟩) := Or.inr (Or.inl ⟨rfl, rfl⟩)
theorem Twin.is {c a f1 f3 f4 f5 f6 f7 f8 f9 f10 f11 f15 f16 f17 f18 f19 : Int} {f2 f12 f13 f14 : Bool} : Twin c (some ⟨a, f1, f2, f3, f4, f5, f6, f7, f8, f9, f10, f11, f12, f13, f14, f15, f16, f17, f18, f19⟩) (some ⟨c, f1, f2, f3, f4, f5, f6, f7, f8, f9, f10, f11, f12, f13, f14, f15, f16, f17, f18, f19⟩) := Or.inr (Or.inr ⟨_, rfl, rfl⟩)
theorem Twin.bif {c : Int} {b : Bool} {p q p' q' : Option T26} (h1 : Twin c p p') (h2 : Twin c q q') : Twin c (bif b then p else q) (bif b then p' else q') := by cases b; exact h2; exact h1
theorem Twin.bind {c : Int} {α : Type} {r : Option α} {P Q : α → Option T26} (h : ∀ v, Twin c (P v) (Q v)) : Twin c (r.bind P) (r.bind Q) := by cases r with | none => exact Twin.no | some v => exact h v
theorem Twin.eta {c : Int} {r r' : Option T26} (h : Twin c r r') : Twin c (r.bind fun r3 => (some (⟨r3.f0_Cond, r3.f1_Op, r3.f2_S, r3.f3_Form, r3.f4_Rd, r3.f5_Rn, r3.f6_Rm, r3.f7_Rs, r3.f8_Ra, r3.f9_Imm, r3.f10_Shift, r3.f11_Amount, r3.f12_Pre, r3.f13_Up, r3.f14_Write, r3.f15_List, r3.f16_Tuple_CRn, r3.f17_Tuple_Op1, r3.f18_Tuple_CRm, r3.f19_Tuple_Op2⟩ : T26))) (r'.bind fun r3 => (some (⟨r3.f0_Cond, r3.f1_Op, r3.f2_S, r3.f3_Form, r3.f4_Rd, r3.f5_Rn, r3.f6_Rm, r3.f7_Rs, r3.f8_Ra, r3.f9_Imm, r3.f10_Shift, r3.f11_Amount, r3.f12_Pre, r3.f13_Up, r3.f14_Write, r3.f15_List, r3.f16_Tuple_CRn, r3.f17_Tuple_Op1, r3.f18_Tuple_CRm, r3.f19_Tuple_Op2⟩ : T26))) := by cases r <;> cases r' <;> exact h
theorem product_tw {x y : Int} (e : y % 268435456 = x % 268435456) (x0 : 0 ≤ x) (x1 : x < 4294967296) (y0 : 0 ≤ y) (y1 : y < 4294967296) {a c : Int} : Twin c (isa_product.f x (insC a)) (isa_product.f y (insC c)) := by
  unfold isa_product.f
  simp only [get_31_28 x0 x1, get_27_25 x0 x1, get_27_24 x0 x1, get_24_24 x0 x1, get_24_23 x0 x1, get_24_21 x0 x1, get_23_21 x0 x1, get_23_0 x0 x1, get_22_22 x0 x1, get_22_20 x0 x1, get_20_20 x0 x1, get_19_16 x0 x1, get_19_8 x0 x1, get_15_12 x0 x1, get_11_10 x0 x1, get_11_8 x0 x1, get_11_7 x0 x1, get_11_0 x0 x1, get_7_5 x0 x1, get_7_4 x0 x1, get_6_5 x0 x1, get_3_0 x0 x1, bit_4 x0 x1, bit_7 x0 x1, bit_20 x0 x1, bit_21 x0 x1, bit_22 x0 x1, bit_23 x0 x1, bit_24 x0 x1, bit_25 x0 x1, Option.bind_some, get_31_28 y0 y1, get_27_25 y0 y1, get_27_24 y0 y1, get_24_24 y0 y1, get_24_23 y0 y1, get_24_21 y0 y1, get_23_21 y0 y1, get_23_0 y0 y1, get_22_22 y0 y1, get_22_20 y0 y1, get_20_20 y0 y1, get_19_16 y0 y1, get_19_8 y0 y1, get_15_12 y0 y1, get_11_10 y0 y1, get_11_8 y0 y1, get_11_7 y0 y1, get_11_0 y0 y1, get_7_5 y0 y1, get_7_4 y0 y1, get_6_5 y0 y1, get_3_0 y0 y1, bit_4 y0 y1, bit_7 y0 y1, bit_20 y0 y1, bit_21 y0 y1, bit_22 y0 y1, bit_23 y0 y1, bit_24 y0 y1, bit_25 y0 y1, tw_0_4 e, tw_0_12 e, tw_0_24 e, tw_4_1 e, tw_4_4 e, tw_5_2 e, tw_5_3 e, tw_7_1 e, tw_7_5 e, tw_8_4 e, tw_8_12 e, tw_10_2 e, tw_12_4 e, tw_16_4 e, tw_20_1 e, tw_20_3 e, tw_21_1 e, tw_21_3 e, tw_21_4 e, tw_22_1 e, tw_23_1 e, tw_23_2 e, tw_24_1 e, tw_24_4 e, tw_25_1 e, tw_25_3 e, tw_and e x0 x1 y0 y1 (m := 263258096) (by decide) (by decide), tw_and e x0 x1 y0 y1 (m := 268435440) (by decide) (by decide), tw_and e x0 x1 y0 y1 (m := 267387120) (by decide) (by decide), tw_and e x0 x1 y0 y1 (m := 268374000) (by decide) (by decide), tw_and e x0 x1 y0 y1 (m := 263196656) (by decide) (by decide), tw_and e x0 x1 y0 y1 (m := 268435455) (by decide) (by decide), tw_and e x0 x1 y0 y1 (m := 261030896) (by decide) (by decide), tw_shl e, tw_u16 e]
  repeat' first
    | with_reducible exact Twin.no
    | with_reducible exact Twin.not
    | with_reducible exact Twin.is
    | (with_reducible refine Twin.bif ?_ ?_)
    | (with_reducible refine Twin.bind (fun v => ?_))
theorem halves_tw {x y : Int} (e : y % 268435456 = x % 268435456) (x0 : 0 ≤ x) (x1 : x < 4294967296) (y0 : 0 ≤ y) (y1 : y < 4294967296) {a c : Int} : Twin c (isa_halves.f x (insC a)) (isa_halves.f y (insC c)) := by
  unfold isa_halves.f
  simp only [get_31_28 x0 x1, get_27_25 x0 x1, get_27_24 x0 x1, get_24_24 x0 x1, get_24_23 x0 x1, get_24_21 x0 x1, get_23_21 x0 x1, get_23_0 x0 x1, get_22_22 x0 x1, get_22_20 x0 x1, get_20_20 x0 x1, get_19_16 x0 x1, get_19_8 x0 x1, get_15_12 x0 x1, get_11_10 x0 x1, get_11_8 x0 x1, get_11_7 x0 x1, get_11_0 x0 x1, get_7_5 x0 x1, get_7_4 x0 x1, get_6_5 x0 x1, get_3_0 x0 x1, bit_4 x0 x1, bit_7 x0 x1, bit_20 x0 x1, bit_21 x0 x1, bit_22 x0 x1, bit_23 x0 x1, bit_24 x0 x1, bit_25 x0 x1, Option.bind_some, get_31_28 y0 y1, get_27_25 y0 y1, get_27_24 y0 y1, get_24_24 y0 y1, get_24_23 y0 y1, get_24_21 y0 y1, get_23_21 y0 y1, get_23_0 y0 y1, get_22_22 y0 y1, get_22_20 y0 y1, get_20_20 y0 y1, get_19_16 y0 y1, get_19_8 y0 y1, get_15_12 y0 y1, get_11_10 y0 y1, get_11_8 y0 y1, get_11_7 y0 y1, get_11_0 y0 y1, get_7_5 y0 y1, get_7_4 y0 y1, get_6_5 y0 y1, get_3_0 y0 y1, bit_4 y0 y1, bit_7 y0 y1, bit_20 y0 y1, bit_21 y0 y1, bit_22 y0 y1, bit_23 y0 y1, bit_24 y0 y1, bit_25 y0 y1, tw_0_4 e, tw_0_12 e, tw_0_24 e, tw_4_1 e, tw_4_4 e, tw_5_2 e, tw_5_3 e, tw_7_1 e, tw_7_5 e, tw_8_4 e, tw_8_12 e, tw_10_2 e, tw_12_4 e, tw_16_4 e, tw_20_1 e, tw_20_3 e, tw_21_1 e, tw_21_3 e, tw_21_4 e, tw_22_1 e, tw_23_1 e, tw_23_2 e, tw_24_1 e, tw_24_4 e, tw_25_1 e, tw_25_3 e, tw_and e x0 x1 y0 y1 (m := 263258096) (by decide) (by decide), tw_and e x0 x1 y0 y1 (m := 268435440) (by decide) (by decide), tw_and e x0 x1 y0 y1 (m := 267387120) (by decide) (by decide), tw_and e x0 x1 y0 y1 (m := 268374000) (by decide) (by decide), tw_and e x0 x1 y0 y1 (m := 263196656) (by decide) (by decide), tw_and e x0 x1 y0 y1 (m := 268435455) (by decide) (by decide), tw_and e x0 x1 y0 y1 (m := 261030896) (by decide) (by decide), tw_shl e, tw_u16 e]
  repeat' first
    | with_reducible exact Twin.no
    | with_reducible exact Twin.not
    | with_reducible exact Twin.is
    | (with_reducible refine Twin.bif ?_ ?_)
    | (with_reducible refine Twin.bind (fun v => ?_))
theorem special_tw {x y : Int} (e : y % 268435456 = x % 268435456) (x0 : 0 ≤ x) (x1 : x < 4294967296) (y0 : 0 ≤ y) (y1 : y < 4294967296) {a c : Int} : Twin c (isa_special.f x (insC a)) (isa_special.f y (insC c)) := by
  unfold isa_special.f
  simp only [get_31_28 x0 x1, get_27_25 x0 x1, get_27_24 x0 x1, get_24_24 x0 x1, get_24_23 x0 x1, get_24_21 x0 x1, get_23_21 x0 x1, get_23_0 x0 x1, get_22_22 x0 x1, get_22_20 x0 x1, get_20_20 x0 x1, get_19_16 x0 x1, get_19_8 x0 x1, get_15_12 x0 x1, get_11_10 x0 x1, get_11_8 x0 x1, get_11_7 x0 x1, get_11_0 x0 x1, get_7_5 x0 x1, get_7_4 x0 x1, get_6_5 x0 x1, get_3_0 x0 x1, bit_4 x0 x1, bit_7 x0 x1, bit_20 x0 x1, bit_21 x0 x1, bit_22 x0 x1, bit_23 x0 x1, bit_24 x0 x1, bit_25 x0 x1, Option.bind_some, get_31_28 y0 y1, get_27_25 y0 y1, get_27_24 y0 y1, get_24_24 y0 y1, get_24_23 y0 y1, get_24_21 y0 y1, get_23_21 y0 y1, get_23_0 y0 y1, get_22_22 y0 y1, get_22_20 y0 y1, get_20_20 y0 y1, get_19_16 y0 y1, get_19_8 y0 y1, get_15_12 y0 y1, get_11_10 y0 y1, get_11_8 y0 y1, get_11_7 y0 y1, get_11_0 y0 y1, get_7_5 y0 y1, get_7_4 y0 y1, get_6_5 y0 y1, get_3_0 y0 y1, bit_4 y0 y1, bit_7 y0 y1, bit_20 y0 y1, bit_21 y0 y1, bit_22 y0 y1, bit_23 y0 y1, bit_24 y0 y1, bit_25 y0 y1, tw_0_4 e, tw_0_12 e, tw_0_24 e, tw_4_1 e, tw_4_4 e, tw_5_2 e, tw_5_3 e, tw_7_1 e, tw_7_5 e, tw_8_4 e, tw_8_12 e, tw_10_2 e, tw_12_4 e, tw_16_4 e, tw_20_1 e, tw_20_3 e, tw_21_1 e, tw_21_3 e, tw_21_4 e, tw_22_1 e, tw_23_1 e, tw_23_2 e, tw_24_1 e, tw_24_4 e, tw_25_1 e, tw_25_3 e, tw_and e x0 x1 y0 y1 (m := 263258096) (by decide) (by decide), tw_and e x0 x1 y0 y1 (m := 268435440) (by decide) (by decide), tw_and e x0 x1 y0 y1 (m := 267387120) (by decide) (by decide), tw_and e x0 x1 y0 y1 (m := 268374000) (by decide) (by decide), tw_and e x0 x1 y0 y1 (m := 263196656) (by decide) (by decide), tw_and e x0 x1 y0 y1 (m := 268435455) (by decide) (by decide), tw_and e x0 x1 y0 y1 (m := 261030896) (by decide) (by decide), tw_shl e, tw_u16 e]
  repeat' first
    | with_reducible exact Twin.no
    | with_reducible exact Twin.not
    | with_reducible exact Twin.is
    | (with_reducible refine Twin.bif ?_ ?_)
    | (with_reducible refine Twin.bind (fun v => ?_))
theorem data_tw {x y : Int} (e : y % 268435456 = x % 268435456) (x0 : 0 ≤ x) (x1 : x < 4294967296) (y0 : 0 ≤ y) (y1 : y < 4294967296) {a c form rm rs imm sh am : Int} : Twin c (isa_data.f x ⟨a, 0, false, form, 0, 0, rm, rs, 0, imm, sh, am, false, false, false, 0, 0, 0, 0, 0⟩) (isa_data.f y ⟨c, 0, false, form, 0, 0, rm, rs, 0, imm, sh, am, false, false, false, 0, 0, 0, 0, 0⟩) := by
  unfold isa_data.f
  simp only [get_31_28 x0 x1, get_27_25 x0 x1, get_27_24 x0 x1, get_24_24 x0 x1, get_24_23 x0 x1, get_24_21 x0 x1, get_23_21 x0 x1, get_23_0 x0 x1, get_22_22 x0 x1, get_22_20 x0 x1, get_20_20 x0 x1, get_19_16 x0 x1, get_19_8 x0 x1, get_15_12 x0 x1, get_11_10 x0 x1, get_11_8 x0 x1, get_11_7 x0 x1, get_11_0 x0 x1, get_7_5 x0 x1, get_7_4 x0 x1, get_6_5 x0 x1, get_3_0 x0 x1, bit_4 x0 x1, bit_7 x0 x1, bit_20 x0 x1, bit_21 x0 x1, bit_22 x0 x1, bit_23 x0 x1, bit_24 x0 x1, bit_25 x0 x1, Option.bind_some, get_31_28 y0 y1, get_27_25 y0 y1, get_27_24 y0 y1, get_24_24 y0 y1, get_24_23 y0 y1, get_24_21 y0 y1, get_23_21 y0 y1, get_23_0 y0 y1, get_22_22 y0 y1, get_22_20 y0 y1, get_20_20 y0 y1, get_19_16 y0 y1, get_19_8 y0 y1, get_15_12 y0 y1, get_11_10 y0 y1, get_11_8 y0 y1, get_11_7 y0 y1, get_11_0 y0 y1, get_7_5 y0 y1, get_7_4 y0 y1, get_6_5 y0 y1, get_3_0 y0 y1, bit_4 y0 y1, bit_7 y0 y1, bit_20 y0 y1, bit_21 y0 y1, bit_22 y0 y1, bit_23 y0 y1, bit_24 y0 y1, bit_25 y0 y1, tw_0_4 e, tw_0_12 e, tw_0_24 e, tw_4_1 e, tw_4_4 e, tw_5_2 e, tw_5_3 e, tw_7_1 e, tw_7_5 e, tw_8_4 e, tw_8_12 e, tw_10_2 e, tw_12_4 e, tw_16_4 e, tw_20_1 e, tw_20_3 e, tw_21_1 e, tw_21_3 e, tw_21_4 e, tw_22_1 e, tw_23_1 e, tw_23_2 e, tw_24_1 e, tw_24_4 e, tw_25_1 e, tw_25_3 e, tw_and e x0 x1 y0 y1 (m := 263258096) (by decide) (by decide), tw_and e x0 x1 y0 y1 (m := 268435440) (by decide) (by decide), tw_and e x0 x1 y0 y1 (m := 267387120) (by decide) (by decide), tw_and e x0 x1 y0 y1 (m := 268374000) (by decide) (by decide), tw_and e x0 x1 y0 y1 (m := 263196656) (by decide) (by decide), tw_and e x0 x1 y0 y1 (m := 268435455) (by decide) (by decide), tw_and e x0 x1 y0 y1 (m := 261030896) (by decide) (by decide), tw_shl e, tw_u16 e]
  repeat' first
    | with_reducible exact Twin.no
    | with_reducible exact Twin.not
    | with_reducible exact Twin.is
    | (with_reducible refine Twin.bif ?_ ?_)
    | (with_reducible refine Twin.bind (fun v => ?_))
theorem second_tw {x y : Int} (e : y % 268435456 = x % 268435456) (x0 : 0 ≤ x) (x1 : x < 4294967296) (y0 : 0 ≤ y) (y1 : y < 4294967296) {a c : Int} : Twin c (isa_second.f x (insC a)) (isa_second.f y (insC c)) := by
  unfold isa_second.f
  simp only [get_31_28 x0 x1, get_27_25 x0 x1, get_27_24 x0 x1, get_24_24 x0 x1, get_24_23 x0 x1, get_24_21 x0 x1, get_23_21 x0 x1, get_23_0 x0 x1, get_22_22 x0 x1, get_22_20 x0 x1, get_20_20 x0 x1, get_19_16 x0 x1, get_19_8 x0 x1, get_15_12 x0 x1, get_11_10 x0 x1, get_11_8 x0 x1, get_11_7 x0 x1, get_11_0 x0 x1, get_7_5 x0 x1, get_7_4 x0 x1, get_6_5 x0 x1, get_3_0 x0 x1, bit_4 x0 x1, bit_7 x0 x1, bit_20 x0 x1, bit_21 x0 x1, bit_22 x0 x1, bit_23 x0 x1, bit_24 x0 x1, bit_25 x0 x1, Option.bind_some, get_31_28 y0 y1, get_27_25 y0 y1, get_27_24 y0 y1, get_24_24 y0 y1, get_24_23 y0 y1, get_24_21 y0 y1, get_23_21 y0 y1, get_23_0 y0 y1, get_22_22 y0 y1, get_22_20 y0 y1, get_20_20 y0 y1, get_19_16 y0 y1, get_19_8 y0 y1, get_15_12 y0 y1, get_11_10 y0 y1, get_11_8 y0 y1, get_11_7 y0 y1, get_11_0 y0 y1, get_7_5 y0 y1, get_7_4 y0 y1, get_6_5 y0 y1, get_3_0 y0 y1, bit_4 y0 y1, bit_7 y0 y1, bit_20 y0 y1, bit_21 y0 y1, bit_22 y0 y1, bit_23 y0 y1, bit_24 y0 y1, bit_25 y0 y1, tw_0_4 e, tw_0_12 e, tw_0_24 e, tw_4_1 e, tw_4_4 e, tw_5_2 e, tw_5_3 e, tw_7_1 e, tw_7_5 e, tw_8_4 e, tw_8_12 e, tw_10_2 e, tw_12_4 e, tw_16_4 e, tw_20_1 e, tw_20_3 e, tw_21_1 e, tw_21_3 e, tw_21_4 e, tw_22_1 e, tw_23_1 e, tw_23_2 e, tw_24_1 e, tw_24_4 e, tw_25_1 e, tw_25_3 e, tw_and e x0 x1 y0 y1 (m := 263258096) (by decide) (by decide), tw_and e x0 x1 y0 y1 (m := 268435440) (by decide) (by decide), tw_and e x0 x1 y0 y1 (m := 267387120) (by decide) (by decide), tw_and e x0 x1 y0 y1 (m := 268374000) (by decide) (by decide), tw_and e x0 x1 y0 y1 (m := 263196656) (by decide) (by decide), tw_and e x0 x1 y0 y1 (m := 268435455) (by decide) (by decide), tw_and e x0 x1 y0 y1 (m := 261030896) (by decide) (by decide), tw_shl e, tw_u16 e]
  repeat' first
    | with_reducible exact Twin.no
    | with_reducible exact Twin.not
    | with_reducible exact Twin.is
    | with_reducible exact Twin.eta (data_tw e x0 x1 y0 y1)
    | (with_reducible refine Twin.bif ?_ ?_)
    | (with_reducible refine Twin.bind (fun v => ?_))
theorem media_tw {x y : Int} (e : y % 268435456 = x % 268435456) (x0 : 0 ≤ x) (x1 : x < 4294967296) (y0 : 0 ≤ y) (y1 : y < 4294967296) {a c : Int} : Twin c (isa_media.f x (insC a)) (isa_media.f y (insC c)) := by
  unfold isa_media.f
  simp only [get_31_28 x0 x1, get_27_25 x0 x1, get_27_24 x0 x1, get_24_24 x0 x1, get_24_23 x0 x1, get_24_21 x0 x1, get_23_21 x0 x1, get_23_0 x0 x1, get_22_22 x0 x1, get_22_20 x0 x1, get_20_20 x0 x1, get_19_16 x0 x1, get_19_8 x0 x1, get_15_12 x0 x1, get_11_10 x0 x1, get_11_8 x0 x1, get_11_7 x0 x1, get_11_0 x0 x1, get_7_5 x0 x1, get_7_4 x0 x1, get_6_5 x0 x1, get_3_0 x0 x1, bit_4 x0 x1, bit_7 x0 x1, bit_20 x0 x1, bit_21 x0 x1, bit_22 x0 x1, bit_23 x0 x1, bit_24 x0 x1, bit_25 x0 x1, Option.bind_some, get_31_28 y0 y1, get_27_25 y0 y1, get_27_24 y0 y1, get_24_24 y0 y1, get_24_23 y0 y1, get_24_21 y0 y1, get_23_21 y0 y1, get_23_0 y0 y1, get_22_22 y0 y1, get_22_20 y0 y1, get_20_20 y0 y1, get_19_16 y0 y1, get_19_8 y0 y1, get_15_12 y0 y1, get_11_10 y0 y1, get_11_8 y0 y1, get_11_7 y0 y1, get_11_0 y0 y1, get_7_5 y0 y1, get_7_4 y0 y1, get_6_5 y0 y1, get_3_0 y0 y1, bit_4 y0 y1, bit_7 y0 y1, bit_20 y0 y1, bit_21 y0 y1, bit_22 y0 y1, bit_23 y0 y1, bit_24 y0 y1, bit_25 y0 y1, tw_0_4 e, tw_0_12 e, tw_0_24 e, tw_4_1 e, tw_4_4 e, tw_5_2 e, tw_5_3 e, tw_7_1 e, tw_7_5 e, tw_8_4 e, tw_8_12 e, tw_10_2 e, tw_12_4 e, tw_16_4 e, tw_20_1 e, tw_20_3 e, tw_21_1 e, tw_21_3 e, tw_21_4 e, tw_22_1 e, tw_23_1 e, tw_23_2 e, tw_24_1 e, tw_24_4 e, tw_25_1 e, tw_25_3 e, tw_and e x0 x1 y0 y1 (m := 263258096) (by decide) (by decide), tw_and e x0 x1 y0 y1 (m := 268435440) (by decide) (by decide), tw_and e x0 x1 y0 y1 (m := 267387120) (by decide) (by decide), tw_and e x0 x1 y0 y1 (m := 268374000) (by decide) (by decide), tw_and e x0 x1 y0 y1 (m := 263196656) (by decide) (by decide), tw_and e x0 x1 y0 y1 (m := 268435455) (by decide) (by decide), tw_and e x0 x1 y0 y1 (m := 261030896) (by decide) (by decide), tw_shl e, tw_u16 e]
  repeat' first
    | with_reducible exact Twin.no
    | with_reducible exact Twin.not
    | with_reducible exact Twin.is
    | (with_reducible refine Twin.bif ?_ ?_)
    | (with_reducible refine Twin.bind (fun v => ?_))
theorem single_tw {x y : Int} (e : y % 268435456 = x % 268435456) (x0 : 0 ≤ x) (x1 : x < 4294967296) (y0 : 0 ≤ y) (y1 : y < 4294967296) {a c : Int} : Twin c (isa_single.f x (insC a)) (isa_single.f y (insC c)) := by
  unfold isa_single.f
  simp only [get_31_28 x0 x1, get_27_25 x0 x1, get_27_24 x0 x1, get_24_24 x0 x1, get_24_23 x0 x1, get_24_21 x0 x1, get_23_21 x0 x1, get_23_0 x0 x1, get_22_22 x0 x1, get_22_20 x0 x1, get_20_20 x0 x1, get_19_16 x0 x1, get_19_8 x0 x1, get_15_12 x0 x1, get_11_10 x0 x1, get_11_8 x0 x1, get_11_7 x0 x1, get_11_0 x0 x1, get_7_5 x0 x1, get_7_4 x0 x1, get_6_5 x0 x1, get_3_0 x0 x1, bit_4 x0 x1, bit_7 x0 x1, bit_20 x0 x1, bit_21 x0 x1, bit_22 x0 x1, bit_23 x0 x1, bit_24 x0 x1, bit_25 x0 x1, Option.bind_some, get_31_28 y0 y1, get_27_25 y0 y1, get_27_24 y0 y1, get_24_24 y0 y1, get_24_23 y0 y1, get_24_21 y0 y1, get_23_21 y0 y1, get_23_0 y0 y1, get_22_22 y0 y1, get_22_20 y0 y1, get_20_20 y0 y1, get_19_16 y0 y1, get_19_8 y0 y1, get_15_12 y0 y1, get_11_10 y0 y1, get_11_8 y0 y1, get_11_7 y0 y1, get_11_0 y0 y1, get_7_5 y0 y1, get_7_4 y0 y1, get_6_5 y0 y1, get_3_0 y0 y1, bit_4 y0 y1, bit_7 y0 y1, bit_20 y0 y1, bit_21 y0 y1, bit_22 y0 y1, bit_23 y0 y1, bit_24 y0 y1, bit_25 y0 y1, tw_0_4 e, tw_0_12 e, tw_0_24 e, tw_4_1 e, tw_4_4 e, tw_5_2 e, tw_5_3 e, tw_7_1 e, tw_7_5 e, tw_8_4 e, tw_8_12 e, tw_10_2 e, tw_12_4 e, tw_16_4 e, tw_20_1 e, tw_20_3 e, tw_21_1 e, tw_21_3 e, tw_21_4 e, tw_22_1 e, tw_23_1 e, tw_23_2 e, tw_24_1 e, tw_24_4 e, tw_25_1 e, tw_25_3 e, tw_and e x0 x1 y0 y1 (m := 263258096) (by decide) (by decide), tw_and e x0 x1 y0 y1 (m := 268435440) (by decide) (by decide), tw_and e x0 x1 y0 y1 (m := 267387120) (by decide) (by decide), tw_and e x0 x1 y0 y1 (m := 268374000) (by decide) (by decide), tw_and e x0 x1 y0 y1 (m := 263196656) (by decide) (by decide), tw_and e x0 x1 y0 y1 (m := 268435455) (by decide) (by decide), tw_and e x0 x1 y0 y1 (m := 261030896) (by decide) (by decide), tw_shl e, tw_u16 e]
  repeat' first
    | with_reducible exact Twin.no
    | with_reducible exact Twin.not
    | with_reducible exact Twin.is
    | (with_reducible refine Twin.bif ?_ ?_)
    | (with_reducible refine Twin.bind (fun v => ?_))
theorem rest_tw {x y : Int} (e : y % 268435456 = x % 268435456) (x0 : 0 ≤ x) (x1 : x < 4294967296) (y0 : 0 ≤ y) (y1 : y < 4294967296) {a c : Int} : Twin c (isa_rest.f x (insC a)) (isa_rest.f y (insC c)) := by
  unfold isa_rest.f
  simp only [get_31_28 x0 x1, get_27_25 x0 x1, get_27_24 x0 x1, get_24_24 x0 x1, get_24_23 x0 x1, get_24_21 x0 x1, get_23_21 x0 x1, get_23_0 x0 x1, get_22_22 x0 x1, get_22_20 x0 x1, get_20_20 x0 x1, get_19_16 x0 x1, get_19_8 x0 x1, get_15_12 x0 x1, get_11_10 x0 x1, get_11_8 x0 x1, get_11_7 x0 x1, get_11_0 x0 x1, get_7_5 x0 x1, get_7_4 x0 x1, get_6_5 x0 x1, get_3_0 x0 x1, bit_4 x0 x1, bit_7 x0 x1, bit_20 x0 x1, bit_21 x0 x1, bit_22 x0 x1, bit_23 x0 x1, bit_24 x0 x1, bit_25 x0 x1, Option.bind_some, get_31_28 y0 y1, get_27_25 y0 y1, get_27_24 y0 y1, get_24_24 y0 y1, get_24_23 y0 y1, get_24_21 y0 y1, get_23_21 y0 y1, get_23_0 y0 y1, get_22_22 y0 y1, get_22_20 y0 y1, get_20_20 y0 y1, get_19_16 y0 y1, get_19_8 y0 y1, get_15_12 y0 y1, get_11_10 y0 y1, get_11_8 y0 y1, get_11_7 y0 y1, get_11_0 y0 y1, get_7_5 y0 y1, get_7_4 y0 y1, get_6_5 y0 y1, get_3_0 y0 y1, bit_4 y0 y1, bit_7 y0 y1, bit_20 y0 y1, bit_21 y0 y1, bit_22 y0 y1, bit_23 y0 y1, bit_24 y0 y1, bit_25 y0 y1, tw_0_4 e, tw_0_12 e, tw_0_24 e, tw_4_1 e, tw_4_4 e, tw_5_2 e, tw_5_3 e, tw_7_1 e, tw_7_5 e, tw_8_4 e, tw_8_12 e, tw_10_2 e, tw_12_4 e, tw_16_4 e, tw_20_1 e, tw_20_3 e, tw_21_1 e, tw_21_3 e, tw_21_4 e, tw_22_1 e, tw_23_1 e, tw_23_2 e, tw_24_1 e, tw_24_4 e, tw_25_1 e, tw_25_3 e, tw_and e x0 x1 y0 y1 (m := 263258096) (by decide) (by decide), tw_and e x0 x1 y0 y1 (m := 268435440) (by decide) (by decide), tw_and e x0 x1 y0 y1 (m := 267387120) (by decide) (by decide), tw_and e x0 x1 y0 y1 (m := 268374000) (by decide) (by decide), tw_and e x0 x1 y0 y1 (m := 263196656) (by decide) (by decide), tw_and e x0 x1 y0 y1 (m := 268435455) (by decide) (by decide), tw_and e x0 x1 y0 y1 (m := 261030896) (by decide) (by decide), tw_shl e, tw_u16 e]
  repeat' first
    | with_reducible exact Twin.no
    | with_reducible exact Twin.not
    | with_reducible exact Twin.is
    | (with_reducible refine Twin.bif ?_ ?_)
    | (with_reducible refine Twin.bind (fun v => ?_))
theorem first_tw (k : Nat) {x y : Int} (e : y % 268435456 = x % 268435456) (x0 : 0 ≤ x) (x1 : x < 4294967296) (y0 : 0 ≤ y) (y1 : y < 4294967296) {a c : Int} : Twin c (isa_first.f k x (insC a)) (isa_first.f k y (insC c)) := by
  unfold isa_first.f isa_first.q0.l
  simp only [get_31_28 x0 x1, get_27_25 x0 x1, get_27_24 x0 x1, get_24_24 x0 x1, get_24_23 x0 x1, get_24_21 x0 x1, get_23_21 x0 x1, get_23_0 x0 x1, get_22_22 x0 x1, get_22_20 x0 x1, get_20_20 x0 x1, get_19_16 x0 x1, get_19_8 x0 x1, get_15_12 x0 x1, get_11_10 x0 x1, get_11_8 x0 x1, get_11_7 x0 x1, get_11_0 x0 x1, get_7_5 x0 x1, get_7_4 x0 x1, get_6_5 x0 x1, get_3_0 x0 x1, bit_4 x0 x1, bit_7 x0 x1, bit_20 x0 x1, bit_21 x0 x1, bit_22 x0 x1, bit_23 x0 x1, bit_24 x0 x1, bit_25 x0 x1, Option.bind_some, get_31_28 y0 y1, get_27_25 y0 y1, get_27_24 y0 y1, get_24_24 y0 y1, get_24_23 y0 y1, get_24_21 y0 y1, get_23_21 y0 y1, get_23_0 y0 y1, get_22_22 y0 y1, get_22_20 y0 y1, get_20_20 y0 y1, get_19_16 y0 y1, get_19_8 y0 y1, get_15_12 y0 y1, get_11_10 y0 y1, get_11_8 y0 y1, get_11_7 y0 y1, get_11_0 y0 y1, get_7_5 y0 y1, get_7_4 y0 y1, get_6_5 y0 y1, get_3_0 y0 y1, bit_4 y0 y1, bit_7 y0 y1, bit_20 y0 y1, bit_21 y0 y1, bit_22 y0 y1, bit_23 y0 y1, bit_24 y0 y1, bit_25 y0 y1, tw_0_4 e, tw_0_12 e, tw_0_24 e, tw_4_1 e, tw_4_4 e, tw_5_2 e, tw_5_3 e, tw_7_1 e, tw_7_5 e, tw_8_4 e, tw_8_12 e, tw_10_2 e, tw_12_4 e, tw_16_4 e, tw_20_1 e, tw_20_3 e, tw_21_1 e, tw_21_3 e, tw_21_4 e, tw_22_1 e, tw_23_1 e, tw_23_2 e, tw_24_1 e, tw_24_4 e, tw_25_1 e, tw_25_3 e, tw_and e x0 x1 y0 y1 (m := 263258096) (by decide) (by decide), tw_and e x0 x1 y0 y1 (m := 268435440) (by decide) (by decide), tw_and e x0 x1 y0 y1 (m := 267387120) (by decide) (by decide), tw_and e x0 x1 y0 y1 (m := 268374000) (by decide) (by decide), tw_and e x0 x1 y0 y1 (m := 263196656) (by decide) (by decide), tw_and e x0 x1 y0 y1 (m := 268435455) (by decide) (by decide), tw_and e x0 x1 y0 y1 (m := 261030896) (by decide) (by decide), tw_shl e, tw_u16 e, cond_bind, Option.bind_assoc]
  repeat' first
    | with_reducible exact Twin.no
    | with_reducible exact Twin.not
    | with_reducible exact Twin.is
    | with_reducible exact Twin.eta (product_tw e x0 x1 y0 y1)
    | with_reducible exact Twin.eta (halves_tw e x0 x1 y0 y1)
    | with_reducible exact Twin.eta (special_tw e x0 x1 y0 y1)
    | with_reducible exact Twin.eta (data_tw e x0 x1 y0 y1)
    | (with_reducible refine Twin.bif ?_ ?_)
    | (with_reducible refine Twin.bind (fun v => ?_))
theorem says_tw (k : Nat) {x y : Int} (e : y % 268435456 = x % 268435456) (x0 : 0 ≤ x) (x1 : x < 4294967296) (y0 : 0 ≤ y) (y1 : y < 4294967296) : Twin (y / 268435456 % 16) (isa_says.f k x) (isa_says.f k y) := by
  unfold isa_says.f
  simp only [get_31_28 x0 x1, get_27_25 x0 x1, get_27_24 x0 x1, get_24_24 x0 x1, get_24_23 x0 x1, get_24_21 x0 x1, get_23_21 x0 x1, get_23_0 x0 x1, get_22_22 x0 x1, get_22_20 x0 x1, get_20_20 x0 x1, get_19_16 x0 x1, get_19_8 x0 x1, get_15_12 x0 x1, get_11_10 x0 x1, get_11_8 x0 x1, get_11_7 x0 x1, get_11_0 x0 x1, get_7_5 x0 x1, get_7_4 x0 x1, get_6_5 x0 x1, get_3_0 x0 x1, bit_4 x0 x1, bit_7 x0 x1, bit_20 x0 x1, bit_21 x0 x1, bit_22 x0 x1, bit_23 x0 x1, bit_24 x0 x1, bit_25 x0 x1, Option.bind_some, get_31_28 y0 y1, get_27_25 y0 y1, get_27_24 y0 y1, get_24_24 y0 y1, get_24_23 y0 y1, get_24_21 y0 y1, get_23_21 y0 y1, get_23_0 y0 y1, get_22_22 y0 y1, get_22_20 y0 y1, get_20_20 y0 y1, get_19_16 y0 y1, get_19_8 y0 y1, get_15_12 y0 y1, get_11_10 y0 y1, get_11_8 y0 y1, get_11_7 y0 y1, get_11_0 y0 y1, get_7_5 y0 y1, get_7_4 y0 y1, get_6_5 y0 y1, get_3_0 y0 y1, bit_4 y0 y1, bit_7 y0 y1, bit_20 y0 y1, bit_21 y0 y1, bit_22 y0 y1, bit_23 y0 y1, bit_24 y0 y1, bit_25 y0 y1, tw_0_4 e, tw_0_12 e, tw_0_24 e, tw_4_1 e, tw_4_4 e, tw_5_2 e, tw_5_3 e, tw_7_1 e, tw_7_5 e, tw_8_4 e, tw_8_12 e, tw_10_2 e, tw_12_4 e, tw_16_4 e, tw_20_1 e, tw_20_3 e, tw_21_1 e, tw_21_3 e, tw_21_4 e, tw_22_1 e, tw_23_1 e, tw_23_2 e, tw_24_1 e, tw_24_4 e, tw_25_1 e, tw_25_3 e, tw_and e x0 x1 y0 y1 (m := 263258096) (by decide) (by decide), tw_and e x0 x1 y0 y1 (m := 268435440) (by decide) (by decide), tw_and e x0 x1 y0 y1 (m := 267387120) (by decide) (by decide), tw_and e x0 x1 y0 y1 (m := 268374000) (by decide) (by decide), tw_and e x0 x1 y0 y1 (m := 263196656) (by decide) (by decide), tw_and e x0 x1 y0 y1 (m := 268435455) (by decide) (by decide), tw_and e x0 x1 y0 y1 (m := 261030896) (by decide) (by decide), tw_shl e, tw_u16 e]
  repeat' first
    | with_reducible exact Twin.no
    | with_reducible exact Twin.not
    | with_reducible exact Twin.is
    | with_reducible exact Twin.eta (first_tw k e x0 x1 y0 y1)
    | with_reducible exact Twin.eta (second_tw e x0 x1 y0 y1)
    | with_reducible exact Twin.eta (media_tw e x0 x1 y0 y1)
    | with_reducible exact Twin.eta (single_tw e x0 x1 y0 y1)
    | with_reducible exact Twin.eta (rest_tw e x0 x1 y0 y1)
    | (with_reducible refine Twin.bif ?_ ?_)
    | (with_reducible refine Twin.bind (fun v => ?_))
/-- The same instruction with another condition. -/
abbrev withC (j : T26) (c : Int) : T26 := ⟨c, j.f1_Op, j.f2_S, j.f3_Form, j.f4_Rd, j.f5_Rn, j.f6_Rm, j.f7_Rs, j.f8_Ra, j.f9_Imm, j.f10_Shift, j.f11_Amount, j.f12_Pre, j.f13_Up, j.f14_Write, j.f15_List, j.f16_Tuple_CRn, j.f17_Tuple_Op1, j.f18_Tuple_CRm, j.f19_Tuple_Op2⟩
theorem may_15 (k : Nat) (j : T26) : isa_may.f k (withC j 15) = some false := by unfold isa_may.f; rfl
theorem may_c (k : Nat) (j : T26) (c : Int) (hj : j.f0_Cond ≠ 15) (hc : c ≠ 15) (ho : j.f1_Op ≠ 46) : isa_may.f k (withC j c) = isa_may.f k j := by
  have a1 : (j.f0_Cond == 15) = false := by simpa using hj
  have a2 : (c == 15) = false := by simpa using hc
  have a3 : (j.f1_Op == 46) = false := by simpa using ho
  unfold isa_may.f isa_may.q0.l
  simp only [a1, a2, a3, cond_false]
theorem may_46 (k : Nat) (j : T26) (c : Int) (hc : c ≠ 15) (ho : j.f1_Op = 46) : isa_may.f k (withC j c) = some (c == 14) := by
  have a2 : (c == 15) = false := by simpa using hc
  unfold isa_may.f
  simp only [a2, ho, cond_false]
  rfl
end Go.Va
