/-
  The fields of a word, by division; a word laid field by field, as a sum.
  Conditions: none.
-/
import Derived.Test.YtjlbmdcljikojaaVl
set_option linter.unusedVariables false
set_option autoImplicit false
namespace Go.Va

theorem ofInt_toNat (x : Int) (h0 : 0 ≤ x) (h1 : x < 4294967296) : (BitVec.ofInt 32 x).toNat = x.toNat := by
  rw [BitVec.toNat_ofInt]
  have : x % ((2 ^ 32 : Nat) : Int) = x := Int.emod_eq_of_lt h0 (by simpa using h1)
  rw [this]

theorem wrap_u32 (x : Int) (h0 : 0 ≤ x) (h1 : x < 4294967296) : IntKind.wrap .u32 x = x := by
  have e : IntKind.wrap .u32 x = x % 4294967296 := by rfl
  rw [e]; omega
theorem wrap_i64 (x : Int) (h0 : -9223372036854775808 ≤ x) (h1 : x < 9223372036854775808) : IntKind.wrap .i64 x = x := by
  have e : IntKind.wrap .i64 x = if (true && decide (x % 18446744073709551616 ≥ 9223372036854775808)) = true then x % 18446744073709551616 - 18446744073709551616 else x % 18446744073709551616 := by rfl
  rw [e]; simp only [Bool.true_and, decide_eq_true_eq]; split <;> omega
theorem wrap_u64 (x : Int) (h0 : 0 ≤ x) (h1 : x < 18446744073709551616) : IntKind.wrap .u64 x = x := by
  have e : IntKind.wrap .u64 x = x % 18446744073709551616 := by rfl
  rw [e]; omega

theorem shr_u32 (x n : Int) (h0 : 0 ≤ n) (h1 : n < 32) : shrI .u32 x n = x / 2 ^ n.toNat := by
  unfold shrI
  have : min n.toNat (IntKind.u32.bits) = n.toNat := by have : IntKind.u32.bits = 32 := rfl; omega
  rw [this, Int.fdiv_eq_ediv_of_nonneg _ (Int.pow_nonneg (by omega))]

theorem and_low (x : Int) (n : Nat) (hn : n ≤ 31) (h0 : 0 ≤ x) (h1 : x < 4294967296) : andI .u32 x (2 ^ n - 1) = x % 2 ^ n := by
  have hp : (2 : Int) ^ n ≤ 2 ^ 31 := by exact_mod_cast Nat.pow_le_pow_right (by omega) hn
  have hq : (1 : Int) ≤ 2 ^ n := by exact_mod_cast Nat.one_le_two_pow
  have hb : IntKind.u32.bits = 32 := rfl
  unfold andI
  rw [hb, BitVec.toNat_and, ofInt_toNat x h0 h1, ofInt_toNat (2 ^ n - 1) (by omega) (by omega)]
  have e : ((2 : Int) ^ n - 1).toNat = 2 ^ n - 1 := by
    have : ((2 : Int) ^ n) = ((2 ^ n : Nat) : Int) := by simp
    omega
  rw [e, Nat.and_two_pow_sub_one_eq_mod]
  have e2 : ((x.toNat % 2 ^ n : Nat) : Int) = x % 2 ^ n := by
    rw [Int.natCast_emod, Int.toNat_of_nonneg h0]; simp
  rw [e2]
  have := Int.emod_lt_of_pos x (show (0 : Int) < 2 ^ n by omega)
  have := Int.emod_nonneg x (show (2 : Int) ^ n ≠ 0 by omega)
  exact wrap_u32 _ (by omega) (by omega)

theorem get_eq (x : Int) (hi lo : Int) (n : Nat) (h0 : 0 ≤ x) (h1 : x < 4294967296) (hlo : 0 ≤ lo) (hhi : hi < 32) (hn : (n : Int) = hi - lo + 1) (hm : n ≤ 24) (hl : 0 < n) :
    isa_word_get.f x hi lo = some (x / 2 ^ lo.toNat % 2 ^ n) := by
  unfold isa_word_get.f
  have hp : (2 : Int) ^ n ≤ 2 ^ 24 := by exact_mod_cast Nat.pow_le_pow_right (by omega) hm
  have hq : (1 : Int) ≤ 2 ^ n := by exact_mod_cast Nat.one_le_two_pow
  have hb : IntKind.u32.bits = 32 := rfl
  rw [wrap_u64 (hi - lo) (by omega) (by omega), wrap_u64 (hi - lo + 1) (by omega) (by omega), ← hn]
  have a1 : decide (lo < 0) = false := by simp; omega
  have a2 : decide ((n : Int) < 0) = false := by simp
  have a3 : shlI .u32 1 (n : Int) = 2 ^ n := by
    unfold shlI
    have : min (n : Int).toNat (IntKind.u32.bits) = n := by omega
    rw [this, Int.one_mul]
    exact wrap_u32 _ (by omega) (by omega)
  rw [a1, a2, a3, wrap_u32 (2 ^ n - 1) (by omega) (by omega), shr_u32 x lo hlo (by omega)]
  have d0 : 0 ≤ x / 2 ^ lo.toNat := Int.ediv_nonneg h0 (Int.pow_nonneg (by omega))
  have d1 : x / 2 ^ lo.toNat ≤ x := Int.ediv_le_self _ h0
  rw [and_low _ n (by omega) d0 (by omega)]
  have := Int.emod_lt_of_pos (x / 2 ^ lo.toNat) (show (0 : Int) < 2 ^ n by omega)
  have := Int.emod_nonneg (x / 2 ^ lo.toNat) (show (2 : Int) ^ n ≠ 0 by omega)
  rw [wrap_i64 _ (by omega) (by omega)]
  rfl

theorem bit_eq (x i : Int) (h0 : 0 ≤ x) (h1 : x < 4294967296) (hi : 0 ≤ i) (hi' : i < 32) : isa_word_bit.f x i = some (x / 2 ^ i.toNat % 2 == 1) := by
  unfold isa_word_bit.f
  have a1 : decide (i < 0) = false := by simp; omega
  have d0 : 0 ≤ x / 2 ^ i.toNat := Int.ediv_nonneg h0 (Int.pow_nonneg (by omega))
  have d1 : x / 2 ^ i.toNat ≤ x := Int.ediv_le_self _ h0
  rw [a1, shr_u32 x i hi hi']
  have := and_low (x / 2 ^ i.toNat) 1 (by omega) d0 (by omega)
  have e : (2 : Int) ^ 1 - 1 = 1 := by decide
  rw [e] at this
  rw [this]
  rfl

/-- A field laid where there is none yet. -/
theorem or_field (a v : Int) (lo n : Nat) (ha : 0 ≤ a) (ha' : a < 4294967296) (hv : 0 ≤ v) (hv' : v < 2 ^ n) (hs : lo + n ≤ 32) (hd : a / 2 ^ lo % 2 ^ n = 0) :
    orI .u32 a (v * 2 ^ lo) = a + v * 2 ^ lo := by
  obtain ⟨A, rfl⟩ := Int.eq_ofNat_of_zero_le ha
  obtain ⟨V, rfl⟩ := Int.eq_ofNat_of_zero_le hv
  have hA : A < 2 ^ 32 := by have := Int.ofNat_lt.1 (show (A : Int) < ((4294967296 : Nat) : Int) from ha'); omega
  have hV : V < 2 ^ n := by exact_mod_cast hv'
  have hD : A / 2 ^ lo % 2 ^ n = 0 := by exact_mod_cast hd
  have hVl : V * 2 ^ lo < 2 ^ 32 := by
    have : V * 2 ^ lo < 2 ^ n * 2 ^ lo := Nat.mul_lt_mul_of_pos_right hV (Nat.two_pow_pos lo)
    rw [← Nat.pow_add] at this
    exact Nat.lt_of_lt_of_le this (Nat.pow_le_pow_right (by omega) (by omega))
  have key : A ||| V * 2 ^ lo = A + V * 2 ^ lo := by
    have e1 : A = 2 ^ lo * (A / 2 ^ lo) + A % 2 ^ lo := (Nat.div_add_mod A (2 ^ lo)).symm
    have e2 : A / 2 ^ lo = 2 ^ n * (A / 2 ^ lo / 2 ^ n) := by
      have := Nat.div_add_mod (A / 2 ^ lo) (2 ^ n); omega
    have low : A % 2 ^ lo < 2 ^ lo := Nat.mod_lt _ (Nat.two_pow_pos lo)
    have s1 : A ||| V * 2 ^ lo = 2 ^ lo * (A / 2 ^ lo ||| V) + A % 2 ^ lo := by
      apply Nat.eq_of_testBit_eq
      intro i
      rw [Nat.testBit_or, Nat.testBit_two_pow_mul_add _ low, Nat.testBit_mul_two_pow]
      by_cases h : i < lo
      · rw [if_pos h]
        have : ¬ lo ≤ i := by omega
        simp [this, Nat.testBit_mod_two_pow, h]
      · rw [if_neg h]
        have : lo ≤ i := by omega
        have d : A.testBit i = (A / 2 ^ lo).testBit (i - lo) := by rw [Nat.testBit_div_two_pow]; congr 1; omega
        simp [this, Nat.testBit_or, d]
    have s2 : A / 2 ^ lo ||| V = A / 2 ^ lo + V := by
      rw [e2, Nat.two_pow_add_eq_or_of_lt hV]
    rw [s1, s2, Nat.mul_add]
    have : 2 ^ lo * V = V * 2 ^ lo := Nat.mul_comm _ _
    omega
  have hsum : A + V * 2 ^ lo < 2 ^ 32 := by rw [← key]; exact Nat.or_lt_two_pow hA hVl
  have c2 : ((V : Int) * 2 ^ lo) = ((V * 2 ^ lo : Nat) : Int) := by simp
  have hb : IntKind.u32.bits = 32 := rfl
  unfold orI
  rw [hb, c2, BitVec.toNat_or, ofInt_toNat _ (by omega) ha', ofInt_toNat _ (by omega) (by omega), Int.toNat_natCast, Int.toNat_natCast, key]
  rw [wrap_u32 _ (by omega) (by omega)]
  simp

theorem with_eq (a v : Int) (lo n : Nat) (ha : 0 ≤ a) (ha' : a < 4294967296) (hv : 0 ≤ v) (hv' : v < 2 ^ n) (hs : lo + n ≤ 32) (hd : a / 2 ^ lo % 2 ^ n = 0) :
    isa_word_with.f a (lo : Int) v = some (a + v * 2 ^ lo) := by
  unfold isa_word_with.f
  have a1 : decide ((lo : Int) < 0) = false := by simp
  have hp : (2 : Int) ^ n ≤ 2 ^ 32 := by exact_mod_cast Nat.pow_le_pow_right (by omega) (show n ≤ 32 by omega)
  have hvl : v * 2 ^ lo < 4294967296 := by
    have h1 : v * 2 ^ lo < 2 ^ n * 2 ^ lo := Int.mul_lt_mul_of_pos_right hv' (by exact_mod_cast Nat.two_pow_pos lo)
    have h2 : (2 : Int) ^ n * 2 ^ lo ≤ 2 ^ 32 := by rw [← Int.pow_add]; exact_mod_cast Nat.pow_le_pow_right (by omega) (show n + lo ≤ 32 by omega)
    omega
  rw [a1, wrap_u32 v hv (by omega)]
  have e : shlI .u32 v (lo : Int) = v * 2 ^ lo := by
    unfold shlI
    have hb : IntKind.u32.bits = 32 := rfl
    have : min (lo : Int).toNat (IntKind.u32.bits) = lo := by omega
    rw [this]
    exact wrap_u32 _ (Int.mul_nonneg hv (Int.pow_nonneg (by omega))) hvl
  rw [e, or_field a v lo n ha ha' hv hv' hs hd]
  rfl

theorem flag_eq (a v : Int) (i : Nat) (ha : 0 ≤ a) (ha' : a < 4294967296) (hv : 0 ≤ v) (hv' : v < 2) (hs : i < 32) (hd : a / 2 ^ i % 2 = 0) :
    isa_word_flag.f a (i : Int) (v == 1) = some (a + v * 2 ^ i) := by
  unfold isa_word_flag.f
  by_cases h : v = 1
  · subst h
    have := with_eq a 1 i 1 ha ha' (by decide) (by decide) (by omega) (by simpa using hd)
    unfold isa_word_with.f at this
    have e : IntKind.wrap .u32 1 = 1 := by rfl
    rw [e] at this
    exact this
  · have h0 : v = 0 := by omega
    subst h0
    simp
theorem get_31_28 {x : Int} (h0 : 0 ≤ x) (h1 : x < 4294967296) : isa_word_get.f x 31 28 = some (x / 268435456 % 16) := by
  have := get_eq x 31 28 4 h0 h1 (by decide) (by decide) (by decide) (by decide) (by decide)
  simpa using this
theorem get_27_25 {x : Int} (h0 : 0 ≤ x) (h1 : x < 4294967296) : isa_word_get.f x 27 25 = some (x / 33554432 % 8) := by
  have := get_eq x 27 25 3 h0 h1 (by decide) (by decide) (by decide) (by decide) (by decide)
  simpa using this
theorem get_27_24 {x : Int} (h0 : 0 ≤ x) (h1 : x < 4294967296) : isa_word_get.f x 27 24 = some (x / 16777216 % 16) := by
  have := get_eq x 27 24 4 h0 h1 (by decide) (by decide) (by decide) (by decide) (by decide)
  simpa using this
theorem get_24_24 {x : Int} (h0 : 0 ≤ x) (h1 : x < 4294967296) : isa_word_get.f x 24 24 = some (x / 16777216 % 2) := by
  have := get_eq x 24 24 1 h0 h1 (by decide) (by decide) (by decide) (by decide) (by decide)
  simpa using this
theorem get_24_23 {x : Int} (h0 : 0 ≤ x) (h1 : x < 4294967296) : isa_word_get.f x 24 23 = some (x / 8388608 % 4) := by
  have := get_eq x 24 23 2 h0 h1 (by decide) (by decide) (by decide) (by decide) (by decide)
  simpa using this
theorem get_24_21 {x : Int} (h0 : 0 ≤ x) (h1 : x < 4294967296) : isa_word_get.f x 24 21 = some (x / 2097152 % 16) := by
  have := get_eq x 24 21 4 h0 h1 (by decide) (by decide) (by decide) (by decide) (by decide)
  simpa using this
theorem get_23_21 {x : Int} (h0 : 0 ≤ x) (h1 : x < 4294967296) : isa_word_get.f x 23 21 = some (x / 2097152 % 8) := by
  have := get_eq x 23 21 3 h0 h1 (by decide) (by decide) (by decide) (by decide) (by decide)
  simpa using this
theorem get_23_0 {x : Int} (h0 : 0 ≤ x) (h1 : x < 4294967296) : isa_word_get.f x 23 0 = some (x % 16777216) := by
  have := get_eq x 23 0 24 h0 h1 (by decide) (by decide) (by decide) (by decide) (by decide)
  simpa using this
theorem get_22_22 {x : Int} (h0 : 0 ≤ x) (h1 : x < 4294967296) : isa_word_get.f x 22 22 = some (x / 4194304 % 2) := by
  have := get_eq x 22 22 1 h0 h1 (by decide) (by decide) (by decide) (by decide) (by decide)
  simpa using this
theorem get_22_20 {x : Int} (h0 : 0 ≤ x) (h1 : x < 4294967296) : isa_word_get.f x 22 20 = some (x / 1048576 % 8) := by
  have := get_eq x 22 20 3 h0 h1 (by decide) (by decide) (by decide) (by decide) (by decide)
  simpa using this
theorem get_20_20 {x : Int} (h0 : 0 ≤ x) (h1 : x < 4294967296) : isa_word_get.f x 20 20 = some (x / 1048576 % 2) := by
  have := get_eq x 20 20 1 h0 h1 (by decide) (by decide) (by decide) (by decide) (by decide)
  simpa using this
theorem get_19_16 {x : Int} (h0 : 0 ≤ x) (h1 : x < 4294967296) : isa_word_get.f x 19 16 = some (x / 65536 % 16) := by
  have := get_eq x 19 16 4 h0 h1 (by decide) (by decide) (by decide) (by decide) (by decide)
  simpa using this
theorem get_19_8 {x : Int} (h0 : 0 ≤ x) (h1 : x < 4294967296) : isa_word_get.f x 19 8 = some (x / 256 % 4096) := by
  have := get_eq x 19 8 12 h0 h1 (by decide) (by decide) (by decide) (by decide) (by decide)
  simpa using this
theorem get_15_12 {x : Int} (h0 : 0 ≤ x) (h1 : x < 4294967296) : isa_word_get.f x 15 12 = some (x / 4096 % 16) := by
  have := get_eq x 15 12 4 h0 h1 (by decide) (by decide) (by decide) (by decide) (by decide)
  simpa using this
theorem get_11_10 {x : Int} (h0 : 0 ≤ x) (h1 : x < 4294967296) : isa_word_get.f x 11 10 = some (x / 1024 % 4) := by
  have := get_eq x 11 10 2 h0 h1 (by decide) (by decide) (by decide) (by decide) (by decide)
  simpa using this
theorem get_11_8 {x : Int} (h0 : 0 ≤ x) (h1 : x < 4294967296) : isa_word_get.f x 11 8 = some (x / 256 % 16) := by
  have := get_eq x 11 8 4 h0 h1 (by decide) (by decide) (by decide) (by decide) (by decide)
  simpa using this
theorem get_11_7 {x : Int} (h0 : 0 ≤ x) (h1 : x < 4294967296) : isa_word_get.f x 11 7 = some (x / 128 % 32) := by
  have := get_eq x 11 7 5 h0 h1 (by decide) (by decide) (by decide) (by decide) (by decide)
  simpa using this
theorem get_11_0 {x : Int} (h0 : 0 ≤ x) (h1 : x < 4294967296) : isa_word_get.f x 11 0 = some (x % 4096) := by
  have := get_eq x 11 0 12 h0 h1 (by decide) (by decide) (by decide) (by decide) (by decide)
  simpa using this
theorem get_7_5 {x : Int} (h0 : 0 ≤ x) (h1 : x < 4294967296) : isa_word_get.f x 7 5 = some (x / 32 % 8) := by
  have := get_eq x 7 5 3 h0 h1 (by decide) (by decide) (by decide) (by decide) (by decide)
  simpa using this
theorem get_7_4 {x : Int} (h0 : 0 ≤ x) (h1 : x < 4294967296) : isa_word_get.f x 7 4 = some (x / 16 % 16) := by
  have := get_eq x 7 4 4 h0 h1 (by decide) (by decide) (by decide) (by decide) (by decide)
  simpa using this
theorem get_6_5 {x : Int} (h0 : 0 ≤ x) (h1 : x < 4294967296) : isa_word_get.f x 6 5 = some (x / 32 % 4) := by
  have := get_eq x 6 5 2 h0 h1 (by decide) (by decide) (by decide) (by decide) (by decide)
  simpa using this
theorem get_3_0 {x : Int} (h0 : 0 ≤ x) (h1 : x < 4294967296) : isa_word_get.f x 3 0 = some (x % 16) := by
  have := get_eq x 3 0 4 h0 h1 (by decide) (by decide) (by decide) (by decide) (by decide)
  simpa using this
theorem bit_4 {x : Int} (h0 : 0 ≤ x) (h1 : x < 4294967296) : isa_word_bit.f x 4 = some (x / 16 % 2 == 1) := by
  have := bit_eq x 4 h0 h1 (by decide) (by decide)
  exact this
theorem bit_7 {x : Int} (h0 : 0 ≤ x) (h1 : x < 4294967296) : isa_word_bit.f x 7 = some (x / 128 % 2 == 1) := by
  have := bit_eq x 7 h0 h1 (by decide) (by decide)
  exact this
theorem bit_20 {x : Int} (h0 : 0 ≤ x) (h1 : x < 4294967296) : isa_word_bit.f x 20 = some (x / 1048576 % 2 == 1) := by
  have := bit_eq x 20 h0 h1 (by decide) (by decide)
  exact this
theorem bit_21 {x : Int} (h0 : 0 ≤ x) (h1 : x < 4294967296) : isa_word_bit.f x 21 = some (x / 2097152 % 2 == 1) := by
  have := bit_eq x 21 h0 h1 (by decide) (by decide)
  exact this
theorem bit_22 {x : Int} (h0 : 0 ≤ x) (h1 : x < 4294967296) : isa_word_bit.f x 22 = some (x / 4194304 % 2 == 1) := by
  have := bit_eq x 22 h0 h1 (by decide) (by decide)
  exact this
theorem bit_23 {x : Int} (h0 : 0 ≤ x) (h1 : x < 4294967296) : isa_word_bit.f x 23 = some (x / 8388608 % 2 == 1) := by
  have := bit_eq x 23 h0 h1 (by decide) (by decide)
  exact this
theorem bit_24 {x : Int} (h0 : 0 ≤ x) (h1 : x < 4294967296) : isa_word_bit.f x 24 = some (x / 16777216 % 2 == 1) := by
  have := bit_eq x 24 h0 h1 (by decide) (by decide)
  exact this
theorem bit_25 {x : Int} (h0 : 0 ≤ x) (h1 : x < 4294967296) : isa_word_bit.f x 25 = some (x / 33554432 % 2 == 1) := by
  have := bit_eq x 25 h0 h1 (by decide) (by decide)
  exact this
theorem with_28_4 {a v : Int} (ha : 0 ≤ a) (ha' : a < 4294967296) (hv : 0 ≤ v) (hv' : v < 16) (hd : a / 268435456 % 16 = 0) : isa_word_with.f a 28 v = some (a + v * 268435456) := by
  have := with_eq a v 28 4 ha ha' hv hv' (by decide) (by simpa using hd)
  simpa using this
theorem with_24_4 {a v : Int} (ha : 0 ≤ a) (ha' : a < 4294967296) (hv : 0 ≤ v) (hv' : v < 16) (hd : a / 16777216 % 16 = 0) : isa_word_with.f a 24 v = some (a + v * 16777216) := by
  have := with_eq a v 24 4 ha ha' hv hv' (by decide) (by simpa using hd)
  simpa using this
theorem with_21_4 {a v : Int} (ha : 0 ≤ a) (ha' : a < 4294967296) (hv : 0 ≤ v) (hv' : v < 16) (hd : a / 2097152 % 16 = 0) : isa_word_with.f a 21 v = some (a + v * 2097152) := by
  have := with_eq a v 21 4 ha ha' hv hv' (by decide) (by simpa using hd)
  simpa using this
theorem with_21_3 {a v : Int} (ha : 0 ≤ a) (ha' : a < 4294967296) (hv : 0 ≤ v) (hv' : v < 8) (hd : a / 2097152 % 8 = 0) : isa_word_with.f a 21 v = some (a + v * 2097152) := by
  have := with_eq a v 21 3 ha ha' hv hv' (by decide) (by simpa using hd)
  simpa using this
theorem with_20_8 {a v : Int} (ha : 0 ≤ a) (ha' : a < 4294967296) (hv : 0 ≤ v) (hv' : v < 256) (hd : a / 1048576 % 256 = 0) : isa_word_with.f a 20 v = some (a + v * 1048576) := by
  have := with_eq a v 20 8 ha ha' hv hv' (by decide) (by simpa using hd)
  simpa using this
theorem with_16_4 {a v : Int} (ha : 0 ≤ a) (ha' : a < 4294967296) (hv : 0 ≤ v) (hv' : v < 16) (hd : a / 65536 % 16 = 0) : isa_word_with.f a 16 v = some (a + v * 65536) := by
  have := with_eq a v 16 4 ha ha' hv hv' (by decide) (by simpa using hd)
  simpa using this
theorem with_12_4 {a v : Int} (ha : 0 ≤ a) (ha' : a < 4294967296) (hv : 0 ≤ v) (hv' : v < 16) (hd : a / 4096 % 16 = 0) : isa_word_with.f a 12 v = some (a + v * 4096) := by
  have := with_eq a v 12 4 ha ha' hv hv' (by decide) (by simpa using hd)
  simpa using this
theorem with_10_2 {a v : Int} (ha : 0 ≤ a) (ha' : a < 4294967296) (hv : 0 ≤ v) (hv' : v < 4) (hd : a / 1024 % 4 = 0) : isa_word_with.f a 10 v = some (a + v * 1024) := by
  have := with_eq a v 10 2 ha ha' hv hv' (by decide) (by simpa using hd)
  simpa using this
theorem with_8_4 {a v : Int} (ha : 0 ≤ a) (ha' : a < 4294967296) (hv : 0 ≤ v) (hv' : v < 16) (hd : a / 256 % 16 = 0) : isa_word_with.f a 8 v = some (a + v * 256) := by
  have := with_eq a v 8 4 ha ha' hv hv' (by decide) (by simpa using hd)
  simpa using this
theorem with_8_12 {a v : Int} (ha : 0 ≤ a) (ha' : a < 4294967296) (hv : 0 ≤ v) (hv' : v < 4096) (hd : a / 256 % 4096 = 0) : isa_word_with.f a 8 v = some (a + v * 256) := by
  have := with_eq a v 8 12 ha ha' hv hv' (by decide) (by simpa using hd)
  simpa using this
theorem with_7_5 {a v : Int} (ha : 0 ≤ a) (ha' : a < 4294967296) (hv : 0 ≤ v) (hv' : v < 32) (hd : a / 128 % 32 = 0) : isa_word_with.f a 7 v = some (a + v * 128) := by
  have := with_eq a v 7 5 ha ha' hv hv' (by decide) (by simpa using hd)
  simpa using this
theorem with_5_3 {a v : Int} (ha : 0 ≤ a) (ha' : a < 4294967296) (hv : 0 ≤ v) (hv' : v < 8) (hd : a / 32 % 8 = 0) : isa_word_with.f a 5 v = some (a + v * 32) := by
  have := with_eq a v 5 3 ha ha' hv hv' (by decide) (by simpa using hd)
  simpa using this
theorem with_5_2 {a v : Int} (ha : 0 ≤ a) (ha' : a < 4294967296) (hv : 0 ≤ v) (hv' : v < 4) (hd : a / 32 % 4 = 0) : isa_word_with.f a 5 v = some (a + v * 32) := by
  have := with_eq a v 5 2 ha ha' hv hv' (by decide) (by simpa using hd)
  simpa using this
theorem with_0_4 {a v : Int} (ha : 0 ≤ a) (ha' : a < 4294967296) (hv : 0 ≤ v) (hv' : v < 16) (hd : a / 1 % 16 = 0) : isa_word_with.f a 0 v = some (a + v * 1) := by
  have := with_eq a v 0 4 ha ha' hv hv' (by decide) (by simpa using hd)
  simpa using this
theorem flag_4 {a v : Int} (ha : 0 ≤ a) (ha' : a < 4294967296) (hv : 0 ≤ v) (hv' : v < 2) (hd : a / 16 % 2 = 0) : isa_word_flag.f a 4 (v == 1) = some (a + v * 16) :=
  flag_eq a v 4 ha ha' hv hv' (by decide) hd
theorem flag_20 {a v : Int} (ha : 0 ≤ a) (ha' : a < 4294967296) (hv : 0 ≤ v) (hv' : v < 2) (hd : a / 1048576 % 2 = 0) : isa_word_flag.f a 20 (v == 1) = some (a + v * 1048576) :=
  flag_eq a v 20 ha ha' hv hv' (by decide) hd
theorem flag_21 {a v : Int} (ha : 0 ≤ a) (ha' : a < 4294967296) (hv : 0 ≤ v) (hv' : v < 2) (hd : a / 2097152 % 2 = 0) : isa_word_flag.f a 21 (v == 1) = some (a + v * 2097152) :=
  flag_eq a v 21 ha ha' hv hv' (by decide) hd
theorem flag_22 {a v : Int} (ha : 0 ≤ a) (ha' : a < 4294967296) (hv : 0 ≤ v) (hv' : v < 2) (hd : a / 4194304 % 2 = 0) : isa_word_flag.f a 22 (v == 1) = some (a + v * 4194304) :=
  flag_eq a v 22 ha ha' hv hv' (by decide) hd
theorem flag_23 {a v : Int} (ha : 0 ≤ a) (ha' : a < 4294967296) (hv : 0 ≤ v) (hv' : v < 2) (hd : a / 8388608 % 2 = 0) : isa_word_flag.f a 23 (v == 1) = some (a + v * 8388608) :=
  flag_eq a v 23 ha ha' hv hv' (by decide) hd
theorem flag_24 {a v : Int} (ha : 0 ≤ a) (ha' : a < 4294967296) (hv : 0 ≤ v) (hv' : v < 2) (hd : a / 16777216 % 2 = 0) : isa_word_flag.f a 24 (v == 1) = some (a + v * 16777216) :=
  flag_eq a v 24 ha ha' hv hv' (by decide) hd
theorem flag_25 {a v : Int} (ha : 0 ≤ a) (ha' : a < 4294967296) (hv : 0 ≤ v) (hv' : v < 2) (hd : a / 33554432 % 2 = 0) : isa_word_flag.f a 25 (v == 1) = some (a + v * 33554432) :=
  flag_eq a v 25 ha ha' hv hv' (by decide) hd
end Go.Va
