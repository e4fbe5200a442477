/-
  Numbers of two and four bytes of a file.
  Conditions: none.
-/
import Derived.Test.YtmphkmoakamepaaPureElfNames
set_option linter.unusedVariables false
set_option linter.unusedSimpArgs false
set_option autoImplicit false
set_option maxRecDepth 100000
namespace Go.Va
def bt (b : List Int) (i : Nat) : Int := b.getD i 0
def num (b : List Int) (a : Nat) : Nat → Int
  | 0 => 0
  | m + 1 => bt b (a + m) * 256 ^ m + num b a m
def ByB (b : List Int) : Prop := ∀ x ∈ b, 0 ≤ x ∧ x < 256
theorem bt_byte {b : List Int} (h : ByB b) (i : Nat) : 0 ≤ bt b i ∧ bt b i < 256 := by
  unfold bt
  rw [List.getD_eq_getElem?_getD]
  cases hq : b[i]? with
  | none => exact ⟨Int.le_refl _, by decide⟩
  | some x => exact h x (List.mem_of_getElem? hq)
theorem pow4 (m : Nat) (h : m ≤ 4) : (256 : Int) ^ m = if m = 0 then 1 else if m = 1 then 256 else if m = 2 then 65536 else if m = 3 then 16777216 else 4294967296 := by
  rcases m with _ | _ | _ | _ | _ | m
  · rfl
  · rfl
  · rfl
  · rfl
  · rfl
  · omega
theorem num_range {b : List Int} (h : ByB b) (a : Nat) : ∀ m, 0 ≤ num b a m ∧ num b a m < 256 ^ m := by
  intro m
  induction m with
  | zero => exact ⟨Int.le_refl _, by simp [num]⟩
  | succ m ih =>
    have h1 := bt_byte h (a + m)
    simp only [num]
    rw [Int.pow_succ]
    have h2 : (0 : Int) < 256 ^ m := Int.pow_pos (by decide)
    have h3 : bt b (a + m) * 256 ^ m ≤ 255 * 256 ^ m := Int.mul_le_mul_of_nonneg_right (by omega) (Int.le_of_lt h2)
    have h4 : 0 ≤ bt b (a + m) * 256 ^ m := Int.mul_nonneg h1.1 (Int.le_of_lt h2)
    constructor <;> omega
theorem orshl (v c : Int) (hv : 0 ≤ v) (hv2 : v < 16777216) (hc : 0 ≤ c) (hc2 : c < 256) : orI .u32 (shlI .u32 v 8) (IntKind.wrap .u32 c) = v * 256 + c := by
  obtain ⟨n, rfl⟩ : ∃ n : Nat, v = n := ⟨v.toNat, by omega⟩
  obtain ⟨m, rfl⟩ : ∃ m : Nat, c = m := ⟨c.toNat, by omega⟩
  have e1 : shlI .u32 (n : Int) 8 = ((n * 256 : Nat) : Int) := by
    have : shlI .u32 (n : Int) 8 = IntKind.wrap .u32 ((n : Int) * 2 ^ 8) := rfl
    rw [this, wrap_u32v]
    have : (2 : Int) ^ 8 = 256 := by decide
    rw [this]; omega
  have e2 : IntKind.wrap .u32 (m : Int) = (m : Int) := by rw [wrap_u32v]; omega
  have e3 : orI .u32 ((n * 256 : Nat) : Int) (m : Int) = IntKind.wrap .u32 (((BitVec.ofInt 32 ((n * 256 : Nat) : Int) ||| BitVec.ofInt 32 (m : Int)).toNat : Nat) : Int) := rfl
  rw [e1, e2, e3, wrap_u32v]
  have e4 : (BitVec.ofInt 32 ((n * 256 : Nat) : Int) ||| BitVec.ofInt 32 (m : Int)).toNat = n * 256 + m := by
    rw [BitVec.toNat_or, BitVec.ofInt_natCast, BitVec.ofInt_natCast, BitVec.toNat_ofNat, BitVec.toNat_ofNat, Nat.mod_eq_of_lt (by omega), Nat.mod_eq_of_lt (by omega)]
    have := Nat.shiftLeft_add_eq_or_of_lt (i := 8) (b := m) (by omega) n
    rw [← show n <<< 8 = n * 256 by rw [Nat.shiftLeft_eq]] 
    exact this.symm
  rw [e4]
  omega
theorem num_loop (k : Nat) (b : List Int) (hb : ByB b) (a : Nat) (hl : b.length ≤ 140737488351232) : ∀ (m n : Nat) (v : Int), m < n → m ≤ 4 → 0 ≤ v → v < 256 ^ (4 - m) → a + m ≤ b.length →
    elf_reader_num.q0.l k n ((a : Int), v, (m : Int) - 1, b) = some (v * 256 ^ m + num b a m) ∧ atlasref23_num.q0.l k n (b, (a : Int), v, (m : Int) - 1) = some (v * 256 ^ m + num b a m) := by
  intro m
  induction m with
  | zero =>
    intro n v hn _ _ _ _
    obtain ⟨n, rfl⟩ : ∃ j, n = j + 1 := ⟨n - 1, by omega⟩
    have e : v * 256 ^ 0 + num b a 0 = v := by simp [num]
    rw [e]
    have d : decide (((0 : Nat) : Int) - 1 ≥ 0) = false := by decide
    exact ⟨by simp only [elf_reader_num.q0.l, d, cond_false], by simp only [atlasref23_num.q0.l, d, cond_false]⟩
  | succ m ih =>
    intro n v hn h4 hv hv2 hal
    obtain ⟨n, rfl⟩ : ∃ j, n = j + 1 := ⟨n - 1, by omega⟩
    have hbt := bt_byte hb (a + m)
    have p1 := pow4 (4 - m) (by omega)
    have p2 := pow4 (4 - (m + 1)) (by omega)
    have d : decide ((((m + 1 : Nat) : Int) - 1) ≥ 0) = true := decide_eq_true (by omega)
    have e1 : IntKind.wrap .u64 (((m + 1 : Nat) : Int) - 1) = (m : Int) := by rw [wrap_u64e _ (by omega) (by omega)]; omega
    have e2 : IntKind.wrap .u64 ((a : Int) + (m : Int)) = ((a + m : Nat) : Int) := by rw [wrap_u64e _ (by omega) (by omega)]; omega
    have e3 : IntKind.wrap .i64 (((m + 1 : Nat) : Int) - 1 - 1) = (m : Int) - 1 := by rw [wrap_i64e _ (by omega) (by omega)]; omega
    have hv3 : v < 16777216 := by
      rw [p2] at hv2
      split at hv2
      · omega
      · split at hv2
        · omega
        · split at hv2 <;> omega
    have hlt : v * 256 + bt b (a + m) < 256 ^ (4 - m) := by
      rcases m with _ | _ | _ | _ | m
      · rw [show (256 : Int) ^ (4 - (0 + 1)) = 16777216 from rfl] at hv2
        rw [show (256 : Int) ^ (4 - 0) = 4294967296 from rfl]; omega
      · rw [show (256 : Int) ^ (4 - (0 + 1 + 1)) = 65536 from rfl] at hv2
        rw [show (256 : Int) ^ (4 - (0 + 1)) = 16777216 from rfl]; omega
      · rw [show (256 : Int) ^ (4 - (0 + 1 + 1 + 1)) = 256 from rfl] at hv2
        rw [show (256 : Int) ^ (4 - (0 + 1 + 1)) = 65536 from rfl]; omega
      · rw [show (256 : Int) ^ (4 - (0 + 1 + 1 + 1 + 1)) = 1 from rfl] at hv2
        rw [show (256 : Int) ^ (4 - (0 + 1 + 1 + 1)) = 256 from rfl]; omega
      · omega
    have hval : v * 256 ^ (m + 1) + num b a (m + 1) = (v * 256 + bt b (a + m)) * 256 ^ m + num b a m := by
      simp only [num]
      rw [Int.pow_succ, Int.add_mul, Int.mul_assoc v 256, Int.mul_comm 256 (256 ^ m)]
      omega
    obtain ⟨i1, i2⟩ := ih n (v * 256 + bt b (a + m)) (by omega) (by omega) (by omega) hlt (by omega)
    have d1 : decide (0 ≤ ((a + m : Nat) : Int)) = true := decide_eq_true (by omega)
    have d2 : decide (((a + m : Nat) : Int) < ((b.length : Nat) : Int)) = true := decide_eq_true (by omega)
    have ebt : b.getD (a + m) 0 = bt b (a + m) := rfl
    have e4 : IntKind.wrap .u64 (IntKind.wrap .u64 (v * 256) + IntKind.wrap .u64 (bt b (a + m))) = v * 256 + bt b (a + m) := by
      rw [wrap_u64e (v * 256) (by omega) (by omega), wrap_u64e (bt b (a + m)) (by omega) (by omega), wrap_u64e _ (by omega) (by omega)]
    rw [hval]
    constructor
    · simp only [elf_reader_num.q0.l, d, cond_true, e1, e2, d1, d2, Bool.and_self, Int.toNat_natCast, ebt, orshl v (bt b (a + m)) hv hv3 hbt.1 hbt.2, e3]
      exact i1
    · simp only [atlasref23_num.q0.l, d, cond_true, e1, e2, d1, d2, Bool.and_self, Int.toNat_natCast, ebt, e4, e3]
      exact i2
def half (b : List Int) (a : Int) : Int := num b a.toNat 2
def word (b : List Int) (a : Int) : Int := num b a.toNat 4
theorem half_range {b : List Int} (h : ByB b) (a : Int) : 0 ≤ half b a ∧ half b a < 65536 := num_range h _ 2
theorem word_range {b : List Int} (h : ByB b) (a : Int) : 0 ≤ word b a ∧ word b a < 4294967296 := num_range h _ 4
theorem num_eq (k : Nat) (hk : 5 ≤ k) (b : List Int) (hb : ByB b) (hl : b.length ≤ 140737488351232) (a : Int) (m : Nat) (h0 : 0 ≤ a) (hm : m ≤ 4) (ha : a + m ≤ (b.length : Int)) :
    elf_reader_num.f k ⟨b⟩ a m = some (num b a.toNat m) ∧ atlasref23_num.f k b a m = some (num b a.toNat m) := by
  obtain ⟨n, rfl⟩ : ∃ n : Nat, a = n := ⟨a.toNat, by omega⟩
  have p : (0 : Int) < 256 ^ (4 - m) := Int.pow_pos (by decide)
  obtain ⟨h1, h2⟩ := num_loop k b hb n hl m k 0 (by omega) hm (Int.le_refl _) p (by omega)
  have e : IntKind.wrap .i64 ((m : Int) - 1) = (m : Int) - 1 := by rw [wrap_i64e _ (by omega) (by omega)]
  unfold elf_reader_num.f atlasref23_num.f
  rw [e, h1, h2, Int.toNat_natCast]
  simp
section
variable (k : Nat) (hk : 5 ≤ k) (b : List Int) (hb : ByB b) (hl : b.length ≤ 140737488351232)
include hk hb hl
theorem half_e (a : Int) (h0 : 0 ≤ a) (ha : a + 2 ≤ (b.length : Int)) : elf_reader_half.f k ⟨b⟩ a = some (half b a) := by
  have := (num_eq k hk b hb hl a 2 h0 (by omega) (by omega)).1
  unfold elf_reader_half.f
  rw [show (2 : Int) = ((2 : Nat) : Int) from rfl, this]; rfl
theorem word_e (a : Int) (h0 : 0 ≤ a) (ha : a + 4 ≤ (b.length : Int)) : elf_reader_word.f k ⟨b⟩ a = some (word b a) := by
  have := (num_eq k hk b hb hl a 4 h0 (by omega) (by omega)).1
  unfold elf_reader_word.f
  rw [show (4 : Int) = ((4 : Nat) : Int) from rfl, this]; rfl
theorem half_r (a : Int) (h0 : 0 ≤ a) (ha : a + 2 ≤ (b.length : Int)) : atlasref23_num.f k b a 2 = some (half b a) := (num_eq k hk b hb hl a 2 h0 (by omega) (by omega)).2
theorem num4_r (a : Int) (h0 : 0 ≤ a) (ha : a + 4 ≤ (b.length : Int)) : atlasref23_num.f k b a 4 = some (word b a) := (num_eq k hk b hb hl a 4 h0 (by omega) (by omega)).2
theorem word_r (a j : Int) (h0 : 0 ≤ a) (hj : 0 ≤ j) (ha : a + 4 * j + 4 ≤ (b.length : Int)) : atlasref23_word.f k b a j = some (word b (a + 4 * j)) := by
  unfold atlasref23_word.f
  rw [wrap_u64e j hj (by omega), wrap_u64e (4 * j) (by omega) (by omega), wrap_u64e (a + 4 * j) (by omega) (by omega), num4_r k hk b hb hl _ (by omega) ha]
  rfl
end
theorem must_bind {β : Type} (c : Bool) (e : Int) (F : T77 → Option β) (G : Unit → Option β) : ((elf_must.f c e).bind fun r => Sum.elim F G r) = bif c then G () else F ⟨e⟩ := by
  cases c <;> rfl
theorem holds_e (b : List Int) (a n : Int) (ha : 0 ≤ a) (hn : 0 ≤ n) (h : a + n < 18446744073709551616) (hl : b.length ≤ 140737488351232) : elf_reader_holds.f ⟨b⟩ a n = some (decide (a + n ≤ (b.length : Int))) := by
  unfold elf_reader_holds.f
  rw [wrap_u64e (a + n) (by omega) h, wrap_u64e ((b.length : Nat) : Int) (by omega) (by omega)]
end Go.Va
