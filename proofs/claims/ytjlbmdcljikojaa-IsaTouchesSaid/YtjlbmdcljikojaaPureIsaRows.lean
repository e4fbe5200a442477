/-
  Each row of the decoder: the word of what it says.
  Conditions: none.
-/
import Derived.Test.YtjlbmdcljikojaaPureIsaRow
set_option linter.unusedVariables false
set_option linter.unusedSimpArgs false
set_option autoImplicit false
set_option maxRecDepth 10000
namespace Go.Va
theorem one_eq : (true : Bool) = ((1 : Int) == 1) := rfl
theorem zero_eq : (false : Bool) = ((0 : Int) == 1) := rfl

theorem lay_prod (c op rd rm rs ra : Int) (s : Bool) (n : Int) (h : op = 19 ∧ n = 0 ∨ op = 20 ∧ n = 1 ∨ op = 21 ∧ n = 4 ∨ op = 22 ∧ n = 5 ∨ op = 23 ∧ n = 6 ∨ op = 24 ∧ n = 7) :
    isa_lay.f ⟨c, op, s, 0, rd, 0, rm, rs, ra, 0, 0, 0, false, false, false, 0, 0, 0, 0, 0⟩ = (isa_word_with.f 0 28 c).bind fun r1 => ((isa_word_with.f r1 21 n).bind fun r13 => ((isa_word_flag.f r13 20 s).bind fun r14 => ((isa_word_with.f r14 16 rd).bind fun r15 => ((isa_word_with.f r15 12 ra).bind fun r16 => ((isa_word_with.f r16 8 rs).bind fun r17 => ((isa_word_with.f r17 0 rm).bind fun r18 => (some (orI .u32 r18 144)))))))) := by
  rcases h with ⟨rfl, rfl⟩ | ⟨rfl, rfl⟩ | ⟨rfl, rfl⟩ | ⟨rfl, rfl⟩ | ⟨rfl, rfl⟩ | ⟨rfl, rfl⟩ <;> rfl
theorem w_prod (c n s rd ra rs rm : Int) (c0 : 0 ≤ c) (c1 : c < 16) (n0 : 0 ≤ n) (n1 : n < 8) (s0 : 0 ≤ s) (s1 : s < 2) (rd0 : 0 ≤ rd) (rd1 : rd < 16) (ra0 : 0 ≤ ra) (ra1 : ra < 16) (rs0 : 0 ≤ rs) (rs1 : rs < 16) (rm0 : 0 ≤ rm) (rm1 : rm < 16) (op : Int) (hop : op = 19 ∧ n = 0 ∨ op = 20 ∧ n = 1 ∨ op = 21 ∧ n = 4 ∨ op = 22 ∧ n = 5 ∨ op = 23 ∧ n = 6 ∨ op = 24 ∧ n = 7) :
    isa_lay.f ⟨c, op, (s == 1), 0, rd, 0, rm, rs, ra, 0, 0, 0, false, false, false, 0, 0, 0, 0, 0⟩ = some (0 + c * 268435456 + n * 2097152 + s * 1048576 + rd * 65536 + ra * 4096 + rs * 256 + rm * 1 + 144) := by
  rw [lay_prod _ _ _ _ _ _ _ n hop]
  rw [with_28_4 (by omega) (by omega) (by omega) (by omega) (by omega)]; try simp only [Option.bind_some]
  rw [with_21_3 (by omega) (by omega) (by omega) (by omega) (by omega)]; try simp only [Option.bind_some]
  rw [flag_20 (by omega) (by omega) (by omega) (by omega) (by omega)]; try simp only [Option.bind_some]
  rw [with_16_4 (by omega) (by omega) (by omega) (by omega) (by omega)]; try simp only [Option.bind_some]
  rw [with_12_4 (by omega) (by omega) (by omega) (by omega) (by omega)]; try simp only [Option.bind_some]
  rw [with_8_4 (by omega) (by omega) (by omega) (by omega) (by omega)]; try simp only [Option.bind_some]
  rw [with_0_4 (by omega) (by omega) (by omega) (by omega) (by omega)]; try simp only [Option.bind_some]
  rw [or_144 (by omega) (by omega) (by omega)]; try simp only [Option.bind_some]


theorem lay_data (c op : Int) (s : Bool) (form rd rn rm rs imm sh am : Int) (h1 : 0 ≤ op) (h2 : op < 16) :
    isa_lay.f ⟨c, op + 1, s, form, rd, rn, rm, rs, 0, imm, sh, am, false, false, false, 0, 0, 0, 0, 0⟩ = (isa_word_with.f 0 28 c).bind fun r1 => (isa_word_with.f r1 21 op).bind fun r2 => (isa_word_flag.f r2 20 s).bind fun r3 => (isa_word_with.f r3 16 rn).bind fun r4 => (isa_word_with.f r4 12 rd).bind fun r5 =>
      isa_operand.f r5 ⟨c, op + 1, s, form, rd, rn, rm, rs, 0, imm, sh, am, false, false, false, 0, 0, 0, 0, 0⟩ := by
  unfold isa_lay.f
  have a1 : decide (op + 1 ≥ 1) = true := by simp; omega
  have a2 : decide (op + 1 ≤ 16) = true := by simp; omega
  have a3 : op + 1 - 1 = op := by omega
  simp only [a1, a2, a3, cond_true, wrap_i64 op (by omega) (by omega), Option.bind_fun_some]
theorem operand_reg (a c op : Int) (s : Bool) (rd rn rm rs imm sh am : Int) : isa_operand.f a ⟨c, op, s, 2, rd, rn, rm, rs, 0, imm, sh, am, false, false, false, 0, 0, 0, 0, 0⟩ = (isa_word_with.f a 7 am).bind fun r6 => (isa_word_with.f r6 5 sh).bind fun r7 => isa_word_with.f r7 0 rm := by
  unfold isa_operand.f
  simp only [Option.bind_fun_some]
  rfl
theorem operand_rsr (a c op : Int) (s : Bool) (rd rn rm rs imm sh am : Int) : isa_operand.f a ⟨c, op, s, 3, rd, rn, rm, rs, 0, imm, sh, am, false, false, false, 0, 0, 0, 0, 0⟩ = (isa_word_with.f a 8 rs).bind fun r2 => (isa_word_with.f r2 5 sh).bind fun r3 => (isa_word_flag.f r3 4 ((1 : Int) == 1)).bind fun r4 => isa_word_with.f r4 0 rm := by
  unfold isa_operand.f
  simp only [Option.bind_fun_some]
  rfl
theorem operand_imm (a c op : Int) (s : Bool) (rd rn rm rs imm sh am : Int) : isa_operand.f a ⟨c, op, s, 1, rd, rn, rm, rs, 0, imm, sh, am, false, false, false, 0, 0, 0, 0, 0⟩ = (isa_word_flag.f a 25 ((1 : Int) == 1)).bind fun r1 => some (orI .u32 r1 imm) := rfl
theorem w_reg (c op s rn rd am sh rm : Int) (c0 : 0 ≤ c) (c1 : c < 16) (op0 : 0 ≤ op) (op1 : op < 16) (s0 : 0 ≤ s) (s1 : s < 2) (rn0 : 0 ≤ rn) (rn1 : rn < 16) (rd0 : 0 ≤ rd) (rd1 : rd < 16) (am0 : 0 ≤ am) (am1 : am < 32) (sh0 : 0 ≤ sh) (sh1 : sh < 4) (rm0 : 0 ≤ rm) (rm1 : rm < 16)  :
    isa_lay.f ⟨c, op + 1, (s == 1), 2, rd, rn, rm, 0, 0, 0, sh, am, false, false, false, 0, 0, 0, 0, 0⟩ = some (0 + c * 268435456 + op * 2097152 + s * 1048576 + rn * 65536 + rd * 4096 + am * 128 + sh * 32 + rm * 1) := by
  rw [lay_data _ _ _ _ _ _ _ _ _ _ _ op0 op1]
  simp only [operand_reg]
  rw [with_28_4 (by omega) (by omega) (by omega) (by omega) (by omega)]; try simp only [Option.bind_some]
  rw [with_21_4 (by omega) (by omega) (by omega) (by omega) (by omega)]; try simp only [Option.bind_some]
  rw [flag_20 (by omega) (by omega) (by omega) (by omega) (by omega)]; try simp only [Option.bind_some]
  rw [with_16_4 (by omega) (by omega) (by omega) (by omega) (by omega)]; try simp only [Option.bind_some]
  rw [with_12_4 (by omega) (by omega) (by omega) (by omega) (by omega)]; try simp only [Option.bind_some]
  rw [with_7_5 (by omega) (by omega) (by omega) (by omega) (by omega)]; try simp only [Option.bind_some]
  rw [with_5_2 (by omega) (by omega) (by omega) (by omega) (by omega)]; try simp only [Option.bind_some]
  rw [with_0_4 (by omega) (by omega) (by omega) (by omega) (by omega)]; try simp only [Option.bind_some]

theorem w_rsr (c op s rn rd rs sh rm : Int) (c0 : 0 ≤ c) (c1 : c < 16) (op0 : 0 ≤ op) (op1 : op < 16) (s0 : 0 ≤ s) (s1 : s < 2) (rn0 : 0 ≤ rn) (rn1 : rn < 16) (rd0 : 0 ≤ rd) (rd1 : rd < 16) (rs0 : 0 ≤ rs) (rs1 : rs < 16) (sh0 : 0 ≤ sh) (sh1 : sh < 4) (rm0 : 0 ≤ rm) (rm1 : rm < 16)  :
    isa_lay.f ⟨c, op + 1, (s == 1), 3, rd, rn, rm, rs, 0, 0, sh, 0, false, false, false, 0, 0, 0, 0, 0⟩ = some (0 + c * 268435456 + op * 2097152 + s * 1048576 + rn * 65536 + rd * 4096 + rs * 256 + sh * 32 + 1 * 16 + rm * 1) := by
  rw [lay_data _ _ _ _ _ _ _ _ _ _ _ op0 op1]
  simp only [operand_rsr]
  rw [with_28_4 (by omega) (by omega) (by omega) (by omega) (by omega)]; try simp only [Option.bind_some]
  rw [with_21_4 (by omega) (by omega) (by omega) (by omega) (by omega)]; try simp only [Option.bind_some]
  rw [flag_20 (by omega) (by omega) (by omega) (by omega) (by omega)]; try simp only [Option.bind_some]
  rw [with_16_4 (by omega) (by omega) (by omega) (by omega) (by omega)]; try simp only [Option.bind_some]
  rw [with_12_4 (by omega) (by omega) (by omega) (by omega) (by omega)]; try simp only [Option.bind_some]
  rw [with_8_4 (by omega) (by omega) (by omega) (by omega) (by omega)]; try simp only [Option.bind_some]
  rw [with_5_2 (by omega) (by omega) (by omega) (by omega) (by omega)]; try simp only [Option.bind_some]
  rw [flag_4 (by omega) (by omega) (by omega) (by omega) (by omega)]; try simp only [Option.bind_some]
  rw [with_0_4 (by omega) (by omega) (by omega) (by omega) (by omega)]; try simp only [Option.bind_some]

theorem w_imm (c op s rn rd imm : Int) (c0 : 0 ≤ c) (c1 : c < 16) (op0 : 0 ≤ op) (op1 : op < 16) (s0 : 0 ≤ s) (s1 : s < 2) (rn0 : 0 ≤ rn) (rn1 : rn < 16) (rd0 : 0 ≤ rd) (rd1 : rd < 16) (imm0 : 0 ≤ imm) (imm1 : imm < 4096)  :
    isa_lay.f ⟨c, op + 1, (s == 1), 1, rd, rn, 0, 0, 0, imm, 0, 0, false, false, false, 0, 0, 0, 0, 0⟩ = some (0 + c * 268435456 + op * 2097152 + s * 1048576 + rn * 65536 + rd * 4096 + 1 * 33554432 + imm) := by
  rw [lay_data _ _ _ _ _ _ _ _ _ _ _ op0 op1]
  simp only [operand_imm]
  rw [with_28_4 (by omega) (by omega) (by omega) (by omega) (by omega)]; try simp only [Option.bind_some]
  rw [with_21_4 (by omega) (by omega) (by omega) (by omega) (by omega)]; try simp only [Option.bind_some]
  rw [flag_20 (by omega) (by omega) (by omega) (by omega) (by omega)]; try simp only [Option.bind_some]
  rw [with_16_4 (by omega) (by omega) (by omega) (by omega) (by omega)]; try simp only [Option.bind_some]
  rw [with_12_4 (by omega) (by omega) (by omega) (by omega) (by omega)]; try simp only [Option.bind_some]
  rw [flag_25 (by omega) (by omega) (by omega) (by omega) (by omega)]; try simp only [Option.bind_some]
  rw [or_low 12 (by omega) (by omega) (by omega) (by omega) (by decide) (by omega)]; try simp only [Option.bind_some]


theorem layHalf_eq (a c op : Int) (form rd rn rm imm : Int) (pre up write : Bool) (k : Int) (l : Int) (h : op = 35 ∧ k = 1 ∧ l = 1 ∨ op = 36 ∧ k = 1 ∧ l = 0 ∨ op = 37 ∧ k = 2 ∧ l = 1 ∨ op = 38 ∧ k = 3 ∧ l = 1) :
    isa_layHalf.f a ⟨c, op, false, form, rd, rn, rm, 0, 0, imm, 0, 0, pre, up, write, 0, 0, 0, 0, 0⟩ = (isa_word_flag.f a 20 (l == 1)).bind fun r1 => (isa_word_with.f r1 5 k).bind fun r2 => (bif (form == 1) then ((isa_word_flag.f (orI .u32 r2 144) 22 true).bind fun r3 => ((isa_word_with.f r3 8 (IntKind.wrap .i64 (shrI .u32 imm 4))).bind fun r4 => ((isa_word_with.f r4 0 (IntKind.wrap .i64 (andI .u32 imm 15))).bind fun r5 => (some r5)))) else ((isa_word_with.f (orI .u32 r2 144) 0 rm).bind fun r6 => (some r6))) := by
  rcases h with ⟨rfl, rfl, rfl⟩ | ⟨rfl, rfl, rfl⟩ | ⟨rfl, rfl, rfl⟩ | ⟨rfl, rfl, rfl⟩ <;> rfl
theorem lay_half (c op : Int) (form rd rn rm imm : Int) (pre up write : Bool) (k : Int) (l : Int) (h : op = 35 ∧ k = 1 ∧ l = 1 ∨ op = 36 ∧ k = 1 ∧ l = 0 ∨ op = 37 ∧ k = 2 ∧ l = 1 ∨ op = 38 ∧ k = 3 ∧ l = 1) :
    isa_lay.f ⟨c, op, false, form, rd, rn, rm, 0, 0, imm, 0, 0, pre, up, write, 0, 0, 0, 0, 0⟩ = (isa_word_with.f 0 28 c).bind fun r1 => (isa_word_flag.f r1 24 pre).bind fun r1 => (isa_word_flag.f r1 23 up).bind fun r2 => (isa_word_flag.f r2 21 write).bind fun r3 => (isa_word_with.f r3 16 rn).bind fun r4 =>
      (isa_word_with.f r4 12 rd).bind fun r5 => (isa_word_flag.f r5 20 (l == 1)).bind fun r1 => (isa_word_with.f r1 5 k).bind fun r2 => (bif (form == 1) then ((isa_word_flag.f (orI .u32 r2 144) 22 true).bind fun r3 => (isa_word_with.f r3 8 (IntKind.wrap .i64 (shrI .u32 imm 4))).bind fun r4 => isa_word_with.f r4 0 (IntKind.wrap .i64 (andI .u32 imm 15))) else isa_word_with.f (orI .u32 r2 144) 0 rm) := by
  have e : isa_lay.f ⟨c, op, false, form, rd, rn, rm, 0, 0, imm, 0, 0, pre, up, write, 0, 0, 0, 0, 0⟩ = (isa_word_with.f 0 28 c).bind fun r1 => (isa_beside.f r1 ⟨c, op, false, form, rd, rn, rm, 0, 0, imm, 0, 0, pre, up, write, 0, 0, 0, 0, 0⟩).bind fun r30 => (isa_word_with.f r30 12 rd).bind fun r31 => (isa_layHalf.f r31 ⟨c, op, false, form, rd, rn, rm, 0, 0, imm, 0, 0, pre, up, write, 0, 0, 0, 0, 0⟩).bind fun r32 => (some r32) := by
    rcases h with ⟨rfl, rfl, rfl⟩ | ⟨rfl, rfl, rfl⟩ | ⟨rfl, rfl, rfl⟩ | ⟨rfl, rfl, rfl⟩ <;> rfl
  rw [e]
  simp only [layHalf_eq _ _ _ _ _ _ _ _ _ _ _ k l h, isa_beside.f, Option.bind_assoc, Option.bind_some, Option.bind_fun_some]
theorem w_halfI (c p u wr rn rd l k hi lo : Int) (c0 : 0 ≤ c) (c1 : c < 16) (p0 : 0 ≤ p) (p1 : p < 2) (u0 : 0 ≤ u) (u1 : u < 2) (wr0 : 0 ≤ wr) (wr1 : wr < 2) (rn0 : 0 ≤ rn) (rn1 : rn < 16) (rd0 : 0 ≤ rd) (rd1 : rd < 16) (l0 : 0 ≤ l) (l1 : l < 2) (k0 : 0 ≤ k) (k1 : k < 4) (hi0 : 0 ≤ hi) (hi1 : hi < 16) (lo0 : 0 ≤ lo) (lo1 : lo < 16) (op : Int) (hop : op = 35 ∧ k = 1 ∧ l = 1 ∨ op = 36 ∧ k = 1 ∧ l = 0 ∨ op = 37 ∧ k = 2 ∧ l = 1 ∨ op = 38 ∧ k = 3 ∧ l = 1) :
    isa_lay.f ⟨c, op, false, 1, rd, rn, 0, 0, 0, hi * 16 + lo, 0, 0, (p == 1), (u == 1), (wr == 1), 0, 0, 0, 0, 0⟩ = some (0 + c * 268435456 + p * 16777216 + u * 8388608 + wr * 2097152 + rn * 65536 + rd * 4096 + l * 1048576 + k * 32 + 144 + 1 * 4194304 + hi * 256 + lo * 1) := by
  rw [lay_half _ _ _ _ _ _ _ _ _ _ k l hop]
  rw [shr_4, and_15 (by omega) (by omega), show (hi * 16 + lo) / 16 = hi by omega, show (hi * 16 + lo) % 16 = lo by omega, wrap_i64 hi (by omega) (by omega), wrap_i64 lo (by omega) (by omega)]
  simp only [show ((1 : Int) == 1) = true from rfl, cond_true]
  rw [one_eq]
  rw [with_28_4 (by omega) (by omega) (by omega) (by omega) (by omega)]; try simp only [Option.bind_some]
  rw [flag_24 (by omega) (by omega) (by omega) (by omega) (by omega)]; try simp only [Option.bind_some]
  rw [flag_23 (by omega) (by omega) (by omega) (by omega) (by omega)]; try simp only [Option.bind_some]
  rw [flag_21 (by omega) (by omega) (by omega) (by omega) (by omega)]; try simp only [Option.bind_some]
  rw [with_16_4 (by omega) (by omega) (by omega) (by omega) (by omega)]; try simp only [Option.bind_some]
  rw [with_12_4 (by omega) (by omega) (by omega) (by omega) (by omega)]; try simp only [Option.bind_some]
  rw [flag_20 (by omega) (by omega) (by omega) (by omega) (by omega)]; try simp only [Option.bind_some]
  rw [with_5_2 (by omega) (by omega) (by omega) (by omega) (by omega)]; try simp only [Option.bind_some]
  rw [or_144b (by omega) (by omega) (by omega) (by omega)]; try simp only [Option.bind_some]
  rw [flag_22 (by omega) (by omega) (by omega) (by omega) (by omega)]; try simp only [Option.bind_some]
  rw [with_8_4 (by omega) (by omega) (by omega) (by omega) (by omega)]; try simp only [Option.bind_some]
  rw [with_0_4 (by omega) (by omega) (by omega) (by omega) (by omega)]; try simp only [Option.bind_some]

theorem w_halfR (c p u wr rn rd l k rm : Int) (c0 : 0 ≤ c) (c1 : c < 16) (p0 : 0 ≤ p) (p1 : p < 2) (u0 : 0 ≤ u) (u1 : u < 2) (wr0 : 0 ≤ wr) (wr1 : wr < 2) (rn0 : 0 ≤ rn) (rn1 : rn < 16) (rd0 : 0 ≤ rd) (rd1 : rd < 16) (l0 : 0 ≤ l) (l1 : l < 2) (k0 : 0 ≤ k) (k1 : k < 4) (rm0 : 0 ≤ rm) (rm1 : rm < 16) (op : Int) (hop : op = 35 ∧ k = 1 ∧ l = 1 ∨ op = 36 ∧ k = 1 ∧ l = 0 ∨ op = 37 ∧ k = 2 ∧ l = 1 ∨ op = 38 ∧ k = 3 ∧ l = 1) :
    isa_lay.f ⟨c, op, false, 2, rd, rn, rm, 0, 0, 0, 0, 0, (p == 1), (u == 1), (wr == 1), 0, 0, 0, 0, 0⟩ = some (0 + c * 268435456 + p * 16777216 + u * 8388608 + wr * 2097152 + rn * 65536 + rd * 4096 + l * 1048576 + k * 32 + 144 + rm * 1) := by
  rw [lay_half _ _ _ _ _ _ _ _ _ _ k l hop]
  simp only [show ((2 : Int) == 1) = false from rfl, cond_false]
  rw [with_28_4 (by omega) (by omega) (by omega) (by omega) (by omega)]; try simp only [Option.bind_some]
  rw [flag_24 (by omega) (by omega) (by omega) (by omega) (by omega)]; try simp only [Option.bind_some]
  rw [flag_23 (by omega) (by omega) (by omega) (by omega) (by omega)]; try simp only [Option.bind_some]
  rw [flag_21 (by omega) (by omega) (by omega) (by omega) (by omega)]; try simp only [Option.bind_some]
  rw [with_16_4 (by omega) (by omega) (by omega) (by omega) (by omega)]; try simp only [Option.bind_some]
  rw [with_12_4 (by omega) (by omega) (by omega) (by omega) (by omega)]; try simp only [Option.bind_some]
  rw [flag_20 (by omega) (by omega) (by omega) (by omega) (by omega)]; try simp only [Option.bind_some]
  rw [with_5_2 (by omega) (by omega) (by omega) (by omega) (by omega)]; try simp only [Option.bind_some]
  rw [or_144b (by omega) (by omega) (by omega) (by omega)]; try simp only [Option.bind_some]
  rw [with_0_4 (by omega) (by omega) (by omega) (by omega) (by omega)]; try simp only [Option.bind_some]

end Go.Va
