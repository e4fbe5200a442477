/-
  The words of the other formats.
  Conditions: none.
-/
import Derived.Test.YtjlbmdcljikojaaPureIsaRows
set_option linter.unusedVariables false
set_option linter.unusedSimpArgs false
set_option autoImplicit false
set_option maxRecDepth 10000
namespace Go.Va
theorem l_mrs (c rd : Int) (s : Bool) : isa_lay.f ⟨c, 47, s, 0, rd, 0, 0, 0, 0, 0, 0, 0, false, false, false, 0, 0, 0, 0, 0⟩ = (isa_word_with.f 0 28 c).bind fun r0 => (isa_word_flag.f r0 22 s).bind fun r6 => (isa_word_with.f r6 12 rd).bind fun r7 => some (orI .u32 r7 17760256) := by
  first
    | rfl
    | (unfold isa_lay.f isa_layLast.f; simp only [Option.bind_fun_some]; rfl)
theorem w_mrs (c s rd : Int) (c0 : 0 ≤ c) (c1 : c < 16) (s0 : 0 ≤ s) (s1 : s < 2) (rd0 : 0 ≤ rd) (rd1 : rd < 16)  :
    isa_lay.f ⟨c, 47, (s == 1), 0, rd, 0, 0, 0, 0, 0, 0, 0, false, false, false, 0, 0, 0, 0, 0⟩ = some (0 + c * 268435456 + s * 4194304 + rd * 4096 + 17760256) := by
  rw [l_mrs]
  rw [with_28_4 (by omega) (by omega) (by omega) (by omega) (by omega)]; try simp only [Option.bind_some]
  rw [flag_22 (by omega) (by omega) (by omega) (by omega) (by omega)]; try simp only [Option.bind_some]
  rw [with_12_4 (by omega) (by omega) (by omega) (by omega) (by omega)]; try simp only [Option.bind_some]
  rw [or_17760256 (by omega) (by omega) (by omega) (by omega)]; try simp only [Option.bind_some]

theorem l_msr (c am rm : Int) (s : Bool) : isa_lay.f ⟨c, 48, s, 2, 0, 0, rm, 0, 0, 0, 0, am, false, false, false, 0, 0, 0, 0, 0⟩ = (isa_word_with.f 0 28 c).bind fun r0 => (isa_word_flag.f r0 22 s).bind fun r8 => (isa_word_with.f r8 16 am).bind fun r9 => isa_word_with.f (orI .u32 r9 18935808) 0 rm := by
  first
    | rfl
    | (unfold isa_lay.f isa_layLast.f; simp only [Option.bind_fun_some]; rfl)
theorem w_msr (c s am rm : Int) (c0 : 0 ≤ c) (c1 : c < 16) (s0 : 0 ≤ s) (s1 : s < 2) (am0 : 0 ≤ am) (am1 : am < 16) (rm0 : 0 ≤ rm) (rm1 : rm < 16)  :
    isa_lay.f ⟨c, 48, (s == 1), 2, 0, 0, rm, 0, 0, 0, 0, am, false, false, false, 0, 0, 0, 0, 0⟩ = some (0 + c * 268435456 + s * 4194304 + am * 65536 + 18935808 + rm * 1) := by
  rw [l_msr]
  rw [with_28_4 (by omega) (by omega) (by omega) (by omega) (by omega)]; try simp only [Option.bind_some]
  rw [flag_22 (by omega) (by omega) (by omega) (by omega) (by omega)]; try simp only [Option.bind_some]
  rw [with_16_4 (by omega) (by omega) (by omega) (by omega) (by omega)]; try simp only [Option.bind_some]
  rw [or_18935808 (by omega) (by omega) (by omega) (by omega) (by omega)]; try simp only [Option.bind_some]
  rw [with_0_4 (by omega) (by omega) (by omega) (by omega) (by omega)]; try simp only [Option.bind_some]

theorem l_msi (c am imm : Int) (s : Bool) : isa_lay.f ⟨c, 48, s, 1, 0, 0, 0, 0, 0, imm, 0, am, false, false, false, 0, 0, 0, 0, 0⟩ = (isa_word_with.f 0 28 c).bind fun r0 => (isa_word_flag.f r0 22 s).bind fun r8 => (isa_word_with.f r8 16 am).bind fun r9 => some (orI .u32 (orI .u32 (orI .u32 r9 18935808) 33554432) imm) := by
  first
    | rfl
    | (unfold isa_lay.f isa_layLast.f; simp only [Option.bind_fun_some]; rfl)
theorem w_msi (c s am imm : Int) (c0 : 0 ≤ c) (c1 : c < 16) (s0 : 0 ≤ s) (s1 : s < 2) (am0 : 0 ≤ am) (am1 : am < 16) (imm0 : 0 ≤ imm) (imm1 : imm < 4096)  :
    isa_lay.f ⟨c, 48, (s == 1), 1, 0, 0, 0, 0, 0, imm, 0, am, false, false, false, 0, 0, 0, 0, 0⟩ = some (0 + c * 268435456 + s * 4194304 + am * 65536 + 18935808 + 33554432 + imm) := by
  rw [l_msi]
  rw [with_28_4 (by omega) (by omega) (by omega) (by omega) (by omega)]; try simp only [Option.bind_some]
  rw [flag_22 (by omega) (by omega) (by omega) (by omega) (by omega)]; try simp only [Option.bind_some]
  rw [with_16_4 (by omega) (by omega) (by omega) (by omega) (by omega)]; try simp only [Option.bind_some]
  rw [or_18935808 (by omega) (by omega) (by omega) (by omega) (by omega)]; try simp only [Option.bind_some]
  rw [or_33554432 (by omega) (by omega) (by omega)]; try simp only [Option.bind_some]
  rw [or_low 12 (by omega) (by omega) (by omega) (by omega) (by decide) (by omega)]; try simp only [Option.bind_some]

theorem l_bx (c rm : Int) : isa_lay.f ⟨c, 43, false, 0, 0, 0, rm, 0, 0, 0, 0, 0, false, false, false, 0, 0, 0, 0, 0⟩ = (isa_word_with.f 0 28 c).bind fun r0 => (isa_word_with.f r0 0 rm).bind fun r1 => some (orI .u32 r1 19922704) := by
  first
    | rfl
    | (unfold isa_lay.f isa_layLast.f; simp only [Option.bind_fun_some]; rfl)
theorem w_bx (c rm : Int) (c0 : 0 ≤ c) (c1 : c < 16) (rm0 : 0 ≤ rm) (rm1 : rm < 16)  :
    isa_lay.f ⟨c, 43, false, 0, 0, 0, rm, 0, 0, 0, 0, 0, false, false, false, 0, 0, 0, 0, 0⟩ = some (0 + c * 268435456 + rm * 1 + 19922704) := by
  rw [l_bx]
  rw [with_28_4 (by omega) (by omega) (by omega) (by omega) (by omega)]; try simp only [Option.bind_some]
  rw [with_0_4 (by omega) (by omega) (by omega) (by omega) (by omega)]; try simp only [Option.bind_some]
  rw [or_19922704 (by omega) (by omega) (by omega)]; try simp only [Option.bind_some]

theorem l_blx (c rm : Int) : isa_lay.f ⟨c, 44, false, 0, 0, 0, rm, 0, 0, 0, 0, 0, false, false, false, 0, 0, 0, 0, 0⟩ = (isa_word_with.f 0 28 c).bind fun r0 => (isa_word_with.f r0 0 rm).bind fun r1 => some (orI .u32 r1 19922736) := by
  first
    | rfl
    | (unfold isa_lay.f isa_layLast.f; simp only [Option.bind_fun_some]; rfl)
theorem w_blx (c rm : Int) (c0 : 0 ≤ c) (c1 : c < 16) (rm0 : 0 ≤ rm) (rm1 : rm < 16)  :
    isa_lay.f ⟨c, 44, false, 0, 0, 0, rm, 0, 0, 0, 0, 0, false, false, false, 0, 0, 0, 0, 0⟩ = some (0 + c * 268435456 + rm * 1 + 19922736) := by
  rw [l_blx]
  rw [with_28_4 (by omega) (by omega) (by omega) (by omega) (by omega)]; try simp only [Option.bind_some]
  rw [with_0_4 (by omega) (by omega) (by omega) (by omega) (by omega)]; try simp only [Option.bind_some]
  rw [or_19922736 (by omega) (by omega) (by omega)]; try simp only [Option.bind_some]

theorem l_bkpt (c imm : Int) : isa_lay.f ⟨c, 46, false, 0, 0, 0, 0, 0, 0, imm, 0, 0, false, false, false, 0, 0, 0, 0, 0⟩ = (isa_word_with.f 0 28 c).bind fun r0 => (isa_word_with.f r0 8 (IntKind.wrap .i64 (shrI .u32 imm 4))).bind fun r1 => (isa_word_with.f r1 0 (IntKind.wrap .i64 (andI .u32 imm 15))).bind fun r2 => some (orI .u32 r2 18874480) := by
  first
    | rfl
    | (unfold isa_lay.f isa_layLast.f; simp only [Option.bind_fun_some]; rfl)
theorem w_bkpt (c hi lo : Int) (c0 : 0 ≤ c) (c1 : c < 16) (hi0 : 0 ≤ hi) (hi1 : hi < 4096) (lo0 : 0 ≤ lo) (lo1 : lo < 16)  :
    isa_lay.f ⟨c, 46, false, 0, 0, 0, 0, 0, 0, hi * 16 + lo, 0, 0, false, false, false, 0, 0, 0, 0, 0⟩ = some (0 + c * 268435456 + hi * 256 + lo * 1 + 18874480) := by
  rw [l_bkpt, shr_4, and_15 (by omega) (by omega), show (hi * 16 + lo) / 16 = hi by omega, show (hi * 16 + lo) % 16 = lo by omega, wrap_i64 hi (by omega) (by omega), wrap_i64 lo (by omega) (by omega)]
  rw [with_28_4 (by omega) (by omega) (by omega) (by omega) (by omega)]; try simp only [Option.bind_some]
  rw [with_8_12 (by omega) (by omega) (by omega) (by omega) (by omega)]; try simp only [Option.bind_some]
  rw [with_0_4 (by omega) (by omega) (by omega) (by omega) (by omega)]; try simp only [Option.bind_some]
  rw [or_18874480 (by omega) (by omega) (by omega) (by omega)]; try simp only [Option.bind_some]

theorem l_clz (c rd am rm : Int) : isa_lay.f ⟨c, 25, false, 0, rd, 0, rm, 0, 0, 0, 0, am, false, false, false, 0, 0, 0, 0, 0⟩ = (isa_word_with.f 0 28 c).bind fun r0 => (isa_word_with.f r0 12 rd).bind fun r1 => (isa_word_with.f r1 10 am).bind fun r2 => (isa_word_with.f r2 0 rm).bind fun r3 => some (orI .u32 r3 24055568) := by
  first
    | rfl
    | (unfold isa_lay.f isa_layLast.f; simp only [Option.bind_fun_some]; rfl)
theorem w_clz (c rd rm : Int) (c0 : 0 ≤ c) (c1 : c < 16) (rd0 : 0 ≤ rd) (rd1 : rd < 16) (rm0 : 0 ≤ rm) (rm1 : rm < 16)  :
    isa_lay.f ⟨c, 25, false, 0, rd, 0, rm, 0, 0, 0, 0, 0, false, false, false, 0, 0, 0, 0, 0⟩ = some (0 + c * 268435456 + rd * 4096 + 0 * 1024 + rm * 1 + 24055568) := by
  rw [l_clz]
  rw [with_28_4 (by omega) (by omega) (by omega) (by omega) (by omega)]; try simp only [Option.bind_some]
  rw [with_12_4 (by omega) (by omega) (by omega) (by omega) (by omega)]; try simp only [Option.bind_some]
  rw [with_10_2 (by omega) (by omega) (by omega) (by omega) (by omega)]; try simp only [Option.bind_some]
  rw [with_0_4 (by omega) (by omega) (by omega) (by omega) (by omega)]; try simp only [Option.bind_some]
  rw [or_24055568 (by omega) (by omega) (by omega) (by omega)]; try simp only [Option.bind_some]

theorem l_rev (c rd am rm : Int) : isa_lay.f ⟨c, 26, false, 0, rd, 0, rm, 0, 0, 0, 0, am, false, false, false, 0, 0, 0, 0, 0⟩ = (isa_word_with.f 0 28 c).bind fun r0 => (isa_word_with.f r0 12 rd).bind fun r1 => (isa_word_with.f r1 10 am).bind fun r2 => (isa_word_with.f r2 0 rm).bind fun r3 => some (orI .u32 r3 113184560) := by
  first
    | rfl
    | (unfold isa_lay.f isa_layLast.f; simp only [Option.bind_fun_some]; rfl)
theorem w_rev (c rd rm : Int) (c0 : 0 ≤ c) (c1 : c < 16) (rd0 : 0 ≤ rd) (rd1 : rd < 16) (rm0 : 0 ≤ rm) (rm1 : rm < 16)  :
    isa_lay.f ⟨c, 26, false, 0, rd, 0, rm, 0, 0, 0, 0, 0, false, false, false, 0, 0, 0, 0, 0⟩ = some (0 + c * 268435456 + rd * 4096 + 0 * 1024 + rm * 1 + 113184560) := by
  rw [l_rev]
  rw [with_28_4 (by omega) (by omega) (by omega) (by omega) (by omega)]; try simp only [Option.bind_some]
  rw [with_12_4 (by omega) (by omega) (by omega) (by omega) (by omega)]; try simp only [Option.bind_some]
  rw [with_10_2 (by omega) (by omega) (by omega) (by omega) (by omega)]; try simp only [Option.bind_some]
  rw [with_0_4 (by omega) (by omega) (by omega) (by omega) (by omega)]; try simp only [Option.bind_some]
  rw [or_113184560 (by omega) (by omega) (by omega) (by omega)]; try simp only [Option.bind_some]

theorem l_uxtb (c rd am rm : Int) : isa_lay.f ⟨c, 27, false, 0, rd, 0, rm, 0, 0, 0, 0, am, false, false, false, 0, 0, 0, 0, 0⟩ = (isa_word_with.f 0 28 c).bind fun r0 => (isa_word_with.f r0 12 rd).bind fun r1 => (isa_word_with.f r1 10 am).bind fun r2 => (isa_word_with.f r2 0 rm).bind fun r3 => some (orI .u32 r3 116326512) := by
  first
    | rfl
    | (unfold isa_lay.f isa_layLast.f; simp only [Option.bind_fun_some]; rfl)
theorem w_uxtb (c rd am rm : Int) (c0 : 0 ≤ c) (c1 : c < 16) (rd0 : 0 ≤ rd) (rd1 : rd < 16) (am0 : 0 ≤ am) (am1 : am < 4) (rm0 : 0 ≤ rm) (rm1 : rm < 16)  :
    isa_lay.f ⟨c, 27, false, 0, rd, 0, rm, 0, 0, 0, 0, am, false, false, false, 0, 0, 0, 0, 0⟩ = some (0 + c * 268435456 + rd * 4096 + am * 1024 + rm * 1 + 116326512) := by
  rw [l_uxtb]
  rw [with_28_4 (by omega) (by omega) (by omega) (by omega) (by omega)]; try simp only [Option.bind_some]
  rw [with_12_4 (by omega) (by omega) (by omega) (by omega) (by omega)]; try simp only [Option.bind_some]
  rw [with_10_2 (by omega) (by omega) (by omega) (by omega) (by omega)]; try simp only [Option.bind_some]
  rw [with_0_4 (by omega) (by omega) (by omega) (by omega) (by omega)]; try simp only [Option.bind_some]
  rw [or_116326512 (by omega) (by omega) (by omega) (by omega)]; try simp only [Option.bind_some]

theorem l_uxth (c rd am rm : Int) : isa_lay.f ⟨c, 28, false, 0, rd, 0, rm, 0, 0, 0, 0, am, false, false, false, 0, 0, 0, 0, 0⟩ = (isa_word_with.f 0 28 c).bind fun r0 => (isa_word_with.f r0 12 rd).bind fun r1 => (isa_word_with.f r1 10 am).bind fun r2 => (isa_word_with.f r2 0 rm).bind fun r3 => some (orI .u32 r3 117375088) := by
  first
    | rfl
    | (unfold isa_lay.f isa_layLast.f; simp only [Option.bind_fun_some]; rfl)
theorem w_uxth (c rd am rm : Int) (c0 : 0 ≤ c) (c1 : c < 16) (rd0 : 0 ≤ rd) (rd1 : rd < 16) (am0 : 0 ≤ am) (am1 : am < 4) (rm0 : 0 ≤ rm) (rm1 : rm < 16)  :
    isa_lay.f ⟨c, 28, false, 0, rd, 0, rm, 0, 0, 0, 0, am, false, false, false, 0, 0, 0, 0, 0⟩ = some (0 + c * 268435456 + rd * 4096 + am * 1024 + rm * 1 + 117375088) := by
  rw [l_uxth]
  rw [with_28_4 (by omega) (by omega) (by omega) (by omega) (by omega)]; try simp only [Option.bind_some]
  rw [with_12_4 (by omega) (by omega) (by omega) (by omega) (by omega)]; try simp only [Option.bind_some]
  rw [with_10_2 (by omega) (by omega) (by omega) (by omega) (by omega)]; try simp only [Option.bind_some]
  rw [with_0_4 (by omega) (by omega) (by omega) (by omega) (by omega)]; try simp only [Option.bind_some]
  rw [or_117375088 (by omega) (by omega) (by omega) (by omega)]; try simp only [Option.bind_some]

theorem l_sxtb (c rd am rm : Int) : isa_lay.f ⟨c, 29, false, 0, rd, 0, rm, 0, 0, 0, 0, am, false, false, false, 0, 0, 0, 0, 0⟩ = (isa_word_with.f 0 28 c).bind fun r0 => (isa_word_with.f r0 12 rd).bind fun r1 => (isa_word_with.f r1 10 am).bind fun r2 => (isa_word_with.f r2 0 rm).bind fun r3 => some (orI .u32 r3 112132208) := by
  first
    | rfl
    | (unfold isa_lay.f isa_layLast.f; simp only [Option.bind_fun_some]; rfl)
theorem w_sxtb (c rd am rm : Int) (c0 : 0 ≤ c) (c1 : c < 16) (rd0 : 0 ≤ rd) (rd1 : rd < 16) (am0 : 0 ≤ am) (am1 : am < 4) (rm0 : 0 ≤ rm) (rm1 : rm < 16)  :
    isa_lay.f ⟨c, 29, false, 0, rd, 0, rm, 0, 0, 0, 0, am, false, false, false, 0, 0, 0, 0, 0⟩ = some (0 + c * 268435456 + rd * 4096 + am * 1024 + rm * 1 + 112132208) := by
  rw [l_sxtb]
  rw [with_28_4 (by omega) (by omega) (by omega) (by omega) (by omega)]; try simp only [Option.bind_some]
  rw [with_12_4 (by omega) (by omega) (by omega) (by omega) (by omega)]; try simp only [Option.bind_some]
  rw [with_10_2 (by omega) (by omega) (by omega) (by omega) (by omega)]; try simp only [Option.bind_some]
  rw [with_0_4 (by omega) (by omega) (by omega) (by omega) (by omega)]; try simp only [Option.bind_some]
  rw [or_112132208 (by omega) (by omega) (by omega) (by omega)]; try simp only [Option.bind_some]

theorem l_sxth (c rd am rm : Int) : isa_lay.f ⟨c, 30, false, 0, rd, 0, rm, 0, 0, 0, 0, am, false, false, false, 0, 0, 0, 0, 0⟩ = (isa_word_with.f 0 28 c).bind fun r0 => (isa_word_with.f r0 12 rd).bind fun r1 => (isa_word_with.f r1 10 am).bind fun r2 => (isa_word_with.f r2 0 rm).bind fun r3 => some (orI .u32 r3 113180784) := by
  first
    | rfl
    | (unfold isa_lay.f isa_layLast.f; simp only [Option.bind_fun_some]; rfl)
theorem w_sxth (c rd am rm : Int) (c0 : 0 ≤ c) (c1 : c < 16) (rd0 : 0 ≤ rd) (rd1 : rd < 16) (am0 : 0 ≤ am) (am1 : am < 4) (rm0 : 0 ≤ rm) (rm1 : rm < 16)  :
    isa_lay.f ⟨c, 30, false, 0, rd, 0, rm, 0, 0, 0, 0, am, false, false, false, 0, 0, 0, 0, 0⟩ = some (0 + c * 268435456 + rd * 4096 + am * 1024 + rm * 1 + 113180784) := by
  rw [l_sxth]
  rw [with_28_4 (by omega) (by omega) (by omega) (by omega) (by omega)]; try simp only [Option.bind_some]
  rw [with_12_4 (by omega) (by omega) (by omega) (by omega) (by omega)]; try simp only [Option.bind_some]
  rw [with_10_2 (by omega) (by omega) (by omega) (by omega) (by omega)]; try simp only [Option.bind_some]
  rw [with_0_4 (by omega) (by omega) (by omega) (by omega) (by omega)]; try simp only [Option.bind_some]
  rw [or_113180784 (by omega) (by omega) (by omega) (by omega)]; try simp only [Option.bind_some]

theorem l_movw (c rd imm : Int) : isa_lay.f ⟨c, 17, false, 0, rd, 0, 0, 0, 0, imm, 0, 0, false, false, false, 0, 0, 0, 0, 0⟩ = (isa_word_with.f 0 28 c).bind fun r0 => (isa_word_with.f r0 20 48).bind fun r1 => (isa_word_with.f r1 16 (IntKind.wrap .i64 (shrI .u32 imm 12))).bind fun r2 => (isa_word_with.f r2 12 rd).bind fun r3 => some (orI .u32 r3 (andI .u32 imm 4095)) := by
  first
    | rfl
    | (unfold isa_lay.f isa_layLast.f; simp only [Option.bind_fun_some]; rfl)
theorem w_movw (c hi rd lo : Int) (c0 : 0 ≤ c) (c1 : c < 16) (hi0 : 0 ≤ hi) (hi1 : hi < 16) (rd0 : 0 ≤ rd) (rd1 : rd < 16) (lo0 : 0 ≤ lo) (lo1 : lo < 4096)  :
    isa_lay.f ⟨c, 17, false, 0, rd, 0, 0, 0, 0, lo + hi * 4096, 0, 0, false, false, false, 0, 0, 0, 0, 0⟩ = some (0 + c * 268435456 + 48 * 1048576 + hi * 65536 + rd * 4096 + lo) := by
  rw [l_movw, shr_12, and_4095 (by omega) (by omega), show (lo + hi * 4096) / 4096 = hi by omega, show (lo + hi * 4096) % 4096 = lo by omega, wrap_i64 hi (by omega) (by omega)]
  rw [with_28_4 (by omega) (by omega) (by omega) (by omega) (by omega)]; try simp only [Option.bind_some]
  rw [with_20_8 (by omega) (by omega) (by omega) (by omega) (by omega)]; try simp only [Option.bind_some]
  rw [with_16_4 (by omega) (by omega) (by omega) (by omega) (by omega)]; try simp only [Option.bind_some]
  rw [with_12_4 (by omega) (by omega) (by omega) (by omega) (by omega)]; try simp only [Option.bind_some]
  rw [or_low 12 (by omega) (by omega) (by omega) (by omega) (by decide) (by omega)]; try simp only [Option.bind_some]

theorem l_movt (c rd imm : Int) : isa_lay.f ⟨c, 18, false, 0, rd, 0, 0, 0, 0, imm, 0, 0, false, false, false, 0, 0, 0, 0, 0⟩ = (isa_word_with.f 0 28 c).bind fun r0 => (isa_word_with.f r0 20 52).bind fun r1 => (isa_word_with.f r1 16 (IntKind.wrap .i64 (shrI .u32 imm 12))).bind fun r2 => (isa_word_with.f r2 12 rd).bind fun r3 => some (orI .u32 r3 (andI .u32 imm 4095)) := by
  first
    | rfl
    | (unfold isa_lay.f isa_layLast.f; simp only [Option.bind_fun_some]; rfl)
theorem w_movt (c hi rd lo : Int) (c0 : 0 ≤ c) (c1 : c < 16) (hi0 : 0 ≤ hi) (hi1 : hi < 16) (rd0 : 0 ≤ rd) (rd1 : rd < 16) (lo0 : 0 ≤ lo) (lo1 : lo < 4096)  :
    isa_lay.f ⟨c, 18, false, 0, rd, 0, 0, 0, 0, lo + hi * 4096, 0, 0, false, false, false, 0, 0, 0, 0, 0⟩ = some (0 + c * 268435456 + 52 * 1048576 + hi * 65536 + rd * 4096 + lo) := by
  rw [l_movt, shr_12, and_4095 (by omega) (by omega), show (lo + hi * 4096) / 4096 = hi by omega, show (lo + hi * 4096) % 4096 = lo by omega, wrap_i64 hi (by omega) (by omega)]
  rw [with_28_4 (by omega) (by omega) (by omega) (by omega) (by omega)]; try simp only [Option.bind_some]
  rw [with_20_8 (by omega) (by omega) (by omega) (by omega) (by omega)]; try simp only [Option.bind_some]
  rw [with_16_4 (by omega) (by omega) (by omega) (by omega) (by omega)]; try simp only [Option.bind_some]
  rw [with_12_4 (by omega) (by omega) (by omega) (by omega) (by omega)]; try simp only [Option.bind_some]
  rw [or_low 12 (by omega) (by omega) (by omega) (by omega) (by decide) (by omega)]; try simp only [Option.bind_some]

theorem l_nop (c imm : Int) : isa_lay.f ⟨c, 51, false, 0, 0, 0, 0, 0, 0, imm, 0, 0, false, false, false, 0, 0, 0, 0, 0⟩ = (isa_word_with.f 0 28 c).bind fun r0 => some (orI .u32 r0 52490240) := by
  first
    | rfl
    | (unfold isa_lay.f isa_layLast.f; simp only [Option.bind_fun_some]; rfl)
theorem w_nop (c : Int) (c0 : 0 ≤ c) (c1 : c < 16)  :
    isa_lay.f ⟨c, 51, false, 0, 0, 0, 0, 0, 0, 0, 0, 0, false, false, false, 0, 0, 0, 0, 0⟩ = some (0 + c * 268435456 + 52490240) := by
  rw [l_nop]
  rw [with_28_4 (by omega) (by omega) (by omega) (by omega) (by omega)]; try simp only [Option.bind_some]
  rw [or_52490240 (by omega) (by omega) (by omega)]; try simp only [Option.bind_some]

theorem l_wfi (c imm : Int) : isa_lay.f ⟨c, 52, false, 0, 0, 0, 0, 0, 0, imm, 0, 0, false, false, false, 0, 0, 0, 0, 0⟩ = (isa_word_with.f 0 28 c).bind fun r0 => some (orI .u32 r0 52490243) := by
  first
    | rfl
    | (unfold isa_lay.f isa_layLast.f; simp only [Option.bind_fun_some]; rfl)
theorem w_wfi (c : Int) (c0 : 0 ≤ c) (c1 : c < 16)  :
    isa_lay.f ⟨c, 52, false, 0, 0, 0, 0, 0, 0, 0, 0, 0, false, false, false, 0, 0, 0, 0, 0⟩ = some (0 + c * 268435456 + 52490243) := by
  rw [l_wfi]
  rw [with_28_4 (by omega) (by omega) (by omega) (by omega) (by omega)]; try simp only [Option.bind_some]
  rw [or_52490243 (by omega) (by omega) (by omega)]; try simp only [Option.bind_some]

theorem tailR (a am sh rm : Int) (a0 : 0 ≤ a) (a1 : a < 4294967296) (e0 : a % 4096 = 0) (e1 : a / 33554432 % 2 = 0) (am0 : 0 ≤ am) (am1 : am < 32) (sh0 : 0 ≤ sh) (sh1 : sh < 4) (rm0 : 0 ≤ rm) (rm1 : rm < 16) :
    ((isa_word_with.f a 7 am).bind fun r8 => (isa_word_with.f r8 5 sh).bind fun r9 => (isa_word_with.f r9 0 rm).bind fun r10 => isa_word_flag.f r10 25 ((1 : Int) == 1)) = some (a + am * 128 + sh * 32 + rm * 1 + 1 * 33554432) := by
  rw [with_7_5 (by omega) (by omega) (by omega) (by omega) (by omega)]; simp only [Option.bind_some]
  rw [with_5_2 (by omega) (by omega) (by omega) (by omega) (by omega)]; simp only [Option.bind_some]
  rw [with_0_4 (by omega) (by omega) (by omega) (by omega) (by omega)]; simp only [Option.bind_some]
  rw [flag_25 (by omega) (by omega) (by omega) (by omega) (by omega)]
theorem l_singleI (c op b l rd rn imm : Int) (p u w : Bool) (h : (op = 31 ∧ b = 0 ∧ l = 1 ∨ op = 32 ∧ b = 0 ∧ l = 0 ∨ op = 33 ∧ b = 1 ∧ l = 1 ∨ op = 34 ∧ b = 1 ∧ l = 0)) : isa_lay.f ⟨c, op, false, 1, rd, rn, 0, 0, 0, imm, 0, 0, p, u, w, 0, 0, 0, 0, 0⟩ = (isa_word_with.f 0 28 c).bind fun r0 => (isa_word_flag.f r0 24 p).bind fun r1 => (isa_word_flag.f r1 23 u).bind fun r2 => (isa_word_flag.f r2 21 w).bind fun r3 => (isa_word_with.f r3 16 rn).bind fun r4 => (isa_word_flag.f r4 22 (b == 1)).bind fun r5 => (isa_word_flag.f r5 20 (l == 1)).bind fun r6 => (isa_word_with.f r6 12 rd).bind fun r7 => some (orI .u32 (orI .u32 r7 67108864) imm) := by
  unfold isa_lay.f isa_beside.f
  simp only [Option.bind_fun_some, Option.bind_assoc, Option.bind_some]
  rcases h with ⟨rfl, rfl, rfl⟩ | ⟨rfl, rfl, rfl⟩ | ⟨rfl, rfl, rfl⟩ | ⟨rfl, rfl, rfl⟩ <;> rfl
theorem l_singleR (c op b l rd rn rm sh am : Int) (p u w : Bool) (h : (op = 31 ∧ b = 0 ∧ l = 1 ∨ op = 32 ∧ b = 0 ∧ l = 0 ∨ op = 33 ∧ b = 1 ∧ l = 1 ∨ op = 34 ∧ b = 1 ∧ l = 0)) : isa_lay.f ⟨c, op, false, 2, rd, rn, rm, 0, 0, 0, sh, am, p, u, w, 0, 0, 0, 0, 0⟩ = (isa_word_with.f 0 28 c).bind fun r0 => (isa_word_flag.f r0 24 p).bind fun r1 => (isa_word_flag.f r1 23 u).bind fun r2 => (isa_word_flag.f r2 21 w).bind fun r3 => (isa_word_with.f r3 16 rn).bind fun r4 => (isa_word_flag.f r4 22 (b == 1)).bind fun r5 => (isa_word_flag.f r5 20 (l == 1)).bind fun r6 => (isa_word_with.f r6 12 rd).bind fun r7 => (isa_word_with.f (orI .u32 r7 67108864) 7 am).bind fun r8 => (isa_word_with.f r8 5 sh).bind fun r9 => (isa_word_with.f r9 0 rm).bind fun r10 => isa_word_flag.f r10 25 ((1 : Int) == 1) := by
  unfold isa_lay.f isa_beside.f
  simp only [Option.bind_fun_some, Option.bind_assoc, Option.bind_some]
  rcases h with ⟨rfl, rfl, rfl⟩ | ⟨rfl, rfl, rfl⟩ | ⟨rfl, rfl, rfl⟩ | ⟨rfl, rfl, rfl⟩ <;> rfl
theorem w_singleI (c p u wr rn b l rd imm : Int) (c0 : 0 ≤ c) (c1 : c < 16) (p0 : 0 ≤ p) (p1 : p < 2) (u0 : 0 ≤ u) (u1 : u < 2) (wr0 : 0 ≤ wr) (wr1 : wr < 2) (rn0 : 0 ≤ rn) (rn1 : rn < 16) (b0 : 0 ≤ b) (b1 : b < 2) (l0 : 0 ≤ l) (l1 : l < 2) (rd0 : 0 ≤ rd) (rd1 : rd < 16) (imm0 : 0 ≤ imm) (imm1 : imm < 4096) (op : Int) (h : (op = 31 ∧ b = 0 ∧ l = 1 ∨ op = 32 ∧ b = 0 ∧ l = 0 ∨ op = 33 ∧ b = 1 ∧ l = 1 ∨ op = 34 ∧ b = 1 ∧ l = 0)) :
    isa_lay.f ⟨c, op, false, 1, rd, rn, 0, 0, 0, imm, 0, 0, (p == 1), (u == 1), (wr == 1), 0, 0, 0, 0, 0⟩ = some (0 + c * 268435456 + p * 16777216 + u * 8388608 + wr * 2097152 + rn * 65536 + b * 4194304 + l * 1048576 + rd * 4096 + 67108864 + imm) := by
  rw [l_singleI _ op b l _ _ _ _ _ _ h]
  clear h
  rw [with_28_4 (by omega) (by omega) (by omega) (by omega) (by omega)]; try simp only [Option.bind_some]
  rw [flag_24 (by omega) (by omega) (by omega) (by omega) (by omega)]; try simp only [Option.bind_some]
  rw [flag_23 (by omega) (by omega) (by omega) (by omega) (by omega)]; try simp only [Option.bind_some]
  rw [flag_21 (by omega) (by omega) (by omega) (by omega) (by omega)]; try simp only [Option.bind_some]
  rw [with_16_4 (by omega) (by omega) (by omega) (by omega) (by omega)]; try simp only [Option.bind_some]
  obtain ⟨a, ha⟩ : ∃ a, a = 0 + c * 268435456 + p * 16777216 + u * 8388608 + wr * 2097152 + rn * 65536 := ⟨_, rfl⟩
  rw [← ha]
  have a0 : 0 ≤ a ∧ a < 4294967296 := by omega
  have a1 : a % 65536 = 0 := by omega
  have a2 : a / 1048576 % 2 = 0 := by omega
  have a3 : a / 4194304 % 2 = 0 := by omega
  have a4 : a / 33554432 % 8 = 0 := by omega
  clear ha c0 c1 p0 p1 u0 u1 wr0 wr1 rn0 rn1
  rw [flag_22 (by omega) (by omega) (by omega) (by omega) (by omega)]; try simp only [Option.bind_some]
  rw [flag_20 (by omega) (by omega) (by omega) (by omega) (by omega)]; try simp only [Option.bind_some]
  rw [with_12_4 (by omega) (by omega) (by omega) (by omega) (by omega)]; try simp only [Option.bind_some]
  rw [or_67108864 (by omega) (by omega) (by omega)]; try simp only [Option.bind_some]
  rw [or_low 12 (by omega) (by omega) (by omega) (by omega) (by decide) (by omega)]; try simp only [Option.bind_some]

theorem w_singleR (c p u wr rn b l rd am sh rm : Int) (c0 : 0 ≤ c) (c1 : c < 16) (p0 : 0 ≤ p) (p1 : p < 2) (u0 : 0 ≤ u) (u1 : u < 2) (wr0 : 0 ≤ wr) (wr1 : wr < 2) (rn0 : 0 ≤ rn) (rn1 : rn < 16) (b0 : 0 ≤ b) (b1 : b < 2) (l0 : 0 ≤ l) (l1 : l < 2) (rd0 : 0 ≤ rd) (rd1 : rd < 16) (am0 : 0 ≤ am) (am1 : am < 32) (sh0 : 0 ≤ sh) (sh1 : sh < 4) (rm0 : 0 ≤ rm) (rm1 : rm < 16) (op : Int) (h : (op = 31 ∧ b = 0 ∧ l = 1 ∨ op = 32 ∧ b = 0 ∧ l = 0 ∨ op = 33 ∧ b = 1 ∧ l = 1 ∨ op = 34 ∧ b = 1 ∧ l = 0)) :
    isa_lay.f ⟨c, op, false, 2, rd, rn, rm, 0, 0, 0, sh, am, (p == 1), (u == 1), (wr == 1), 0, 0, 0, 0, 0⟩ = some (0 + c * 268435456 + p * 16777216 + u * 8388608 + wr * 2097152 + rn * 65536 + b * 4194304 + l * 1048576 + rd * 4096 + 67108864 + am * 128 + sh * 32 + rm * 1 + 1 * 33554432) := by
  rw [l_singleR _ op b l _ _ _ _ _ _ _ _ h]
  clear h
  rw [with_28_4 (by omega) (by omega) (by omega) (by omega) (by omega)]; try simp only [Option.bind_some]
  rw [flag_24 (by omega) (by omega) (by omega) (by omega) (by omega)]; try simp only [Option.bind_some]
  rw [flag_23 (by omega) (by omega) (by omega) (by omega) (by omega)]; try simp only [Option.bind_some]
  rw [flag_21 (by omega) (by omega) (by omega) (by omega) (by omega)]; try simp only [Option.bind_some]
  rw [with_16_4 (by omega) (by omega) (by omega) (by omega) (by omega)]; try simp only [Option.bind_some]
  obtain ⟨a, ha⟩ : ∃ a, a = 0 + c * 268435456 + p * 16777216 + u * 8388608 + wr * 2097152 + rn * 65536 := ⟨_, rfl⟩
  rw [← ha]
  have a0 : 0 ≤ a ∧ a < 4294967296 := by omega
  have a1 : a % 65536 = 0 := by omega
  have a2 : a / 1048576 % 2 = 0 := by omega
  have a3 : a / 4194304 % 2 = 0 := by omega
  have a4 : a / 33554432 % 8 = 0 := by omega
  clear ha c0 c1 p0 p1 u0 u1 wr0 wr1 rn0 rn1
  rw [flag_22 (by omega) (by omega) (by omega) (by omega) (by omega)]; try simp only [Option.bind_some]
  rw [flag_20 (by omega) (by omega) (by omega) (by omega) (by omega)]; try simp only [Option.bind_some]
  rw [with_12_4 (by omega) (by omega) (by omega) (by omega) (by omega)]; try simp only [Option.bind_some]
  rw [or_67108864 (by omega) (by omega) (by omega)]; try simp only [Option.bind_some]
  exact tailR _ am sh rm (by omega) (by omega) (by omega) (by omega) am0 am1 sh0 sh1 rm0 rm1
theorem l_ldm (c rn li : Int) (p u w : Bool) : isa_lay.f ⟨c, 39, false, 0, 0, rn, 0, 0, 0, 0, 0, 0, p, u, w, li, 0, 0, 0, 0⟩ = (isa_word_with.f 0 28 c).bind fun r0 => (isa_word_flag.f r0 24 p).bind fun r1 => (isa_word_flag.f r1 23 u).bind fun r2 => (isa_word_flag.f r2 21 w).bind fun r3 => (isa_word_with.f r3 16 rn).bind fun r4 => (isa_word_flag.f r4 20 ((1 : Int) == 1)).bind fun r5 => some (orI .u32 (orI .u32 r5 134217728) (IntKind.wrap .u32 li)) := by
  unfold isa_lay.f isa_beside.f
  simp only [Option.bind_fun_some, Option.bind_assoc, Option.bind_some]
  rfl
theorem w_ldm (c p u wr rn li : Int) (c0 : 0 ≤ c) (c1 : c < 16) (p0 : 0 ≤ p) (p1 : p < 2) (u0 : 0 ≤ u) (u1 : u < 2) (wr0 : 0 ≤ wr) (wr1 : wr < 2) (rn0 : 0 ≤ rn) (rn1 : rn < 16) (li0 : 0 ≤ li) (li1 : li < 65536)  :
    isa_lay.f ⟨c, 39, false, 0, 0, rn, 0, 0, 0, 0, 0, 0, (p == 1), (u == 1), (wr == 1), li, 0, 0, 0, 0⟩ = some (0 + c * 268435456 + p * 16777216 + u * 8388608 + wr * 2097152 + rn * 65536 + 1 * 1048576 + 134217728 + li) := by
  rw [l_ldm, wrap_u32 li (by omega) (by omega)]
  rw [with_28_4 (by omega) (by omega) (by omega) (by omega) (by omega)]; try simp only [Option.bind_some]
  rw [flag_24 (by omega) (by omega) (by omega) (by omega) (by omega)]; try simp only [Option.bind_some]
  rw [flag_23 (by omega) (by omega) (by omega) (by omega) (by omega)]; try simp only [Option.bind_some]
  rw [flag_21 (by omega) (by omega) (by omega) (by omega) (by omega)]; try simp only [Option.bind_some]
  rw [with_16_4 (by omega) (by omega) (by omega) (by omega) (by omega)]; try simp only [Option.bind_some]
  rw [flag_20 (by omega) (by omega) (by omega) (by omega) (by omega)]; try simp only [Option.bind_some]
  rw [or_134217728 (by omega) (by omega) (by omega)]; try simp only [Option.bind_some]
  rw [or_low 16 (by omega) (by omega) (by omega) (by omega) (by decide) (by omega)]; try simp only [Option.bind_some]

theorem l_stm (c rn li : Int) (p u w : Bool) : isa_lay.f ⟨c, 40, false, 0, 0, rn, 0, 0, 0, 0, 0, 0, p, u, w, li, 0, 0, 0, 0⟩ = (isa_word_with.f 0 28 c).bind fun r0 => (isa_word_flag.f r0 24 p).bind fun r1 => (isa_word_flag.f r1 23 u).bind fun r2 => (isa_word_flag.f r2 21 w).bind fun r3 => (isa_word_with.f r3 16 rn).bind fun r4 => (isa_word_flag.f r4 20 ((0 : Int) == 1)).bind fun r5 => some (orI .u32 (orI .u32 r5 134217728) (IntKind.wrap .u32 li)) := by
  unfold isa_lay.f isa_beside.f
  simp only [Option.bind_fun_some, Option.bind_assoc, Option.bind_some]
  rfl
theorem w_stm (c p u wr rn li : Int) (c0 : 0 ≤ c) (c1 : c < 16) (p0 : 0 ≤ p) (p1 : p < 2) (u0 : 0 ≤ u) (u1 : u < 2) (wr0 : 0 ≤ wr) (wr1 : wr < 2) (rn0 : 0 ≤ rn) (rn1 : rn < 16) (li0 : 0 ≤ li) (li1 : li < 65536)  :
    isa_lay.f ⟨c, 40, false, 0, 0, rn, 0, 0, 0, 0, 0, 0, (p == 1), (u == 1), (wr == 1), li, 0, 0, 0, 0⟩ = some (0 + c * 268435456 + p * 16777216 + u * 8388608 + wr * 2097152 + rn * 65536 + 0 * 1048576 + 134217728 + li) := by
  rw [l_stm, wrap_u32 li (by omega) (by omega)]
  rw [with_28_4 (by omega) (by omega) (by omega) (by omega) (by omega)]; try simp only [Option.bind_some]
  rw [flag_24 (by omega) (by omega) (by omega) (by omega) (by omega)]; try simp only [Option.bind_some]
  rw [flag_23 (by omega) (by omega) (by omega) (by omega) (by omega)]; try simp only [Option.bind_some]
  rw [flag_21 (by omega) (by omega) (by omega) (by omega) (by omega)]; try simp only [Option.bind_some]
  rw [with_16_4 (by omega) (by omega) (by omega) (by omega) (by omega)]; try simp only [Option.bind_some]
  rw [flag_20 (by omega) (by omega) (by omega) (by omega) (by omega)]; try simp only [Option.bind_some]
  rw [or_134217728 (by omega) (by omega) (by omega)]; try simp only [Option.bind_some]
  rw [or_low 16 (by omega) (by omega) (by omega) (by omega) (by decide) (by omega)]; try simp only [Option.bind_some]

theorem l_b (c imm : Int) : isa_lay.f ⟨c, 41, false, 0, 0, 0, 0, 0, 0, imm, 0, 0, false, false, false, 0, 0, 0, 0, 0⟩ = (isa_word_with.f 0 28 c).bind fun r0 => (isa_word_with.f r0 24 10).bind fun r1 => some (orI .u32 r1 (shrI .u32 (shlI .u32 imm 6) 8)) := by
  first
    | rfl
    | (unfold isa_lay.f isa_layLast.f; simp only [Option.bind_fun_some]; rfl)
theorem w_b (c d : Int) (c0 : 0 ≤ c) (c1 : c < 16) (d0 : 0 ≤ d) (d1 : d < 16777216) (imm : Int) (hi : shrI .u32 (shlI .u32 imm 6) 8 = d) :
    isa_lay.f ⟨c, 41, false, 0, 0, 0, 0, 0, 0, imm, 0, 0, false, false, false, 0, 0, 0, 0, 0⟩ = some (0 + c * 268435456 + 10 * 16777216 + d) := by
  rw [l_b, hi]
  rw [with_28_4 (by omega) (by omega) (by omega) (by omega) (by omega)]; try simp only [Option.bind_some]
  rw [with_24_4 (by omega) (by omega) (by omega) (by omega) (by omega)]; try simp only [Option.bind_some]
  rw [or_low 24 (by omega) (by omega) (by omega) (by omega) (by decide) (by omega)]; try simp only [Option.bind_some]

theorem l_bl (c imm : Int) : isa_lay.f ⟨c, 42, false, 0, 0, 0, 0, 0, 0, imm, 0, 0, false, false, false, 0, 0, 0, 0, 0⟩ = (isa_word_with.f 0 28 c).bind fun r0 => (isa_word_with.f r0 24 11).bind fun r1 => some (orI .u32 r1 (shrI .u32 (shlI .u32 imm 6) 8)) := by
  first
    | rfl
    | (unfold isa_lay.f isa_layLast.f; simp only [Option.bind_fun_some]; rfl)
theorem w_bl (c d : Int) (c0 : 0 ≤ c) (c1 : c < 16) (d0 : 0 ≤ d) (d1 : d < 16777216) (imm : Int) (hi : shrI .u32 (shlI .u32 imm 6) 8 = d) :
    isa_lay.f ⟨c, 42, false, 0, 0, 0, 0, 0, 0, imm, 0, 0, false, false, false, 0, 0, 0, 0, 0⟩ = some (0 + c * 268435456 + 11 * 16777216 + d) := by
  rw [l_bl, hi]
  rw [with_28_4 (by omega) (by omega) (by omega) (by omega) (by omega)]; try simp only [Option.bind_some]
  rw [with_24_4 (by omega) (by omega) (by omega) (by omega) (by omega)]; try simp only [Option.bind_some]
  rw [or_low 24 (by omega) (by omega) (by omega) (by omega) (by decide) (by omega)]; try simp only [Option.bind_some]

theorem l_mcr (c rd cn o1 cm o2 : Int) : isa_lay.f ⟨c, 49, false, 0, rd, 0, 0, 0, 0, 0, 0, 0, false, false, false, 0, cn, o1, cm, o2⟩ = (isa_word_with.f 0 28 c).bind fun r0 => (isa_word_with.f r0 21 o1).bind fun r1 => (isa_word_flag.f r1 20 ((0 : Int) == 1)).bind fun r2 => (isa_word_with.f r2 16 cn).bind fun r3 => (isa_word_with.f r3 12 rd).bind fun r4 => (isa_word_with.f r4 5 o2).bind fun r5 => (isa_word_with.f r5 0 cm).bind fun r6 => some (orI .u32 r6 234884880) := by
  first
    | rfl
    | (unfold isa_lay.f isa_layLast.f; simp only [Option.bind_fun_some]; rfl)
theorem w_mcr (c o1 cn rd o2 cm : Int) (c0 : 0 ≤ c) (c1 : c < 16) (o10 : 0 ≤ o1) (o11 : o1 < 8) (cn0 : 0 ≤ cn) (cn1 : cn < 16) (rd0 : 0 ≤ rd) (rd1 : rd < 16) (o20 : 0 ≤ o2) (o21 : o2 < 8) (cm0 : 0 ≤ cm) (cm1 : cm < 16)  :
    isa_lay.f ⟨c, 49, false, 0, rd, 0, 0, 0, 0, 0, 0, 0, false, false, false, 0, cn, o1, cm, o2⟩ = some (0 + c * 268435456 + o1 * 2097152 + 0 * 1048576 + cn * 65536 + rd * 4096 + o2 * 32 + cm * 1 + 234884880) := by
  rw [l_mcr]
  rw [with_28_4 (by omega) (by omega) (by omega) (by omega) (by omega)]; try simp only [Option.bind_some]
  rw [with_21_3 (by omega) (by omega) (by omega) (by omega) (by omega)]; try simp only [Option.bind_some]
  rw [flag_20 (by omega) (by omega) (by omega) (by omega) (by omega)]; try simp only [Option.bind_some]
  rw [with_16_4 (by omega) (by omega) (by omega) (by omega) (by omega)]; try simp only [Option.bind_some]
  rw [with_12_4 (by omega) (by omega) (by omega) (by omega) (by omega)]; try simp only [Option.bind_some]
  rw [with_5_3 (by omega) (by omega) (by omega) (by omega) (by omega)]; try simp only [Option.bind_some]
  rw [with_0_4 (by omega) (by omega) (by omega) (by omega) (by omega)]; try simp only [Option.bind_some]
  rw [or_234884880 (by omega) (by omega) (by omega) (by omega) (by omega)]; try simp only [Option.bind_some]

theorem l_mrc (c rd cn o1 cm o2 : Int) : isa_lay.f ⟨c, 50, false, 0, rd, 0, 0, 0, 0, 0, 0, 0, false, false, false, 0, cn, o1, cm, o2⟩ = (isa_word_with.f 0 28 c).bind fun r0 => (isa_word_with.f r0 21 o1).bind fun r1 => (isa_word_flag.f r1 20 ((1 : Int) == 1)).bind fun r2 => (isa_word_with.f r2 16 cn).bind fun r3 => (isa_word_with.f r3 12 rd).bind fun r4 => (isa_word_with.f r4 5 o2).bind fun r5 => (isa_word_with.f r5 0 cm).bind fun r6 => some (orI .u32 r6 234884880) := by
  first
    | rfl
    | (unfold isa_lay.f isa_layLast.f; simp only [Option.bind_fun_some]; rfl)
theorem w_mrc (c o1 cn rd o2 cm : Int) (c0 : 0 ≤ c) (c1 : c < 16) (o10 : 0 ≤ o1) (o11 : o1 < 8) (cn0 : 0 ≤ cn) (cn1 : cn < 16) (rd0 : 0 ≤ rd) (rd1 : rd < 16) (o20 : 0 ≤ o2) (o21 : o2 < 8) (cm0 : 0 ≤ cm) (cm1 : cm < 16)  :
    isa_lay.f ⟨c, 50, false, 0, rd, 0, 0, 0, 0, 0, 0, 0, false, false, false, 0, cn, o1, cm, o2⟩ = some (0 + c * 268435456 + o1 * 2097152 + 1 * 1048576 + cn * 65536 + rd * 4096 + o2 * 32 + cm * 1 + 234884880) := by
  rw [l_mrc]
  rw [with_28_4 (by omega) (by omega) (by omega) (by omega) (by omega)]; try simp only [Option.bind_some]
  rw [with_21_3 (by omega) (by omega) (by omega) (by omega) (by omega)]; try simp only [Option.bind_some]
  rw [flag_20 (by omega) (by omega) (by omega) (by omega) (by omega)]; try simp only [Option.bind_some]
  rw [with_16_4 (by omega) (by omega) (by omega) (by omega) (by omega)]; try simp only [Option.bind_some]
  rw [with_12_4 (by omega) (by omega) (by omega) (by omega) (by omega)]; try simp only [Option.bind_some]
  rw [with_5_3 (by omega) (by omega) (by omega) (by omega) (by omega)]; try simp only [Option.bind_some]
  rw [with_0_4 (by omega) (by omega) (by omega) (by omega) (by omega)]; try simp only [Option.bind_some]
  rw [or_234884880 (by omega) (by omega) (by omega) (by omega) (by omega)]; try simp only [Option.bind_some]

theorem l_svc (c imm : Int) : isa_lay.f ⟨c, 45, false, 0, 0, 0, 0, 0, 0, imm, 0, 0, false, false, false, 0, 0, 0, 0, 0⟩ = (isa_word_with.f 0 28 c).bind fun r0 => some (orI .u32 (orI .u32 r0 251658240) imm) := by
  first
    | rfl
    | (unfold isa_lay.f isa_layLast.f; simp only [Option.bind_fun_some]; rfl)
theorem w_svc (c imm : Int) (c0 : 0 ≤ c) (c1 : c < 16) (imm0 : 0 ≤ imm) (imm1 : imm < 16777216)  :
    isa_lay.f ⟨c, 45, false, 0, 0, 0, 0, 0, 0, imm, 0, 0, false, false, false, 0, 0, 0, 0, 0⟩ = some (0 + c * 268435456 + 251658240 + imm) := by
  rw [l_svc]
  rw [with_28_4 (by omega) (by omega) (by omega) (by omega) (by omega)]; try simp only [Option.bind_some]
  rw [or_251658240 (by omega) (by omega) (by omega)]; try simp only [Option.bind_some]
  rw [or_low 24 (by omega) (by omega) (by omega) (by omega) (by decide) (by omega)]; try simp only [Option.bind_some]

end Go.Va
