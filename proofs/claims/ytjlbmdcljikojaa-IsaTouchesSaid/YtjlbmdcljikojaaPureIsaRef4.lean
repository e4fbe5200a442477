/-
  Row by row: what it says of a word; and that program and reference agree on whether it may be.
  Conditions: none.
-/
import Derived.Test.YtjlbmdcljikojaaPureIsaRef3
set_option linter.unusedVariables false
set_option linter.unusedSimpArgs false
set_option autoImplicit false
set_option maxRecDepth 10000
namespace Go.Va
theorem sayV_with (ops : List Int) (form : Int) (p : ByteArray) (x op : Int) (h : sayOp ops p x = op) : sayV ops form p x = ⟨FV p 99 x, op, (([9, 10, 11, 12].any fun y => y == op) || FV p 115 x == 1), form, FV p 100 x, FV p 110 x, FV p 109 x, FV p 114 x, FV p 97 x, sayImm op p x, FV p 116 x, FV p 107 x, FV p 112 x == 1, FV p 117 x == 1, FV p 119 x == 1, IntKind.wrap .u16 (FV p 108 x), FV p 120 x, FV p 121 x, FV p 122 x, FV p 118 x⟩ := by subst h; rfl
theorem list_bit (l n : Int) (l0 : 0 ≤ l) (l1 : l < 65536) (n0 : 0 ≤ n) (n1 : n < 16) : (andI .u16 (shrI .u16 l (IntKind.wrap .u64 n)) 1 == 1) = (Int.tmod (shrI .u16 l (IntKind.wrap .u64 n)) 2 == 1) := by
  rw [wrap_u64 n (by omega) (by omega)]
  obtain ⟨L, rfl⟩ := Int.eq_ofNat_of_zero_le l0
  obtain ⟨m, rfl⟩ := Int.eq_ofNat_of_zero_le n0
  have e : shrI .u16 (L : Int) (m : Int) = ((L / 2 ^ m : Nat) : Int) := by
    unfold shrI
    have : min (m : Int).toNat (IntKind.u16.bits) = m := by have : IntKind.u16.bits = 16 := rfl; omega
    rw [this, Int.fdiv_eq_ediv_of_nonneg _ (Int.pow_nonneg (by omega))]
    simp
  rw [e]
  have hle : L / 2 ^ m ≤ L := Nat.div_le_self _ _
  obtain ⟨Y, hY⟩ : ∃ Y, Y = L / 2 ^ m := ⟨_, rfl⟩
  rw [← hY] at hle ⊢
  have e2 : andI .u16 (Y : Int) 1 = ((Y % 2 : Nat) : Int) := by
    have hb : IntKind.u16.bits = 16 := rfl
    have t : (BitVec.ofInt 16 (Y : Int)).toNat = Y := by
      rw [BitVec.toNat_ofInt]
      have : (Y : Int) % ((2 ^ 16 : Nat) : Int) = Y := Int.emod_eq_of_lt (by omega) (by omega)
      rw [this]; rfl
    have t1 : (BitVec.ofInt 16 (1 : Int)).toNat = 2 ^ 1 - 1 := by rfl
    unfold andI
    rw [hb, BitVec.toNat_and, t, t1, Nat.and_two_pow_sub_one_eq_mod]
    have : IntKind.wrap .u16 ((Y % 2 ^ 1 : Nat) : Int) = ((Y % 2 ^ 1 : Nat) : Int) % 65536 := by rfl
    rw [this]; omega
  rw [e2, Int.tmod_eq_emod_of_nonneg (by omega)]
  have : ((Y : Int) % 2) = ((Y % 2 : Nat) : Int) := by omega
  rw [this]
theorem list_15 (l : Int) (l0 : 0 ≤ l) (l1 : l < 65536) : (shrI .u16 l 15 == 1) = (Int.tmod (shrI .u16 l (IntKind.wrap .u64 15)) 2 == 1) := by
  rw [wrap_u64 15 (by omega) (by omega)]
  have e : shrI .u16 l 15 = l / 32768 := by
    have : shrI .u16 l 15 = l.fdiv (2 ^ 15) := rfl
    rw [this, Int.fdiv_eq_ediv_of_nonneg _ (by decide)]; rfl
  rw [e, Int.tmod_eq_emod_of_nonneg (by omega)]
  have : l / 32768 % 2 = l / 32768 := by omega
  rw [this]
theorem imm_branch (x : Int) (h0 : 0 ≤ x) (h1 : x < 4294967296) : IntKind.wrap .u32 (shrI .i32 (IntKind.wrap .i32 (shlI .u32 x 8)) 6) = bif decide (IntKind.wrap .u32 (x % 16777216 * 4) ≥ 33554432) then IntKind.wrap .u32 (IntKind.wrap .u32 (x % 16777216 * 4) - 67108864) else IntKind.wrap .u32 (x % 16777216 * 4) := by
  have e1 : shlI .u32 x 8 = x * 256 % 4294967296 := by rfl
  have e2 : ∀ z : Int, IntKind.wrap .i32 z = if (true && decide (z % 4294967296 ≥ 2147483648)) = true then z % 4294967296 - 4294967296 else z % 4294967296 := fun z => by rfl
  have e3 : ∀ z : Int, shrI .i32 z 6 = z / 64 := fun z => by
    have : shrI .i32 z 6 = z.fdiv (2 ^ 6) := rfl
    rw [this, Int.fdiv_eq_ediv_of_nonneg _ (by decide)]; rfl
  have e5 : ∀ z : Int, IntKind.wrap .u32 z = z % 4294967296 := fun z => by rfl
  have a : x * 256 % 4294967296 = x % 16777216 * 256 := by omega
  obtain ⟨d, hd⟩ : ∃ d, d = x % 16777216 := ⟨_, rfl⟩
  have d0 : 0 ≤ d := by omega
  have d1 : d < 16777216 := by omega
  rw [e1, a, ← hd]
  clear hd a h0 h1
  simp only [e5, e3, e2]
  have b : d * 4 % 4294967296 = d * 4 := by omega
  rw [b]
  cases hc : decide (d * 4 ≥ 33554432) with
  | true =>
    have := of_decide_eq_true hc
    rw [cond_true]
    simp only [Bool.true_and, decide_eq_true_eq]
    split <;> omega
  | false =>
    have := of_decide_eq_false hc
    rw [cond_false]
    simp only [Bool.true_and, decide_eq_true_eq]
    split <;> omega
theorem sop_0 (x : Int) : sayOp (rowD 0).1 (rowD 0).2.2.1 x = x / 2097152 % 16 + 1 := by kernel_rfl
theorem say_0_1 (x : Int) (h : x / 2097152 % 16 = 0) : sayR (rowD 0) x = ⟨x / 268435456 % 16, 1, (x / 1048576 % 2 == 1), 1, x / 4096 % 16, x / 65536 % 16, 0, 0, 0, x % 4096, 0, 0, false, false, false, 0, 0, 0, 0, 0⟩ :=
  (sayV_with _ _ _ x 1 ((sop_0 x).trans (by rw [h]; rfl))).trans (by kernel_rfl)
theorem say_0_2 (x : Int) (h : x / 2097152 % 16 = 1) : sayR (rowD 0) x = ⟨x / 268435456 % 16, 2, (x / 1048576 % 2 == 1), 1, x / 4096 % 16, x / 65536 % 16, 0, 0, 0, x % 4096, 0, 0, false, false, false, 0, 0, 0, 0, 0⟩ :=
  (sayV_with _ _ _ x 2 ((sop_0 x).trans (by rw [h]; rfl))).trans (by kernel_rfl)
theorem say_0_3 (x : Int) (h : x / 2097152 % 16 = 2) : sayR (rowD 0) x = ⟨x / 268435456 % 16, 3, (x / 1048576 % 2 == 1), 1, x / 4096 % 16, x / 65536 % 16, 0, 0, 0, x % 4096, 0, 0, false, false, false, 0, 0, 0, 0, 0⟩ :=
  (sayV_with _ _ _ x 3 ((sop_0 x).trans (by rw [h]; rfl))).trans (by kernel_rfl)
theorem say_0_4 (x : Int) (h : x / 2097152 % 16 = 3) : sayR (rowD 0) x = ⟨x / 268435456 % 16, 4, (x / 1048576 % 2 == 1), 1, x / 4096 % 16, x / 65536 % 16, 0, 0, 0, x % 4096, 0, 0, false, false, false, 0, 0, 0, 0, 0⟩ :=
  (sayV_with _ _ _ x 4 ((sop_0 x).trans (by rw [h]; rfl))).trans (by kernel_rfl)
theorem say_0_5 (x : Int) (h : x / 2097152 % 16 = 4) : sayR (rowD 0) x = ⟨x / 268435456 % 16, 5, (x / 1048576 % 2 == 1), 1, x / 4096 % 16, x / 65536 % 16, 0, 0, 0, x % 4096, 0, 0, false, false, false, 0, 0, 0, 0, 0⟩ :=
  (sayV_with _ _ _ x 5 ((sop_0 x).trans (by rw [h]; rfl))).trans (by kernel_rfl)
theorem say_0_6 (x : Int) (h : x / 2097152 % 16 = 5) : sayR (rowD 0) x = ⟨x / 268435456 % 16, 6, (x / 1048576 % 2 == 1), 1, x / 4096 % 16, x / 65536 % 16, 0, 0, 0, x % 4096, 0, 0, false, false, false, 0, 0, 0, 0, 0⟩ :=
  (sayV_with _ _ _ x 6 ((sop_0 x).trans (by rw [h]; rfl))).trans (by kernel_rfl)
theorem say_0_7 (x : Int) (h : x / 2097152 % 16 = 6) : sayR (rowD 0) x = ⟨x / 268435456 % 16, 7, (x / 1048576 % 2 == 1), 1, x / 4096 % 16, x / 65536 % 16, 0, 0, 0, x % 4096, 0, 0, false, false, false, 0, 0, 0, 0, 0⟩ :=
  (sayV_with _ _ _ x 7 ((sop_0 x).trans (by rw [h]; rfl))).trans (by kernel_rfl)
theorem say_0_8 (x : Int) (h : x / 2097152 % 16 = 7) : sayR (rowD 0) x = ⟨x / 268435456 % 16, 8, (x / 1048576 % 2 == 1), 1, x / 4096 % 16, x / 65536 % 16, 0, 0, 0, x % 4096, 0, 0, false, false, false, 0, 0, 0, 0, 0⟩ :=
  (sayV_with _ _ _ x 8 ((sop_0 x).trans (by rw [h]; rfl))).trans (by kernel_rfl)
theorem say_0_13 (x : Int) (h : x / 2097152 % 16 = 12) : sayR (rowD 0) x = ⟨x / 268435456 % 16, 13, (x / 1048576 % 2 == 1), 1, x / 4096 % 16, x / 65536 % 16, 0, 0, 0, x % 4096, 0, 0, false, false, false, 0, 0, 0, 0, 0⟩ :=
  (sayV_with _ _ _ x 13 ((sop_0 x).trans (by rw [h]; rfl))).trans (by kernel_rfl)
theorem say_0_15 (x : Int) (h : x / 2097152 % 16 = 14) : sayR (rowD 0) x = ⟨x / 268435456 % 16, 15, (x / 1048576 % 2 == 1), 1, x / 4096 % 16, x / 65536 % 16, 0, 0, 0, x % 4096, 0, 0, false, false, false, 0, 0, 0, 0, 0⟩ :=
  (sayV_with _ _ _ x 15 ((sop_0 x).trans (by rw [h]; rfl))).trans (by kernel_rfl)
theorem rmay_0 (c rd rn imm op : Int) (s : Bool) (o1 : 1 ≤ op) (o2 : op ≤ 16) : isa_may.f 64 ⟨c, op, s, 1, rd, rn, 0, 0, 0, imm, 0, 0, false, false, false, 0, 0, 0, 0, 0⟩ = atlasref19_may.f 64 ⟨(rowD 0).1, (rowD 0).2.1, (rowD 0).2.2.1⟩ ⟨c, op, s, 1, rd, rn, 0, 0, 0, imm, 0, 0, false, false, false, 0, 0, 0, 0, 0⟩ := by
  have h_d : atlasref19_Has.f 64 ⟨(rowD 0).1, (rowD 0).2.1, (rowD 0).2.2.1⟩ 100 = some true := by kernel_rfl
  have h_n : atlasref19_Has.f 64 ⟨(rowD 0).1, (rowD 0).2.1, (rowD 0).2.2.1⟩ 110 = some true := by kernel_rfl
  have h_m : atlasref19_Has.f 64 ⟨(rowD 0).1, (rowD 0).2.1, (rowD 0).2.2.1⟩ 109 = some false := by kernel_rfl
  have h_r : atlasref19_Has.f 64 ⟨(rowD 0).1, (rowD 0).2.1, (rowD 0).2.2.1⟩ 114 = some false := by kernel_rfl
  have h_a : atlasref19_Has.f 64 ⟨(rowD 0).1, (rowD 0).2.1, (rowD 0).2.2.1⟩ 97 = some false := by kernel_rfl
  have h_f : (rowD 0).2.1 = 1 := by kernel_rfl
  have q0 : (op == 0) = false := by simp; omega
  have q39 : (op == 39) = false := by simp; omega
  have q40 : (op == 40) = false := by simp; omega
  have q43 : (op == 43) = false := by simp; omega
  have q44 : (op == 44) = false := by simp; omega
  have q46 : (op == 46) = false := by simp; omega
  have q47 : (op == 47) = false := by simp; omega
  have q48 : (op == 48) = false := by simp; omega
  have q49 : (op == 49) = false := by simp; omega
  have q50 : (op == 50) = false := by simp; omega
  have z49 : decide (op ≤ 16) = true := by simp; omega
  have z54 : decide (op ≥ 17) = false := by simp; omega
  have z59 : decide (op ≥ 31) = false := by simp; omega
  have z64 : decide (op ≤ 30) = true := by simp; omega
  generalize g0 : (c == 15) = b0
  unfold isa_may.f isa_may.q0.l isa_wide.f atlasref19_may.f atlasref19_may.q0.l atlasref19_may.q1.l atlasref19_may.q2.l atlasref19_may.q3.l atlasref19_may.q4.l atlasref19_may.q5.l atlasref19_may.q6.l atlasref19_may.q7.l atlasref19_any15.f
  simp only [any15_8, h_d, h_n, h_m, h_r, h_a, h_f, bne, Option.bind_some, q0, q39, q40, q43, q44, q46, q47, q48, q49, q50, z49, z54, z59, z64, g0]
  cases b0 <;> rfl
theorem sop_1 (x : Int) : sayOp (rowD 1).1 (rowD 1).2.2.1 x = x / 2097152 % 16 + 1 := by kernel_rfl
theorem say_1_1 (x : Int) (h : x / 2097152 % 16 = 0) : sayR (rowD 1) x = ⟨x / 268435456 % 16, 1, (x / 1048576 % 2 == 1), 2, x / 4096 % 16, x / 65536 % 16, x % 16, 0, 0, 0, x / 32 % 4, x / 128 % 32, false, false, false, 0, 0, 0, 0, 0⟩ :=
  (sayV_with _ _ _ x 1 ((sop_1 x).trans (by rw [h]; rfl))).trans (by kernel_rfl)
theorem say_1_2 (x : Int) (h : x / 2097152 % 16 = 1) : sayR (rowD 1) x = ⟨x / 268435456 % 16, 2, (x / 1048576 % 2 == 1), 2, x / 4096 % 16, x / 65536 % 16, x % 16, 0, 0, 0, x / 32 % 4, x / 128 % 32, false, false, false, 0, 0, 0, 0, 0⟩ :=
  (sayV_with _ _ _ x 2 ((sop_1 x).trans (by rw [h]; rfl))).trans (by kernel_rfl)
theorem say_1_3 (x : Int) (h : x / 2097152 % 16 = 2) : sayR (rowD 1) x = ⟨x / 268435456 % 16, 3, (x / 1048576 % 2 == 1), 2, x / 4096 % 16, x / 65536 % 16, x % 16, 0, 0, 0, x / 32 % 4, x / 128 % 32, false, false, false, 0, 0, 0, 0, 0⟩ :=
  (sayV_with _ _ _ x 3 ((sop_1 x).trans (by rw [h]; rfl))).trans (by kernel_rfl)
theorem say_1_4 (x : Int) (h : x / 2097152 % 16 = 3) : sayR (rowD 1) x = ⟨x / 268435456 % 16, 4, (x / 1048576 % 2 == 1), 2, x / 4096 % 16, x / 65536 % 16, x % 16, 0, 0, 0, x / 32 % 4, x / 128 % 32, false, false, false, 0, 0, 0, 0, 0⟩ :=
  (sayV_with _ _ _ x 4 ((sop_1 x).trans (by rw [h]; rfl))).trans (by kernel_rfl)
theorem say_1_5 (x : Int) (h : x / 2097152 % 16 = 4) : sayR (rowD 1) x = ⟨x / 268435456 % 16, 5, (x / 1048576 % 2 == 1), 2, x / 4096 % 16, x / 65536 % 16, x % 16, 0, 0, 0, x / 32 % 4, x / 128 % 32, false, false, false, 0, 0, 0, 0, 0⟩ :=
  (sayV_with _ _ _ x 5 ((sop_1 x).trans (by rw [h]; rfl))).trans (by kernel_rfl)
theorem say_1_6 (x : Int) (h : x / 2097152 % 16 = 5) : sayR (rowD 1) x = ⟨x / 268435456 % 16, 6, (x / 1048576 % 2 == 1), 2, x / 4096 % 16, x / 65536 % 16, x % 16, 0, 0, 0, x / 32 % 4, x / 128 % 32, false, false, false, 0, 0, 0, 0, 0⟩ :=
  (sayV_with _ _ _ x 6 ((sop_1 x).trans (by rw [h]; rfl))).trans (by kernel_rfl)
theorem say_1_7 (x : Int) (h : x / 2097152 % 16 = 6) : sayR (rowD 1) x = ⟨x / 268435456 % 16, 7, (x / 1048576 % 2 == 1), 2, x / 4096 % 16, x / 65536 % 16, x % 16, 0, 0, 0, x / 32 % 4, x / 128 % 32, false, false, false, 0, 0, 0, 0, 0⟩ :=
  (sayV_with _ _ _ x 7 ((sop_1 x).trans (by rw [h]; rfl))).trans (by kernel_rfl)
theorem say_1_8 (x : Int) (h : x / 2097152 % 16 = 7) : sayR (rowD 1) x = ⟨x / 268435456 % 16, 8, (x / 1048576 % 2 == 1), 2, x / 4096 % 16, x / 65536 % 16, x % 16, 0, 0, 0, x / 32 % 4, x / 128 % 32, false, false, false, 0, 0, 0, 0, 0⟩ :=
  (sayV_with _ _ _ x 8 ((sop_1 x).trans (by rw [h]; rfl))).trans (by kernel_rfl)
theorem say_1_13 (x : Int) (h : x / 2097152 % 16 = 12) : sayR (rowD 1) x = ⟨x / 268435456 % 16, 13, (x / 1048576 % 2 == 1), 2, x / 4096 % 16, x / 65536 % 16, x % 16, 0, 0, 0, x / 32 % 4, x / 128 % 32, false, false, false, 0, 0, 0, 0, 0⟩ :=
  (sayV_with _ _ _ x 13 ((sop_1 x).trans (by rw [h]; rfl))).trans (by kernel_rfl)
theorem say_1_15 (x : Int) (h : x / 2097152 % 16 = 14) : sayR (rowD 1) x = ⟨x / 268435456 % 16, 15, (x / 1048576 % 2 == 1), 2, x / 4096 % 16, x / 65536 % 16, x % 16, 0, 0, 0, x / 32 % 4, x / 128 % 32, false, false, false, 0, 0, 0, 0, 0⟩ :=
  (sayV_with _ _ _ x 15 ((sop_1 x).trans (by rw [h]; rfl))).trans (by kernel_rfl)
theorem rmay_1 (c rd rn rm sh am op : Int) (s : Bool) (o1 : 1 ≤ op) (o2 : op ≤ 16) : isa_may.f 64 ⟨c, op, s, 2, rd, rn, rm, 0, 0, 0, sh, am, false, false, false, 0, 0, 0, 0, 0⟩ = atlasref19_may.f 64 ⟨(rowD 1).1, (rowD 1).2.1, (rowD 1).2.2.1⟩ ⟨c, op, s, 2, rd, rn, rm, 0, 0, 0, sh, am, false, false, false, 0, 0, 0, 0, 0⟩ := by
  have h_d : atlasref19_Has.f 64 ⟨(rowD 1).1, (rowD 1).2.1, (rowD 1).2.2.1⟩ 100 = some true := by kernel_rfl
  have h_n : atlasref19_Has.f 64 ⟨(rowD 1).1, (rowD 1).2.1, (rowD 1).2.2.1⟩ 110 = some true := by kernel_rfl
  have h_m : atlasref19_Has.f 64 ⟨(rowD 1).1, (rowD 1).2.1, (rowD 1).2.2.1⟩ 109 = some true := by kernel_rfl
  have h_r : atlasref19_Has.f 64 ⟨(rowD 1).1, (rowD 1).2.1, (rowD 1).2.2.1⟩ 114 = some false := by kernel_rfl
  have h_a : atlasref19_Has.f 64 ⟨(rowD 1).1, (rowD 1).2.1, (rowD 1).2.2.1⟩ 97 = some false := by kernel_rfl
  have h_f : (rowD 1).2.1 = 2 := by kernel_rfl
  have q0 : (op == 0) = false := by simp; omega
  have q39 : (op == 39) = false := by simp; omega
  have q40 : (op == 40) = false := by simp; omega
  have q43 : (op == 43) = false := by simp; omega
  have q44 : (op == 44) = false := by simp; omega
  have q46 : (op == 46) = false := by simp; omega
  have q47 : (op == 47) = false := by simp; omega
  have q48 : (op == 48) = false := by simp; omega
  have q49 : (op == 49) = false := by simp; omega
  have q50 : (op == 50) = false := by simp; omega
  have z49 : decide (op ≤ 16) = true := by simp; omega
  have z54 : decide (op ≥ 17) = false := by simp; omega
  have z59 : decide (op ≥ 31) = false := by simp; omega
  have z64 : decide (op ≤ 30) = true := by simp; omega
  generalize g0 : (c == 15) = b0
  unfold isa_may.f isa_may.q0.l isa_wide.f atlasref19_may.f atlasref19_may.q0.l atlasref19_may.q1.l atlasref19_may.q2.l atlasref19_may.q3.l atlasref19_may.q4.l atlasref19_may.q5.l atlasref19_may.q6.l atlasref19_may.q7.l atlasref19_any15.f
  simp only [any15_8, h_d, h_n, h_m, h_r, h_a, h_f, bne, Option.bind_some, q0, q39, q40, q43, q44, q46, q47, q48, q49, q50, z49, z54, z59, z64, g0]
  cases b0 <;> rfl
theorem sop_2 (x : Int) : sayOp (rowD 2).1 (rowD 2).2.2.1 x = x / 2097152 % 16 + 1 := by kernel_rfl
theorem say_2_1 (x : Int) (h : x / 2097152 % 16 = 0) : sayR (rowD 2) x = ⟨x / 268435456 % 16, 1, (x / 1048576 % 2 == 1), 3, x / 4096 % 16, x / 65536 % 16, x % 16, x / 256 % 16, 0, 0, x / 32 % 4, 0, false, false, false, 0, 0, 0, 0, 0⟩ :=
  (sayV_with _ _ _ x 1 ((sop_2 x).trans (by rw [h]; rfl))).trans (by kernel_rfl)
theorem say_2_2 (x : Int) (h : x / 2097152 % 16 = 1) : sayR (rowD 2) x = ⟨x / 268435456 % 16, 2, (x / 1048576 % 2 == 1), 3, x / 4096 % 16, x / 65536 % 16, x % 16, x / 256 % 16, 0, 0, x / 32 % 4, 0, false, false, false, 0, 0, 0, 0, 0⟩ :=
  (sayV_with _ _ _ x 2 ((sop_2 x).trans (by rw [h]; rfl))).trans (by kernel_rfl)
theorem say_2_3 (x : Int) (h : x / 2097152 % 16 = 2) : sayR (rowD 2) x = ⟨x / 268435456 % 16, 3, (x / 1048576 % 2 == 1), 3, x / 4096 % 16, x / 65536 % 16, x % 16, x / 256 % 16, 0, 0, x / 32 % 4, 0, false, false, false, 0, 0, 0, 0, 0⟩ :=
  (sayV_with _ _ _ x 3 ((sop_2 x).trans (by rw [h]; rfl))).trans (by kernel_rfl)
theorem say_2_4 (x : Int) (h : x / 2097152 % 16 = 3) : sayR (rowD 2) x = ⟨x / 268435456 % 16, 4, (x / 1048576 % 2 == 1), 3, x / 4096 % 16, x / 65536 % 16, x % 16, x / 256 % 16, 0, 0, x / 32 % 4, 0, false, false, false, 0, 0, 0, 0, 0⟩ :=
  (sayV_with _ _ _ x 4 ((sop_2 x).trans (by rw [h]; rfl))).trans (by kernel_rfl)
theorem say_2_5 (x : Int) (h : x / 2097152 % 16 = 4) : sayR (rowD 2) x = ⟨x / 268435456 % 16, 5, (x / 1048576 % 2 == 1), 3, x / 4096 % 16, x / 65536 % 16, x % 16, x / 256 % 16, 0, 0, x / 32 % 4, 0, false, false, false, 0, 0, 0, 0, 0⟩ :=
  (sayV_with _ _ _ x 5 ((sop_2 x).trans (by rw [h]; rfl))).trans (by kernel_rfl)
theorem say_2_6 (x : Int) (h : x / 2097152 % 16 = 5) : sayR (rowD 2) x = ⟨x / 268435456 % 16, 6, (x / 1048576 % 2 == 1), 3, x / 4096 % 16, x / 65536 % 16, x % 16, x / 256 % 16, 0, 0, x / 32 % 4, 0, false, false, false, 0, 0, 0, 0, 0⟩ :=
  (sayV_with _ _ _ x 6 ((sop_2 x).trans (by rw [h]; rfl))).trans (by kernel_rfl)
theorem say_2_7 (x : Int) (h : x / 2097152 % 16 = 6) : sayR (rowD 2) x = ⟨x / 268435456 % 16, 7, (x / 1048576 % 2 == 1), 3, x / 4096 % 16, x / 65536 % 16, x % 16, x / 256 % 16, 0, 0, x / 32 % 4, 0, false, false, false, 0, 0, 0, 0, 0⟩ :=
  (sayV_with _ _ _ x 7 ((sop_2 x).trans (by rw [h]; rfl))).trans (by kernel_rfl)
theorem say_2_8 (x : Int) (h : x / 2097152 % 16 = 7) : sayR (rowD 2) x = ⟨x / 268435456 % 16, 8, (x / 1048576 % 2 == 1), 3, x / 4096 % 16, x / 65536 % 16, x % 16, x / 256 % 16, 0, 0, x / 32 % 4, 0, false, false, false, 0, 0, 0, 0, 0⟩ :=
  (sayV_with _ _ _ x 8 ((sop_2 x).trans (by rw [h]; rfl))).trans (by kernel_rfl)
theorem say_2_13 (x : Int) (h : x / 2097152 % 16 = 12) : sayR (rowD 2) x = ⟨x / 268435456 % 16, 13, (x / 1048576 % 2 == 1), 3, x / 4096 % 16, x / 65536 % 16, x % 16, x / 256 % 16, 0, 0, x / 32 % 4, 0, false, false, false, 0, 0, 0, 0, 0⟩ :=
  (sayV_with _ _ _ x 13 ((sop_2 x).trans (by rw [h]; rfl))).trans (by kernel_rfl)
theorem say_2_15 (x : Int) (h : x / 2097152 % 16 = 14) : sayR (rowD 2) x = ⟨x / 268435456 % 16, 15, (x / 1048576 % 2 == 1), 3, x / 4096 % 16, x / 65536 % 16, x % 16, x / 256 % 16, 0, 0, x / 32 % 4, 0, false, false, false, 0, 0, 0, 0, 0⟩ :=
  (sayV_with _ _ _ x 15 ((sop_2 x).trans (by rw [h]; rfl))).trans (by kernel_rfl)
theorem rmay_2 (c rd rn rm rs sh op : Int) (s : Bool) (o1 : 1 ≤ op) (o2 : op ≤ 16) : isa_may.f 64 ⟨c, op, s, 3, rd, rn, rm, rs, 0, 0, sh, 0, false, false, false, 0, 0, 0, 0, 0⟩ = atlasref19_may.f 64 ⟨(rowD 2).1, (rowD 2).2.1, (rowD 2).2.2.1⟩ ⟨c, op, s, 3, rd, rn, rm, rs, 0, 0, sh, 0, false, false, false, 0, 0, 0, 0, 0⟩ := by
  have h_d : atlasref19_Has.f 64 ⟨(rowD 2).1, (rowD 2).2.1, (rowD 2).2.2.1⟩ 100 = some true := by kernel_rfl
  have h_n : atlasref19_Has.f 64 ⟨(rowD 2).1, (rowD 2).2.1, (rowD 2).2.2.1⟩ 110 = some true := by kernel_rfl
  have h_m : atlasref19_Has.f 64 ⟨(rowD 2).1, (rowD 2).2.1, (rowD 2).2.2.1⟩ 109 = some true := by kernel_rfl
  have h_r : atlasref19_Has.f 64 ⟨(rowD 2).1, (rowD 2).2.1, (rowD 2).2.2.1⟩ 114 = some true := by kernel_rfl
  have h_a : atlasref19_Has.f 64 ⟨(rowD 2).1, (rowD 2).2.1, (rowD 2).2.2.1⟩ 97 = some false := by kernel_rfl
  have h_f : (rowD 2).2.1 = 3 := by kernel_rfl
  have q0 : (op == 0) = false := by simp; omega
  have q39 : (op == 39) = false := by simp; omega
  have q40 : (op == 40) = false := by simp; omega
  have q43 : (op == 43) = false := by simp; omega
  have q44 : (op == 44) = false := by simp; omega
  have q46 : (op == 46) = false := by simp; omega
  have q47 : (op == 47) = false := by simp; omega
  have q48 : (op == 48) = false := by simp; omega
  have q49 : (op == 49) = false := by simp; omega
  have q50 : (op == 50) = false := by simp; omega
  have z49 : decide (op ≤ 16) = true := by simp; omega
  have z54 : decide (op ≥ 17) = false := by simp; omega
  have z59 : decide (op ≥ 31) = false := by simp; omega
  have z64 : decide (op ≤ 30) = true := by simp; omega
  generalize g0 : (c == 15) = b0
  generalize g1 : (rd == 15) = b1
  generalize g2 : (rn == 15) = b2
  generalize g3 : (rm == 15) = b3
  generalize g4 : (rs == 15) = b4
  unfold isa_may.f isa_may.q0.l isa_wide.f atlasref19_may.f atlasref19_may.q0.l atlasref19_may.q1.l atlasref19_may.q2.l atlasref19_may.q3.l atlasref19_may.q4.l atlasref19_may.q5.l atlasref19_may.q6.l atlasref19_may.q7.l atlasref19_any15.f
  simp only [any15_8, h_d, h_n, h_m, h_r, h_a, h_f, bne, Option.bind_some, q0, q39, q40, q43, q44, q46, q47, q48, q49, q50, z49, z54, z59, z64, g0, g1, g2, g3, g4]
  cases b0 <;> cases b1 <;> cases b2 <;> cases b3 <;> cases b4 <;> rfl
theorem sop_3 (x : Int) : sayOp (rowD 3).1 (rowD 3).2.2.1 x = x / 2097152 % 16 + 1 := by kernel_rfl
theorem say_3_9 (x : Int) (h : x / 2097152 % 16 = 8) : sayR (rowD 3) x = ⟨x / 268435456 % 16, 9, true, 1, 0, x / 65536 % 16, 0, 0, 0, x % 4096, 0, 0, false, false, false, 0, 0, 0, 0, 0⟩ :=
  (sayV_with _ _ _ x 9 ((sop_3 x).trans (by rw [h]; rfl))).trans (by kernel_rfl)
theorem say_3_10 (x : Int) (h : x / 2097152 % 16 = 9) : sayR (rowD 3) x = ⟨x / 268435456 % 16, 10, true, 1, 0, x / 65536 % 16, 0, 0, 0, x % 4096, 0, 0, false, false, false, 0, 0, 0, 0, 0⟩ :=
  (sayV_with _ _ _ x 10 ((sop_3 x).trans (by rw [h]; rfl))).trans (by kernel_rfl)
theorem say_3_11 (x : Int) (h : x / 2097152 % 16 = 10) : sayR (rowD 3) x = ⟨x / 268435456 % 16, 11, true, 1, 0, x / 65536 % 16, 0, 0, 0, x % 4096, 0, 0, false, false, false, 0, 0, 0, 0, 0⟩ :=
  (sayV_with _ _ _ x 11 ((sop_3 x).trans (by rw [h]; rfl))).trans (by kernel_rfl)
theorem say_3_12 (x : Int) (h : x / 2097152 % 16 = 11) : sayR (rowD 3) x = ⟨x / 268435456 % 16, 12, true, 1, 0, x / 65536 % 16, 0, 0, 0, x % 4096, 0, 0, false, false, false, 0, 0, 0, 0, 0⟩ :=
  (sayV_with _ _ _ x 12 ((sop_3 x).trans (by rw [h]; rfl))).trans (by kernel_rfl)
theorem rmay_3 (c rn imm op : Int) (s : Bool) (o1 : 1 ≤ op) (o2 : op ≤ 16) : isa_may.f 64 ⟨c, op, s, 1, 0, rn, 0, 0, 0, imm, 0, 0, false, false, false, 0, 0, 0, 0, 0⟩ = atlasref19_may.f 64 ⟨(rowD 3).1, (rowD 3).2.1, (rowD 3).2.2.1⟩ ⟨c, op, s, 1, 0, rn, 0, 0, 0, imm, 0, 0, false, false, false, 0, 0, 0, 0, 0⟩ := by
  have h_d : atlasref19_Has.f 64 ⟨(rowD 3).1, (rowD 3).2.1, (rowD 3).2.2.1⟩ 100 = some false := by kernel_rfl
  have h_n : atlasref19_Has.f 64 ⟨(rowD 3).1, (rowD 3).2.1, (rowD 3).2.2.1⟩ 110 = some true := by kernel_rfl
  have h_m : atlasref19_Has.f 64 ⟨(rowD 3).1, (rowD 3).2.1, (rowD 3).2.2.1⟩ 109 = some false := by kernel_rfl
  have h_r : atlasref19_Has.f 64 ⟨(rowD 3).1, (rowD 3).2.1, (rowD 3).2.2.1⟩ 114 = some false := by kernel_rfl
  have h_a : atlasref19_Has.f 64 ⟨(rowD 3).1, (rowD 3).2.1, (rowD 3).2.2.1⟩ 97 = some false := by kernel_rfl
  have h_f : (rowD 3).2.1 = 1 := by kernel_rfl
  have q0 : (op == 0) = false := by simp; omega
  have q39 : (op == 39) = false := by simp; omega
  have q40 : (op == 40) = false := by simp; omega
  have q43 : (op == 43) = false := by simp; omega
  have q44 : (op == 44) = false := by simp; omega
  have q46 : (op == 46) = false := by simp; omega
  have q47 : (op == 47) = false := by simp; omega
  have q48 : (op == 48) = false := by simp; omega
  have q49 : (op == 49) = false := by simp; omega
  have q50 : (op == 50) = false := by simp; omega
  have z49 : decide (op ≤ 16) = true := by simp; omega
  have z54 : decide (op ≥ 17) = false := by simp; omega
  have z59 : decide (op ≥ 31) = false := by simp; omega
  have z64 : decide (op ≤ 30) = true := by simp; omega
  generalize g0 : (c == 15) = b0
  unfold isa_may.f isa_may.q0.l isa_wide.f atlasref19_may.f atlasref19_may.q0.l atlasref19_may.q1.l atlasref19_may.q2.l atlasref19_may.q3.l atlasref19_may.q4.l atlasref19_may.q5.l atlasref19_may.q6.l atlasref19_may.q7.l atlasref19_any15.f
  simp only [any15_8, h_d, h_n, h_m, h_r, h_a, h_f, bne, Option.bind_some, q0, q39, q40, q43, q44, q46, q47, q48, q49, q50, z49, z54, z59, z64, g0]
  cases b0 <;> rfl
theorem sop_4 (x : Int) : sayOp (rowD 4).1 (rowD 4).2.2.1 x = x / 2097152 % 16 + 1 := by kernel_rfl
theorem say_4_9 (x : Int) (h : x / 2097152 % 16 = 8) : sayR (rowD 4) x = ⟨x / 268435456 % 16, 9, true, 2, 0, x / 65536 % 16, x % 16, 0, 0, 0, x / 32 % 4, x / 128 % 32, false, false, false, 0, 0, 0, 0, 0⟩ :=
  (sayV_with _ _ _ x 9 ((sop_4 x).trans (by rw [h]; rfl))).trans (by kernel_rfl)
theorem say_4_10 (x : Int) (h : x / 2097152 % 16 = 9) : sayR (rowD 4) x = ⟨x / 268435456 % 16, 10, true, 2, 0, x / 65536 % 16, x % 16, 0, 0, 0, x / 32 % 4, x / 128 % 32, false, false, false, 0, 0, 0, 0, 0⟩ :=
  (sayV_with _ _ _ x 10 ((sop_4 x).trans (by rw [h]; rfl))).trans (by kernel_rfl)
theorem say_4_11 (x : Int) (h : x / 2097152 % 16 = 10) : sayR (rowD 4) x = ⟨x / 268435456 % 16, 11, true, 2, 0, x / 65536 % 16, x % 16, 0, 0, 0, x / 32 % 4, x / 128 % 32, false, false, false, 0, 0, 0, 0, 0⟩ :=
  (sayV_with _ _ _ x 11 ((sop_4 x).trans (by rw [h]; rfl))).trans (by kernel_rfl)
theorem say_4_12 (x : Int) (h : x / 2097152 % 16 = 11) : sayR (rowD 4) x = ⟨x / 268435456 % 16, 12, true, 2, 0, x / 65536 % 16, x % 16, 0, 0, 0, x / 32 % 4, x / 128 % 32, false, false, false, 0, 0, 0, 0, 0⟩ :=
  (sayV_with _ _ _ x 12 ((sop_4 x).trans (by rw [h]; rfl))).trans (by kernel_rfl)
theorem rmay_4 (c rn rm sh am op : Int) (s : Bool) (o1 : 1 ≤ op) (o2 : op ≤ 16) : isa_may.f 64 ⟨c, op, s, 2, 0, rn, rm, 0, 0, 0, sh, am, false, false, false, 0, 0, 0, 0, 0⟩ = atlasref19_may.f 64 ⟨(rowD 4).1, (rowD 4).2.1, (rowD 4).2.2.1⟩ ⟨c, op, s, 2, 0, rn, rm, 0, 0, 0, sh, am, false, false, false, 0, 0, 0, 0, 0⟩ := by
  have h_d : atlasref19_Has.f 64 ⟨(rowD 4).1, (rowD 4).2.1, (rowD 4).2.2.1⟩ 100 = some false := by kernel_rfl
  have h_n : atlasref19_Has.f 64 ⟨(rowD 4).1, (rowD 4).2.1, (rowD 4).2.2.1⟩ 110 = some true := by kernel_rfl
  have h_m : atlasref19_Has.f 64 ⟨(rowD 4).1, (rowD 4).2.1, (rowD 4).2.2.1⟩ 109 = some true := by kernel_rfl
  have h_r : atlasref19_Has.f 64 ⟨(rowD 4).1, (rowD 4).2.1, (rowD 4).2.2.1⟩ 114 = some false := by kernel_rfl
  have h_a : atlasref19_Has.f 64 ⟨(rowD 4).1, (rowD 4).2.1, (rowD 4).2.2.1⟩ 97 = some false := by kernel_rfl
  have h_f : (rowD 4).2.1 = 2 := by kernel_rfl
  have q0 : (op == 0) = false := by simp; omega
  have q39 : (op == 39) = false := by simp; omega
  have q40 : (op == 40) = false := by simp; omega
  have q43 : (op == 43) = false := by simp; omega
  have q44 : (op == 44) = false := by simp; omega
  have q46 : (op == 46) = false := by simp; omega
  have q47 : (op == 47) = false := by simp; omega
  have q48 : (op == 48) = false := by simp; omega
  have q49 : (op == 49) = false := by simp; omega
  have q50 : (op == 50) = false := by simp; omega
  have z49 : decide (op ≤ 16) = true := by simp; omega
  have z54 : decide (op ≥ 17) = false := by simp; omega
  have z59 : decide (op ≥ 31) = false := by simp; omega
  have z64 : decide (op ≤ 30) = true := by simp; omega
  generalize g0 : (c == 15) = b0
  unfold isa_may.f isa_may.q0.l isa_wide.f atlasref19_may.f atlasref19_may.q0.l atlasref19_may.q1.l atlasref19_may.q2.l atlasref19_may.q3.l atlasref19_may.q4.l atlasref19_may.q5.l atlasref19_may.q6.l atlasref19_may.q7.l atlasref19_any15.f
  simp only [any15_8, h_d, h_n, h_m, h_r, h_a, h_f, bne, Option.bind_some, q0, q39, q40, q43, q44, q46, q47, q48, q49, q50, z49, z54, z59, z64, g0]
  cases b0 <;> rfl
theorem sop_5 (x : Int) : sayOp (rowD 5).1 (rowD 5).2.2.1 x = x / 2097152 % 16 + 1 := by kernel_rfl
theorem say_5_9 (x : Int) (h : x / 2097152 % 16 = 8) : sayR (rowD 5) x = ⟨x / 268435456 % 16, 9, true, 3, 0, x / 65536 % 16, x % 16, x / 256 % 16, 0, 0, x / 32 % 4, 0, false, false, false, 0, 0, 0, 0, 0⟩ :=
  (sayV_with _ _ _ x 9 ((sop_5 x).trans (by rw [h]; rfl))).trans (by kernel_rfl)
theorem say_5_10 (x : Int) (h : x / 2097152 % 16 = 9) : sayR (rowD 5) x = ⟨x / 268435456 % 16, 10, true, 3, 0, x / 65536 % 16, x % 16, x / 256 % 16, 0, 0, x / 32 % 4, 0, false, false, false, 0, 0, 0, 0, 0⟩ :=
  (sayV_with _ _ _ x 10 ((sop_5 x).trans (by rw [h]; rfl))).trans (by kernel_rfl)
theorem say_5_11 (x : Int) (h : x / 2097152 % 16 = 10) : sayR (rowD 5) x = ⟨x / 268435456 % 16, 11, true, 3, 0, x / 65536 % 16, x % 16, x / 256 % 16, 0, 0, x / 32 % 4, 0, false, false, false, 0, 0, 0, 0, 0⟩ :=
  (sayV_with _ _ _ x 11 ((sop_5 x).trans (by rw [h]; rfl))).trans (by kernel_rfl)
theorem say_5_12 (x : Int) (h : x / 2097152 % 16 = 11) : sayR (rowD 5) x = ⟨x / 268435456 % 16, 12, true, 3, 0, x / 65536 % 16, x % 16, x / 256 % 16, 0, 0, x / 32 % 4, 0, false, false, false, 0, 0, 0, 0, 0⟩ :=
  (sayV_with _ _ _ x 12 ((sop_5 x).trans (by rw [h]; rfl))).trans (by kernel_rfl)
theorem rmay_5 (c rn rm rs sh op : Int) (s : Bool) (o1 : 1 ≤ op) (o2 : op ≤ 16) : isa_may.f 64 ⟨c, op, s, 3, 0, rn, rm, rs, 0, 0, sh, 0, false, false, false, 0, 0, 0, 0, 0⟩ = atlasref19_may.f 64 ⟨(rowD 5).1, (rowD 5).2.1, (rowD 5).2.2.1⟩ ⟨c, op, s, 3, 0, rn, rm, rs, 0, 0, sh, 0, false, false, false, 0, 0, 0, 0, 0⟩ := by
  have h_d : atlasref19_Has.f 64 ⟨(rowD 5).1, (rowD 5).2.1, (rowD 5).2.2.1⟩ 100 = some false := by kernel_rfl
  have h_n : atlasref19_Has.f 64 ⟨(rowD 5).1, (rowD 5).2.1, (rowD 5).2.2.1⟩ 110 = some true := by kernel_rfl
  have h_m : atlasref19_Has.f 64 ⟨(rowD 5).1, (rowD 5).2.1, (rowD 5).2.2.1⟩ 109 = some true := by kernel_rfl
  have h_r : atlasref19_Has.f 64 ⟨(rowD 5).1, (rowD 5).2.1, (rowD 5).2.2.1⟩ 114 = some true := by kernel_rfl
  have h_a : atlasref19_Has.f 64 ⟨(rowD 5).1, (rowD 5).2.1, (rowD 5).2.2.1⟩ 97 = some false := by kernel_rfl
  have h_f : (rowD 5).2.1 = 3 := by kernel_rfl
  have q0 : (op == 0) = false := by simp; omega
  have q39 : (op == 39) = false := by simp; omega
  have q40 : (op == 40) = false := by simp; omega
  have q43 : (op == 43) = false := by simp; omega
  have q44 : (op == 44) = false := by simp; omega
  have q46 : (op == 46) = false := by simp; omega
  have q47 : (op == 47) = false := by simp; omega
  have q48 : (op == 48) = false := by simp; omega
  have q49 : (op == 49) = false := by simp; omega
  have q50 : (op == 50) = false := by simp; omega
  have z49 : decide (op ≤ 16) = true := by simp; omega
  have z54 : decide (op ≥ 17) = false := by simp; omega
  have z59 : decide (op ≥ 31) = false := by simp; omega
  have z64 : decide (op ≤ 30) = true := by simp; omega
  generalize g0 : (c == 15) = b0
  generalize g1 : (rn == 15) = b1
  generalize g2 : (rm == 15) = b2
  generalize g3 : (rs == 15) = b3
  unfold isa_may.f isa_may.q0.l isa_wide.f atlasref19_may.f atlasref19_may.q0.l atlasref19_may.q1.l atlasref19_may.q2.l atlasref19_may.q3.l atlasref19_may.q4.l atlasref19_may.q5.l atlasref19_may.q6.l atlasref19_may.q7.l atlasref19_any15.f
  simp only [any15_8, h_d, h_n, h_m, h_r, h_a, h_f, bne, Option.bind_some, q0, q39, q40, q43, q44, q46, q47, q48, q49, q50, z49, z54, z59, z64, g0, g1, g2, g3]
  cases b0 <;> cases b1 <;> cases b2 <;> cases b3 <;> rfl
theorem sop_6 (x : Int) : sayOp (rowD 6).1 (rowD 6).2.2.1 x = x / 2097152 % 16 + 1 := by kernel_rfl
theorem say_6_14 (x : Int) (h : x / 2097152 % 16 = 13) : sayR (rowD 6) x = ⟨x / 268435456 % 16, 14, (x / 1048576 % 2 == 1), 1, x / 4096 % 16, 0, 0, 0, 0, x % 4096, 0, 0, false, false, false, 0, 0, 0, 0, 0⟩ :=
  (sayV_with _ _ _ x 14 ((sop_6 x).trans (by rw [h]; rfl))).trans (by kernel_rfl)
theorem say_6_16 (x : Int) (h : x / 2097152 % 16 = 15) : sayR (rowD 6) x = ⟨x / 268435456 % 16, 16, (x / 1048576 % 2 == 1), 1, x / 4096 % 16, 0, 0, 0, 0, x % 4096, 0, 0, false, false, false, 0, 0, 0, 0, 0⟩ :=
  (sayV_with _ _ _ x 16 ((sop_6 x).trans (by rw [h]; rfl))).trans (by kernel_rfl)
theorem rmay_6 (c rd imm op : Int) (s : Bool) (o1 : 1 ≤ op) (o2 : op ≤ 16) : isa_may.f 64 ⟨c, op, s, 1, rd, 0, 0, 0, 0, imm, 0, 0, false, false, false, 0, 0, 0, 0, 0⟩ = atlasref19_may.f 64 ⟨(rowD 6).1, (rowD 6).2.1, (rowD 6).2.2.1⟩ ⟨c, op, s, 1, rd, 0, 0, 0, 0, imm, 0, 0, false, false, false, 0, 0, 0, 0, 0⟩ := by
  have h_d : atlasref19_Has.f 64 ⟨(rowD 6).1, (rowD 6).2.1, (rowD 6).2.2.1⟩ 100 = some true := by kernel_rfl
  have h_n : atlasref19_Has.f 64 ⟨(rowD 6).1, (rowD 6).2.1, (rowD 6).2.2.1⟩ 110 = some false := by kernel_rfl
  have h_m : atlasref19_Has.f 64 ⟨(rowD 6).1, (rowD 6).2.1, (rowD 6).2.2.1⟩ 109 = some false := by kernel_rfl
  have h_r : atlasref19_Has.f 64 ⟨(rowD 6).1, (rowD 6).2.1, (rowD 6).2.2.1⟩ 114 = some false := by kernel_rfl
  have h_a : atlasref19_Has.f 64 ⟨(rowD 6).1, (rowD 6).2.1, (rowD 6).2.2.1⟩ 97 = some false := by kernel_rfl
  have h_f : (rowD 6).2.1 = 1 := by kernel_rfl
  have q0 : (op == 0) = false := by simp; omega
  have q39 : (op == 39) = false := by simp; omega
  have q40 : (op == 40) = false := by simp; omega
  have q43 : (op == 43) = false := by simp; omega
  have q44 : (op == 44) = false := by simp; omega
  have q46 : (op == 46) = false := by simp; omega
  have q47 : (op == 47) = false := by simp; omega
  have q48 : (op == 48) = false := by simp; omega
  have q49 : (op == 49) = false := by simp; omega
  have q50 : (op == 50) = false := by simp; omega
  have z49 : decide (op ≤ 16) = true := by simp; omega
  have z54 : decide (op ≥ 17) = false := by simp; omega
  have z59 : decide (op ≥ 31) = false := by simp; omega
  have z64 : decide (op ≤ 30) = true := by simp; omega
  generalize g0 : (c == 15) = b0
  unfold isa_may.f isa_may.q0.l isa_wide.f atlasref19_may.f atlasref19_may.q0.l atlasref19_may.q1.l atlasref19_may.q2.l atlasref19_may.q3.l atlasref19_may.q4.l atlasref19_may.q5.l atlasref19_may.q6.l atlasref19_may.q7.l atlasref19_any15.f
  simp only [any15_8, h_d, h_n, h_m, h_r, h_a, h_f, bne, Option.bind_some, q0, q39, q40, q43, q44, q46, q47, q48, q49, q50, z49, z54, z59, z64, g0]
  cases b0 <;> rfl
theorem sop_7 (x : Int) : sayOp (rowD 7).1 (rowD 7).2.2.1 x = x / 2097152 % 16 + 1 := by kernel_rfl
theorem say_7_14 (x : Int) (h : x / 2097152 % 16 = 13) : sayR (rowD 7) x = ⟨x / 268435456 % 16, 14, (x / 1048576 % 2 == 1), 2, x / 4096 % 16, 0, x % 16, 0, 0, 0, x / 32 % 4, x / 128 % 32, false, false, false, 0, 0, 0, 0, 0⟩ :=
  (sayV_with _ _ _ x 14 ((sop_7 x).trans (by rw [h]; rfl))).trans (by kernel_rfl)
theorem say_7_16 (x : Int) (h : x / 2097152 % 16 = 15) : sayR (rowD 7) x = ⟨x / 268435456 % 16, 16, (x / 1048576 % 2 == 1), 2, x / 4096 % 16, 0, x % 16, 0, 0, 0, x / 32 % 4, x / 128 % 32, false, false, false, 0, 0, 0, 0, 0⟩ :=
  (sayV_with _ _ _ x 16 ((sop_7 x).trans (by rw [h]; rfl))).trans (by kernel_rfl)
theorem rmay_7 (c rd rm sh am op : Int) (s : Bool) (o1 : 1 ≤ op) (o2 : op ≤ 16) : isa_may.f 64 ⟨c, op, s, 2, rd, 0, rm, 0, 0, 0, sh, am, false, false, false, 0, 0, 0, 0, 0⟩ = atlasref19_may.f 64 ⟨(rowD 7).1, (rowD 7).2.1, (rowD 7).2.2.1⟩ ⟨c, op, s, 2, rd, 0, rm, 0, 0, 0, sh, am, false, false, false, 0, 0, 0, 0, 0⟩ := by
  have h_d : atlasref19_Has.f 64 ⟨(rowD 7).1, (rowD 7).2.1, (rowD 7).2.2.1⟩ 100 = some true := by kernel_rfl
  have h_n : atlasref19_Has.f 64 ⟨(rowD 7).1, (rowD 7).2.1, (rowD 7).2.2.1⟩ 110 = some false := by kernel_rfl
  have h_m : atlasref19_Has.f 64 ⟨(rowD 7).1, (rowD 7).2.1, (rowD 7).2.2.1⟩ 109 = some true := by kernel_rfl
  have h_r : atlasref19_Has.f 64 ⟨(rowD 7).1, (rowD 7).2.1, (rowD 7).2.2.1⟩ 114 = some false := by kernel_rfl
  have h_a : atlasref19_Has.f 64 ⟨(rowD 7).1, (rowD 7).2.1, (rowD 7).2.2.1⟩ 97 = some false := by kernel_rfl
  have h_f : (rowD 7).2.1 = 2 := by kernel_rfl
  have q0 : (op == 0) = false := by simp; omega
  have q39 : (op == 39) = false := by simp; omega
  have q40 : (op == 40) = false := by simp; omega
  have q43 : (op == 43) = false := by simp; omega
  have q44 : (op == 44) = false := by simp; omega
  have q46 : (op == 46) = false := by simp; omega
  have q47 : (op == 47) = false := by simp; omega
  have q48 : (op == 48) = false := by simp; omega
  have q49 : (op == 49) = false := by simp; omega
  have q50 : (op == 50) = false := by simp; omega
  have z49 : decide (op ≤ 16) = true := by simp; omega
  have z54 : decide (op ≥ 17) = false := by simp; omega
  have z59 : decide (op ≥ 31) = false := by simp; omega
  have z64 : decide (op ≤ 30) = true := by simp; omega
  generalize g0 : (c == 15) = b0
  unfold isa_may.f isa_may.q0.l isa_wide.f atlasref19_may.f atlasref19_may.q0.l atlasref19_may.q1.l atlasref19_may.q2.l atlasref19_may.q3.l atlasref19_may.q4.l atlasref19_may.q5.l atlasref19_may.q6.l atlasref19_may.q7.l atlasref19_any15.f
  simp only [any15_8, h_d, h_n, h_m, h_r, h_a, h_f, bne, Option.bind_some, q0, q39, q40, q43, q44, q46, q47, q48, q49, q50, z49, z54, z59, z64, g0]
  cases b0 <;> rfl
theorem sop_8 (x : Int) : sayOp (rowD 8).1 (rowD 8).2.2.1 x = x / 2097152 % 16 + 1 := by kernel_rfl
theorem say_8_14 (x : Int) (h : x / 2097152 % 16 = 13) : sayR (rowD 8) x = ⟨x / 268435456 % 16, 14, (x / 1048576 % 2 == 1), 3, x / 4096 % 16, 0, x % 16, x / 256 % 16, 0, 0, x / 32 % 4, 0, false, false, false, 0, 0, 0, 0, 0⟩ :=
  (sayV_with _ _ _ x 14 ((sop_8 x).trans (by rw [h]; rfl))).trans (by kernel_rfl)
theorem say_8_16 (x : Int) (h : x / 2097152 % 16 = 15) : sayR (rowD 8) x = ⟨x / 268435456 % 16, 16, (x / 1048576 % 2 == 1), 3, x / 4096 % 16, 0, x % 16, x / 256 % 16, 0, 0, x / 32 % 4, 0, false, false, false, 0, 0, 0, 0, 0⟩ :=
  (sayV_with _ _ _ x 16 ((sop_8 x).trans (by rw [h]; rfl))).trans (by kernel_rfl)
theorem rmay_8 (c rd rm rs sh op : Int) (s : Bool) (o1 : 1 ≤ op) (o2 : op ≤ 16) : isa_may.f 64 ⟨c, op, s, 3, rd, 0, rm, rs, 0, 0, sh, 0, false, false, false, 0, 0, 0, 0, 0⟩ = atlasref19_may.f 64 ⟨(rowD 8).1, (rowD 8).2.1, (rowD 8).2.2.1⟩ ⟨c, op, s, 3, rd, 0, rm, rs, 0, 0, sh, 0, false, false, false, 0, 0, 0, 0, 0⟩ := by
  have h_d : atlasref19_Has.f 64 ⟨(rowD 8).1, (rowD 8).2.1, (rowD 8).2.2.1⟩ 100 = some true := by kernel_rfl
  have h_n : atlasref19_Has.f 64 ⟨(rowD 8).1, (rowD 8).2.1, (rowD 8).2.2.1⟩ 110 = some false := by kernel_rfl
  have h_m : atlasref19_Has.f 64 ⟨(rowD 8).1, (rowD 8).2.1, (rowD 8).2.2.1⟩ 109 = some true := by kernel_rfl
  have h_r : atlasref19_Has.f 64 ⟨(rowD 8).1, (rowD 8).2.1, (rowD 8).2.2.1⟩ 114 = some true := by kernel_rfl
  have h_a : atlasref19_Has.f 64 ⟨(rowD 8).1, (rowD 8).2.1, (rowD 8).2.2.1⟩ 97 = some false := by kernel_rfl
  have h_f : (rowD 8).2.1 = 3 := by kernel_rfl
  have q0 : (op == 0) = false := by simp; omega
  have q39 : (op == 39) = false := by simp; omega
  have q40 : (op == 40) = false := by simp; omega
  have q43 : (op == 43) = false := by simp; omega
  have q44 : (op == 44) = false := by simp; omega
  have q46 : (op == 46) = false := by simp; omega
  have q47 : (op == 47) = false := by simp; omega
  have q48 : (op == 48) = false := by simp; omega
  have q49 : (op == 49) = false := by simp; omega
  have q50 : (op == 50) = false := by simp; omega
  have z49 : decide (op ≤ 16) = true := by simp; omega
  have z54 : decide (op ≥ 17) = false := by simp; omega
  have z59 : decide (op ≥ 31) = false := by simp; omega
  have z64 : decide (op ≤ 30) = true := by simp; omega
  generalize g0 : (c == 15) = b0
  generalize g1 : (rd == 15) = b1
  generalize g2 : (rm == 15) = b2
  generalize g3 : (rs == 15) = b3
  unfold isa_may.f isa_may.q0.l isa_wide.f atlasref19_may.f atlasref19_may.q0.l atlasref19_may.q1.l atlasref19_may.q2.l atlasref19_may.q3.l atlasref19_may.q4.l atlasref19_may.q5.l atlasref19_may.q6.l atlasref19_may.q7.l atlasref19_any15.f
  simp only [any15_8, h_d, h_n, h_m, h_r, h_a, h_f, bne, Option.bind_some, q0, q39, q40, q43, q44, q46, q47, q48, q49, q50, z49, z54, z59, z64, g0, g1, g2, g3]
  cases b0 <;> cases b1 <;> cases b2 <;> cases b3 <;> rfl
theorem sop_9 (x : Int) : sayOp (rowD 9).1 (rowD 9).2.2.1 x = 17 := by kernel_rfl
theorem say_9 (x : Int) : sayR (rowD 9) x = ⟨x / 268435456 % 16, 17, false, 0, x / 4096 % 16, 0, 0, 0, 0, x / 65536 % 16 * 4096 + x % 4096, 0, 0, false, false, false, 0, 0, 0, 0, 0⟩ :=
  (sayV_with _ _ _ x 17 (sop_9 x)).trans (by kernel_rfl)
theorem rmay_9 (c rd imm : Int)  : isa_may.f 64 ⟨c, 17, false, 0, rd, 0, 0, 0, 0, imm, 0, 0, false, false, false, 0, 0, 0, 0, 0⟩ = atlasref19_may.f 64 ⟨(rowD 9).1, (rowD 9).2.1, (rowD 9).2.2.1⟩ ⟨c, 17, false, 0, rd, 0, 0, 0, 0, imm, 0, 0, false, false, false, 0, 0, 0, 0, 0⟩ := by
  have h_d : atlasref19_Has.f 64 ⟨(rowD 9).1, (rowD 9).2.1, (rowD 9).2.2.1⟩ 100 = some true := by kernel_rfl
  have h_n : atlasref19_Has.f 64 ⟨(rowD 9).1, (rowD 9).2.1, (rowD 9).2.2.1⟩ 110 = some false := by kernel_rfl
  have h_m : atlasref19_Has.f 64 ⟨(rowD 9).1, (rowD 9).2.1, (rowD 9).2.2.1⟩ 109 = some false := by kernel_rfl
  have h_r : atlasref19_Has.f 64 ⟨(rowD 9).1, (rowD 9).2.1, (rowD 9).2.2.1⟩ 114 = some false := by kernel_rfl
  have h_a : atlasref19_Has.f 64 ⟨(rowD 9).1, (rowD 9).2.1, (rowD 9).2.2.1⟩ 97 = some false := by kernel_rfl
  have h_f : (rowD 9).2.1 = 0 := by kernel_rfl
  generalize g0 : (c == 15) = b0
  generalize g1 : (rd == 15) = b1
  unfold isa_may.f isa_may.q0.l isa_wide.f atlasref19_may.f atlasref19_may.q0.l atlasref19_may.q1.l atlasref19_may.q2.l atlasref19_may.q3.l atlasref19_may.q4.l atlasref19_may.q5.l atlasref19_may.q6.l atlasref19_may.q7.l atlasref19_any15.f
  simp only [any15_8, h_d, h_n, h_m, h_r, h_a, h_f, bne, Option.bind_some, g0, g1]
  cases b0 <;> cases b1 <;> rfl
theorem sop_10 (x : Int) : sayOp (rowD 10).1 (rowD 10).2.2.1 x = 18 := by kernel_rfl
theorem say_10 (x : Int) : sayR (rowD 10) x = ⟨x / 268435456 % 16, 18, false, 0, x / 4096 % 16, 0, 0, 0, 0, x / 65536 % 16 * 4096 + x % 4096, 0, 0, false, false, false, 0, 0, 0, 0, 0⟩ :=
  (sayV_with _ _ _ x 18 (sop_10 x)).trans (by kernel_rfl)
theorem rmay_10 (c rd imm : Int)  : isa_may.f 64 ⟨c, 18, false, 0, rd, 0, 0, 0, 0, imm, 0, 0, false, false, false, 0, 0, 0, 0, 0⟩ = atlasref19_may.f 64 ⟨(rowD 10).1, (rowD 10).2.1, (rowD 10).2.2.1⟩ ⟨c, 18, false, 0, rd, 0, 0, 0, 0, imm, 0, 0, false, false, false, 0, 0, 0, 0, 0⟩ := by
  have h_d : atlasref19_Has.f 64 ⟨(rowD 10).1, (rowD 10).2.1, (rowD 10).2.2.1⟩ 100 = some true := by kernel_rfl
  have h_n : atlasref19_Has.f 64 ⟨(rowD 10).1, (rowD 10).2.1, (rowD 10).2.2.1⟩ 110 = some false := by kernel_rfl
  have h_m : atlasref19_Has.f 64 ⟨(rowD 10).1, (rowD 10).2.1, (rowD 10).2.2.1⟩ 109 = some false := by kernel_rfl
  have h_r : atlasref19_Has.f 64 ⟨(rowD 10).1, (rowD 10).2.1, (rowD 10).2.2.1⟩ 114 = some false := by kernel_rfl
  have h_a : atlasref19_Has.f 64 ⟨(rowD 10).1, (rowD 10).2.1, (rowD 10).2.2.1⟩ 97 = some false := by kernel_rfl
  have h_f : (rowD 10).2.1 = 0 := by kernel_rfl
  generalize g0 : (c == 15) = b0
  generalize g1 : (rd == 15) = b1
  unfold isa_may.f isa_may.q0.l isa_wide.f atlasref19_may.f atlasref19_may.q0.l atlasref19_may.q1.l atlasref19_may.q2.l atlasref19_may.q3.l atlasref19_may.q4.l atlasref19_may.q5.l atlasref19_may.q6.l atlasref19_may.q7.l atlasref19_any15.f
  simp only [any15_8, h_d, h_n, h_m, h_r, h_a, h_f, bne, Option.bind_some, g0, g1]
  cases b0 <;> cases b1 <;> rfl
theorem sop_11 (x : Int) : sayOp (rowD 11).1 (rowD 11).2.2.1 x = 19 := by kernel_rfl
theorem say_11 (x : Int) : sayR (rowD 11) x = ⟨x / 268435456 % 16, 19, (x / 1048576 % 2 == 1), 0, x / 65536 % 16, 0, x % 16, x / 256 % 16, 0, 0, 0, 0, false, false, false, 0, 0, 0, 0, 0⟩ :=
  (sayV_with _ _ _ x 19 (sop_11 x)).trans (by kernel_rfl)
theorem rmay_11 (c rd rm rs : Int) (s : Bool) : isa_may.f 64 ⟨c, 19, s, 0, rd, 0, rm, rs, 0, 0, 0, 0, false, false, false, 0, 0, 0, 0, 0⟩ = atlasref19_may.f 64 ⟨(rowD 11).1, (rowD 11).2.1, (rowD 11).2.2.1⟩ ⟨c, 19, s, 0, rd, 0, rm, rs, 0, 0, 0, 0, false, false, false, 0, 0, 0, 0, 0⟩ := by
  have h_d : atlasref19_Has.f 64 ⟨(rowD 11).1, (rowD 11).2.1, (rowD 11).2.2.1⟩ 100 = some true := by kernel_rfl
  have h_n : atlasref19_Has.f 64 ⟨(rowD 11).1, (rowD 11).2.1, (rowD 11).2.2.1⟩ 110 = some false := by kernel_rfl
  have h_m : atlasref19_Has.f 64 ⟨(rowD 11).1, (rowD 11).2.1, (rowD 11).2.2.1⟩ 109 = some true := by kernel_rfl
  have h_r : atlasref19_Has.f 64 ⟨(rowD 11).1, (rowD 11).2.1, (rowD 11).2.2.1⟩ 114 = some true := by kernel_rfl
  have h_a : atlasref19_Has.f 64 ⟨(rowD 11).1, (rowD 11).2.1, (rowD 11).2.2.1⟩ 97 = some false := by kernel_rfl
  have h_f : (rowD 11).2.1 = 0 := by kernel_rfl
  generalize g0 : (c == 15) = b0
  generalize g1 : (rd == 15) = b1
  generalize g2 : (rm == 15) = b2
  generalize g3 : (rs == 15) = b3
  unfold isa_may.f isa_may.q0.l isa_wide.f atlasref19_may.f atlasref19_may.q0.l atlasref19_may.q1.l atlasref19_may.q2.l atlasref19_may.q3.l atlasref19_may.q4.l atlasref19_may.q5.l atlasref19_may.q6.l atlasref19_may.q7.l atlasref19_any15.f
  simp only [any15_8, h_d, h_n, h_m, h_r, h_a, h_f, bne, Option.bind_some, g0, g1, g2, g3]
  cases b0 <;> cases b1 <;> cases b2 <;> cases b3 <;> rfl
theorem sop_12 (x : Int) : sayOp (rowD 12).1 (rowD 12).2.2.1 x = 20 := by kernel_rfl
theorem say_12 (x : Int) : sayR (rowD 12) x = ⟨x / 268435456 % 16, 20, (x / 1048576 % 2 == 1), 0, x / 65536 % 16, 0, x % 16, x / 256 % 16, x / 4096 % 16, 0, 0, 0, false, false, false, 0, 0, 0, 0, 0⟩ :=
  (sayV_with _ _ _ x 20 (sop_12 x)).trans (by kernel_rfl)
theorem rmay_12 (c rd rm rs ra : Int) (s : Bool) : isa_may.f 64 ⟨c, 20, s, 0, rd, 0, rm, rs, ra, 0, 0, 0, false, false, false, 0, 0, 0, 0, 0⟩ = atlasref19_may.f 64 ⟨(rowD 12).1, (rowD 12).2.1, (rowD 12).2.2.1⟩ ⟨c, 20, s, 0, rd, 0, rm, rs, ra, 0, 0, 0, false, false, false, 0, 0, 0, 0, 0⟩ := by
  have h_d : atlasref19_Has.f 64 ⟨(rowD 12).1, (rowD 12).2.1, (rowD 12).2.2.1⟩ 100 = some true := by kernel_rfl
  have h_n : atlasref19_Has.f 64 ⟨(rowD 12).1, (rowD 12).2.1, (rowD 12).2.2.1⟩ 110 = some false := by kernel_rfl
  have h_m : atlasref19_Has.f 64 ⟨(rowD 12).1, (rowD 12).2.1, (rowD 12).2.2.1⟩ 109 = some true := by kernel_rfl
  have h_r : atlasref19_Has.f 64 ⟨(rowD 12).1, (rowD 12).2.1, (rowD 12).2.2.1⟩ 114 = some true := by kernel_rfl
  have h_a : atlasref19_Has.f 64 ⟨(rowD 12).1, (rowD 12).2.1, (rowD 12).2.2.1⟩ 97 = some true := by kernel_rfl
  have h_f : (rowD 12).2.1 = 0 := by kernel_rfl
  generalize g0 : (c == 15) = b0
  generalize g1 : (rd == 15) = b1
  generalize g2 : (rm == 15) = b2
  generalize g3 : (rs == 15) = b3
  generalize g4 : (ra == 15) = b4
  unfold isa_may.f isa_may.q0.l isa_wide.f atlasref19_may.f atlasref19_may.q0.l atlasref19_may.q1.l atlasref19_may.q2.l atlasref19_may.q3.l atlasref19_may.q4.l atlasref19_may.q5.l atlasref19_may.q6.l atlasref19_may.q7.l atlasref19_any15.f
  simp only [any15_8, h_d, h_n, h_m, h_r, h_a, h_f, bne, Option.bind_some, g0, g1, g2, g3, g4]
  cases b0 <;> cases b1 <;> cases b2 <;> cases b3 <;> cases b4 <;> rfl
theorem sop_13 (x : Int) : sayOp (rowD 13).1 (rowD 13).2.2.1 x = 21 := by kernel_rfl
theorem say_13 (x : Int) : sayR (rowD 13) x = ⟨x / 268435456 % 16, 21, (x / 1048576 % 2 == 1), 0, x / 65536 % 16, 0, x % 16, x / 256 % 16, x / 4096 % 16, 0, 0, 0, false, false, false, 0, 0, 0, 0, 0⟩ :=
  (sayV_with _ _ _ x 21 (sop_13 x)).trans (by kernel_rfl)
theorem rmay_13 (c rd rm rs ra : Int) (s : Bool) : isa_may.f 64 ⟨c, 21, s, 0, rd, 0, rm, rs, ra, 0, 0, 0, false, false, false, 0, 0, 0, 0, 0⟩ = atlasref19_may.f 64 ⟨(rowD 13).1, (rowD 13).2.1, (rowD 13).2.2.1⟩ ⟨c, 21, s, 0, rd, 0, rm, rs, ra, 0, 0, 0, false, false, false, 0, 0, 0, 0, 0⟩ := by
  have h_d : atlasref19_Has.f 64 ⟨(rowD 13).1, (rowD 13).2.1, (rowD 13).2.2.1⟩ 100 = some true := by kernel_rfl
  have h_n : atlasref19_Has.f 64 ⟨(rowD 13).1, (rowD 13).2.1, (rowD 13).2.2.1⟩ 110 = some false := by kernel_rfl
  have h_m : atlasref19_Has.f 64 ⟨(rowD 13).1, (rowD 13).2.1, (rowD 13).2.2.1⟩ 109 = some true := by kernel_rfl
  have h_r : atlasref19_Has.f 64 ⟨(rowD 13).1, (rowD 13).2.1, (rowD 13).2.2.1⟩ 114 = some true := by kernel_rfl
  have h_a : atlasref19_Has.f 64 ⟨(rowD 13).1, (rowD 13).2.1, (rowD 13).2.2.1⟩ 97 = some true := by kernel_rfl
  have h_f : (rowD 13).2.1 = 0 := by kernel_rfl
  generalize g0 : (c == 15) = b0
  generalize g1 : (rd == 15) = b1
  generalize g2 : (rm == 15) = b2
  generalize g3 : (rs == 15) = b3
  generalize g4 : (ra == 15) = b4
  generalize g5 : (rd == ra) = b5
  unfold isa_may.f isa_may.q0.l isa_wide.f atlasref19_may.f atlasref19_may.q0.l atlasref19_may.q1.l atlasref19_may.q2.l atlasref19_may.q3.l atlasref19_may.q4.l atlasref19_may.q5.l atlasref19_may.q6.l atlasref19_may.q7.l atlasref19_any15.f
  simp only [any15_8, h_d, h_n, h_m, h_r, h_a, h_f, bne, Option.bind_some, g0, g1, g2, g3, g4, g5]
  cases b0 <;> cases b1 <;> cases b2 <;> cases b3 <;> cases b4 <;> cases b5 <;> rfl
theorem sop_14 (x : Int) : sayOp (rowD 14).1 (rowD 14).2.2.1 x = 22 := by kernel_rfl
theorem say_14 (x : Int) : sayR (rowD 14) x = ⟨x / 268435456 % 16, 22, (x / 1048576 % 2 == 1), 0, x / 65536 % 16, 0, x % 16, x / 256 % 16, x / 4096 % 16, 0, 0, 0, false, false, false, 0, 0, 0, 0, 0⟩ :=
  (sayV_with _ _ _ x 22 (sop_14 x)).trans (by kernel_rfl)
theorem rmay_14 (c rd rm rs ra : Int) (s : Bool) : isa_may.f 64 ⟨c, 22, s, 0, rd, 0, rm, rs, ra, 0, 0, 0, false, false, false, 0, 0, 0, 0, 0⟩ = atlasref19_may.f 64 ⟨(rowD 14).1, (rowD 14).2.1, (rowD 14).2.2.1⟩ ⟨c, 22, s, 0, rd, 0, rm, rs, ra, 0, 0, 0, false, false, false, 0, 0, 0, 0, 0⟩ := by
  have h_d : atlasref19_Has.f 64 ⟨(rowD 14).1, (rowD 14).2.1, (rowD 14).2.2.1⟩ 100 = some true := by kernel_rfl
  have h_n : atlasref19_Has.f 64 ⟨(rowD 14).1, (rowD 14).2.1, (rowD 14).2.2.1⟩ 110 = some false := by kernel_rfl
  have h_m : atlasref19_Has.f 64 ⟨(rowD 14).1, (rowD 14).2.1, (rowD 14).2.2.1⟩ 109 = some true := by kernel_rfl
  have h_r : atlasref19_Has.f 64 ⟨(rowD 14).1, (rowD 14).2.1, (rowD 14).2.2.1⟩ 114 = some true := by kernel_rfl
  have h_a : atlasref19_Has.f 64 ⟨(rowD 14).1, (rowD 14).2.1, (rowD 14).2.2.1⟩ 97 = some true := by kernel_rfl
  have h_f : (rowD 14).2.1 = 0 := by kernel_rfl
  generalize g0 : (c == 15) = b0
  generalize g1 : (rd == 15) = b1
  generalize g2 : (rm == 15) = b2
  generalize g3 : (rs == 15) = b3
  generalize g4 : (ra == 15) = b4
  generalize g5 : (rd == ra) = b5
  unfold isa_may.f isa_may.q0.l isa_wide.f atlasref19_may.f atlasref19_may.q0.l atlasref19_may.q1.l atlasref19_may.q2.l atlasref19_may.q3.l atlasref19_may.q4.l atlasref19_may.q5.l atlasref19_may.q6.l atlasref19_may.q7.l atlasref19_any15.f
  simp only [any15_8, h_d, h_n, h_m, h_r, h_a, h_f, bne, Option.bind_some, g0, g1, g2, g3, g4, g5]
  cases b0 <;> cases b1 <;> cases b2 <;> cases b3 <;> cases b4 <;> cases b5 <;> rfl
theorem sop_15 (x : Int) : sayOp (rowD 15).1 (rowD 15).2.2.1 x = 23 := by kernel_rfl
theorem say_15 (x : Int) : sayR (rowD 15) x = ⟨x / 268435456 % 16, 23, (x / 1048576 % 2 == 1), 0, x / 65536 % 16, 0, x % 16, x / 256 % 16, x / 4096 % 16, 0, 0, 0, false, false, false, 0, 0, 0, 0, 0⟩ :=
  (sayV_with _ _ _ x 23 (sop_15 x)).trans (by kernel_rfl)
theorem rmay_15 (c rd rm rs ra : Int) (s : Bool) : isa_may.f 64 ⟨c, 23, s, 0, rd, 0, rm, rs, ra, 0, 0, 0, false, false, false, 0, 0, 0, 0, 0⟩ = atlasref19_may.f 64 ⟨(rowD 15).1, (rowD 15).2.1, (rowD 15).2.2.1⟩ ⟨c, 23, s, 0, rd, 0, rm, rs, ra, 0, 0, 0, false, false, false, 0, 0, 0, 0, 0⟩ := by
  have h_d : atlasref19_Has.f 64 ⟨(rowD 15).1, (rowD 15).2.1, (rowD 15).2.2.1⟩ 100 = some true := by kernel_rfl
  have h_n : atlasref19_Has.f 64 ⟨(rowD 15).1, (rowD 15).2.1, (rowD 15).2.2.1⟩ 110 = some false := by kernel_rfl
  have h_m : atlasref19_Has.f 64 ⟨(rowD 15).1, (rowD 15).2.1, (rowD 15).2.2.1⟩ 109 = some true := by kernel_rfl
  have h_r : atlasref19_Has.f 64 ⟨(rowD 15).1, (rowD 15).2.1, (rowD 15).2.2.1⟩ 114 = some true := by kernel_rfl
  have h_a : atlasref19_Has.f 64 ⟨(rowD 15).1, (rowD 15).2.1, (rowD 15).2.2.1⟩ 97 = some true := by kernel_rfl
  have h_f : (rowD 15).2.1 = 0 := by kernel_rfl
  generalize g0 : (c == 15) = b0
  generalize g1 : (rd == 15) = b1
  generalize g2 : (rm == 15) = b2
  generalize g3 : (rs == 15) = b3
  generalize g4 : (ra == 15) = b4
  generalize g5 : (rd == ra) = b5
  unfold isa_may.f isa_may.q0.l isa_wide.f atlasref19_may.f atlasref19_may.q0.l atlasref19_may.q1.l atlasref19_may.q2.l atlasref19_may.q3.l atlasref19_may.q4.l atlasref19_may.q5.l atlasref19_may.q6.l atlasref19_may.q7.l atlasref19_any15.f
  simp only [any15_8, h_d, h_n, h_m, h_r, h_a, h_f, bne, Option.bind_some, g0, g1, g2, g3, g4, g5]
  cases b0 <;> cases b1 <;> cases b2 <;> cases b3 <;> cases b4 <;> cases b5 <;> rfl
theorem sop_16 (x : Int) : sayOp (rowD 16).1 (rowD 16).2.2.1 x = 24 := by kernel_rfl
theorem say_16 (x : Int) : sayR (rowD 16) x = ⟨x / 268435456 % 16, 24, (x / 1048576 % 2 == 1), 0, x / 65536 % 16, 0, x % 16, x / 256 % 16, x / 4096 % 16, 0, 0, 0, false, false, false, 0, 0, 0, 0, 0⟩ :=
  (sayV_with _ _ _ x 24 (sop_16 x)).trans (by kernel_rfl)
theorem rmay_16 (c rd rm rs ra : Int) (s : Bool) : isa_may.f 64 ⟨c, 24, s, 0, rd, 0, rm, rs, ra, 0, 0, 0, false, false, false, 0, 0, 0, 0, 0⟩ = atlasref19_may.f 64 ⟨(rowD 16).1, (rowD 16).2.1, (rowD 16).2.2.1⟩ ⟨c, 24, s, 0, rd, 0, rm, rs, ra, 0, 0, 0, false, false, false, 0, 0, 0, 0, 0⟩ := by
  have h_d : atlasref19_Has.f 64 ⟨(rowD 16).1, (rowD 16).2.1, (rowD 16).2.2.1⟩ 100 = some true := by kernel_rfl
  have h_n : atlasref19_Has.f 64 ⟨(rowD 16).1, (rowD 16).2.1, (rowD 16).2.2.1⟩ 110 = some false := by kernel_rfl
  have h_m : atlasref19_Has.f 64 ⟨(rowD 16).1, (rowD 16).2.1, (rowD 16).2.2.1⟩ 109 = some true := by kernel_rfl
  have h_r : atlasref19_Has.f 64 ⟨(rowD 16).1, (rowD 16).2.1, (rowD 16).2.2.1⟩ 114 = some true := by kernel_rfl
  have h_a : atlasref19_Has.f 64 ⟨(rowD 16).1, (rowD 16).2.1, (rowD 16).2.2.1⟩ 97 = some true := by kernel_rfl
  have h_f : (rowD 16).2.1 = 0 := by kernel_rfl
  generalize g0 : (c == 15) = b0
  generalize g1 : (rd == 15) = b1
  generalize g2 : (rm == 15) = b2
  generalize g3 : (rs == 15) = b3
  generalize g4 : (ra == 15) = b4
  generalize g5 : (rd == ra) = b5
  unfold isa_may.f isa_may.q0.l isa_wide.f atlasref19_may.f atlasref19_may.q0.l atlasref19_may.q1.l atlasref19_may.q2.l atlasref19_may.q3.l atlasref19_may.q4.l atlasref19_may.q5.l atlasref19_may.q6.l atlasref19_may.q7.l atlasref19_any15.f
  simp only [any15_8, h_d, h_n, h_m, h_r, h_a, h_f, bne, Option.bind_some, g0, g1, g2, g3, g4, g5]
  cases b0 <;> cases b1 <;> cases b2 <;> cases b3 <;> cases b4 <;> cases b5 <;> rfl
theorem sop_17 (x : Int) : sayOp (rowD 17).1 (rowD 17).2.2.1 x = 25 := by kernel_rfl
theorem say_17 (x : Int) : sayR (rowD 17) x = ⟨x / 268435456 % 16, 25, false, 0, x / 4096 % 16, 0, x % 16, 0, 0, 0, 0, 0, false, false, false, 0, 0, 0, 0, 0⟩ :=
  (sayV_with _ _ _ x 25 (sop_17 x)).trans (by kernel_rfl)
theorem rmay_17 (c rd rm : Int)  : isa_may.f 64 ⟨c, 25, false, 0, rd, 0, rm, 0, 0, 0, 0, 0, false, false, false, 0, 0, 0, 0, 0⟩ = atlasref19_may.f 64 ⟨(rowD 17).1, (rowD 17).2.1, (rowD 17).2.2.1⟩ ⟨c, 25, false, 0, rd, 0, rm, 0, 0, 0, 0, 0, false, false, false, 0, 0, 0, 0, 0⟩ := by
  have h_d : atlasref19_Has.f 64 ⟨(rowD 17).1, (rowD 17).2.1, (rowD 17).2.2.1⟩ 100 = some true := by kernel_rfl
  have h_n : atlasref19_Has.f 64 ⟨(rowD 17).1, (rowD 17).2.1, (rowD 17).2.2.1⟩ 110 = some false := by kernel_rfl
  have h_m : atlasref19_Has.f 64 ⟨(rowD 17).1, (rowD 17).2.1, (rowD 17).2.2.1⟩ 109 = some true := by kernel_rfl
  have h_r : atlasref19_Has.f 64 ⟨(rowD 17).1, (rowD 17).2.1, (rowD 17).2.2.1⟩ 114 = some false := by kernel_rfl
  have h_a : atlasref19_Has.f 64 ⟨(rowD 17).1, (rowD 17).2.1, (rowD 17).2.2.1⟩ 97 = some false := by kernel_rfl
  have h_f : (rowD 17).2.1 = 0 := by kernel_rfl
  generalize g0 : (c == 15) = b0
  generalize g1 : (rd == 15) = b1
  generalize g2 : (rm == 15) = b2
  unfold isa_may.f isa_may.q0.l isa_wide.f atlasref19_may.f atlasref19_may.q0.l atlasref19_may.q1.l atlasref19_may.q2.l atlasref19_may.q3.l atlasref19_may.q4.l atlasref19_may.q5.l atlasref19_may.q6.l atlasref19_may.q7.l atlasref19_any15.f
  simp only [any15_8, h_d, h_n, h_m, h_r, h_a, h_f, bne, Option.bind_some, g0, g1, g2]
  cases b0 <;> cases b1 <;> cases b2 <;> rfl
theorem sop_18 (x : Int) : sayOp (rowD 18).1 (rowD 18).2.2.1 x = 26 := by kernel_rfl
theorem say_18 (x : Int) : sayR (rowD 18) x = ⟨x / 268435456 % 16, 26, false, 0, x / 4096 % 16, 0, x % 16, 0, 0, 0, 0, 0, false, false, false, 0, 0, 0, 0, 0⟩ :=
  (sayV_with _ _ _ x 26 (sop_18 x)).trans (by kernel_rfl)
theorem rmay_18 (c rd rm : Int)  : isa_may.f 64 ⟨c, 26, false, 0, rd, 0, rm, 0, 0, 0, 0, 0, false, false, false, 0, 0, 0, 0, 0⟩ = atlasref19_may.f 64 ⟨(rowD 18).1, (rowD 18).2.1, (rowD 18).2.2.1⟩ ⟨c, 26, false, 0, rd, 0, rm, 0, 0, 0, 0, 0, false, false, false, 0, 0, 0, 0, 0⟩ := by
  have h_d : atlasref19_Has.f 64 ⟨(rowD 18).1, (rowD 18).2.1, (rowD 18).2.2.1⟩ 100 = some true := by kernel_rfl
  have h_n : atlasref19_Has.f 64 ⟨(rowD 18).1, (rowD 18).2.1, (rowD 18).2.2.1⟩ 110 = some false := by kernel_rfl
  have h_m : atlasref19_Has.f 64 ⟨(rowD 18).1, (rowD 18).2.1, (rowD 18).2.2.1⟩ 109 = some true := by kernel_rfl
  have h_r : atlasref19_Has.f 64 ⟨(rowD 18).1, (rowD 18).2.1, (rowD 18).2.2.1⟩ 114 = some false := by kernel_rfl
  have h_a : atlasref19_Has.f 64 ⟨(rowD 18).1, (rowD 18).2.1, (rowD 18).2.2.1⟩ 97 = some false := by kernel_rfl
  have h_f : (rowD 18).2.1 = 0 := by kernel_rfl
  generalize g0 : (c == 15) = b0
  generalize g1 : (rd == 15) = b1
  generalize g2 : (rm == 15) = b2
  unfold isa_may.f isa_may.q0.l isa_wide.f atlasref19_may.f atlasref19_may.q0.l atlasref19_may.q1.l atlasref19_may.q2.l atlasref19_may.q3.l atlasref19_may.q4.l atlasref19_may.q5.l atlasref19_may.q6.l atlasref19_may.q7.l atlasref19_any15.f
  simp only [any15_8, h_d, h_n, h_m, h_r, h_a, h_f, bne, Option.bind_some, g0, g1, g2]
  cases b0 <;> cases b1 <;> cases b2 <;> rfl
theorem sop_19 (x : Int) : sayOp (rowD 19).1 (rowD 19).2.2.1 x = 27 := by kernel_rfl
theorem say_19 (x : Int) : sayR (rowD 19) x = ⟨x / 268435456 % 16, 27, false, 0, x / 4096 % 16, 0, x % 16, 0, 0, 0, 0, x / 1024 % 4, false, false, false, 0, 0, 0, 0, 0⟩ :=
  (sayV_with _ _ _ x 27 (sop_19 x)).trans (by kernel_rfl)
theorem rmay_19 (c rd rm am : Int)  : isa_may.f 64 ⟨c, 27, false, 0, rd, 0, rm, 0, 0, 0, 0, am, false, false, false, 0, 0, 0, 0, 0⟩ = atlasref19_may.f 64 ⟨(rowD 19).1, (rowD 19).2.1, (rowD 19).2.2.1⟩ ⟨c, 27, false, 0, rd, 0, rm, 0, 0, 0, 0, am, false, false, false, 0, 0, 0, 0, 0⟩ := by
  have h_d : atlasref19_Has.f 64 ⟨(rowD 19).1, (rowD 19).2.1, (rowD 19).2.2.1⟩ 100 = some true := by kernel_rfl
  have h_n : atlasref19_Has.f 64 ⟨(rowD 19).1, (rowD 19).2.1, (rowD 19).2.2.1⟩ 110 = some false := by kernel_rfl
  have h_m : atlasref19_Has.f 64 ⟨(rowD 19).1, (rowD 19).2.1, (rowD 19).2.2.1⟩ 109 = some true := by kernel_rfl
  have h_r : atlasref19_Has.f 64 ⟨(rowD 19).1, (rowD 19).2.1, (rowD 19).2.2.1⟩ 114 = some false := by kernel_rfl
  have h_a : atlasref19_Has.f 64 ⟨(rowD 19).1, (rowD 19).2.1, (rowD 19).2.2.1⟩ 97 = some false := by kernel_rfl
  have h_f : (rowD 19).2.1 = 0 := by kernel_rfl
  generalize g0 : (c == 15) = b0
  generalize g1 : (rd == 15) = b1
  generalize g2 : (rm == 15) = b2
  unfold isa_may.f isa_may.q0.l isa_wide.f atlasref19_may.f atlasref19_may.q0.l atlasref19_may.q1.l atlasref19_may.q2.l atlasref19_may.q3.l atlasref19_may.q4.l atlasref19_may.q5.l atlasref19_may.q6.l atlasref19_may.q7.l atlasref19_any15.f
  simp only [any15_8, h_d, h_n, h_m, h_r, h_a, h_f, bne, Option.bind_some, g0, g1, g2]
  cases b0 <;> cases b1 <;> cases b2 <;> rfl
theorem sop_20 (x : Int) : sayOp (rowD 20).1 (rowD 20).2.2.1 x = 28 := by kernel_rfl
theorem say_20 (x : Int) : sayR (rowD 20) x = ⟨x / 268435456 % 16, 28, false, 0, x / 4096 % 16, 0, x % 16, 0, 0, 0, 0, x / 1024 % 4, false, false, false, 0, 0, 0, 0, 0⟩ :=
  (sayV_with _ _ _ x 28 (sop_20 x)).trans (by kernel_rfl)
theorem rmay_20 (c rd rm am : Int)  : isa_may.f 64 ⟨c, 28, false, 0, rd, 0, rm, 0, 0, 0, 0, am, false, false, false, 0, 0, 0, 0, 0⟩ = atlasref19_may.f 64 ⟨(rowD 20).1, (rowD 20).2.1, (rowD 20).2.2.1⟩ ⟨c, 28, false, 0, rd, 0, rm, 0, 0, 0, 0, am, false, false, false, 0, 0, 0, 0, 0⟩ := by
  have h_d : atlasref19_Has.f 64 ⟨(rowD 20).1, (rowD 20).2.1, (rowD 20).2.2.1⟩ 100 = some true := by kernel_rfl
  have h_n : atlasref19_Has.f 64 ⟨(rowD 20).1, (rowD 20).2.1, (rowD 20).2.2.1⟩ 110 = some false := by kernel_rfl
  have h_m : atlasref19_Has.f 64 ⟨(rowD 20).1, (rowD 20).2.1, (rowD 20).2.2.1⟩ 109 = some true := by kernel_rfl
  have h_r : atlasref19_Has.f 64 ⟨(rowD 20).1, (rowD 20).2.1, (rowD 20).2.2.1⟩ 114 = some false := by kernel_rfl
  have h_a : atlasref19_Has.f 64 ⟨(rowD 20).1, (rowD 20).2.1, (rowD 20).2.2.1⟩ 97 = some false := by kernel_rfl
  have h_f : (rowD 20).2.1 = 0 := by kernel_rfl
  generalize g0 : (c == 15) = b0
  generalize g1 : (rd == 15) = b1
  generalize g2 : (rm == 15) = b2
  unfold isa_may.f isa_may.q0.l isa_wide.f atlasref19_may.f atlasref19_may.q0.l atlasref19_may.q1.l atlasref19_may.q2.l atlasref19_may.q3.l atlasref19_may.q4.l atlasref19_may.q5.l atlasref19_may.q6.l atlasref19_may.q7.l atlasref19_any15.f
  simp only [any15_8, h_d, h_n, h_m, h_r, h_a, h_f, bne, Option.bind_some, g0, g1, g2]
  cases b0 <;> cases b1 <;> cases b2 <;> rfl
theorem sop_21 (x : Int) : sayOp (rowD 21).1 (rowD 21).2.2.1 x = 29 := by kernel_rfl
theorem say_21 (x : Int) : sayR (rowD 21) x = ⟨x / 268435456 % 16, 29, false, 0, x / 4096 % 16, 0, x % 16, 0, 0, 0, 0, x / 1024 % 4, false, false, false, 0, 0, 0, 0, 0⟩ :=
  (sayV_with _ _ _ x 29 (sop_21 x)).trans (by kernel_rfl)
theorem rmay_21 (c rd rm am : Int)  : isa_may.f 64 ⟨c, 29, false, 0, rd, 0, rm, 0, 0, 0, 0, am, false, false, false, 0, 0, 0, 0, 0⟩ = atlasref19_may.f 64 ⟨(rowD 21).1, (rowD 21).2.1, (rowD 21).2.2.1⟩ ⟨c, 29, false, 0, rd, 0, rm, 0, 0, 0, 0, am, false, false, false, 0, 0, 0, 0, 0⟩ := by
  have h_d : atlasref19_Has.f 64 ⟨(rowD 21).1, (rowD 21).2.1, (rowD 21).2.2.1⟩ 100 = some true := by kernel_rfl
  have h_n : atlasref19_Has.f 64 ⟨(rowD 21).1, (rowD 21).2.1, (rowD 21).2.2.1⟩ 110 = some false := by kernel_rfl
  have h_m : atlasref19_Has.f 64 ⟨(rowD 21).1, (rowD 21).2.1, (rowD 21).2.2.1⟩ 109 = some true := by kernel_rfl
  have h_r : atlasref19_Has.f 64 ⟨(rowD 21).1, (rowD 21).2.1, (rowD 21).2.2.1⟩ 114 = some false := by kernel_rfl
  have h_a : atlasref19_Has.f 64 ⟨(rowD 21).1, (rowD 21).2.1, (rowD 21).2.2.1⟩ 97 = some false := by kernel_rfl
  have h_f : (rowD 21).2.1 = 0 := by kernel_rfl
  generalize g0 : (c == 15) = b0
  generalize g1 : (rd == 15) = b1
  generalize g2 : (rm == 15) = b2
  unfold isa_may.f isa_may.q0.l isa_wide.f atlasref19_may.f atlasref19_may.q0.l atlasref19_may.q1.l atlasref19_may.q2.l atlasref19_may.q3.l atlasref19_may.q4.l atlasref19_may.q5.l atlasref19_may.q6.l atlasref19_may.q7.l atlasref19_any15.f
  simp only [any15_8, h_d, h_n, h_m, h_r, h_a, h_f, bne, Option.bind_some, g0, g1, g2]
  cases b0 <;> cases b1 <;> cases b2 <;> rfl
theorem sop_22 (x : Int) : sayOp (rowD 22).1 (rowD 22).2.2.1 x = 30 := by kernel_rfl
theorem say_22 (x : Int) : sayR (rowD 22) x = ⟨x / 268435456 % 16, 30, false, 0, x / 4096 % 16, 0, x % 16, 0, 0, 0, 0, x / 1024 % 4, false, false, false, 0, 0, 0, 0, 0⟩ :=
  (sayV_with _ _ _ x 30 (sop_22 x)).trans (by kernel_rfl)
theorem rmay_22 (c rd rm am : Int)  : isa_may.f 64 ⟨c, 30, false, 0, rd, 0, rm, 0, 0, 0, 0, am, false, false, false, 0, 0, 0, 0, 0⟩ = atlasref19_may.f 64 ⟨(rowD 22).1, (rowD 22).2.1, (rowD 22).2.2.1⟩ ⟨c, 30, false, 0, rd, 0, rm, 0, 0, 0, 0, am, false, false, false, 0, 0, 0, 0, 0⟩ := by
  have h_d : atlasref19_Has.f 64 ⟨(rowD 22).1, (rowD 22).2.1, (rowD 22).2.2.1⟩ 100 = some true := by kernel_rfl
  have h_n : atlasref19_Has.f 64 ⟨(rowD 22).1, (rowD 22).2.1, (rowD 22).2.2.1⟩ 110 = some false := by kernel_rfl
  have h_m : atlasref19_Has.f 64 ⟨(rowD 22).1, (rowD 22).2.1, (rowD 22).2.2.1⟩ 109 = some true := by kernel_rfl
  have h_r : atlasref19_Has.f 64 ⟨(rowD 22).1, (rowD 22).2.1, (rowD 22).2.2.1⟩ 114 = some false := by kernel_rfl
  have h_a : atlasref19_Has.f 64 ⟨(rowD 22).1, (rowD 22).2.1, (rowD 22).2.2.1⟩ 97 = some false := by kernel_rfl
  have h_f : (rowD 22).2.1 = 0 := by kernel_rfl
  generalize g0 : (c == 15) = b0
  generalize g1 : (rd == 15) = b1
  generalize g2 : (rm == 15) = b2
  unfold isa_may.f isa_may.q0.l isa_wide.f atlasref19_may.f atlasref19_may.q0.l atlasref19_may.q1.l atlasref19_may.q2.l atlasref19_may.q3.l atlasref19_may.q4.l atlasref19_may.q5.l atlasref19_may.q6.l atlasref19_may.q7.l atlasref19_any15.f
  simp only [any15_8, h_d, h_n, h_m, h_r, h_a, h_f, bne, Option.bind_some, g0, g1, g2]
  cases b0 <;> cases b1 <;> cases b2 <;> rfl
theorem sop_23 (x : Int) : sayOp (rowD 23).1 (rowD 23).2.2.1 x = 41 := by kernel_rfl
theorem say_23 (x : Int) : sayR (rowD 23) x = ⟨x / 268435456 % 16, 41, false, 0, 0, 0, 0, 0, 0, (bif decide (IntKind.wrap .u32 (x % 16777216 * 4) ≥ 33554432) then IntKind.wrap .u32 (IntKind.wrap .u32 (x % 16777216 * 4) - 67108864) else IntKind.wrap .u32 (x % 16777216 * 4)), 0, 0, false, false, false, 0, 0, 0, 0, 0⟩ :=
  (sayV_with _ _ _ x 41 (sop_23 x)).trans (by kernel_rfl)
theorem rmay_23 (c imm : Int)  : isa_may.f 64 ⟨c, 41, false, 0, 0, 0, 0, 0, 0, imm, 0, 0, false, false, false, 0, 0, 0, 0, 0⟩ = atlasref19_may.f 64 ⟨(rowD 23).1, (rowD 23).2.1, (rowD 23).2.2.1⟩ ⟨c, 41, false, 0, 0, 0, 0, 0, 0, imm, 0, 0, false, false, false, 0, 0, 0, 0, 0⟩ := by
  have h_d : atlasref19_Has.f 64 ⟨(rowD 23).1, (rowD 23).2.1, (rowD 23).2.2.1⟩ 100 = some false := by kernel_rfl
  have h_n : atlasref19_Has.f 64 ⟨(rowD 23).1, (rowD 23).2.1, (rowD 23).2.2.1⟩ 110 = some false := by kernel_rfl
  have h_m : atlasref19_Has.f 64 ⟨(rowD 23).1, (rowD 23).2.1, (rowD 23).2.2.1⟩ 109 = some false := by kernel_rfl
  have h_r : atlasref19_Has.f 64 ⟨(rowD 23).1, (rowD 23).2.1, (rowD 23).2.2.1⟩ 114 = some false := by kernel_rfl
  have h_a : atlasref19_Has.f 64 ⟨(rowD 23).1, (rowD 23).2.1, (rowD 23).2.2.1⟩ 97 = some false := by kernel_rfl
  have h_f : (rowD 23).2.1 = 0 := by kernel_rfl
  generalize g0 : (c == 15) = b0
  unfold isa_may.f isa_may.q0.l isa_wide.f atlasref19_may.f atlasref19_may.q0.l atlasref19_may.q1.l atlasref19_may.q2.l atlasref19_may.q3.l atlasref19_may.q4.l atlasref19_may.q5.l atlasref19_may.q6.l atlasref19_may.q7.l atlasref19_any15.f
  simp only [any15_8, h_d, h_n, h_m, h_r, h_a, h_f, bne, Option.bind_some, g0]
  cases b0 <;> rfl
theorem sop_24 (x : Int) : sayOp (rowD 24).1 (rowD 24).2.2.1 x = 42 := by kernel_rfl
theorem say_24 (x : Int) : sayR (rowD 24) x = ⟨x / 268435456 % 16, 42, false, 0, 0, 0, 0, 0, 0, (bif decide (IntKind.wrap .u32 (x % 16777216 * 4) ≥ 33554432) then IntKind.wrap .u32 (IntKind.wrap .u32 (x % 16777216 * 4) - 67108864) else IntKind.wrap .u32 (x % 16777216 * 4)), 0, 0, false, false, false, 0, 0, 0, 0, 0⟩ :=
  (sayV_with _ _ _ x 42 (sop_24 x)).trans (by kernel_rfl)
theorem rmay_24 (c imm : Int)  : isa_may.f 64 ⟨c, 42, false, 0, 0, 0, 0, 0, 0, imm, 0, 0, false, false, false, 0, 0, 0, 0, 0⟩ = atlasref19_may.f 64 ⟨(rowD 24).1, (rowD 24).2.1, (rowD 24).2.2.1⟩ ⟨c, 42, false, 0, 0, 0, 0, 0, 0, imm, 0, 0, false, false, false, 0, 0, 0, 0, 0⟩ := by
  have h_d : atlasref19_Has.f 64 ⟨(rowD 24).1, (rowD 24).2.1, (rowD 24).2.2.1⟩ 100 = some false := by kernel_rfl
  have h_n : atlasref19_Has.f 64 ⟨(rowD 24).1, (rowD 24).2.1, (rowD 24).2.2.1⟩ 110 = some false := by kernel_rfl
  have h_m : atlasref19_Has.f 64 ⟨(rowD 24).1, (rowD 24).2.1, (rowD 24).2.2.1⟩ 109 = some false := by kernel_rfl
  have h_r : atlasref19_Has.f 64 ⟨(rowD 24).1, (rowD 24).2.1, (rowD 24).2.2.1⟩ 114 = some false := by kernel_rfl
  have h_a : atlasref19_Has.f 64 ⟨(rowD 24).1, (rowD 24).2.1, (rowD 24).2.2.1⟩ 97 = some false := by kernel_rfl
  have h_f : (rowD 24).2.1 = 0 := by kernel_rfl
  generalize g0 : (c == 15) = b0
  unfold isa_may.f isa_may.q0.l isa_wide.f atlasref19_may.f atlasref19_may.q0.l atlasref19_may.q1.l atlasref19_may.q2.l atlasref19_may.q3.l atlasref19_may.q4.l atlasref19_may.q5.l atlasref19_may.q6.l atlasref19_may.q7.l atlasref19_any15.f
  simp only [any15_8, h_d, h_n, h_m, h_r, h_a, h_f, bne, Option.bind_some, g0]
  cases b0 <;> rfl
theorem sop_25 (x : Int) : sayOp (rowD 25).1 (rowD 25).2.2.1 x = 43 := by kernel_rfl
theorem say_25 (x : Int) : sayR (rowD 25) x = ⟨x / 268435456 % 16, 43, false, 0, 0, 0, x % 16, 0, 0, 0, 0, 0, false, false, false, 0, 0, 0, 0, 0⟩ :=
  (sayV_with _ _ _ x 43 (sop_25 x)).trans (by kernel_rfl)
theorem rmay_25 (c rm : Int)  : isa_may.f 64 ⟨c, 43, false, 0, 0, 0, rm, 0, 0, 0, 0, 0, false, false, false, 0, 0, 0, 0, 0⟩ = atlasref19_may.f 64 ⟨(rowD 25).1, (rowD 25).2.1, (rowD 25).2.2.1⟩ ⟨c, 43, false, 0, 0, 0, rm, 0, 0, 0, 0, 0, false, false, false, 0, 0, 0, 0, 0⟩ := by
  have h_d : atlasref19_Has.f 64 ⟨(rowD 25).1, (rowD 25).2.1, (rowD 25).2.2.1⟩ 100 = some false := by kernel_rfl
  have h_n : atlasref19_Has.f 64 ⟨(rowD 25).1, (rowD 25).2.1, (rowD 25).2.2.1⟩ 110 = some false := by kernel_rfl
  have h_m : atlasref19_Has.f 64 ⟨(rowD 25).1, (rowD 25).2.1, (rowD 25).2.2.1⟩ 109 = some true := by kernel_rfl
  have h_r : atlasref19_Has.f 64 ⟨(rowD 25).1, (rowD 25).2.1, (rowD 25).2.2.1⟩ 114 = some false := by kernel_rfl
  have h_a : atlasref19_Has.f 64 ⟨(rowD 25).1, (rowD 25).2.1, (rowD 25).2.2.1⟩ 97 = some false := by kernel_rfl
  have h_f : (rowD 25).2.1 = 0 := by kernel_rfl
  generalize g0 : (c == 15) = b0
  generalize g1 : (rm == 15) = b1
  unfold isa_may.f isa_may.q0.l isa_wide.f atlasref19_may.f atlasref19_may.q0.l atlasref19_may.q1.l atlasref19_may.q2.l atlasref19_may.q3.l atlasref19_may.q4.l atlasref19_may.q5.l atlasref19_may.q6.l atlasref19_may.q7.l atlasref19_any15.f
  simp only [any15_8, h_d, h_n, h_m, h_r, h_a, h_f, bne, Option.bind_some, g0, g1]
  cases b0 <;> cases b1 <;> rfl
theorem sop_26 (x : Int) : sayOp (rowD 26).1 (rowD 26).2.2.1 x = 44 := by kernel_rfl
theorem say_26 (x : Int) : sayR (rowD 26) x = ⟨x / 268435456 % 16, 44, false, 0, 0, 0, x % 16, 0, 0, 0, 0, 0, false, false, false, 0, 0, 0, 0, 0⟩ :=
  (sayV_with _ _ _ x 44 (sop_26 x)).trans (by kernel_rfl)
theorem rmay_26 (c rm : Int)  : isa_may.f 64 ⟨c, 44, false, 0, 0, 0, rm, 0, 0, 0, 0, 0, false, false, false, 0, 0, 0, 0, 0⟩ = atlasref19_may.f 64 ⟨(rowD 26).1, (rowD 26).2.1, (rowD 26).2.2.1⟩ ⟨c, 44, false, 0, 0, 0, rm, 0, 0, 0, 0, 0, false, false, false, 0, 0, 0, 0, 0⟩ := by
  have h_d : atlasref19_Has.f 64 ⟨(rowD 26).1, (rowD 26).2.1, (rowD 26).2.2.1⟩ 100 = some false := by kernel_rfl
  have h_n : atlasref19_Has.f 64 ⟨(rowD 26).1, (rowD 26).2.1, (rowD 26).2.2.1⟩ 110 = some false := by kernel_rfl
  have h_m : atlasref19_Has.f 64 ⟨(rowD 26).1, (rowD 26).2.1, (rowD 26).2.2.1⟩ 109 = some true := by kernel_rfl
  have h_r : atlasref19_Has.f 64 ⟨(rowD 26).1, (rowD 26).2.1, (rowD 26).2.2.1⟩ 114 = some false := by kernel_rfl
  have h_a : atlasref19_Has.f 64 ⟨(rowD 26).1, (rowD 26).2.1, (rowD 26).2.2.1⟩ 97 = some false := by kernel_rfl
  have h_f : (rowD 26).2.1 = 0 := by kernel_rfl
  generalize g0 : (c == 15) = b0
  generalize g1 : (rm == 15) = b1
  unfold isa_may.f isa_may.q0.l isa_wide.f atlasref19_may.f atlasref19_may.q0.l atlasref19_may.q1.l atlasref19_may.q2.l atlasref19_may.q3.l atlasref19_may.q4.l atlasref19_may.q5.l atlasref19_may.q6.l atlasref19_may.q7.l atlasref19_any15.f
  simp only [any15_8, h_d, h_n, h_m, h_r, h_a, h_f, bne, Option.bind_some, g0, g1]
  cases b0 <;> cases b1 <;> rfl
theorem sop_27 (x : Int) : sayOp (rowD 27).1 (rowD 27).2.2.1 x = 45 := by kernel_rfl
theorem say_27 (x : Int) : sayR (rowD 27) x = ⟨x / 268435456 % 16, 45, false, 0, 0, 0, 0, 0, 0, x % 16777216, 0, 0, false, false, false, 0, 0, 0, 0, 0⟩ :=
  (sayV_with _ _ _ x 45 (sop_27 x)).trans (by kernel_rfl)
theorem rmay_27 (c imm : Int)  : isa_may.f 64 ⟨c, 45, false, 0, 0, 0, 0, 0, 0, imm, 0, 0, false, false, false, 0, 0, 0, 0, 0⟩ = atlasref19_may.f 64 ⟨(rowD 27).1, (rowD 27).2.1, (rowD 27).2.2.1⟩ ⟨c, 45, false, 0, 0, 0, 0, 0, 0, imm, 0, 0, false, false, false, 0, 0, 0, 0, 0⟩ := by
  have h_d : atlasref19_Has.f 64 ⟨(rowD 27).1, (rowD 27).2.1, (rowD 27).2.2.1⟩ 100 = some false := by kernel_rfl
  have h_n : atlasref19_Has.f 64 ⟨(rowD 27).1, (rowD 27).2.1, (rowD 27).2.2.1⟩ 110 = some false := by kernel_rfl
  have h_m : atlasref19_Has.f 64 ⟨(rowD 27).1, (rowD 27).2.1, (rowD 27).2.2.1⟩ 109 = some false := by kernel_rfl
  have h_r : atlasref19_Has.f 64 ⟨(rowD 27).1, (rowD 27).2.1, (rowD 27).2.2.1⟩ 114 = some false := by kernel_rfl
  have h_a : atlasref19_Has.f 64 ⟨(rowD 27).1, (rowD 27).2.1, (rowD 27).2.2.1⟩ 97 = some false := by kernel_rfl
  have h_f : (rowD 27).2.1 = 0 := by kernel_rfl
  generalize g0 : (c == 15) = b0
  unfold isa_may.f isa_may.q0.l isa_wide.f atlasref19_may.f atlasref19_may.q0.l atlasref19_may.q1.l atlasref19_may.q2.l atlasref19_may.q3.l atlasref19_may.q4.l atlasref19_may.q5.l atlasref19_may.q6.l atlasref19_may.q7.l atlasref19_any15.f
  simp only [any15_8, h_d, h_n, h_m, h_r, h_a, h_f, bne, Option.bind_some, g0]
  cases b0 <;> rfl
theorem sop_28 (x : Int) : sayOp (rowD 28).1 (rowD 28).2.2.1 x = 46 := by kernel_rfl
theorem say_28 (x : Int) : sayR (rowD 28) x = ⟨x / 268435456 % 16, 46, false, 0, 0, 0, 0, 0, 0, x / 256 % 4096 * 16 + x % 16, 0, 0, false, false, false, 0, 0, 0, 0, 0⟩ :=
  (sayV_with _ _ _ x 46 (sop_28 x)).trans (by kernel_rfl)
theorem rmay_28 (c imm : Int)  : isa_may.f 64 ⟨c, 46, false, 0, 0, 0, 0, 0, 0, imm, 0, 0, false, false, false, 0, 0, 0, 0, 0⟩ = atlasref19_may.f 64 ⟨(rowD 28).1, (rowD 28).2.1, (rowD 28).2.2.1⟩ ⟨c, 46, false, 0, 0, 0, 0, 0, 0, imm, 0, 0, false, false, false, 0, 0, 0, 0, 0⟩ := by
  have h_d : atlasref19_Has.f 64 ⟨(rowD 28).1, (rowD 28).2.1, (rowD 28).2.2.1⟩ 100 = some false := by kernel_rfl
  have h_n : atlasref19_Has.f 64 ⟨(rowD 28).1, (rowD 28).2.1, (rowD 28).2.2.1⟩ 110 = some false := by kernel_rfl
  have h_m : atlasref19_Has.f 64 ⟨(rowD 28).1, (rowD 28).2.1, (rowD 28).2.2.1⟩ 109 = some false := by kernel_rfl
  have h_r : atlasref19_Has.f 64 ⟨(rowD 28).1, (rowD 28).2.1, (rowD 28).2.2.1⟩ 114 = some false := by kernel_rfl
  have h_a : atlasref19_Has.f 64 ⟨(rowD 28).1, (rowD 28).2.1, (rowD 28).2.2.1⟩ 97 = some false := by kernel_rfl
  have h_f : (rowD 28).2.1 = 0 := by kernel_rfl
  generalize g0 : (c == 15) = b0
  generalize g1 : (c == 14) = b1
  unfold isa_may.f isa_may.q0.l isa_wide.f atlasref19_may.f atlasref19_may.q0.l atlasref19_may.q1.l atlasref19_may.q2.l atlasref19_may.q3.l atlasref19_may.q4.l atlasref19_may.q5.l atlasref19_may.q6.l atlasref19_may.q7.l atlasref19_any15.f
  simp only [any15_8, h_d, h_n, h_m, h_r, h_a, h_f, bne, Option.bind_some, g0, g1]
  cases b0 <;> cases b1 <;> rfl
theorem sop_29 (x : Int) : sayOp (rowD 29).1 (rowD 29).2.2.1 x = 47 := by kernel_rfl
theorem say_29 (x : Int) : sayR (rowD 29) x = ⟨x / 268435456 % 16, 47, (x / 4194304 % 2 == 1), 0, x / 4096 % 16, 0, 0, 0, 0, 0, 0, 0, false, false, false, 0, 0, 0, 0, 0⟩ :=
  (sayV_with _ _ _ x 47 (sop_29 x)).trans (by kernel_rfl)
theorem rmay_29 (c rd : Int) (s : Bool) : isa_may.f 64 ⟨c, 47, s, 0, rd, 0, 0, 0, 0, 0, 0, 0, false, false, false, 0, 0, 0, 0, 0⟩ = atlasref19_may.f 64 ⟨(rowD 29).1, (rowD 29).2.1, (rowD 29).2.2.1⟩ ⟨c, 47, s, 0, rd, 0, 0, 0, 0, 0, 0, 0, false, false, false, 0, 0, 0, 0, 0⟩ := by
  have h_d : atlasref19_Has.f 64 ⟨(rowD 29).1, (rowD 29).2.1, (rowD 29).2.2.1⟩ 100 = some true := by kernel_rfl
  have h_n : atlasref19_Has.f 64 ⟨(rowD 29).1, (rowD 29).2.1, (rowD 29).2.2.1⟩ 110 = some false := by kernel_rfl
  have h_m : atlasref19_Has.f 64 ⟨(rowD 29).1, (rowD 29).2.1, (rowD 29).2.2.1⟩ 109 = some false := by kernel_rfl
  have h_r : atlasref19_Has.f 64 ⟨(rowD 29).1, (rowD 29).2.1, (rowD 29).2.2.1⟩ 114 = some false := by kernel_rfl
  have h_a : atlasref19_Has.f 64 ⟨(rowD 29).1, (rowD 29).2.1, (rowD 29).2.2.1⟩ 97 = some false := by kernel_rfl
  have h_f : (rowD 29).2.1 = 0 := by kernel_rfl
  generalize g0 : (c == 15) = b0
  generalize g1 : (rd == 15) = b1
  unfold isa_may.f isa_may.q0.l isa_wide.f atlasref19_may.f atlasref19_may.q0.l atlasref19_may.q1.l atlasref19_may.q2.l atlasref19_may.q3.l atlasref19_may.q4.l atlasref19_may.q5.l atlasref19_may.q6.l atlasref19_may.q7.l atlasref19_any15.f
  simp only [any15_8, h_d, h_n, h_m, h_r, h_a, h_f, bne, Option.bind_some, g0, g1]
  cases b0 <;> cases b1 <;> rfl
theorem sop_30 (x : Int) : sayOp (rowD 30).1 (rowD 30).2.2.1 x = 48 := by kernel_rfl
theorem say_30 (x : Int) : sayR (rowD 30) x = ⟨x / 268435456 % 16, 48, (x / 4194304 % 2 == 1), 2, 0, 0, x % 16, 0, 0, 0, 0, x / 65536 % 16, false, false, false, 0, 0, 0, 0, 0⟩ :=
  (sayV_with _ _ _ x 48 (sop_30 x)).trans (by kernel_rfl)
theorem rmay_30 (c rm am : Int) (s : Bool) : isa_may.f 64 ⟨c, 48, s, 2, 0, 0, rm, 0, 0, 0, 0, am, false, false, false, 0, 0, 0, 0, 0⟩ = atlasref19_may.f 64 ⟨(rowD 30).1, (rowD 30).2.1, (rowD 30).2.2.1⟩ ⟨c, 48, s, 2, 0, 0, rm, 0, 0, 0, 0, am, false, false, false, 0, 0, 0, 0, 0⟩ := by
  have h_d : atlasref19_Has.f 64 ⟨(rowD 30).1, (rowD 30).2.1, (rowD 30).2.2.1⟩ 100 = some false := by kernel_rfl
  have h_n : atlasref19_Has.f 64 ⟨(rowD 30).1, (rowD 30).2.1, (rowD 30).2.2.1⟩ 110 = some false := by kernel_rfl
  have h_m : atlasref19_Has.f 64 ⟨(rowD 30).1, (rowD 30).2.1, (rowD 30).2.2.1⟩ 109 = some true := by kernel_rfl
  have h_r : atlasref19_Has.f 64 ⟨(rowD 30).1, (rowD 30).2.1, (rowD 30).2.2.1⟩ 114 = some false := by kernel_rfl
  have h_a : atlasref19_Has.f 64 ⟨(rowD 30).1, (rowD 30).2.1, (rowD 30).2.2.1⟩ 97 = some false := by kernel_rfl
  have h_f : (rowD 30).2.1 = 2 := by kernel_rfl
  generalize g0 : (c == 15) = b0
  generalize g1 : (am == 0) = b1
  generalize g2 : (rm == 15) = b2
  unfold isa_may.f isa_may.q0.l isa_wide.f atlasref19_may.f atlasref19_may.q0.l atlasref19_may.q1.l atlasref19_may.q2.l atlasref19_may.q3.l atlasref19_may.q4.l atlasref19_may.q5.l atlasref19_may.q6.l atlasref19_may.q7.l atlasref19_any15.f
  simp only [any15_8, h_d, h_n, h_m, h_r, h_a, h_f, bne, Option.bind_some, g0, g1, g2]
  cases b0 <;> cases b1 <;> cases b2 <;> rfl
theorem sop_31 (x : Int) : sayOp (rowD 31).1 (rowD 31).2.2.1 x = 48 := by kernel_rfl
theorem say_31 (x : Int) : sayR (rowD 31) x = ⟨x / 268435456 % 16, 48, (x / 4194304 % 2 == 1), 1, 0, 0, 0, 0, 0, x % 4096, 0, x / 65536 % 16, false, false, false, 0, 0, 0, 0, 0⟩ :=
  (sayV_with _ _ _ x 48 (sop_31 x)).trans (by kernel_rfl)
theorem rmay_31 (c imm am : Int) (s : Bool) : isa_may.f 64 ⟨c, 48, s, 1, 0, 0, 0, 0, 0, imm, 0, am, false, false, false, 0, 0, 0, 0, 0⟩ = atlasref19_may.f 64 ⟨(rowD 31).1, (rowD 31).2.1, (rowD 31).2.2.1⟩ ⟨c, 48, s, 1, 0, 0, 0, 0, 0, imm, 0, am, false, false, false, 0, 0, 0, 0, 0⟩ := by
  have h_d : atlasref19_Has.f 64 ⟨(rowD 31).1, (rowD 31).2.1, (rowD 31).2.2.1⟩ 100 = some false := by kernel_rfl
  have h_n : atlasref19_Has.f 64 ⟨(rowD 31).1, (rowD 31).2.1, (rowD 31).2.2.1⟩ 110 = some false := by kernel_rfl
  have h_m : atlasref19_Has.f 64 ⟨(rowD 31).1, (rowD 31).2.1, (rowD 31).2.2.1⟩ 109 = some false := by kernel_rfl
  have h_r : atlasref19_Has.f 64 ⟨(rowD 31).1, (rowD 31).2.1, (rowD 31).2.2.1⟩ 114 = some false := by kernel_rfl
  have h_a : atlasref19_Has.f 64 ⟨(rowD 31).1, (rowD 31).2.1, (rowD 31).2.2.1⟩ 97 = some false := by kernel_rfl
  have h_f : (rowD 31).2.1 = 1 := by kernel_rfl
  generalize g0 : (c == 15) = b0
  generalize g1 : (am == 0) = b1
  unfold isa_may.f isa_may.q0.l isa_wide.f atlasref19_may.f atlasref19_may.q0.l atlasref19_may.q1.l atlasref19_may.q2.l atlasref19_may.q3.l atlasref19_may.q4.l atlasref19_may.q5.l atlasref19_may.q6.l atlasref19_may.q7.l atlasref19_any15.f
  simp only [any15_8, h_d, h_n, h_m, h_r, h_a, h_f, bne, Option.bind_some, g0, g1]
  cases b0 <;> cases b1 <;> rfl
theorem sop_32 (x : Int) : sayOp (rowD 32).1 (rowD 32).2.2.1 x = 49 := by kernel_rfl
theorem say_32 (x : Int) : sayR (rowD 32) x = ⟨x / 268435456 % 16, 49, false, 0, x / 4096 % 16, 0, 0, 0, 0, 0, 0, 0, false, false, false, 0, x / 65536 % 16, x / 2097152 % 8, x % 16, x / 32 % 8⟩ :=
  (sayV_with _ _ _ x 49 (sop_32 x)).trans (by kernel_rfl)
theorem rmay_32 (c rd t1 t2 t3 t4 : Int)  : isa_may.f 64 ⟨c, 49, false, 0, rd, 0, 0, 0, 0, 0, 0, 0, false, false, false, 0, t1, t2, t3, t4⟩ = atlasref19_may.f 64 ⟨(rowD 32).1, (rowD 32).2.1, (rowD 32).2.2.1⟩ ⟨c, 49, false, 0, rd, 0, 0, 0, 0, 0, 0, 0, false, false, false, 0, t1, t2, t3, t4⟩ := by
  have h_d : atlasref19_Has.f 64 ⟨(rowD 32).1, (rowD 32).2.1, (rowD 32).2.2.1⟩ 100 = some true := by kernel_rfl
  have h_n : atlasref19_Has.f 64 ⟨(rowD 32).1, (rowD 32).2.1, (rowD 32).2.2.1⟩ 110 = some false := by kernel_rfl
  have h_m : atlasref19_Has.f 64 ⟨(rowD 32).1, (rowD 32).2.1, (rowD 32).2.2.1⟩ 109 = some false := by kernel_rfl
  have h_r : atlasref19_Has.f 64 ⟨(rowD 32).1, (rowD 32).2.1, (rowD 32).2.2.1⟩ 114 = some false := by kernel_rfl
  have h_a : atlasref19_Has.f 64 ⟨(rowD 32).1, (rowD 32).2.1, (rowD 32).2.2.1⟩ 97 = some false := by kernel_rfl
  have h_f : (rowD 32).2.1 = 0 := by kernel_rfl
  generalize g0 : (c == 15) = b0
  generalize g1 : (rd == 15) = b1
  unfold isa_may.f isa_may.q0.l isa_wide.f atlasref19_may.f atlasref19_may.q0.l atlasref19_may.q1.l atlasref19_may.q2.l atlasref19_may.q3.l atlasref19_may.q4.l atlasref19_may.q5.l atlasref19_may.q6.l atlasref19_may.q7.l atlasref19_any15.f
  simp only [any15_8, h_d, h_n, h_m, h_r, h_a, h_f, bne, Option.bind_some, g0, g1]
  cases b0 <;> cases b1 <;> rfl
theorem sop_33 (x : Int) : sayOp (rowD 33).1 (rowD 33).2.2.1 x = 50 := by kernel_rfl
theorem say_33 (x : Int) : sayR (rowD 33) x = ⟨x / 268435456 % 16, 50, false, 0, x / 4096 % 16, 0, 0, 0, 0, 0, 0, 0, false, false, false, 0, x / 65536 % 16, x / 2097152 % 8, x % 16, x / 32 % 8⟩ :=
  (sayV_with _ _ _ x 50 (sop_33 x)).trans (by kernel_rfl)
theorem rmay_33 (c rd t1 t2 t3 t4 : Int)  : isa_may.f 64 ⟨c, 50, false, 0, rd, 0, 0, 0, 0, 0, 0, 0, false, false, false, 0, t1, t2, t3, t4⟩ = atlasref19_may.f 64 ⟨(rowD 33).1, (rowD 33).2.1, (rowD 33).2.2.1⟩ ⟨c, 50, false, 0, rd, 0, 0, 0, 0, 0, 0, 0, false, false, false, 0, t1, t2, t3, t4⟩ := by
  have h_d : atlasref19_Has.f 64 ⟨(rowD 33).1, (rowD 33).2.1, (rowD 33).2.2.1⟩ 100 = some true := by kernel_rfl
  have h_n : atlasref19_Has.f 64 ⟨(rowD 33).1, (rowD 33).2.1, (rowD 33).2.2.1⟩ 110 = some false := by kernel_rfl
  have h_m : atlasref19_Has.f 64 ⟨(rowD 33).1, (rowD 33).2.1, (rowD 33).2.2.1⟩ 109 = some false := by kernel_rfl
  have h_r : atlasref19_Has.f 64 ⟨(rowD 33).1, (rowD 33).2.1, (rowD 33).2.2.1⟩ 114 = some false := by kernel_rfl
  have h_a : atlasref19_Has.f 64 ⟨(rowD 33).1, (rowD 33).2.1, (rowD 33).2.2.1⟩ 97 = some false := by kernel_rfl
  have h_f : (rowD 33).2.1 = 0 := by kernel_rfl
  generalize g0 : (c == 15) = b0
  generalize g1 : (rd == 15) = b1
  unfold isa_may.f isa_may.q0.l isa_wide.f atlasref19_may.f atlasref19_may.q0.l atlasref19_may.q1.l atlasref19_may.q2.l atlasref19_may.q3.l atlasref19_may.q4.l atlasref19_may.q5.l atlasref19_may.q6.l atlasref19_may.q7.l atlasref19_any15.f
  simp only [any15_8, h_d, h_n, h_m, h_r, h_a, h_f, bne, Option.bind_some, g0, g1]
  cases b0 <;> cases b1 <;> rfl
theorem sop_34 (x : Int) : sayOp (rowD 34).1 (rowD 34).2.2.1 x = 51 := by kernel_rfl
theorem say_34 (x : Int) : sayR (rowD 34) x = ⟨x / 268435456 % 16, 51, false, 0, 0, 0, 0, 0, 0, 0, 0, 0, false, false, false, 0, 0, 0, 0, 0⟩ :=
  (sayV_with _ _ _ x 51 (sop_34 x)).trans (by kernel_rfl)
theorem rmay_34 (c : Int)  : isa_may.f 64 ⟨c, 51, false, 0, 0, 0, 0, 0, 0, 0, 0, 0, false, false, false, 0, 0, 0, 0, 0⟩ = atlasref19_may.f 64 ⟨(rowD 34).1, (rowD 34).2.1, (rowD 34).2.2.1⟩ ⟨c, 51, false, 0, 0, 0, 0, 0, 0, 0, 0, 0, false, false, false, 0, 0, 0, 0, 0⟩ := by
  have h_d : atlasref19_Has.f 64 ⟨(rowD 34).1, (rowD 34).2.1, (rowD 34).2.2.1⟩ 100 = some false := by kernel_rfl
  have h_n : atlasref19_Has.f 64 ⟨(rowD 34).1, (rowD 34).2.1, (rowD 34).2.2.1⟩ 110 = some false := by kernel_rfl
  have h_m : atlasref19_Has.f 64 ⟨(rowD 34).1, (rowD 34).2.1, (rowD 34).2.2.1⟩ 109 = some false := by kernel_rfl
  have h_r : atlasref19_Has.f 64 ⟨(rowD 34).1, (rowD 34).2.1, (rowD 34).2.2.1⟩ 114 = some false := by kernel_rfl
  have h_a : atlasref19_Has.f 64 ⟨(rowD 34).1, (rowD 34).2.1, (rowD 34).2.2.1⟩ 97 = some false := by kernel_rfl
  have h_f : (rowD 34).2.1 = 0 := by kernel_rfl
  generalize g0 : (c == 15) = b0
  unfold isa_may.f isa_may.q0.l isa_wide.f atlasref19_may.f atlasref19_may.q0.l atlasref19_may.q1.l atlasref19_may.q2.l atlasref19_may.q3.l atlasref19_may.q4.l atlasref19_may.q5.l atlasref19_may.q6.l atlasref19_may.q7.l atlasref19_any15.f
  simp only [any15_8, h_d, h_n, h_m, h_r, h_a, h_f, bne, Option.bind_some, g0]
  cases b0 <;> rfl
theorem sop_35 (x : Int) : sayOp (rowD 35).1 (rowD 35).2.2.1 x = 52 := by kernel_rfl
theorem say_35 (x : Int) : sayR (rowD 35) x = ⟨x / 268435456 % 16, 52, false, 0, 0, 0, 0, 0, 0, 0, 0, 0, false, false, false, 0, 0, 0, 0, 0⟩ :=
  (sayV_with _ _ _ x 52 (sop_35 x)).trans (by kernel_rfl)
theorem rmay_35 (c : Int)  : isa_may.f 64 ⟨c, 52, false, 0, 0, 0, 0, 0, 0, 0, 0, 0, false, false, false, 0, 0, 0, 0, 0⟩ = atlasref19_may.f 64 ⟨(rowD 35).1, (rowD 35).2.1, (rowD 35).2.2.1⟩ ⟨c, 52, false, 0, 0, 0, 0, 0, 0, 0, 0, 0, false, false, false, 0, 0, 0, 0, 0⟩ := by
  have h_d : atlasref19_Has.f 64 ⟨(rowD 35).1, (rowD 35).2.1, (rowD 35).2.2.1⟩ 100 = some false := by kernel_rfl
  have h_n : atlasref19_Has.f 64 ⟨(rowD 35).1, (rowD 35).2.1, (rowD 35).2.2.1⟩ 110 = some false := by kernel_rfl
  have h_m : atlasref19_Has.f 64 ⟨(rowD 35).1, (rowD 35).2.1, (rowD 35).2.2.1⟩ 109 = some false := by kernel_rfl
  have h_r : atlasref19_Has.f 64 ⟨(rowD 35).1, (rowD 35).2.1, (rowD 35).2.2.1⟩ 114 = some false := by kernel_rfl
  have h_a : atlasref19_Has.f 64 ⟨(rowD 35).1, (rowD 35).2.1, (rowD 35).2.2.1⟩ 97 = some false := by kernel_rfl
  have h_f : (rowD 35).2.1 = 0 := by kernel_rfl
  generalize g0 : (c == 15) = b0
  unfold isa_may.f isa_may.q0.l isa_wide.f atlasref19_may.f atlasref19_may.q0.l atlasref19_may.q1.l atlasref19_may.q2.l atlasref19_may.q3.l atlasref19_may.q4.l atlasref19_may.q5.l atlasref19_may.q6.l atlasref19_may.q7.l atlasref19_any15.f
  simp only [any15_8, h_d, h_n, h_m, h_r, h_a, h_f, bne, Option.bind_some, g0]
  cases b0 <;> rfl
theorem sop_36 (x : Int) : sayOp (rowD 36).1 (rowD 36).2.2.1 x = 31 := by kernel_rfl
theorem say_36 (x : Int) : sayR (rowD 36) x = ⟨x / 268435456 % 16, 31, false, 1, x / 4096 % 16, x / 65536 % 16, 0, 0, 0, x % 4096, 0, 0, (x / 16777216 % 2 == 1), (x / 8388608 % 2 == 1), (x / 2097152 % 2 == 1), 0, 0, 0, 0, 0⟩ :=
  (sayV_with _ _ _ x 31 (sop_36 x)).trans (by kernel_rfl)
theorem rmay_36 (c rd rn imm : Int) (p u w : Bool) : isa_may.f 64 ⟨c, 31, false, 1, rd, rn, 0, 0, 0, imm, 0, 0, p, u, w, 0, 0, 0, 0, 0⟩ = atlasref19_may.f 64 ⟨(rowD 36).1, (rowD 36).2.1, (rowD 36).2.2.1⟩ ⟨c, 31, false, 1, rd, rn, 0, 0, 0, imm, 0, 0, p, u, w, 0, 0, 0, 0, 0⟩ := by
  have h_d : atlasref19_Has.f 64 ⟨(rowD 36).1, (rowD 36).2.1, (rowD 36).2.2.1⟩ 100 = some true := by kernel_rfl
  have h_n : atlasref19_Has.f 64 ⟨(rowD 36).1, (rowD 36).2.1, (rowD 36).2.2.1⟩ 110 = some true := by kernel_rfl
  have h_m : atlasref19_Has.f 64 ⟨(rowD 36).1, (rowD 36).2.1, (rowD 36).2.2.1⟩ 109 = some false := by kernel_rfl
  have h_r : atlasref19_Has.f 64 ⟨(rowD 36).1, (rowD 36).2.1, (rowD 36).2.2.1⟩ 114 = some false := by kernel_rfl
  have h_a : atlasref19_Has.f 64 ⟨(rowD 36).1, (rowD 36).2.1, (rowD 36).2.2.1⟩ 97 = some false := by kernel_rfl
  have h_f : (rowD 36).2.1 = 1 := by kernel_rfl
  generalize g0 : (c == 15) = b0
  generalize g3 : (rn == 15) = b3
  generalize g4 : (rn == rd) = b4
  generalize g5 : (rd == 15) = b5
  unfold isa_may.f isa_may.q0.l isa_wide.f atlasref19_may.f atlasref19_may.q0.l atlasref19_may.q1.l atlasref19_may.q2.l atlasref19_may.q3.l atlasref19_may.q4.l atlasref19_may.q5.l atlasref19_may.q6.l atlasref19_may.q7.l atlasref19_any15.f
  simp only [any15_8, h_d, h_n, h_m, h_r, h_a, h_f, bne, Option.bind_some, g0, g3, g4, g5]
  cases b0 <;> cases w <;> cases p <;> cases b3 <;> cases b4 <;> cases b5 <;> rfl
theorem sop_37 (x : Int) : sayOp (rowD 37).1 (rowD 37).2.2.1 x = 32 := by kernel_rfl
theorem say_37 (x : Int) : sayR (rowD 37) x = ⟨x / 268435456 % 16, 32, false, 1, x / 4096 % 16, x / 65536 % 16, 0, 0, 0, x % 4096, 0, 0, (x / 16777216 % 2 == 1), (x / 8388608 % 2 == 1), (x / 2097152 % 2 == 1), 0, 0, 0, 0, 0⟩ :=
  (sayV_with _ _ _ x 32 (sop_37 x)).trans (by kernel_rfl)
theorem rmay_37 (c rd rn imm : Int) (p u w : Bool) : isa_may.f 64 ⟨c, 32, false, 1, rd, rn, 0, 0, 0, imm, 0, 0, p, u, w, 0, 0, 0, 0, 0⟩ = atlasref19_may.f 64 ⟨(rowD 37).1, (rowD 37).2.1, (rowD 37).2.2.1⟩ ⟨c, 32, false, 1, rd, rn, 0, 0, 0, imm, 0, 0, p, u, w, 0, 0, 0, 0, 0⟩ := by
  have h_d : atlasref19_Has.f 64 ⟨(rowD 37).1, (rowD 37).2.1, (rowD 37).2.2.1⟩ 100 = some true := by kernel_rfl
  have h_n : atlasref19_Has.f 64 ⟨(rowD 37).1, (rowD 37).2.1, (rowD 37).2.2.1⟩ 110 = some true := by kernel_rfl
  have h_m : atlasref19_Has.f 64 ⟨(rowD 37).1, (rowD 37).2.1, (rowD 37).2.2.1⟩ 109 = some false := by kernel_rfl
  have h_r : atlasref19_Has.f 64 ⟨(rowD 37).1, (rowD 37).2.1, (rowD 37).2.2.1⟩ 114 = some false := by kernel_rfl
  have h_a : atlasref19_Has.f 64 ⟨(rowD 37).1, (rowD 37).2.1, (rowD 37).2.2.1⟩ 97 = some false := by kernel_rfl
  have h_f : (rowD 37).2.1 = 1 := by kernel_rfl
  generalize g0 : (c == 15) = b0
  generalize g3 : (rn == 15) = b3
  generalize g4 : (rn == rd) = b4
  generalize g5 : (rd == 15) = b5
  unfold isa_may.f isa_may.q0.l isa_wide.f atlasref19_may.f atlasref19_may.q0.l atlasref19_may.q1.l atlasref19_may.q2.l atlasref19_may.q3.l atlasref19_may.q4.l atlasref19_may.q5.l atlasref19_may.q6.l atlasref19_may.q7.l atlasref19_any15.f
  simp only [any15_8, h_d, h_n, h_m, h_r, h_a, h_f, bne, Option.bind_some, g0, g3, g4, g5]
  cases b0 <;> cases w <;> cases p <;> cases b3 <;> cases b4 <;> cases b5 <;> rfl
theorem sop_38 (x : Int) : sayOp (rowD 38).1 (rowD 38).2.2.1 x = 33 := by kernel_rfl
theorem say_38 (x : Int) : sayR (rowD 38) x = ⟨x / 268435456 % 16, 33, false, 1, x / 4096 % 16, x / 65536 % 16, 0, 0, 0, x % 4096, 0, 0, (x / 16777216 % 2 == 1), (x / 8388608 % 2 == 1), (x / 2097152 % 2 == 1), 0, 0, 0, 0, 0⟩ :=
  (sayV_with _ _ _ x 33 (sop_38 x)).trans (by kernel_rfl)
theorem rmay_38 (c rd rn imm : Int) (p u w : Bool) : isa_may.f 64 ⟨c, 33, false, 1, rd, rn, 0, 0, 0, imm, 0, 0, p, u, w, 0, 0, 0, 0, 0⟩ = atlasref19_may.f 64 ⟨(rowD 38).1, (rowD 38).2.1, (rowD 38).2.2.1⟩ ⟨c, 33, false, 1, rd, rn, 0, 0, 0, imm, 0, 0, p, u, w, 0, 0, 0, 0, 0⟩ := by
  have h_d : atlasref19_Has.f 64 ⟨(rowD 38).1, (rowD 38).2.1, (rowD 38).2.2.1⟩ 100 = some true := by kernel_rfl
  have h_n : atlasref19_Has.f 64 ⟨(rowD 38).1, (rowD 38).2.1, (rowD 38).2.2.1⟩ 110 = some true := by kernel_rfl
  have h_m : atlasref19_Has.f 64 ⟨(rowD 38).1, (rowD 38).2.1, (rowD 38).2.2.1⟩ 109 = some false := by kernel_rfl
  have h_r : atlasref19_Has.f 64 ⟨(rowD 38).1, (rowD 38).2.1, (rowD 38).2.2.1⟩ 114 = some false := by kernel_rfl
  have h_a : atlasref19_Has.f 64 ⟨(rowD 38).1, (rowD 38).2.1, (rowD 38).2.2.1⟩ 97 = some false := by kernel_rfl
  have h_f : (rowD 38).2.1 = 1 := by kernel_rfl
  generalize g0 : (c == 15) = b0
  generalize g3 : (rn == 15) = b3
  generalize g4 : (rn == rd) = b4
  generalize g5 : (rd == 15) = b5
  unfold isa_may.f isa_may.q0.l isa_wide.f atlasref19_may.f atlasref19_may.q0.l atlasref19_may.q1.l atlasref19_may.q2.l atlasref19_may.q3.l atlasref19_may.q4.l atlasref19_may.q5.l atlasref19_may.q6.l atlasref19_may.q7.l atlasref19_any15.f
  simp only [any15_8, h_d, h_n, h_m, h_r, h_a, h_f, bne, Option.bind_some, g0, g3, g4, g5]
  cases b0 <;> cases w <;> cases p <;> cases b3 <;> cases b4 <;> cases b5 <;> rfl
theorem sop_39 (x : Int) : sayOp (rowD 39).1 (rowD 39).2.2.1 x = 34 := by kernel_rfl
theorem say_39 (x : Int) : sayR (rowD 39) x = ⟨x / 268435456 % 16, 34, false, 1, x / 4096 % 16, x / 65536 % 16, 0, 0, 0, x % 4096, 0, 0, (x / 16777216 % 2 == 1), (x / 8388608 % 2 == 1), (x / 2097152 % 2 == 1), 0, 0, 0, 0, 0⟩ :=
  (sayV_with _ _ _ x 34 (sop_39 x)).trans (by kernel_rfl)
theorem rmay_39 (c rd rn imm : Int) (p u w : Bool) : isa_may.f 64 ⟨c, 34, false, 1, rd, rn, 0, 0, 0, imm, 0, 0, p, u, w, 0, 0, 0, 0, 0⟩ = atlasref19_may.f 64 ⟨(rowD 39).1, (rowD 39).2.1, (rowD 39).2.2.1⟩ ⟨c, 34, false, 1, rd, rn, 0, 0, 0, imm, 0, 0, p, u, w, 0, 0, 0, 0, 0⟩ := by
  have h_d : atlasref19_Has.f 64 ⟨(rowD 39).1, (rowD 39).2.1, (rowD 39).2.2.1⟩ 100 = some true := by kernel_rfl
  have h_n : atlasref19_Has.f 64 ⟨(rowD 39).1, (rowD 39).2.1, (rowD 39).2.2.1⟩ 110 = some true := by kernel_rfl
  have h_m : atlasref19_Has.f 64 ⟨(rowD 39).1, (rowD 39).2.1, (rowD 39).2.2.1⟩ 109 = some false := by kernel_rfl
  have h_r : atlasref19_Has.f 64 ⟨(rowD 39).1, (rowD 39).2.1, (rowD 39).2.2.1⟩ 114 = some false := by kernel_rfl
  have h_a : atlasref19_Has.f 64 ⟨(rowD 39).1, (rowD 39).2.1, (rowD 39).2.2.1⟩ 97 = some false := by kernel_rfl
  have h_f : (rowD 39).2.1 = 1 := by kernel_rfl
  generalize g0 : (c == 15) = b0
  generalize g3 : (rn == 15) = b3
  generalize g4 : (rn == rd) = b4
  generalize g5 : (rd == 15) = b5
  unfold isa_may.f isa_may.q0.l isa_wide.f atlasref19_may.f atlasref19_may.q0.l atlasref19_may.q1.l atlasref19_may.q2.l atlasref19_may.q3.l atlasref19_may.q4.l atlasref19_may.q5.l atlasref19_may.q6.l atlasref19_may.q7.l atlasref19_any15.f
  simp only [any15_8, h_d, h_n, h_m, h_r, h_a, h_f, bne, Option.bind_some, g0, g3, g4, g5]
  cases b0 <;> cases w <;> cases p <;> cases b3 <;> cases b4 <;> cases b5 <;> rfl
theorem sop_40 (x : Int) : sayOp (rowD 40).1 (rowD 40).2.2.1 x = 31 := by kernel_rfl
theorem say_40 (x : Int) : sayR (rowD 40) x = ⟨x / 268435456 % 16, 31, false, 2, x / 4096 % 16, x / 65536 % 16, x % 16, 0, 0, 0, x / 32 % 4, x / 128 % 32, (x / 16777216 % 2 == 1), (x / 8388608 % 2 == 1), (x / 2097152 % 2 == 1), 0, 0, 0, 0, 0⟩ :=
  (sayV_with _ _ _ x 31 (sop_40 x)).trans (by kernel_rfl)
theorem rmay_40 (c rd rn rm sh am : Int) (p u w : Bool) : isa_may.f 64 ⟨c, 31, false, 2, rd, rn, rm, 0, 0, 0, sh, am, p, u, w, 0, 0, 0, 0, 0⟩ = atlasref19_may.f 64 ⟨(rowD 40).1, (rowD 40).2.1, (rowD 40).2.2.1⟩ ⟨c, 31, false, 2, rd, rn, rm, 0, 0, 0, sh, am, p, u, w, 0, 0, 0, 0, 0⟩ := by
  have h_d : atlasref19_Has.f 64 ⟨(rowD 40).1, (rowD 40).2.1, (rowD 40).2.2.1⟩ 100 = some true := by kernel_rfl
  have h_n : atlasref19_Has.f 64 ⟨(rowD 40).1, (rowD 40).2.1, (rowD 40).2.2.1⟩ 110 = some true := by kernel_rfl
  have h_m : atlasref19_Has.f 64 ⟨(rowD 40).1, (rowD 40).2.1, (rowD 40).2.2.1⟩ 109 = some true := by kernel_rfl
  have h_r : atlasref19_Has.f 64 ⟨(rowD 40).1, (rowD 40).2.1, (rowD 40).2.2.1⟩ 114 = some false := by kernel_rfl
  have h_a : atlasref19_Has.f 64 ⟨(rowD 40).1, (rowD 40).2.1, (rowD 40).2.2.1⟩ 97 = some false := by kernel_rfl
  have h_f : (rowD 40).2.1 = 2 := by kernel_rfl
  generalize g0 : (c == 15) = b0
  generalize g3 : (rn == 15) = b3
  generalize g4 : (rn == rd) = b4
  generalize g5 : (rd == 15) = b5
  generalize g6 : (rm == 15) = b6
  unfold isa_may.f isa_may.q0.l isa_wide.f atlasref19_may.f atlasref19_may.q0.l atlasref19_may.q1.l atlasref19_may.q2.l atlasref19_may.q3.l atlasref19_may.q4.l atlasref19_may.q5.l atlasref19_may.q6.l atlasref19_may.q7.l atlasref19_any15.f
  simp only [any15_8, h_d, h_n, h_m, h_r, h_a, h_f, bne, Option.bind_some, g0, g3, g4, g5, g6]
  cases b0 <;> cases w <;> cases p <;> cases b3 <;> cases b4 <;> cases b5 <;> cases b6 <;> rfl
theorem sop_41 (x : Int) : sayOp (rowD 41).1 (rowD 41).2.2.1 x = 32 := by kernel_rfl
theorem say_41 (x : Int) : sayR (rowD 41) x = ⟨x / 268435456 % 16, 32, false, 2, x / 4096 % 16, x / 65536 % 16, x % 16, 0, 0, 0, x / 32 % 4, x / 128 % 32, (x / 16777216 % 2 == 1), (x / 8388608 % 2 == 1), (x / 2097152 % 2 == 1), 0, 0, 0, 0, 0⟩ :=
  (sayV_with _ _ _ x 32 (sop_41 x)).trans (by kernel_rfl)
theorem rmay_41 (c rd rn rm sh am : Int) (p u w : Bool) : isa_may.f 64 ⟨c, 32, false, 2, rd, rn, rm, 0, 0, 0, sh, am, p, u, w, 0, 0, 0, 0, 0⟩ = atlasref19_may.f 64 ⟨(rowD 41).1, (rowD 41).2.1, (rowD 41).2.2.1⟩ ⟨c, 32, false, 2, rd, rn, rm, 0, 0, 0, sh, am, p, u, w, 0, 0, 0, 0, 0⟩ := by
  have h_d : atlasref19_Has.f 64 ⟨(rowD 41).1, (rowD 41).2.1, (rowD 41).2.2.1⟩ 100 = some true := by kernel_rfl
  have h_n : atlasref19_Has.f 64 ⟨(rowD 41).1, (rowD 41).2.1, (rowD 41).2.2.1⟩ 110 = some true := by kernel_rfl
  have h_m : atlasref19_Has.f 64 ⟨(rowD 41).1, (rowD 41).2.1, (rowD 41).2.2.1⟩ 109 = some true := by kernel_rfl
  have h_r : atlasref19_Has.f 64 ⟨(rowD 41).1, (rowD 41).2.1, (rowD 41).2.2.1⟩ 114 = some false := by kernel_rfl
  have h_a : atlasref19_Has.f 64 ⟨(rowD 41).1, (rowD 41).2.1, (rowD 41).2.2.1⟩ 97 = some false := by kernel_rfl
  have h_f : (rowD 41).2.1 = 2 := by kernel_rfl
  generalize g0 : (c == 15) = b0
  generalize g3 : (rn == 15) = b3
  generalize g4 : (rn == rd) = b4
  generalize g5 : (rd == 15) = b5
  generalize g6 : (rm == 15) = b6
  unfold isa_may.f isa_may.q0.l isa_wide.f atlasref19_may.f atlasref19_may.q0.l atlasref19_may.q1.l atlasref19_may.q2.l atlasref19_may.q3.l atlasref19_may.q4.l atlasref19_may.q5.l atlasref19_may.q6.l atlasref19_may.q7.l atlasref19_any15.f
  simp only [any15_8, h_d, h_n, h_m, h_r, h_a, h_f, bne, Option.bind_some, g0, g3, g4, g5, g6]
  cases b0 <;> cases w <;> cases p <;> cases b3 <;> cases b4 <;> cases b5 <;> cases b6 <;> rfl
theorem sop_42 (x : Int) : sayOp (rowD 42).1 (rowD 42).2.2.1 x = 33 := by kernel_rfl
theorem say_42 (x : Int) : sayR (rowD 42) x = ⟨x / 268435456 % 16, 33, false, 2, x / 4096 % 16, x / 65536 % 16, x % 16, 0, 0, 0, x / 32 % 4, x / 128 % 32, (x / 16777216 % 2 == 1), (x / 8388608 % 2 == 1), (x / 2097152 % 2 == 1), 0, 0, 0, 0, 0⟩ :=
  (sayV_with _ _ _ x 33 (sop_42 x)).trans (by kernel_rfl)
theorem rmay_42 (c rd rn rm sh am : Int) (p u w : Bool) : isa_may.f 64 ⟨c, 33, false, 2, rd, rn, rm, 0, 0, 0, sh, am, p, u, w, 0, 0, 0, 0, 0⟩ = atlasref19_may.f 64 ⟨(rowD 42).1, (rowD 42).2.1, (rowD 42).2.2.1⟩ ⟨c, 33, false, 2, rd, rn, rm, 0, 0, 0, sh, am, p, u, w, 0, 0, 0, 0, 0⟩ := by
  have h_d : atlasref19_Has.f 64 ⟨(rowD 42).1, (rowD 42).2.1, (rowD 42).2.2.1⟩ 100 = some true := by kernel_rfl
  have h_n : atlasref19_Has.f 64 ⟨(rowD 42).1, (rowD 42).2.1, (rowD 42).2.2.1⟩ 110 = some true := by kernel_rfl
  have h_m : atlasref19_Has.f 64 ⟨(rowD 42).1, (rowD 42).2.1, (rowD 42).2.2.1⟩ 109 = some true := by kernel_rfl
  have h_r : atlasref19_Has.f 64 ⟨(rowD 42).1, (rowD 42).2.1, (rowD 42).2.2.1⟩ 114 = some false := by kernel_rfl
  have h_a : atlasref19_Has.f 64 ⟨(rowD 42).1, (rowD 42).2.1, (rowD 42).2.2.1⟩ 97 = some false := by kernel_rfl
  have h_f : (rowD 42).2.1 = 2 := by kernel_rfl
  generalize g0 : (c == 15) = b0
  generalize g3 : (rn == 15) = b3
  generalize g4 : (rn == rd) = b4
  generalize g5 : (rd == 15) = b5
  generalize g6 : (rm == 15) = b6
  unfold isa_may.f isa_may.q0.l isa_wide.f atlasref19_may.f atlasref19_may.q0.l atlasref19_may.q1.l atlasref19_may.q2.l atlasref19_may.q3.l atlasref19_may.q4.l atlasref19_may.q5.l atlasref19_may.q6.l atlasref19_may.q7.l atlasref19_any15.f
  simp only [any15_8, h_d, h_n, h_m, h_r, h_a, h_f, bne, Option.bind_some, g0, g3, g4, g5, g6]
  cases b0 <;> cases w <;> cases p <;> cases b3 <;> cases b4 <;> cases b5 <;> cases b6 <;> rfl
theorem sop_43 (x : Int) : sayOp (rowD 43).1 (rowD 43).2.2.1 x = 34 := by kernel_rfl
theorem say_43 (x : Int) : sayR (rowD 43) x = ⟨x / 268435456 % 16, 34, false, 2, x / 4096 % 16, x / 65536 % 16, x % 16, 0, 0, 0, x / 32 % 4, x / 128 % 32, (x / 16777216 % 2 == 1), (x / 8388608 % 2 == 1), (x / 2097152 % 2 == 1), 0, 0, 0, 0, 0⟩ :=
  (sayV_with _ _ _ x 34 (sop_43 x)).trans (by kernel_rfl)
theorem rmay_43 (c rd rn rm sh am : Int) (p u w : Bool) : isa_may.f 64 ⟨c, 34, false, 2, rd, rn, rm, 0, 0, 0, sh, am, p, u, w, 0, 0, 0, 0, 0⟩ = atlasref19_may.f 64 ⟨(rowD 43).1, (rowD 43).2.1, (rowD 43).2.2.1⟩ ⟨c, 34, false, 2, rd, rn, rm, 0, 0, 0, sh, am, p, u, w, 0, 0, 0, 0, 0⟩ := by
  have h_d : atlasref19_Has.f 64 ⟨(rowD 43).1, (rowD 43).2.1, (rowD 43).2.2.1⟩ 100 = some true := by kernel_rfl
  have h_n : atlasref19_Has.f 64 ⟨(rowD 43).1, (rowD 43).2.1, (rowD 43).2.2.1⟩ 110 = some true := by kernel_rfl
  have h_m : atlasref19_Has.f 64 ⟨(rowD 43).1, (rowD 43).2.1, (rowD 43).2.2.1⟩ 109 = some true := by kernel_rfl
  have h_r : atlasref19_Has.f 64 ⟨(rowD 43).1, (rowD 43).2.1, (rowD 43).2.2.1⟩ 114 = some false := by kernel_rfl
  have h_a : atlasref19_Has.f 64 ⟨(rowD 43).1, (rowD 43).2.1, (rowD 43).2.2.1⟩ 97 = some false := by kernel_rfl
  have h_f : (rowD 43).2.1 = 2 := by kernel_rfl
  generalize g0 : (c == 15) = b0
  generalize g3 : (rn == 15) = b3
  generalize g4 : (rn == rd) = b4
  generalize g5 : (rd == 15) = b5
  generalize g6 : (rm == 15) = b6
  unfold isa_may.f isa_may.q0.l isa_wide.f atlasref19_may.f atlasref19_may.q0.l atlasref19_may.q1.l atlasref19_may.q2.l atlasref19_may.q3.l atlasref19_may.q4.l atlasref19_may.q5.l atlasref19_may.q6.l atlasref19_may.q7.l atlasref19_any15.f
  simp only [any15_8, h_d, h_n, h_m, h_r, h_a, h_f, bne, Option.bind_some, g0, g3, g4, g5, g6]
  cases b0 <;> cases w <;> cases p <;> cases b3 <;> cases b4 <;> cases b5 <;> cases b6 <;> rfl
theorem sop_44 (x : Int) : sayOp (rowD 44).1 (rowD 44).2.2.1 x = 35 := by kernel_rfl
theorem say_44 (x : Int) : sayR (rowD 44) x = ⟨x / 268435456 % 16, 35, false, 1, x / 4096 % 16, x / 65536 % 16, 0, 0, 0, x / 256 % 16 * 16 + x % 16, 0, 0, (x / 16777216 % 2 == 1), (x / 8388608 % 2 == 1), (x / 2097152 % 2 == 1), 0, 0, 0, 0, 0⟩ :=
  (sayV_with _ _ _ x 35 (sop_44 x)).trans (by kernel_rfl)
theorem rmay_44 (c rd rn imm : Int) (p u w : Bool) : isa_may.f 64 ⟨c, 35, false, 1, rd, rn, 0, 0, 0, imm, 0, 0, p, u, w, 0, 0, 0, 0, 0⟩ = atlasref19_may.f 64 ⟨(rowD 44).1, (rowD 44).2.1, (rowD 44).2.2.1⟩ ⟨c, 35, false, 1, rd, rn, 0, 0, 0, imm, 0, 0, p, u, w, 0, 0, 0, 0, 0⟩ := by
  have h_d : atlasref19_Has.f 64 ⟨(rowD 44).1, (rowD 44).2.1, (rowD 44).2.2.1⟩ 100 = some true := by kernel_rfl
  have h_n : atlasref19_Has.f 64 ⟨(rowD 44).1, (rowD 44).2.1, (rowD 44).2.2.1⟩ 110 = some true := by kernel_rfl
  have h_m : atlasref19_Has.f 64 ⟨(rowD 44).1, (rowD 44).2.1, (rowD 44).2.2.1⟩ 109 = some false := by kernel_rfl
  have h_r : atlasref19_Has.f 64 ⟨(rowD 44).1, (rowD 44).2.1, (rowD 44).2.2.1⟩ 114 = some false := by kernel_rfl
  have h_a : atlasref19_Has.f 64 ⟨(rowD 44).1, (rowD 44).2.1, (rowD 44).2.2.1⟩ 97 = some false := by kernel_rfl
  have h_f : (rowD 44).2.1 = 1 := by kernel_rfl
  generalize g0 : (c == 15) = b0
  generalize g3 : (rn == 15) = b3
  generalize g4 : (rn == rd) = b4
  generalize g5 : (rd == 15) = b5
  unfold isa_may.f isa_may.q0.l isa_wide.f atlasref19_may.f atlasref19_may.q0.l atlasref19_may.q1.l atlasref19_may.q2.l atlasref19_may.q3.l atlasref19_may.q4.l atlasref19_may.q5.l atlasref19_may.q6.l atlasref19_may.q7.l atlasref19_any15.f
  simp only [any15_8, h_d, h_n, h_m, h_r, h_a, h_f, bne, Option.bind_some, g0, g3, g4, g5]
  cases b0 <;> cases w <;> cases p <;> cases b3 <;> cases b4 <;> cases b5 <;> rfl
theorem sop_45 (x : Int) : sayOp (rowD 45).1 (rowD 45).2.2.1 x = 36 := by kernel_rfl
theorem say_45 (x : Int) : sayR (rowD 45) x = ⟨x / 268435456 % 16, 36, false, 1, x / 4096 % 16, x / 65536 % 16, 0, 0, 0, x / 256 % 16 * 16 + x % 16, 0, 0, (x / 16777216 % 2 == 1), (x / 8388608 % 2 == 1), (x / 2097152 % 2 == 1), 0, 0, 0, 0, 0⟩ :=
  (sayV_with _ _ _ x 36 (sop_45 x)).trans (by kernel_rfl)
theorem rmay_45 (c rd rn imm : Int) (p u w : Bool) : isa_may.f 64 ⟨c, 36, false, 1, rd, rn, 0, 0, 0, imm, 0, 0, p, u, w, 0, 0, 0, 0, 0⟩ = atlasref19_may.f 64 ⟨(rowD 45).1, (rowD 45).2.1, (rowD 45).2.2.1⟩ ⟨c, 36, false, 1, rd, rn, 0, 0, 0, imm, 0, 0, p, u, w, 0, 0, 0, 0, 0⟩ := by
  have h_d : atlasref19_Has.f 64 ⟨(rowD 45).1, (rowD 45).2.1, (rowD 45).2.2.1⟩ 100 = some true := by kernel_rfl
  have h_n : atlasref19_Has.f 64 ⟨(rowD 45).1, (rowD 45).2.1, (rowD 45).2.2.1⟩ 110 = some true := by kernel_rfl
  have h_m : atlasref19_Has.f 64 ⟨(rowD 45).1, (rowD 45).2.1, (rowD 45).2.2.1⟩ 109 = some false := by kernel_rfl
  have h_r : atlasref19_Has.f 64 ⟨(rowD 45).1, (rowD 45).2.1, (rowD 45).2.2.1⟩ 114 = some false := by kernel_rfl
  have h_a : atlasref19_Has.f 64 ⟨(rowD 45).1, (rowD 45).2.1, (rowD 45).2.2.1⟩ 97 = some false := by kernel_rfl
  have h_f : (rowD 45).2.1 = 1 := by kernel_rfl
  generalize g0 : (c == 15) = b0
  generalize g3 : (rn == 15) = b3
  generalize g4 : (rn == rd) = b4
  generalize g5 : (rd == 15) = b5
  unfold isa_may.f isa_may.q0.l isa_wide.f atlasref19_may.f atlasref19_may.q0.l atlasref19_may.q1.l atlasref19_may.q2.l atlasref19_may.q3.l atlasref19_may.q4.l atlasref19_may.q5.l atlasref19_may.q6.l atlasref19_may.q7.l atlasref19_any15.f
  simp only [any15_8, h_d, h_n, h_m, h_r, h_a, h_f, bne, Option.bind_some, g0, g3, g4, g5]
  cases b0 <;> cases w <;> cases p <;> cases b3 <;> cases b4 <;> cases b5 <;> rfl
theorem sop_46 (x : Int) : sayOp (rowD 46).1 (rowD 46).2.2.1 x = 37 := by kernel_rfl
theorem say_46 (x : Int) : sayR (rowD 46) x = ⟨x / 268435456 % 16, 37, false, 1, x / 4096 % 16, x / 65536 % 16, 0, 0, 0, x / 256 % 16 * 16 + x % 16, 0, 0, (x / 16777216 % 2 == 1), (x / 8388608 % 2 == 1), (x / 2097152 % 2 == 1), 0, 0, 0, 0, 0⟩ :=
  (sayV_with _ _ _ x 37 (sop_46 x)).trans (by kernel_rfl)
theorem rmay_46 (c rd rn imm : Int) (p u w : Bool) : isa_may.f 64 ⟨c, 37, false, 1, rd, rn, 0, 0, 0, imm, 0, 0, p, u, w, 0, 0, 0, 0, 0⟩ = atlasref19_may.f 64 ⟨(rowD 46).1, (rowD 46).2.1, (rowD 46).2.2.1⟩ ⟨c, 37, false, 1, rd, rn, 0, 0, 0, imm, 0, 0, p, u, w, 0, 0, 0, 0, 0⟩ := by
  have h_d : atlasref19_Has.f 64 ⟨(rowD 46).1, (rowD 46).2.1, (rowD 46).2.2.1⟩ 100 = some true := by kernel_rfl
  have h_n : atlasref19_Has.f 64 ⟨(rowD 46).1, (rowD 46).2.1, (rowD 46).2.2.1⟩ 110 = some true := by kernel_rfl
  have h_m : atlasref19_Has.f 64 ⟨(rowD 46).1, (rowD 46).2.1, (rowD 46).2.2.1⟩ 109 = some false := by kernel_rfl
  have h_r : atlasref19_Has.f 64 ⟨(rowD 46).1, (rowD 46).2.1, (rowD 46).2.2.1⟩ 114 = some false := by kernel_rfl
  have h_a : atlasref19_Has.f 64 ⟨(rowD 46).1, (rowD 46).2.1, (rowD 46).2.2.1⟩ 97 = some false := by kernel_rfl
  have h_f : (rowD 46).2.1 = 1 := by kernel_rfl
  generalize g0 : (c == 15) = b0
  generalize g3 : (rn == 15) = b3
  generalize g4 : (rn == rd) = b4
  generalize g5 : (rd == 15) = b5
  unfold isa_may.f isa_may.q0.l isa_wide.f atlasref19_may.f atlasref19_may.q0.l atlasref19_may.q1.l atlasref19_may.q2.l atlasref19_may.q3.l atlasref19_may.q4.l atlasref19_may.q5.l atlasref19_may.q6.l atlasref19_may.q7.l atlasref19_any15.f
  simp only [any15_8, h_d, h_n, h_m, h_r, h_a, h_f, bne, Option.bind_some, g0, g3, g4, g5]
  cases b0 <;> cases w <;> cases p <;> cases b3 <;> cases b4 <;> cases b5 <;> rfl
theorem sop_47 (x : Int) : sayOp (rowD 47).1 (rowD 47).2.2.1 x = 38 := by kernel_rfl
theorem say_47 (x : Int) : sayR (rowD 47) x = ⟨x / 268435456 % 16, 38, false, 1, x / 4096 % 16, x / 65536 % 16, 0, 0, 0, x / 256 % 16 * 16 + x % 16, 0, 0, (x / 16777216 % 2 == 1), (x / 8388608 % 2 == 1), (x / 2097152 % 2 == 1), 0, 0, 0, 0, 0⟩ :=
  (sayV_with _ _ _ x 38 (sop_47 x)).trans (by kernel_rfl)
theorem rmay_47 (c rd rn imm : Int) (p u w : Bool) : isa_may.f 64 ⟨c, 38, false, 1, rd, rn, 0, 0, 0, imm, 0, 0, p, u, w, 0, 0, 0, 0, 0⟩ = atlasref19_may.f 64 ⟨(rowD 47).1, (rowD 47).2.1, (rowD 47).2.2.1⟩ ⟨c, 38, false, 1, rd, rn, 0, 0, 0, imm, 0, 0, p, u, w, 0, 0, 0, 0, 0⟩ := by
  have h_d : atlasref19_Has.f 64 ⟨(rowD 47).1, (rowD 47).2.1, (rowD 47).2.2.1⟩ 100 = some true := by kernel_rfl
  have h_n : atlasref19_Has.f 64 ⟨(rowD 47).1, (rowD 47).2.1, (rowD 47).2.2.1⟩ 110 = some true := by kernel_rfl
  have h_m : atlasref19_Has.f 64 ⟨(rowD 47).1, (rowD 47).2.1, (rowD 47).2.2.1⟩ 109 = some false := by kernel_rfl
  have h_r : atlasref19_Has.f 64 ⟨(rowD 47).1, (rowD 47).2.1, (rowD 47).2.2.1⟩ 114 = some false := by kernel_rfl
  have h_a : atlasref19_Has.f 64 ⟨(rowD 47).1, (rowD 47).2.1, (rowD 47).2.2.1⟩ 97 = some false := by kernel_rfl
  have h_f : (rowD 47).2.1 = 1 := by kernel_rfl
  generalize g0 : (c == 15) = b0
  generalize g3 : (rn == 15) = b3
  generalize g4 : (rn == rd) = b4
  generalize g5 : (rd == 15) = b5
  unfold isa_may.f isa_may.q0.l isa_wide.f atlasref19_may.f atlasref19_may.q0.l atlasref19_may.q1.l atlasref19_may.q2.l atlasref19_may.q3.l atlasref19_may.q4.l atlasref19_may.q5.l atlasref19_may.q6.l atlasref19_may.q7.l atlasref19_any15.f
  simp only [any15_8, h_d, h_n, h_m, h_r, h_a, h_f, bne, Option.bind_some, g0, g3, g4, g5]
  cases b0 <;> cases w <;> cases p <;> cases b3 <;> cases b4 <;> cases b5 <;> rfl
theorem sop_48 (x : Int) : sayOp (rowD 48).1 (rowD 48).2.2.1 x = 35 := by kernel_rfl
theorem say_48 (x : Int) : sayR (rowD 48) x = ⟨x / 268435456 % 16, 35, false, 2, x / 4096 % 16, x / 65536 % 16, x % 16, 0, 0, 0, 0, 0, (x / 16777216 % 2 == 1), (x / 8388608 % 2 == 1), (x / 2097152 % 2 == 1), 0, 0, 0, 0, 0⟩ :=
  (sayV_with _ _ _ x 35 (sop_48 x)).trans (by kernel_rfl)
theorem rmay_48 (c rd rn rm : Int) (p u w : Bool) : isa_may.f 64 ⟨c, 35, false, 2, rd, rn, rm, 0, 0, 0, 0, 0, p, u, w, 0, 0, 0, 0, 0⟩ = atlasref19_may.f 64 ⟨(rowD 48).1, (rowD 48).2.1, (rowD 48).2.2.1⟩ ⟨c, 35, false, 2, rd, rn, rm, 0, 0, 0, 0, 0, p, u, w, 0, 0, 0, 0, 0⟩ := by
  have h_d : atlasref19_Has.f 64 ⟨(rowD 48).1, (rowD 48).2.1, (rowD 48).2.2.1⟩ 100 = some true := by kernel_rfl
  have h_n : atlasref19_Has.f 64 ⟨(rowD 48).1, (rowD 48).2.1, (rowD 48).2.2.1⟩ 110 = some true := by kernel_rfl
  have h_m : atlasref19_Has.f 64 ⟨(rowD 48).1, (rowD 48).2.1, (rowD 48).2.2.1⟩ 109 = some true := by kernel_rfl
  have h_r : atlasref19_Has.f 64 ⟨(rowD 48).1, (rowD 48).2.1, (rowD 48).2.2.1⟩ 114 = some false := by kernel_rfl
  have h_a : atlasref19_Has.f 64 ⟨(rowD 48).1, (rowD 48).2.1, (rowD 48).2.2.1⟩ 97 = some false := by kernel_rfl
  have h_f : (rowD 48).2.1 = 2 := by kernel_rfl
  generalize g0 : (c == 15) = b0
  generalize g3 : (rn == 15) = b3
  generalize g4 : (rn == rd) = b4
  generalize g5 : (rd == 15) = b5
  generalize g6 : (rm == 15) = b6
  unfold isa_may.f isa_may.q0.l isa_wide.f atlasref19_may.f atlasref19_may.q0.l atlasref19_may.q1.l atlasref19_may.q2.l atlasref19_may.q3.l atlasref19_may.q4.l atlasref19_may.q5.l atlasref19_may.q6.l atlasref19_may.q7.l atlasref19_any15.f
  simp only [any15_8, h_d, h_n, h_m, h_r, h_a, h_f, bne, Option.bind_some, g0, g3, g4, g5, g6]
  cases b0 <;> cases w <;> cases p <;> cases b3 <;> cases b4 <;> cases b5 <;> cases b6 <;> rfl
theorem sop_49 (x : Int) : sayOp (rowD 49).1 (rowD 49).2.2.1 x = 36 := by kernel_rfl
theorem say_49 (x : Int) : sayR (rowD 49) x = ⟨x / 268435456 % 16, 36, false, 2, x / 4096 % 16, x / 65536 % 16, x % 16, 0, 0, 0, 0, 0, (x / 16777216 % 2 == 1), (x / 8388608 % 2 == 1), (x / 2097152 % 2 == 1), 0, 0, 0, 0, 0⟩ :=
  (sayV_with _ _ _ x 36 (sop_49 x)).trans (by kernel_rfl)
theorem rmay_49 (c rd rn rm : Int) (p u w : Bool) : isa_may.f 64 ⟨c, 36, false, 2, rd, rn, rm, 0, 0, 0, 0, 0, p, u, w, 0, 0, 0, 0, 0⟩ = atlasref19_may.f 64 ⟨(rowD 49).1, (rowD 49).2.1, (rowD 49).2.2.1⟩ ⟨c, 36, false, 2, rd, rn, rm, 0, 0, 0, 0, 0, p, u, w, 0, 0, 0, 0, 0⟩ := by
  have h_d : atlasref19_Has.f 64 ⟨(rowD 49).1, (rowD 49).2.1, (rowD 49).2.2.1⟩ 100 = some true := by kernel_rfl
  have h_n : atlasref19_Has.f 64 ⟨(rowD 49).1, (rowD 49).2.1, (rowD 49).2.2.1⟩ 110 = some true := by kernel_rfl
  have h_m : atlasref19_Has.f 64 ⟨(rowD 49).1, (rowD 49).2.1, (rowD 49).2.2.1⟩ 109 = some true := by kernel_rfl
  have h_r : atlasref19_Has.f 64 ⟨(rowD 49).1, (rowD 49).2.1, (rowD 49).2.2.1⟩ 114 = some false := by kernel_rfl
  have h_a : atlasref19_Has.f 64 ⟨(rowD 49).1, (rowD 49).2.1, (rowD 49).2.2.1⟩ 97 = some false := by kernel_rfl
  have h_f : (rowD 49).2.1 = 2 := by kernel_rfl
  generalize g0 : (c == 15) = b0
  generalize g3 : (rn == 15) = b3
  generalize g4 : (rn == rd) = b4
  generalize g5 : (rd == 15) = b5
  generalize g6 : (rm == 15) = b6
  unfold isa_may.f isa_may.q0.l isa_wide.f atlasref19_may.f atlasref19_may.q0.l atlasref19_may.q1.l atlasref19_may.q2.l atlasref19_may.q3.l atlasref19_may.q4.l atlasref19_may.q5.l atlasref19_may.q6.l atlasref19_may.q7.l atlasref19_any15.f
  simp only [any15_8, h_d, h_n, h_m, h_r, h_a, h_f, bne, Option.bind_some, g0, g3, g4, g5, g6]
  cases b0 <;> cases w <;> cases p <;> cases b3 <;> cases b4 <;> cases b5 <;> cases b6 <;> rfl
theorem sop_50 (x : Int) : sayOp (rowD 50).1 (rowD 50).2.2.1 x = 37 := by kernel_rfl
theorem say_50 (x : Int) : sayR (rowD 50) x = ⟨x / 268435456 % 16, 37, false, 2, x / 4096 % 16, x / 65536 % 16, x % 16, 0, 0, 0, 0, 0, (x / 16777216 % 2 == 1), (x / 8388608 % 2 == 1), (x / 2097152 % 2 == 1), 0, 0, 0, 0, 0⟩ :=
  (sayV_with _ _ _ x 37 (sop_50 x)).trans (by kernel_rfl)
theorem rmay_50 (c rd rn rm : Int) (p u w : Bool) : isa_may.f 64 ⟨c, 37, false, 2, rd, rn, rm, 0, 0, 0, 0, 0, p, u, w, 0, 0, 0, 0, 0⟩ = atlasref19_may.f 64 ⟨(rowD 50).1, (rowD 50).2.1, (rowD 50).2.2.1⟩ ⟨c, 37, false, 2, rd, rn, rm, 0, 0, 0, 0, 0, p, u, w, 0, 0, 0, 0, 0⟩ := by
  have h_d : atlasref19_Has.f 64 ⟨(rowD 50).1, (rowD 50).2.1, (rowD 50).2.2.1⟩ 100 = some true := by kernel_rfl
  have h_n : atlasref19_Has.f 64 ⟨(rowD 50).1, (rowD 50).2.1, (rowD 50).2.2.1⟩ 110 = some true := by kernel_rfl
  have h_m : atlasref19_Has.f 64 ⟨(rowD 50).1, (rowD 50).2.1, (rowD 50).2.2.1⟩ 109 = some true := by kernel_rfl
  have h_r : atlasref19_Has.f 64 ⟨(rowD 50).1, (rowD 50).2.1, (rowD 50).2.2.1⟩ 114 = some false := by kernel_rfl
  have h_a : atlasref19_Has.f 64 ⟨(rowD 50).1, (rowD 50).2.1, (rowD 50).2.2.1⟩ 97 = some false := by kernel_rfl
  have h_f : (rowD 50).2.1 = 2 := by kernel_rfl
  generalize g0 : (c == 15) = b0
  generalize g3 : (rn == 15) = b3
  generalize g4 : (rn == rd) = b4
  generalize g5 : (rd == 15) = b5
  generalize g6 : (rm == 15) = b6
  unfold isa_may.f isa_may.q0.l isa_wide.f atlasref19_may.f atlasref19_may.q0.l atlasref19_may.q1.l atlasref19_may.q2.l atlasref19_may.q3.l atlasref19_may.q4.l atlasref19_may.q5.l atlasref19_may.q6.l atlasref19_may.q7.l atlasref19_any15.f
  simp only [any15_8, h_d, h_n, h_m, h_r, h_a, h_f, bne, Option.bind_some, g0, g3, g4, g5, g6]
  cases b0 <;> cases w <;> cases p <;> cases b3 <;> cases b4 <;> cases b5 <;> cases b6 <;> rfl
theorem sop_51 (x : Int) : sayOp (rowD 51).1 (rowD 51).2.2.1 x = 38 := by kernel_rfl
theorem say_51 (x : Int) : sayR (rowD 51) x = ⟨x / 268435456 % 16, 38, false, 2, x / 4096 % 16, x / 65536 % 16, x % 16, 0, 0, 0, 0, 0, (x / 16777216 % 2 == 1), (x / 8388608 % 2 == 1), (x / 2097152 % 2 == 1), 0, 0, 0, 0, 0⟩ :=
  (sayV_with _ _ _ x 38 (sop_51 x)).trans (by kernel_rfl)
theorem rmay_51 (c rd rn rm : Int) (p u w : Bool) : isa_may.f 64 ⟨c, 38, false, 2, rd, rn, rm, 0, 0, 0, 0, 0, p, u, w, 0, 0, 0, 0, 0⟩ = atlasref19_may.f 64 ⟨(rowD 51).1, (rowD 51).2.1, (rowD 51).2.2.1⟩ ⟨c, 38, false, 2, rd, rn, rm, 0, 0, 0, 0, 0, p, u, w, 0, 0, 0, 0, 0⟩ := by
  have h_d : atlasref19_Has.f 64 ⟨(rowD 51).1, (rowD 51).2.1, (rowD 51).2.2.1⟩ 100 = some true := by kernel_rfl
  have h_n : atlasref19_Has.f 64 ⟨(rowD 51).1, (rowD 51).2.1, (rowD 51).2.2.1⟩ 110 = some true := by kernel_rfl
  have h_m : atlasref19_Has.f 64 ⟨(rowD 51).1, (rowD 51).2.1, (rowD 51).2.2.1⟩ 109 = some true := by kernel_rfl
  have h_r : atlasref19_Has.f 64 ⟨(rowD 51).1, (rowD 51).2.1, (rowD 51).2.2.1⟩ 114 = some false := by kernel_rfl
  have h_a : atlasref19_Has.f 64 ⟨(rowD 51).1, (rowD 51).2.1, (rowD 51).2.2.1⟩ 97 = some false := by kernel_rfl
  have h_f : (rowD 51).2.1 = 2 := by kernel_rfl
  generalize g0 : (c == 15) = b0
  generalize g3 : (rn == 15) = b3
  generalize g4 : (rn == rd) = b4
  generalize g5 : (rd == 15) = b5
  generalize g6 : (rm == 15) = b6
  unfold isa_may.f isa_may.q0.l isa_wide.f atlasref19_may.f atlasref19_may.q0.l atlasref19_may.q1.l atlasref19_may.q2.l atlasref19_may.q3.l atlasref19_may.q4.l atlasref19_may.q5.l atlasref19_may.q6.l atlasref19_may.q7.l atlasref19_any15.f
  simp only [any15_8, h_d, h_n, h_m, h_r, h_a, h_f, bne, Option.bind_some, g0, g3, g4, g5, g6]
  cases b0 <;> cases w <;> cases p <;> cases b3 <;> cases b4 <;> cases b5 <;> cases b6 <;> rfl
theorem sop_52 (x : Int) : sayOp (rowD 52).1 (rowD 52).2.2.1 x = 39 := by kernel_rfl
theorem say_52 (x : Int) : sayR (rowD 52) x = ⟨x / 268435456 % 16, 39, false, 0, 0, x / 65536 % 16, 0, 0, 0, 0, 0, 0, (x / 16777216 % 2 == 1), (x / 8388608 % 2 == 1), (x / 2097152 % 2 == 1), IntKind.wrap .u16 (x % 65536), 0, 0, 0, 0⟩ :=
  (sayV_with _ _ _ x 39 (sop_52 x)).trans (by kernel_rfl)
theorem rmay_52 (c rn li : Int) (p u w : Bool) (l0 : 0 ≤ li) (l1 : li < 65536) (n0 : 0 ≤ rn) (n1 : rn < 16) : isa_may.f 64 ⟨c, 39, false, 0, 0, rn, 0, 0, 0, 0, 0, 0, p, u, w, li, 0, 0, 0, 0⟩ = atlasref19_may.f 64 ⟨(rowD 52).1, (rowD 52).2.1, (rowD 52).2.2.1⟩ ⟨c, 39, false, 0, 0, rn, 0, 0, 0, 0, 0, 0, p, u, w, li, 0, 0, 0, 0⟩ := by
  have h_d : atlasref19_Has.f 64 ⟨(rowD 52).1, (rowD 52).2.1, (rowD 52).2.2.1⟩ 100 = some false := by kernel_rfl
  have h_n : atlasref19_Has.f 64 ⟨(rowD 52).1, (rowD 52).2.1, (rowD 52).2.2.1⟩ 110 = some true := by kernel_rfl
  have h_m : atlasref19_Has.f 64 ⟨(rowD 52).1, (rowD 52).2.1, (rowD 52).2.2.1⟩ 109 = some false := by kernel_rfl
  have h_r : atlasref19_Has.f 64 ⟨(rowD 52).1, (rowD 52).2.1, (rowD 52).2.2.1⟩ 114 = some false := by kernel_rfl
  have h_a : atlasref19_Has.f 64 ⟨(rowD 52).1, (rowD 52).2.1, (rowD 52).2.2.1⟩ 97 = some false := by kernel_rfl
  have h_f : (rowD 52).2.1 = 0 := by kernel_rfl
  have y1 := list_bit li rn l0 l1 n0 n1
  have y2 := list_15 li l0 l1
  generalize g0 : (c == 15) = b0
  generalize g1 : (li == 0) = b1
  generalize g2 : (rn == 15) = b2
  generalize g4 : (Int.tmod (shrI .u16 li (IntKind.wrap .u64 rn)) 2 == 1) = b4 at *
  generalize g5 : (Int.tmod (shrI .u16 li (IntKind.wrap .u64 15)) 2 == 1) = b5 at *
  unfold isa_may.f isa_may.q0.l isa_wide.f atlasref19_may.f atlasref19_may.q0.l atlasref19_may.q1.l atlasref19_may.q2.l atlasref19_may.q3.l atlasref19_may.q4.l atlasref19_may.q5.l atlasref19_may.q6.l atlasref19_may.q7.l atlasref19_any15.f atlasref19_listed.f
  simp only [any15_8, h_d, h_n, h_m, h_r, h_a, h_f, bne, Option.bind_some, y1, y2, rn_low, g0, g1, g2, g4, g5]
  cases b0 <;> cases b1 <;> cases b2 <;> cases w <;> cases b4 <;> cases b5 <;> rfl
theorem sop_53 (x : Int) : sayOp (rowD 53).1 (rowD 53).2.2.1 x = 40 := by kernel_rfl
theorem say_53 (x : Int) : sayR (rowD 53) x = ⟨x / 268435456 % 16, 40, false, 0, 0, x / 65536 % 16, 0, 0, 0, 0, 0, 0, (x / 16777216 % 2 == 1), (x / 8388608 % 2 == 1), (x / 2097152 % 2 == 1), IntKind.wrap .u16 (x % 65536), 0, 0, 0, 0⟩ :=
  (sayV_with _ _ _ x 40 (sop_53 x)).trans (by kernel_rfl)
theorem rmay_53 (c rn li : Int) (p u w : Bool) (l0 : 0 ≤ li) (l1 : li < 65536) (n0 : 0 ≤ rn) (n1 : rn < 16) : isa_may.f 64 ⟨c, 40, false, 0, 0, rn, 0, 0, 0, 0, 0, 0, p, u, w, li, 0, 0, 0, 0⟩ = atlasref19_may.f 64 ⟨(rowD 53).1, (rowD 53).2.1, (rowD 53).2.2.1⟩ ⟨c, 40, false, 0, 0, rn, 0, 0, 0, 0, 0, 0, p, u, w, li, 0, 0, 0, 0⟩ := by
  have h_d : atlasref19_Has.f 64 ⟨(rowD 53).1, (rowD 53).2.1, (rowD 53).2.2.1⟩ 100 = some false := by kernel_rfl
  have h_n : atlasref19_Has.f 64 ⟨(rowD 53).1, (rowD 53).2.1, (rowD 53).2.2.1⟩ 110 = some true := by kernel_rfl
  have h_m : atlasref19_Has.f 64 ⟨(rowD 53).1, (rowD 53).2.1, (rowD 53).2.2.1⟩ 109 = some false := by kernel_rfl
  have h_r : atlasref19_Has.f 64 ⟨(rowD 53).1, (rowD 53).2.1, (rowD 53).2.2.1⟩ 114 = some false := by kernel_rfl
  have h_a : atlasref19_Has.f 64 ⟨(rowD 53).1, (rowD 53).2.1, (rowD 53).2.2.1⟩ 97 = some false := by kernel_rfl
  have h_f : (rowD 53).2.1 = 0 := by kernel_rfl
  have y1 := list_bit li rn l0 l1 n0 n1
  have y2 := list_15 li l0 l1
  generalize g0 : (c == 15) = b0
  generalize g1 : (li == 0) = b1
  generalize g2 : (rn == 15) = b2
  generalize g4 : (Int.tmod (shrI .u16 li (IntKind.wrap .u64 rn)) 2 == 1) = b4 at *
  generalize g5 : (Int.tmod (shrI .u16 li (IntKind.wrap .u64 15)) 2 == 1) = b5 at *
  unfold isa_may.f isa_may.q0.l isa_wide.f atlasref19_may.f atlasref19_may.q0.l atlasref19_may.q1.l atlasref19_may.q2.l atlasref19_may.q3.l atlasref19_may.q4.l atlasref19_may.q5.l atlasref19_may.q6.l atlasref19_may.q7.l atlasref19_any15.f atlasref19_listed.f
  simp only [any15_8, h_d, h_n, h_m, h_r, h_a, h_f, bne, Option.bind_some, y1, y2, rn_low, g0, g1, g2, g4, g5]
  cases b0 <;> cases b1 <;> cases b2 <;> cases w <;> cases b4 <;> cases b5 <;> rfl
end Go.Va
