/-
  What a word's row says is laid as that word.
  Conditions: none.
-/
import Derived.Test.YtjlbmdcljikojaaPureIsaWord
set_option linter.unusedVariables false
set_option autoImplicit false
set_option maxRecDepth 10000
namespace Go.Va

theorem orI_assoc (a b c : Int) (ha : 0 ≤ a) (ha' : a < 4294967296) : orI .u32 (orI .u32 a b) c = orI .u32 a (orI .u32 b c) := by
  have hb : IntKind.u32.bits = 32 := rfl
  have key : ∀ x y : Int, BitVec.ofInt 32 (orI .u32 x y) = BitVec.ofInt 32 x ||| BitVec.ofInt 32 y := by
    intro x y
    unfold orI
    rw [hb]
    have l := (BitVec.ofInt 32 x ||| BitVec.ofInt 32 y).isLt
    rw [wrap_u32 _ (by omega) (by omega)]
    apply BitVec.eq_of_toNat_eq
    rw [ofInt_toNat _ (by omega) (by omega), Int.toNat_natCast]
  show IntKind.wrap .u32 _ = IntKind.wrap .u32 _
  rw [hb, key, key, BitVec.or_assoc]

theorem or_low {a v : Int} (n : Nat) (ha : 0 ≤ a) (ha' : a < 4294967296) (hv : 0 ≤ v) (hv' : v < 2 ^ n) (hs : n ≤ 32) (hd : a % 2 ^ n = 0) : orI .u32 a v = a + v := by
  have := or_field a v 0 n ha ha' hv hv' (by omega) (by simpa using hd)
  simpa using this

theorem and_15 {v : Int} (h0 : 0 ≤ v) (h1 : v < 4294967296) : andI .u32 v 15 = v % 16 := by have := and_low v 4 (by decide) h0 h1; exact this
theorem and_4095 {v : Int} (h0 : 0 ≤ v) (h1 : v < 4294967296) : andI .u32 v 4095 = v % 4096 := by have := and_low v 12 (by decide) h0 h1; exact this
theorem shr_4 (v : Int) : shrI .u32 v 4 = v / 16 := by have := shr_u32 v 4 (by decide) (by decide); exact this
theorem shr_12 (v : Int) : shrI .u32 v 12 = v / 4096 := by have := shr_u32 v 12 (by decide) (by decide); exact this
theorem shr_8 (v : Int) : shrI .u32 v 8 = v / 256 := by have := shr_u32 v 8 (by decide) (by decide); exact this

theorem two_i64 (r s : Int) (hr : 0 ≤ r) (hr' : r < 4096) (hs : 0 ≤ s) (hs' : s < 16) : IntKind.wrap .u32 (orI .i64 (shlI .i64 r 4) s) = r * 16 + s := by
  obtain ⟨R, rfl⟩ := Int.eq_ofNat_of_zero_le hr
  obtain ⟨S, rfl⟩ := Int.eq_ofNat_of_zero_le hs
  have e1 : shlI .i64 (R : Int) 4 = ((R * 16 : Nat) : Int) := by
    have : shlI .i64 (R : Int) 4 = IntKind.wrap .i64 (R * 2 ^ 4) := rfl
    rw [this, wrap_i64 _ (by omega) (by omega)]; simp
  have hb : IntKind.i64.bits = 64 := rfl
  have t : ∀ n : Nat, n < 2 ^ 64 → (BitVec.ofInt 64 (n : Int)).toNat = n := by
    intro n hn
    rw [BitVec.toNat_ofInt]
    have : (n : Int) % ((2 ^ 64 : Nat) : Int) = n := Int.emod_eq_of_lt (by omega) (by omega)
    rw [this]; rfl
  have key : R * 16 ||| S = R * 16 + S := by
    have := Nat.two_pow_add_eq_or_of_lt (i := 4) (b := S) (by omega) R
    have e : 2 ^ 4 * R = R * 16 := by omega
    rw [e] at this; exact this.symm
  rw [e1]
  unfold orI
  rw [hb, BitVec.toNat_or, t _ (by omega), t _ (by omega), key, wrap_i64 _ (by omega) (by omega), wrap_u32 _ (by omega) (by omega)]
  simp

theorem mask_field {x m c : Int} (lo n : Nat) (h0 : 0 ≤ x) (h1 : x < 4294967296) (hm : 0 ≤ m) (hm' : m < 4294967296) (h : (andI .u32 x m == c) = true) (hf : m / 2 ^ lo % 2 ^ n = 2 ^ n - 1) : x / 2 ^ lo % 2 ^ n = c / 2 ^ lo % 2 ^ n := by
  have h := eq_of_beq h
  subst h
  obtain ⟨X, rfl⟩ := Int.eq_ofNat_of_zero_le h0
  obtain ⟨M, rfl⟩ := Int.eq_ofNat_of_zero_le hm
  have hb : IntKind.u32.bits = 32 := rfl
  have e : andI .u32 (X : Int) (M : Int) = ((X &&& M : Nat) : Int) := by
    unfold andI
    rw [hb, BitVec.toNat_and, ofInt_toNat _ (by omega) h1, ofInt_toNat _ (by omega) hm', Int.toNat_natCast, Int.toNat_natCast]
    have : X &&& M ≤ X := Nat.and_le_left
    exact wrap_u32 _ (by omega) (by omega)
  rw [e]
  have hM : M / 2 ^ lo % 2 ^ n = 2 ^ n - 1 := by
    have q : 0 < 2 ^ n := Nat.two_pow_pos n
    have : ((M / 2 ^ lo % 2 ^ n : Nat) : Int) = ((2 ^ n - 1 : Nat) : Int) := by rw [Int.natCast_sub q]; simpa using hf
    exact_mod_cast this
  have : X / 2 ^ lo % 2 ^ n = (X &&& M) / 2 ^ lo % 2 ^ n := by
    rw [Nat.and_div_two_pow, Nat.and_mod_two_pow, hM, Nat.and_two_pow_sub_one_eq_mod, Nat.mod_mod]
  exact_mod_cast this

abbrev insC (c : Int) : T26 := ⟨c, 0, false, 0, 0, 0, 0, 0, 0, 0, 0, 0, false, false, false, 0, 0, 0, 0, 0⟩
/-- What a row answers: no instruction, or one whose word this is. -/
def Rowed (x : Int) (r : Option T26) : Prop := ∃ j, r = some j ∧ (j = T26.z ∨ (1 ≤ j.f1_Op ∧ j.f1_Op ≤ 52 ∧ isa_lay.f j = some x))
theorem Rowed.none {x : Int} : Rowed x (some ⟨0, 0, false, 0, 0, 0, 0, 0, 0, 0, 0, 0, false, false, false, 0, 0, 0, 0, 0⟩) := ⟨_, rfl, Or.inl rfl⟩
theorem Rowed.bif {x : Int} {b : Bool} {p q : Option T26} (h1 : b = true → Rowed x p) (h2 : b = false → Rowed x q) : Rowed x (bif b then p else q) := by cases b; exact h2 rfl; exact h1 rfl
theorem Rowed.is {x : Int} {j : T26} (op : Int) (e : j.f1_Op = op) (h1 : 1 ≤ op) (h2 : op ≤ 52) (h : isa_lay.f j = some x) : Rowed x (some j) := ⟨j, rfl, Or.inr ⟨e ▸ h1, e ▸ h2, h⟩⟩
theorem Rowed.eta {x : Int} {r : Option T26} (h : Rowed x r) : Rowed x (r.bind fun r3 => (some (⟨r3.f0_Cond, r3.f1_Op, r3.f2_S, r3.f3_Form, r3.f4_Rd, r3.f5_Rn, r3.f6_Rm, r3.f7_Rs, r3.f8_Ra, r3.f9_Imm, r3.f10_Shift, r3.f11_Amount, r3.f12_Pre, r3.f13_Up, r3.f14_Write, r3.f15_List, r3.f16_Tuple_CRn, r3.f17_Tuple_Op1, r3.f18_Tuple_CRm, r3.f19_Tuple_Op2⟩ : T26))) := by cases r <;> exact h
theorem or_144 {a : Int} (ha : 0 ≤ a) (ha' : a < 4294967296) (h0 : a / 16 % 16 = 0) : orI .u32 a 144 = a + 144 := by
  have s0 : orI .u32 a 144 = a + 144 := or_field a 9 4 4 ha ha' (by decide) (by decide) (by decide) h0
  exact s0
theorem or_24055568 {a : Int} (ha : 0 ≤ a) (ha' : a < 4294967296) (h0 : a / 65536 % 4096 = 0) (h1 : a / 16 % 256 = 0) : orI .u32 a 24055568 = a + 24055568 := by
  have e : orI .u32 a 24055568 = orI .u32 a (orI .u32 24051712 3856) := by congr 1
  rw [e]
  rw [← orI_assoc _ _ _ ha ha']
  have s0 : orI .u32 a 24051712 = a + 24051712 := or_field a 367 16 12 ha ha' (by decide) (by decide) (by decide) h0
  rw [s0]
  have s1 : orI .u32 (a + 24051712) 3856 = a + 24051712 + 3856 := or_field (a + 24051712) 241 4 8 (by omega) (by omega) (by decide) (by decide) (by decide) (by simp only [Int.reducePow]; omega)
  rw [s1]; omega
theorem or_113184560 {a : Int} (ha : 0 ≤ a) (ha' : a < 4294967296) (h0 : a / 65536 % 4096 = 0) (h1 : a / 16 % 256 = 0) : orI .u32 a 113184560 = a + 113184560 := by
  have e : orI .u32 a 113184560 = orI .u32 a (orI .u32 113180672 3888) := by congr 1
  rw [e]
  rw [← orI_assoc _ _ _ ha ha']
  have s0 : orI .u32 a 113180672 = a + 113180672 := or_field a 1727 16 12 ha ha' (by decide) (by decide) (by decide) h0
  rw [s0]
  have s1 : orI .u32 (a + 113180672) 3888 = a + 113180672 + 3888 := or_field (a + 113180672) 243 4 8 (by omega) (by omega) (by decide) (by decide) (by decide) (by simp only [Int.reducePow]; omega)
  rw [s1]; omega
theorem or_116326512 {a : Int} (ha : 0 ≤ a) (ha' : a < 4294967296) (h0 : a / 65536 % 4096 = 0) (h1 : a / 16 % 64 = 0) : orI .u32 a 116326512 = a + 116326512 := by
  have e : orI .u32 a 116326512 = orI .u32 a (orI .u32 116326400 112) := by congr 1
  rw [e]
  rw [← orI_assoc _ _ _ ha ha']
  have s0 : orI .u32 a 116326400 = a + 116326400 := or_field a 1775 16 12 ha ha' (by decide) (by decide) (by decide) h0
  rw [s0]
  have s1 : orI .u32 (a + 116326400) 112 = a + 116326400 + 112 := or_field (a + 116326400) 7 4 6 (by omega) (by omega) (by decide) (by decide) (by decide) (by simp only [Int.reducePow]; omega)
  rw [s1]; omega
theorem or_117375088 {a : Int} (ha : 0 ≤ a) (ha' : a < 4294967296) (h0 : a / 65536 % 4096 = 0) (h1 : a / 16 % 64 = 0) : orI .u32 a 117375088 = a + 117375088 := by
  have e : orI .u32 a 117375088 = orI .u32 a (orI .u32 117374976 112) := by congr 1
  rw [e]
  rw [← orI_assoc _ _ _ ha ha']
  have s0 : orI .u32 a 117374976 = a + 117374976 := or_field a 1791 16 12 ha ha' (by decide) (by decide) (by decide) h0
  rw [s0]
  have s1 : orI .u32 (a + 117374976) 112 = a + 117374976 + 112 := or_field (a + 117374976) 7 4 6 (by omega) (by omega) (by decide) (by decide) (by decide) (by simp only [Int.reducePow]; omega)
  rw [s1]; omega
theorem or_112132208 {a : Int} (ha : 0 ≤ a) (ha' : a < 4294967296) (h0 : a / 65536 % 4096 = 0) (h1 : a / 16 % 64 = 0) : orI .u32 a 112132208 = a + 112132208 := by
  have e : orI .u32 a 112132208 = orI .u32 a (orI .u32 112132096 112) := by congr 1
  rw [e]
  rw [← orI_assoc _ _ _ ha ha']
  have s0 : orI .u32 a 112132096 = a + 112132096 := or_field a 1711 16 12 ha ha' (by decide) (by decide) (by decide) h0
  rw [s0]
  have s1 : orI .u32 (a + 112132096) 112 = a + 112132096 + 112 := or_field (a + 112132096) 7 4 6 (by omega) (by omega) (by decide) (by decide) (by decide) (by simp only [Int.reducePow]; omega)
  rw [s1]; omega
theorem or_113180784 {a : Int} (ha : 0 ≤ a) (ha' : a < 4294967296) (h0 : a / 65536 % 4096 = 0) (h1 : a / 16 % 64 = 0) : orI .u32 a 113180784 = a + 113180784 := by
  have e : orI .u32 a 113180784 = orI .u32 a (orI .u32 113180672 112) := by congr 1
  rw [e]
  rw [← orI_assoc _ _ _ ha ha']
  have s0 : orI .u32 a 113180672 = a + 113180672 := or_field a 1727 16 12 ha ha' (by decide) (by decide) (by decide) h0
  rw [s0]
  have s1 : orI .u32 (a + 113180672) 112 = a + 113180672 + 112 := or_field (a + 113180672) 7 4 6 (by omega) (by omega) (by decide) (by decide) (by decide) (by simp only [Int.reducePow]; omega)
  rw [s1]; omega
theorem or_67108864 {a : Int} (ha : 0 ≤ a) (ha' : a < 4294967296) (h0 : a / 67108864 % 2 = 0) : orI .u32 a 67108864 = a + 67108864 := by
  have s0 : orI .u32 a 67108864 = a + 67108864 := or_field a 1 26 1 ha ha' (by decide) (by decide) (by decide) h0
  exact s0
theorem or_134217728 {a : Int} (ha : 0 ≤ a) (ha' : a < 4294967296) (h0 : a / 134217728 % 2 = 0) : orI .u32 a 134217728 = a + 134217728 := by
  have s0 : orI .u32 a 134217728 = a + 134217728 := or_field a 1 27 1 ha ha' (by decide) (by decide) (by decide) h0
  exact s0
theorem or_19922704 {a : Int} (ha : 0 ≤ a) (ha' : a < 4294967296) (h0 : a / 16 % 16777216 = 0) : orI .u32 a 19922704 = a + 19922704 := by
  have s0 : orI .u32 a 19922704 = a + 19922704 := or_field a 1245169 4 24 ha ha' (by decide) (by decide) (by decide) h0
  exact s0
theorem or_19922736 {a : Int} (ha : 0 ≤ a) (ha' : a < 4294967296) (h0 : a / 16 % 16777216 = 0) : orI .u32 a 19922736 = a + 19922736 := by
  have s0 : orI .u32 a 19922736 = a + 19922736 := or_field a 1245171 4 24 ha ha' (by decide) (by decide) (by decide) h0
  exact s0
theorem or_251658240 {a : Int} (ha : 0 ≤ a) (ha' : a < 4294967296) (h0 : a / 16777216 % 16 = 0) : orI .u32 a 251658240 = a + 251658240 := by
  have s0 : orI .u32 a 251658240 = a + 251658240 := or_field a 15 24 4 ha ha' (by decide) (by decide) (by decide) h0
  exact s0
theorem or_18874480 {a : Int} (ha : 0 ≤ a) (ha' : a < 4294967296) (h0 : a / 1048576 % 256 = 0) (h1 : a / 16 % 16 = 0) : orI .u32 a 18874480 = a + 18874480 := by
  have e : orI .u32 a 18874480 = orI .u32 a (orI .u32 18874368 112) := by congr 1
  rw [e]
  rw [← orI_assoc _ _ _ ha ha']
  have s0 : orI .u32 a 18874368 = a + 18874368 := or_field a 18 20 8 ha ha' (by decide) (by decide) (by decide) h0
  rw [s0]
  have s1 : orI .u32 (a + 18874368) 112 = a + 18874368 + 112 := or_field (a + 18874368) 7 4 4 (by omega) (by omega) (by decide) (by decide) (by decide) (by simp only [Int.reducePow]; omega)
  rw [s1]; omega
theorem or_17760256 {a : Int} (ha : 0 ≤ a) (ha' : a < 4294967296) (h0 : a / 8388608 % 32 = 0) (h1 : a / 65536 % 64 = 0) : orI .u32 a 17760256 = a + 17760256 := by
  have e : orI .u32 a 17760256 = orI .u32 a (orI .u32 16777216 983040) := by congr 1
  rw [e]
  rw [← orI_assoc _ _ _ ha ha']
  have s0 : orI .u32 a 16777216 = a + 16777216 := or_field a 2 23 5 ha ha' (by decide) (by decide) (by decide) h0
  rw [s0]
  have s1 : orI .u32 (a + 16777216) 983040 = a + 16777216 + 983040 := or_field (a + 16777216) 15 16 6 (by omega) (by omega) (by decide) (by decide) (by decide) (by simp only [Int.reducePow]; omega)
  rw [s1]; omega
theorem or_18935808 {a : Int} (ha : 0 ≤ a) (ha' : a < 4294967296) (h0 : a / 8388608 % 32 = 0) (h1 : a / 1048576 % 4 = 0) (h2 : a / 4096 % 16 = 0) : orI .u32 a 18935808 = a + 18935808 := by
  have e : orI .u32 a 18935808 = orI .u32 a (orI .u32 (orI .u32 16777216 2097152) 61440) := by congr 1
  rw [e]
  rw [orI_assoc _ _ _ (by decide) (by decide), ← orI_assoc _ _ _ ha ha']
  have s0 : orI .u32 a 16777216 = a + 16777216 := or_field a 2 23 5 ha ha' (by decide) (by decide) (by decide) h0
  rw [s0, ← orI_assoc _ _ _ (by omega) (by omega)]
  have s1 : orI .u32 (a + 16777216) 2097152 = a + 16777216 + 2097152 := or_field (a + 16777216) 2 20 2 (by omega) (by omega) (by decide) (by decide) (by decide) (by simp only [Int.reducePow]; omega)
  rw [s1]
  have s2 : orI .u32 (a + 16777216 + 2097152) 61440 = a + 16777216 + 2097152 + 61440 := or_field (a + 16777216 + 2097152) 15 12 4 (by omega) (by omega) (by decide) (by decide) (by decide) (by simp only [Int.reducePow]; omega)
  rw [s2]; omega
theorem or_33554432 {a : Int} (ha : 0 ≤ a) (ha' : a < 4294967296) (h0 : a / 33554432 % 2 = 0) : orI .u32 a 33554432 = a + 33554432 := by
  have s0 : orI .u32 a 33554432 = a + 33554432 := or_field a 1 25 1 ha ha' (by decide) (by decide) (by decide) h0
  exact s0
theorem or_234884880 {a : Int} (ha : 0 ≤ a) (ha' : a < 4294967296) (h0 : a / 16777216 % 16 = 0) (h1 : a / 256 % 16 = 0) (h2 : a / 16 % 2 = 0) : orI .u32 a 234884880 = a + 234884880 := by
  have e : orI .u32 a 234884880 = orI .u32 a (orI .u32 (orI .u32 234881024 3840) 16) := by congr 1
  rw [e]
  rw [orI_assoc _ _ _ (by decide) (by decide), ← orI_assoc _ _ _ ha ha']
  have s0 : orI .u32 a 234881024 = a + 234881024 := or_field a 14 24 4 ha ha' (by decide) (by decide) (by decide) h0
  rw [s0, ← orI_assoc _ _ _ (by omega) (by omega)]
  have s1 : orI .u32 (a + 234881024) 3840 = a + 234881024 + 3840 := or_field (a + 234881024) 15 8 4 (by omega) (by omega) (by decide) (by decide) (by decide) (by simp only [Int.reducePow]; omega)
  rw [s1]
  have s2 : orI .u32 (a + 234881024 + 3840) 16 = a + 234881024 + 3840 + 16 := or_field (a + 234881024 + 3840) 1 4 1 (by omega) (by omega) (by decide) (by decide) (by decide) (by simp only [Int.reducePow]; omega)
  rw [s2]; omega
theorem or_52490240 {a : Int} (ha : 0 ≤ a) (ha' : a < 4294967296) (h0 : a / 1 % 268435456 = 0) : orI .u32 a 52490240 = a + 52490240 := by
  have s0 : orI .u32 a 52490240 = a + 52490240 := or_field a 52490240 0 28 ha ha' (by decide) (by decide) (by decide) h0
  exact s0
theorem or_52490243 {a : Int} (ha : 0 ≤ a) (ha' : a < 4294967296) (h0 : a / 1 % 268435456 = 0) : orI .u32 a 52490243 = a + 52490243 := by
  have s0 : orI .u32 a 52490243 = a + 52490243 := or_field a 52490243 0 28 ha ha' (by decide) (by decide) (by decide) h0
  exact s0
theorem or_144b {a : Int} (ha : 0 ≤ a) (ha' : a < 4294967296) (h0 : a / 128 % 2 = 0) (h1 : a / 16 % 2 = 0) : orI .u32 a 144 = a + 144 := by
  have e : orI .u32 a 144 = orI .u32 a (orI .u32 128 16) := by congr 1
  rw [e]
  rw [← orI_assoc _ _ _ ha ha']
  have s0 : orI .u32 a 128 = a + 128 := or_field a 1 7 1 ha ha' (by decide) (by decide) (by decide) h0
  rw [s0]
  have s1 : orI .u32 (a + 128) 16 = a + 128 + 16 := or_field (a + 128) 1 4 1 (by omega) (by omega) (by decide) (by decide) (by decide) (by simp only [Int.reducePow]; omega)
  rw [s1]; omega
end Go.Va
