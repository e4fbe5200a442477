/-
  Each row of the decoder is laid back.
  Conditions: none.
-/
import Derived.Test.YtjlbmdcljikojaaPureIsaRowt
set_option linter.unusedVariables false
set_option linter.unusedSimpArgs false
set_option autoImplicit false
set_option maxRecDepth 10000
namespace Go.Va
theorem bne_zero {a : Int} {b : Int} (h : (a != b) = false) : a = b := by simpa using h
theorem beq_true {a : Int} {b : Int} (h : (a == b) = true) : a = b := by simpa using h
theorem beq_false {a : Int} {b : Int} (h : (a == b) = false) : a ≠ b := by simpa using h

theorem product_row (x : Int) (h0 : 0 ≤ x) (h1 : x < 4294967296) (h25 : x / 33554432 % 8 = 0) (h4 : x / 16 % 16 = 9) : Rowed x (isa_product.f x (insC (x / 268435456 % 16))) := by
  unfold isa_product.f
  simp only [get_31_28 h0 h1, get_27_25 h0 h1, get_27_24 h0 h1, get_24_24 h0 h1, get_24_23 h0 h1, get_24_21 h0 h1, get_23_21 h0 h1, get_23_0 h0 h1, get_22_22 h0 h1, get_22_20 h0 h1, get_20_20 h0 h1, get_19_16 h0 h1, get_19_8 h0 h1, get_15_12 h0 h1, get_11_10 h0 h1, get_11_8 h0 h1, get_11_7 h0 h1, get_11_0 h0 h1, get_7_5 h0 h1, get_7_4 h0 h1, get_6_5 h0 h1, get_3_0 h0 h1, bit_4 h0 h1, bit_7 h0 h1, bit_20 h0 h1, bit_21 h0 h1, bit_22 h0 h1, bit_23 h0 h1, bit_24 h0 h1, bit_25 h0 h1, Option.bind_some]
  refine Rowed.bif (fun _ => Rowed.none) fun c1 => ?_
  have c1 : x / 16777216 % 16 = 0 := bne_zero c1
  have h : x / 2097152 % 8 = 0 ∨ x / 2097152 % 8 = 1 ∨ x / 2097152 % 8 = 2 ∨ x / 2097152 % 8 = 3 ∨ x / 2097152 % 8 = 4 ∨ x / 2097152 % 8 = 5 ∨ x / 2097152 % 8 = 6 ∨ x / 2097152 % 8 = 7 := by omega
  have fin : ∀ op n : Int, x / 2097152 % 8 = n → (op = 19 ∧ n = 0 ∨ op = 20 ∧ n = 1 ∨ op = 21 ∧ n = 4 ∨ op = 22 ∧ n = 5 ∨ op = 23 ∧ n = 6 ∨ op = 24 ∧ n = 7) →
      isa_lay.f ⟨x / 268435456 % 16, op, (x / 1048576 % 2 == 1), 0, x / 65536 % 16, 0, x % 16, x / 256 % 16, x / 4096 % 16, 0, 0, 0, false, false, false, 0, 0, 0, 0, 0⟩ = some x := by
    intro op n hn hop
    exact (w_prod _ n _ _ _ _ _ (by omega) (by omega) (by omega) (by omega) (by omega) (by omega) (by omega) (by omega) (by omega) (by omega) (by omega) (by omega) (by omega) (by omega) op hop).trans (by congr 1; omega)
  rcases h with h | h | h | h | h | h | h | h <;> simp only [h]
  · show Rowed x (bif x / 4096 % 16 != 0 then _ else _)
    refine Rowed.bif (fun _ => Rowed.none) fun c2 => ?_
    exact Rowed.is 19 rfl (by decide) (by decide) (fin _ _ h (by decide))
  · exact Rowed.is 20 rfl (by decide) (by decide) (fin _ _ h (by decide))
  · exact Rowed.none
  · exact Rowed.none
  · exact Rowed.is 21 rfl (by decide) (by decide) (fin _ _ h (by decide))
  · exact Rowed.is 22 rfl (by decide) (by decide) (fin _ _ h (by decide))
  · exact Rowed.is 23 rfl (by decide) (by decide) (fin _ _ h (by decide))
  · exact Rowed.is 24 rfl (by decide) (by decide) (fin _ _ h (by decide))

theorem data_row (x : Int) (h0 : 0 ≤ x) (h1 : x < 4294967296) (form rm rs imm sh am : Int)
    (h : isa_lay.f ⟨x / 268435456 % 16, x / 2097152 % 16 + 1, (x / 1048576 % 2 == 1), form, x / 4096 % 16, x / 65536 % 16, rm, rs, 0, imm, sh, am, false, false, false, 0, 0, 0, 0, 0⟩ = some x) :
    Rowed x (isa_data.f x ⟨x / 268435456 % 16, 0, false, form, 0, 0, rm, rs, 0, imm, sh, am, false, false, false, 0, 0, 0, 0, 0⟩) := by
  unfold isa_data.f isa_compares.f isa_moves.f
  simp only [get_31_28 h0 h1, get_27_25 h0 h1, get_27_24 h0 h1, get_24_24 h0 h1, get_24_23 h0 h1, get_24_21 h0 h1, get_23_21 h0 h1, get_23_0 h0 h1, get_22_22 h0 h1, get_22_20 h0 h1, get_20_20 h0 h1, get_19_16 h0 h1, get_19_8 h0 h1, get_15_12 h0 h1, get_11_10 h0 h1, get_11_8 h0 h1, get_11_7 h0 h1, get_11_0 h0 h1, get_7_5 h0 h1, get_7_4 h0 h1, get_6_5 h0 h1, get_3_0 h0 h1, bit_4 h0 h1, bit_7 h0 h1, bit_20 h0 h1, bit_21 h0 h1, bit_22 h0 h1, bit_23 h0 h1, bit_24 h0 h1, bit_25 h0 h1, Option.bind_some, wrap_i64 (x / 2097152 % 16 + 1) (by omega) (by omega), cond_bind]
  repeat' first
    | exact Rowed.none
    | exact Rowed.is (x / 2097152 % 16 + 1) rfl (by omega) (by omega) h
    | refine Rowed.bif (fun _ => ?_) fun _ => ?_

theorem data_reg (x : Int) (h0 : 0 ≤ x) (h1 : x < 4294967296) (h25 : x / 33554432 % 8 = 0) (h4 : x / 16 % 2 = 0) : Rowed x (isa_data.f x ⟨x / 268435456 % 16, 0, false, 2, 0, 0, x % 16, 0, 0, 0, x / 32 % 4, x / 128 % 32, false, false, false, 0, 0, 0, 0, 0⟩) :=
  data_row x h0 h1 _ _ _ _ _ _ ((w_reg _ _ _ _ _ _ _ _ (by omega) (by omega) (by omega) (by omega) (by omega) (by omega) (by omega) (by omega) (by omega) (by omega) (by omega) (by omega) (by omega) (by omega) (by omega) (by omega)).trans (by congr 1; omega))
theorem data_rsr (x : Int) (h0 : 0 ≤ x) (h1 : x < 4294967296) (h25 : x / 33554432 % 8 = 0) (h4 : x / 16 % 2 = 1) (h7 : x / 128 % 2 = 0) : Rowed x (isa_data.f x ⟨x / 268435456 % 16, 0, false, 3, 0, 0, x % 16, x / 256 % 16, 0, 0, x / 32 % 4, 0, false, false, false, 0, 0, 0, 0, 0⟩) :=
  data_row x h0 h1 _ _ _ _ _ _ ((w_rsr _ _ _ _ _ _ _ _ (by omega) (by omega) (by omega) (by omega) (by omega) (by omega) (by omega) (by omega) (by omega) (by omega) (by omega) (by omega) (by omega) (by omega) (by omega) (by omega)).trans (by congr 1; omega))
theorem data_imm (x : Int) (h0 : 0 ≤ x) (h1 : x < 4294967296) (h25 : x / 33554432 % 8 = 1) : Rowed x (isa_data.f x ⟨x / 268435456 % 16, 0, false, 1, 0, 0, 0, 0, 0, x % 4096, 0, 0, false, false, false, 0, 0, 0, 0, 0⟩) :=
  data_row x h0 h1 _ _ _ _ _ _ ((w_imm _ _ _ _ _ _ (by omega) (by omega) (by omega) (by omega) (by omega) (by omega) (by omega) (by omega) (by omega) (by omega) (by omega) (by omega)).trans (by congr 1; omega))

theorem halves_row (x : Int) (h0 : 0 ≤ x) (h1 : x < 4294967296) (h25 : x / 33554432 % 8 = 0) (h4 : x / 16 % 2 = 1) (h7 : x / 128 % 2 = 1) : Rowed x (isa_halves.f x (insC (x / 268435456 % 16))) := by
  have fi : ∀ op k l : Int, (op = 35 ∧ k = 1 ∧ l = 1 ∨ op = 36 ∧ k = 1 ∧ l = 0 ∨ op = 37 ∧ k = 2 ∧ l = 1 ∨ op = 38 ∧ k = 3 ∧ l = 1) → x / 1048576 % 2 = l → x / 32 % 4 = k → x / 4194304 % 2 = 1 →
      isa_lay.f ⟨x / 268435456 % 16, op, false, 1, x / 4096 % 16, x / 65536 % 16, 0, 0, 0, x / 256 % 16 * 16 + x % 16, 0, 0, (x / 16777216 % 2 == 1), (x / 8388608 % 2 == 1), (x / 2097152 % 2 == 1), 0, 0, 0, 0, 0⟩ = some x := by
    intro op k l hop hl hk h22
    exact (w_halfI _ _ _ _ _ _ l k _ _ (by omega) (by omega) (by omega) (by omega) (by omega) (by omega) (by omega) (by omega) (by omega) (by omega) (by omega) (by omega) (by omega) (by omega) (by omega) (by omega) (by omega) (by omega) (by omega) (by omega) op hop).trans (by congr 1; omega)
  have fr : ∀ op k l : Int, (op = 35 ∧ k = 1 ∧ l = 1 ∨ op = 36 ∧ k = 1 ∧ l = 0 ∨ op = 37 ∧ k = 2 ∧ l = 1 ∨ op = 38 ∧ k = 3 ∧ l = 1) → x / 1048576 % 2 = l → x / 32 % 4 = k → x / 4194304 % 2 = 0 → x / 256 % 16 = 0 →
      isa_lay.f ⟨x / 268435456 % 16, op, false, 2, x / 4096 % 16, x / 65536 % 16, x % 16, 0, 0, 0, 0, 0, (x / 16777216 % 2 == 1), (x / 8388608 % 2 == 1), (x / 2097152 % 2 == 1), 0, 0, 0, 0, 0⟩ = some x := by
    intro op k l hop hl hk h22 h8
    exact (w_halfR _ _ _ _ _ _ l k _ (by omega) (by omega) (by omega) (by omega) (by omega) (by omega) (by omega) (by omega) (by omega) (by omega) (by omega) (by omega) (by omega) (by omega) (by omega) (by omega) (by omega) (by omega) op hop).trans (by congr 1; omega)
  have hl : x / 1048576 % 2 = 0 ∨ x / 1048576 % 2 = 1 := by omega
  have hk : x / 32 % 4 = 0 ∨ x / 32 % 4 = 1 ∨ x / 32 % 4 = 2 ∨ x / 32 % 4 = 3 := by omega
  have last : ∀ op : Int, isa_half.f (x / 1048576 % 2 == 1) (x / 32 % 4) = some op → (op = 0 ∨ ∃ k l : Int, (op = 35 ∧ k = 1 ∧ l = 1 ∨ op = 36 ∧ k = 1 ∧ l = 0 ∨ op = 37 ∧ k = 2 ∧ l = 1 ∨ op = 38 ∧ k = 3 ∧ l = 1) ∧ x / 1048576 % 2 = l ∧ x / 32 % 4 = k) → Rowed x (isa_halves.f x (insC (x / 268435456 % 16))) := by
    intro op hop hc
    unfold isa_halves.f
    simp only [get_31_28 h0 h1, get_27_25 h0 h1, get_27_24 h0 h1, get_24_24 h0 h1, get_24_23 h0 h1, get_24_21 h0 h1, get_23_21 h0 h1, get_23_0 h0 h1, get_22_22 h0 h1, get_22_20 h0 h1, get_20_20 h0 h1, get_19_16 h0 h1, get_19_8 h0 h1, get_15_12 h0 h1, get_11_10 h0 h1, get_11_8 h0 h1, get_11_7 h0 h1, get_11_0 h0 h1, get_7_5 h0 h1, get_7_4 h0 h1, get_6_5 h0 h1, get_3_0 h0 h1, bit_4 h0 h1, bit_7 h0 h1, bit_20 h0 h1, bit_21 h0 h1, bit_22 h0 h1, bit_23 h0 h1, bit_24 h0 h1, bit_25 h0 h1, Option.bind_some, hop, two_i64 (x / 256 % 16) (x % 16) (by omega) (by omega) (by omega) (by omega)]
    refine Rowed.bif (fun c1 => Rowed.bif (fun _ => Rowed.none) fun c2 => ?_) fun c1 => Rowed.bif (fun _ => Rowed.none) fun c2 => Rowed.bif (fun _ => Rowed.none) fun c3 => ?_
    · rcases hc with rfl | ⟨k, l, hop, hl, hk⟩
      · cases c2
      · exact Rowed.is op rfl (by omega) (by omega) (fi op k l hop hl hk (beq_true c1))
    · rcases hc with rfl | ⟨k, l, hop, hl, hk⟩
      · cases c3
      · have c1 := beq_false c1
        exact Rowed.is op rfl (by omega) (by omega) (fr op k l hop hl hk (by omega) (bne_zero c2))
  rcases hl with hl | hl <;> rcases hk with hk | hk | hk | hk
  · exact last 0 (by rw [hl, hk]; rfl) (Or.inl rfl)
  · exact last 36 (by rw [hl, hk]; rfl) (Or.inr ⟨1, 0, by decide, hl, hk⟩)
  · exact last 0 (by rw [hl, hk]; rfl) (Or.inl rfl)
  · exact last 0 (by rw [hl, hk]; rfl) (Or.inl rfl)
  · exact last 0 (by rw [hl, hk]; rfl) (Or.inl rfl)
  · exact last 35 (by rw [hl, hk]; rfl) (Or.inr ⟨1, 1, by decide, hl, hk⟩)
  · exact last 37 (by rw [hl, hk]; rfl) (Or.inr ⟨2, 1, by decide, hl, hk⟩)
  · exact last 38 (by rw [hl, hk]; rfl) (Or.inr ⟨3, 1, by decide, hl, hk⟩)

theorem special_row (x : Int) (h0 : 0 ≤ x) (h1 : x < 4294967296) (h25 : x / 33554432 % 8 = 0) : Rowed x (isa_special.f x (insC (x / 268435456 % 16))) := by
  have rest : Rowed x (bif ((andI .u32 x 263258096) == 18935808) then some ⟨x / 268435456 % 16, 48, (x / 4194304 % 2 == 1), 2, 0, 0, x % 16, 0, 0, 0, 0, x / 65536 % 16, false, false, false, 0, 0, 0, 0, 0⟩ else (bif ((andI .u32 x 268435440) == 19922704) then some ⟨x / 268435456 % 16, 43, false, 0, 0, 0, x % 16, 0, 0, 0, 0, 0, false, false, false, 0, 0, 0, 0, 0⟩ else (bif ((andI .u32 x 268435440) == 19922736) then some ⟨x / 268435456 % 16, 44, false, 0, 0, 0, x % 16, 0, 0, 0, 0, 0, false, false, false, 0, 0, 0, 0, 0⟩ else (bif ((andI .u32 x 267387120) == 18874480) then some ⟨x / 268435456 % 16, 46, false, 0, 0, 0, 0, 0, 0, x / 256 % 4096 * 16 + x % 16, 0, 0, false, false, false, 0, 0, 0, 0, 0⟩ else (bif ((andI .u32 x 268374000) == 24055568) then some ⟨x / 268435456 % 16, 25, false, 0, x / 4096 % 16, 0, x % 16, 0, 0, 0, 0, 0, false, false, false, 0, 0, 0, 0, 0⟩ else some ⟨0, 0, false, 0, 0, 0, 0, 0, 0, 0, 0, 0, false, false, false, 0, 0, 0, 0, 0⟩))))) := by
    refine Rowed.bif (fun cm => ?_) fun _ => ?_
    · have m0 : x / 16 % 4096 = 3840 := mask_field 4 12 h0 h1 (by decide) (by decide) cm (by decide)
      have m1 : x / 1048576 % 4 = 2 := mask_field 20 2 h0 h1 (by decide) (by decide) cm (by decide)
      have m2 : x / 8388608 % 32 = 2 := mask_field 23 5 h0 h1 (by decide) (by decide) cm (by decide)
      exact Rowed.is 48 rfl (by decide) (by decide) ((w_msr _ _ _ _ (by omega) (by omega) (by omega) (by omega) (by omega) (by omega) (by omega) (by omega)).trans (by congr 1; omega))
    refine Rowed.bif (fun cm => ?_) fun _ => ?_
    · have m0 : x / 16 % 16777216 = 1245169 := mask_field 4 24 h0 h1 (by decide) (by decide) cm (by decide)
      exact Rowed.is 43 rfl (by decide) (by decide) ((w_bx _ _ (by omega) (by omega) (by omega) (by omega)).trans (by congr 1; omega))
    refine Rowed.bif (fun cm => ?_) fun _ => ?_
    · have m0 : x / 16 % 16777216 = 1245171 := mask_field 4 24 h0 h1 (by decide) (by decide) cm (by decide)
      exact Rowed.is 44 rfl (by decide) (by decide) ((w_blx _ _ (by omega) (by omega) (by omega) (by omega)).trans (by congr 1; omega))
    refine Rowed.bif (fun cm => ?_) fun _ => ?_
    · have m0 : x / 16 % 16 = 7 := mask_field 4 4 h0 h1 (by decide) (by decide) cm (by decide)
      have m1 : x / 1048576 % 256 = 18 := mask_field 20 8 h0 h1 (by decide) (by decide) cm (by decide)
      exact Rowed.is 46 rfl (by decide) (by decide) ((w_bkpt _ _ _ (by omega) (by omega) (by omega) (by omega) (by omega) (by omega)).trans (by congr 1; omega))
    refine Rowed.bif (fun cm => ?_) fun _ => ?_
    · have m0 : x / 16 % 256 = 241 := mask_field 4 8 h0 h1 (by decide) (by decide) cm (by decide)
      have m1 : x / 65536 % 4096 = 367 := mask_field 16 12 h0 h1 (by decide) (by decide) cm (by decide)
      exact Rowed.is 25 rfl (by decide) (by decide) ((w_clz _ _ _ (by omega) (by omega) (by omega) (by omega) (by omega) (by omega)).trans (by congr 1; omega))
    exact Rowed.none
  unfold isa_special.f
  simp only [get_31_28 h0 h1, get_27_25 h0 h1, get_27_24 h0 h1, get_24_24 h0 h1, get_24_23 h0 h1, get_24_21 h0 h1, get_23_21 h0 h1, get_23_0 h0 h1, get_22_22 h0 h1, get_22_20 h0 h1, get_20_20 h0 h1, get_19_16 h0 h1, get_19_8 h0 h1, get_15_12 h0 h1, get_11_10 h0 h1, get_11_8 h0 h1, get_11_7 h0 h1, get_11_0 h0 h1, get_7_5 h0 h1, get_7_4 h0 h1, get_6_5 h0 h1, get_3_0 h0 h1, bit_4 h0 h1, bit_7 h0 h1, bit_20 h0 h1, bit_21 h0 h1, bit_22 h0 h1, bit_23 h0 h1, bit_24 h0 h1, bit_25 h0 h1, Option.bind_some, two_i64 (x / 256 % 4096) (x % 16) (by omega) (by omega) (by omega) (by omega)]
  refine Rowed.bif (fun cm => ?_) fun _ => rest
  refine Rowed.bif (fun c2 => ?_) fun _ => rest
  refine Rowed.bif (fun c3 => ?_) fun _ => rest
  have c2 := beq_true c2
  have c3 := beq_true c3
  have m0 : x / 16 % 256 = 0 := mask_field 4 8 h0 h1 (by decide) (by decide) cm (by decide)
  have m1 : x / 1048576 % 4 = 0 := mask_field 20 2 h0 h1 (by decide) (by decide) cm (by decide)
  have m2 : x / 8388608 % 32 = 2 := mask_field 23 5 h0 h1 (by decide) (by decide) cm (by decide)
  exact Rowed.is 47 rfl (by decide) (by decide) ((w_mrs _ _ _ (by omega) (by omega) (by omega) (by omega) (by omega) (by omega)).trans (by congr 1; omega))

theorem second_row (x : Int) (h0 : 0 ≤ x) (h1 : x < 4294967296) (h25 : x / 33554432 % 8 = 1) : Rowed x (isa_second.f x (insC (x / 268435456 % 16))) := by
  have two : orI .u32 (x % 4096) (shlI .u32 (IntKind.wrap .u32 (x / 65536 % 16)) 12) = x % 4096 + x / 65536 % 16 * 4096 := by
    have e : shlI .u32 (IntKind.wrap .u32 (x / 65536 % 16)) 12 = x / 65536 % 16 * 2 ^ 12 := by
      rw [wrap_u32 _ (by omega) (by omega)]
      show IntKind.wrap .u32 (x / 65536 % 16 * 2 ^ 12) = _
      rw [wrap_u32 _ (by omega) (by omega)]
    rw [e, or_field (x % 4096) (x / 65536 % 16) 12 4 (by omega) (by omega) (by omega) (by omega) (by decide) (by simp only [Int.reducePow]; omega)]
    rfl
  unfold isa_second.f
  simp only [get_31_28 h0 h1, get_27_25 h0 h1, get_27_24 h0 h1, get_24_24 h0 h1, get_24_23 h0 h1, get_24_21 h0 h1, get_23_21 h0 h1, get_23_0 h0 h1, get_22_22 h0 h1, get_22_20 h0 h1, get_20_20 h0 h1, get_19_16 h0 h1, get_19_8 h0 h1, get_15_12 h0 h1, get_11_10 h0 h1, get_11_8 h0 h1, get_11_7 h0 h1, get_11_0 h0 h1, get_7_5 h0 h1, get_7_4 h0 h1, get_6_5 h0 h1, get_3_0 h0 h1, bit_4 h0 h1, bit_7 h0 h1, bit_20 h0 h1, bit_21 h0 h1, bit_22 h0 h1, bit_23 h0 h1, bit_24 h0 h1, bit_25 h0 h1, Option.bind_some, wrap_u32 (x % 4096) (by omega) (by omega), two]
  refine Rowed.bif (fun _ => Rowed.eta (data_imm x h0 h1 h25)) fun c1 => ?_
  refine Rowed.bif (fun _ => Rowed.eta (data_imm x h0 h1 h25)) fun c2 => ?_
  have c1 := bne_zero c1
  have c2 := beq_false c2
  refine Rowed.bif (fun c3 => ?_) fun c3 => ?_
  · have c3 := beq_true c3
    exact Rowed.is 17 rfl (by decide) (by decide) ((w_movw _ _ _ _ (by omega) (by omega) (by omega) (by omega) (by omega) (by omega) (by omega) (by omega)).trans (by congr 1; omega))
  refine Rowed.bif (fun c4 => ?_) fun c4 => ?_
  · have c4 := beq_true c4
    exact Rowed.is 18 rfl (by decide) (by decide) ((w_movt _ _ _ _ (by omega) (by omega) (by omega) (by omega) (by omega) (by omega) (by omega) (by omega)).trans (by congr 1; omega))
  refine Rowed.bif (fun cm => ?_) fun _ => ?_
  · have m0 : x / 1 % 268435456 = 52490240 := mask_field 0 28 h0 h1 (by decide) (by decide) cm (by decide)
    have z : x % 4096 = 0 := by omega
    rw [z]
    exact Rowed.is 51 rfl (by decide) (by decide) ((w_nop _ (by omega) (by omega)).trans (by congr 1; omega))
  refine Rowed.bif (fun cm => ?_) fun _ => ?_
  · have m0 : x / 1 % 268435456 = 52490243 := mask_field 0 28 h0 h1 (by decide) (by decide) cm (by decide)
    exact Rowed.is 52 rfl (by decide) (by decide) ((w_wfi _ (by omega) (by omega)).trans (by congr 1; omega))
  refine Rowed.bif (fun c5 => ?_) fun _ => Rowed.none
  have c5 := beq_true c5
  have c3 := beq_false c3
  have c4 := beq_false c4
  exact Rowed.is 48 rfl (by decide) (by decide) ((w_msi _ _ _ _ (by omega) (by omega) (by omega) (by omega) (by omega) (by omega) (by omega) (by omega)).trans (by congr 1; omega))
end Go.Va
