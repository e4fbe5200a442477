/-
  The other rows of the decoder are laid back.
  Conditions: none.
-/
import Derived.Test.YtjlbmdcljikojaaPureIsaBack1
set_option linter.unusedVariables false
set_option linter.unusedSimpArgs false
set_option autoImplicit false
set_option maxRecDepth 10000
namespace Go.Va
theorem branch_eq (x : Int) (h0 : 0 ≤ x) (h1 : x < 4294967296) : shrI .u32 (shlI .u32 (IntKind.wrap .u32 (shrI .i32 (IntKind.wrap .i32 (shlI .u32 x 8)) 6)) 6) 8 = x % 16777216 := by
  have e1 : shlI .u32 x 8 = x * 256 % 4294967296 := by rfl
  have e2 : ∀ z : Int, IntKind.wrap .i32 z = if (true && decide (z % 4294967296 ≥ 2147483648)) = true then z % 4294967296 - 4294967296 else z % 4294967296 := fun z => by rfl
  have e3 : ∀ z : Int, shrI .i32 z 6 = z / 64 := fun z => by
    have : shrI .i32 z 6 = z.fdiv (2 ^ 6) := rfl
    rw [this, Int.fdiv_eq_ediv_of_nonneg _ (by decide)]; rfl
  have e4 : ∀ z : Int, shlI .u32 z 6 = z * 64 % 4294967296 := fun z => by rfl
  have e5 : ∀ z : Int, IntKind.wrap .u32 z = z % 4294967296 := fun z => by rfl
  have a : x * 256 % 4294967296 = x % 16777216 * 256 := by omega
  obtain ⟨d, hd⟩ : ∃ d, d = x % 16777216 := ⟨_, rfl⟩
  have d0 : 0 ≤ d := by omega
  have d1 : d < 16777216 := by omega
  rw [e1, a, ← hd, shr_8]
  clear hd a h0 h1
  rw [e4, e5, e3, e2]
  simp only [Bool.true_and, decide_eq_true_eq]
  split <;> omega

theorem single_row (x : Int) (h0 : 0 ≤ x) (h1 : x < 4294967296) (h26 : x / 67108864 % 4 = 1) (h4 : x / 33554432 % 2 = 1 → x / 16 % 2 = 0) : Rowed x (isa_single.f x (insC (x / 268435456 % 16))) := by
  have fin : ∀ op b l : Int, (op = 31 ∧ b = 0 ∧ l = 1 ∨ op = 32 ∧ b = 0 ∧ l = 0 ∨ op = 33 ∧ b = 1 ∧ l = 1 ∨ op = 34 ∧ b = 1 ∧ l = 0) → x / 4194304 % 2 = b → x / 1048576 % 2 = l →
      (x / 33554432 % 2 = 0 → isa_lay.f ⟨x / 268435456 % 16, op, false, 1, x / 4096 % 16, x / 65536 % 16, 0, 0, 0, x % 4096, 0, 0, (x / 16777216 % 2 == 1), (x / 8388608 % 2 == 1), (x / 2097152 % 2 == 1), 0, 0, 0, 0, 0⟩ = some x) ∧
      (x / 33554432 % 2 = 1 → isa_lay.f ⟨x / 268435456 % 16, op, false, 2, x / 4096 % 16, x / 65536 % 16, x % 16, 0, 0, 0, x / 32 % 4, x / 128 % 32, (x / 16777216 % 2 == 1), (x / 8388608 % 2 == 1), (x / 2097152 % 2 == 1), 0, 0, 0, 0, 0⟩ = some x) := by
    intro op b l hop hb hl
    have b0 : 0 ≤ b := by omega
    have b1 : b < 2 := by omega
    have l0 : 0 ≤ l := by omega
    have l1 : l < 2 := by omega
    refine ⟨fun h25 => ?_, fun h25 => ?_⟩
    · refine (w_singleI _ _ _ _ _ b l _ _ (by omega) (by omega) (by omega) (by omega) (by omega) (by omega) (by omega) (by omega) (by omega) (by omega) (by omega) (by omega) (by omega) (by omega) (by omega) (by omega) (by omega) (by omega) op hop).trans ?_
      clear hop
      congr 1; omega
    · have h4 := h4 h25
      refine (w_singleR _ _ _ _ _ b l _ _ _ _ (by omega) (by omega) (by omega) (by omega) (by omega) (by omega) (by omega) (by omega) (by omega) (by omega) (by omega) (by omega) (by omega) (by omega) (by omega) (by omega) (by omega) (by omega) (by omega) (by omega) (by omega) (by omega) op hop).trans ?_
      clear hop
      congr 1; omega
  have h25 : x / 33554432 % 2 = 0 ∨ x / 33554432 % 2 = 1 := by omega
  have last : ∀ op b l : Int, (op = 31 ∧ b = 0 ∧ l = 1 ∨ op = 32 ∧ b = 0 ∧ l = 0 ∨ op = 33 ∧ b = 1 ∧ l = 1 ∨ op = 34 ∧ b = 1 ∧ l = 0) → x / 4194304 % 2 = b → x / 1048576 % 2 = l →
      Rowed x (bif (!(x / 33554432 % 2 == 1)) then (some ⟨x / 268435456 % 16, op, false, 1, x / 4096 % 16, x / 65536 % 16, 0, 0, 0, IntKind.wrap .u32 (x % 4096), 0, 0, (x / 16777216 % 2 == 1), (x / 8388608 % 2 == 1), (x / 2097152 % 2 == 1), 0, 0, 0, 0, 0⟩) else (some ⟨x / 268435456 % 16, op, false, 2, x / 4096 % 16, x / 65536 % 16, x % 16, 0, 0, 0, x / 32 % 4, x / 128 % 32, (x / 16777216 % 2 == 1), (x / 8388608 % 2 == 1), (x / 2097152 % 2 == 1), 0, 0, 0, 0, 0⟩)) := by
    intro op b l hop hb hl
    have f := fin op b l hop hb hl
    rw [wrap_u32 (x % 4096) (by omega) (by omega)]
    rcases h25 with h25 | h25
    · rw [h25]; exact Rowed.is op rfl (by omega) (by omega) (f.1 h25)
    · rw [h25]; exact Rowed.is op rfl (by omega) (by omega) (f.2 h25)
  unfold isa_single.f
  simp only [get_31_28 h0 h1, get_27_25 h0 h1, get_27_24 h0 h1, get_24_24 h0 h1, get_24_23 h0 h1, get_24_21 h0 h1, get_23_21 h0 h1, get_23_0 h0 h1, get_22_22 h0 h1, get_22_20 h0 h1, get_20_20 h0 h1, get_19_16 h0 h1, get_19_8 h0 h1, get_15_12 h0 h1, get_11_10 h0 h1, get_11_8 h0 h1, get_11_7 h0 h1, get_11_0 h0 h1, get_7_5 h0 h1, get_7_4 h0 h1, get_6_5 h0 h1, get_3_0 h0 h1, bit_4 h0 h1, bit_7 h0 h1, bit_20 h0 h1, bit_21 h0 h1, bit_22 h0 h1, bit_23 h0 h1, bit_24 h0 h1, bit_25 h0 h1, Option.bind_some]
  have hb : x / 4194304 % 2 = 0 ∨ x / 4194304 % 2 = 1 := by omega
  have hl : x / 1048576 % 2 = 0 ∨ x / 1048576 % 2 = 1 := by omega
  rcases hb with hb | hb <;> rcases hl with hl | hl <;> simp only [hb, hl]
  · exact last 32 0 0 (by decide) hb hl
  · exact last 31 0 1 (by decide) hb hl
  · exact last 34 1 0 (by decide) hb hl
  · exact last 33 1 1 (by decide) hb hl

theorem media_row (x : Int) (h0 : 0 ≤ x) (h1 : x < 4294967296) (h25 : x / 33554432 % 8 = 3) : Rowed x (isa_media.f x (insC (x / 268435456 % 16))) := by
  unfold isa_media.f
  simp only [get_31_28 h0 h1, get_27_25 h0 h1, get_27_24 h0 h1, get_24_24 h0 h1, get_24_23 h0 h1, get_24_21 h0 h1, get_23_21 h0 h1, get_23_0 h0 h1, get_22_22 h0 h1, get_22_20 h0 h1, get_20_20 h0 h1, get_19_16 h0 h1, get_19_8 h0 h1, get_15_12 h0 h1, get_11_10 h0 h1, get_11_8 h0 h1, get_11_7 h0 h1, get_11_0 h0 h1, get_7_5 h0 h1, get_7_4 h0 h1, get_6_5 h0 h1, get_3_0 h0 h1, bit_4 h0 h1, bit_7 h0 h1, bit_20 h0 h1, bit_21 h0 h1, bit_22 h0 h1, bit_23 h0 h1, bit_24 h0 h1, bit_25 h0 h1, Option.bind_some]
  refine Rowed.bif (fun cm => ?_) fun _ => ?_
  · have m0 : x / 16 % 256 = 243 := mask_field 4 8 h0 h1 (by decide) (by decide) cm (by decide)
    have m1 : x / 65536 % 4096 = 1727 := mask_field 16 12 h0 h1 (by decide) (by decide) cm (by decide)
    exact Rowed.is 26 rfl (by decide) (by decide) ((w_rev _ _ _ (by omega) (by omega) (by omega) (by omega) (by omega) (by omega)).trans (by congr 1; omega))
  refine Rowed.bif (fun cm => ?_) fun _ => Rowed.none
  refine Rowed.bif (fun c3 => ?_) fun _ => Rowed.none
  have m0 : x / 16 % 64 = 7 := mask_field 4 6 h0 h1 (by decide) (by decide) cm (by decide)
  have m1 : x / 65536 % 16 = 15 := mask_field 16 4 h0 h1 (by decide) (by decide) cm (by decide)
  have m2 : x / 8388608 % 32 = 13 := mask_field 23 5 h0 h1 (by decide) (by decide) cm (by decide)
  have h : x / 1048576 % 8 = 0 ∨ x / 1048576 % 8 = 1 ∨ x / 1048576 % 8 = 2 ∨ x / 1048576 % 8 = 3 ∨ x / 1048576 % 8 = 4 ∨ x / 1048576 % 8 = 5 ∨ x / 1048576 % 8 = 6 ∨ x / 1048576 % 8 = 7 := by omega
  rcases h with h | h | h | h | h | h | h | h <;> simp only [h]
  · exact Rowed.none
  · exact Rowed.none
  · exact Rowed.is 29 rfl (by decide) (by decide) ((w_sxtb _ _ _ _ (by omega) (by omega) (by omega) (by omega) (by omega) (by omega) (by omega) (by omega)).trans (by congr 1; omega))
  · exact Rowed.is 30 rfl (by decide) (by decide) ((w_sxth _ _ _ _ (by omega) (by omega) (by omega) (by omega) (by omega) (by omega) (by omega) (by omega)).trans (by congr 1; omega))
  · exact Rowed.none
  · exact Rowed.none
  · exact Rowed.is 27 rfl (by decide) (by decide) ((w_uxtb _ _ _ _ (by omega) (by omega) (by omega) (by omega) (by omega) (by omega) (by omega) (by omega)).trans (by congr 1; omega))
  · exact Rowed.is 28 rfl (by decide) (by decide) ((w_uxth _ _ _ _ (by omega) (by omega) (by omega) (by omega) (by omega) (by omega) (by omega) (by omega)).trans (by congr 1; omega))

theorem rest_row (x : Int) (h0 : 0 ≤ x) (h1 : x < 4294967296) (h25 : 4 ≤ x / 33554432 % 8) : Rowed x (isa_rest.f x (insC (x / 268435456 % 16))) := by
  have hw : IntKind.wrap .u16 x = x % 65536 := by rfl
  have hm (h24 : x / 16777216 % 16 = 8 ∨ x / 16777216 % 16 = 9) : Rowed x (bif (x / 1048576 % 2 == 1) then (bif (x / 4194304 % 2 == 1) then some ⟨0, 0, false, 0, 0, 0, 0, 0, 0, 0, 0, 0, false, false, false, 0, 0, 0, 0, 0⟩ else some ⟨x / 268435456 % 16, 39, false, 0, 0, x / 65536 % 16, 0, 0, 0, 0, 0, 0, (x / 16777216 % 2 == 1), (x / 8388608 % 2 == 1), (x / 2097152 % 2 == 1), x % 65536, 0, 0, 0, 0⟩) else (bif (x / 4194304 % 2 == 1) then some ⟨0, 0, false, 0, 0, 0, 0, 0, 0, 0, 0, 0, false, false, false, 0, 0, 0, 0, 0⟩ else some ⟨x / 268435456 % 16, 40, false, 0, 0, x / 65536 % 16, 0, 0, 0, 0, 0, 0, (x / 16777216 % 2 == 1), (x / 8388608 % 2 == 1), (x / 2097152 % 2 == 1), x % 65536, 0, 0, 0, 0⟩)) := by
    have h27 : x / 33554432 % 8 = 4 := by omega
    clear h24 hw h25
    refine Rowed.bif (fun c1 => Rowed.bif (fun _ => Rowed.none) fun c2 => ?_) fun c1 => Rowed.bif (fun _ => Rowed.none) fun c2 => ?_
    · have c1 := beq_true c1
      have c2 := beq_false c2
      exact Rowed.is 39 rfl (by decide) (by decide) ((w_ldm _ _ _ _ _ _ (by omega) (by omega) (by omega) (by omega) (by omega) (by omega) (by omega) (by omega) (by omega) (by omega) (by omega) (by omega)).trans (by congr 1; omega))
    · have c1 := beq_false c1
      have c2 := beq_false c2
      exact Rowed.is 40 rfl (by decide) (by decide) ((w_stm _ _ _ _ _ _ (by omega) (by omega) (by omega) (by omega) (by omega) (by omega) (by omega) (by omega) (by omega) (by omega) (by omega) (by omega)).trans (by congr 1; omega))
  have hc (h24 : x / 16777216 % 16 = 14) : Rowed x (bif (!(x / 16 % 2 == 1)) then some ⟨0, 0, false, 0, 0, 0, 0, 0, 0, 0, 0, 0, false, false, false, 0, 0, 0, 0, 0⟩ else (bif (x / 256 % 16 != 15) then some ⟨0, 0, false, 0, 0, 0, 0, 0, 0, 0, 0, 0, false, false, false, 0, 0, 0, 0, 0⟩ else some ⟨x / 268435456 % 16, IntKind.wrap .i64 (49 + x / 1048576 % 2), false, 0, x / 4096 % 16, 0, 0, 0, 0, 0, 0, 0, false, false, false, 0, x / 65536 % 16, x / 2097152 % 8, x % 16, x / 32 % 8⟩)) := by
    refine Rowed.bif (fun _ => Rowed.none) fun c1 => Rowed.bif (fun _ => Rowed.none) fun c2 => ?_
    have c1 : x / 16 % 2 = 1 := by simpa using c1
    have c2 := bne_zero c2
    have hl : x / 1048576 % 2 = 0 ∨ x / 1048576 % 2 = 1 := by omega
    clear hm hw h25
    rcases hl with hl | hl <;> rw [hl]
    · exact Rowed.is 49 rfl (by decide) (by decide) ((w_mcr _ _ _ _ _ _ (by omega) (by omega) (by omega) (by omega) (by omega) (by omega) (by omega) (by omega) (by omega) (by omega) (by omega) (by omega)).trans (by congr 1; omega))
    · exact Rowed.is 50 rfl (by decide) (by decide) ((w_mrc _ _ _ _ _ _ (by omega) (by omega) (by omega) (by omega) (by omega) (by omega) (by omega) (by omega) (by omega) (by omega) (by omega) (by omega)).trans (by congr 1; omega))
  unfold isa_rest.f
  simp only [get_31_28 h0 h1, get_27_25 h0 h1, get_27_24 h0 h1, get_24_24 h0 h1, get_24_23 h0 h1, get_24_21 h0 h1, get_23_21 h0 h1, get_23_0 h0 h1, get_22_22 h0 h1, get_22_20 h0 h1, get_20_20 h0 h1, get_19_16 h0 h1, get_19_8 h0 h1, get_15_12 h0 h1, get_11_10 h0 h1, get_11_8 h0 h1, get_11_7 h0 h1, get_11_0 h0 h1, get_7_5 h0 h1, get_7_4 h0 h1, get_6_5 h0 h1, get_3_0 h0 h1, bit_4 h0 h1, bit_7 h0 h1, bit_20 h0 h1, bit_21 h0 h1, bit_22 h0 h1, bit_23 h0 h1, bit_24 h0 h1, bit_25 h0 h1, Option.bind_some, hw]
  have h : x / 16777216 % 16 = 8 ∨ x / 16777216 % 16 = 9 ∨ x / 16777216 % 16 = 10 ∨ x / 16777216 % 16 = 11 ∨ x / 16777216 % 16 = 12 ∨ x / 16777216 % 16 = 13 ∨ x / 16777216 % 16 = 14 ∨ x / 16777216 % 16 = 15 := by omega
  rcases h with h | h | h | h | h | h | h | h <;> simp only [h]
  · exact hm (Or.inl h)
  · exact hm (Or.inr h)
  · have h2 : x / 16777216 % 2 = 0 := by omega
    rw [h2]
    exact Rowed.is 41 rfl (by decide) (by decide) ((w_b _ (x % 16777216) (by omega) (by omega) (by omega) (by omega) _ (branch_eq x h0 h1)).trans (by congr 1; omega))
  · have h2 : x / 16777216 % 2 = 1 := by omega
    rw [h2]
    exact Rowed.is 42 rfl (by decide) (by decide) ((w_bl _ (x % 16777216) (by omega) (by omega) (by omega) (by omega) _ (branch_eq x h0 h1)).trans (by congr 1; omega))
  · exact Rowed.none
  · exact Rowed.none
  · exact hc h
  · rw [wrap_u32 (x % 16777216) (by omega) (by omega)]
    exact Rowed.is 45 rfl (by decide) (by decide) ((w_svc _ _ (by omega) (by omega) (by omega) (by omega)).trans (by congr 1; omega))
end Go.Va
