/-
  What the decoder's first look answers is laid back.
  Conditions: none.
-/
import Derived.Test.YtjlbmdcljikojaaPureIsaBack2
set_option linter.unusedVariables false
set_option linter.unusedSimpArgs false
set_option autoImplicit false
set_option maxRecDepth 10000
namespace Go.Va
theorem first_row (k : Nat) (x : Int) (h0 : 0 ≤ x) (h1 : x < 4294967296) (h25 : x / 33554432 % 8 = 0) : Rowed x (isa_first.f k x (insC (x / 268435456 % 16))) := by
  unfold isa_first.f isa_first.q0.l
  simp only [get_31_28 h0 h1, get_27_25 h0 h1, get_27_24 h0 h1, get_24_24 h0 h1, get_24_23 h0 h1, get_24_21 h0 h1, get_23_21 h0 h1, get_23_0 h0 h1, get_22_22 h0 h1, get_22_20 h0 h1, get_20_20 h0 h1, get_19_16 h0 h1, get_19_8 h0 h1, get_15_12 h0 h1, get_11_10 h0 h1, get_11_8 h0 h1, get_11_7 h0 h1, get_11_0 h0 h1, get_7_5 h0 h1, get_7_4 h0 h1, get_6_5 h0 h1, get_3_0 h0 h1, bit_4 h0 h1, bit_7 h0 h1, bit_20 h0 h1, bit_21 h0 h1, bit_22 h0 h1, bit_23 h0 h1, bit_24 h0 h1, bit_25 h0 h1, Option.bind_some, cond_bind, Option.bind_assoc]
  repeat' first
    | exact Rowed.eta (product_row x h0 h1 h25 (by omega))
    | exact Rowed.eta (halves_row x h0 h1 h25 (by omega) (by omega))
    | exact Rowed.eta (special_row x h0 h1 h25)
    | exact Rowed.eta (data_reg x h0 h1 h25 (by omega))
    | exact Rowed.eta (data_rsr x h0 h1 h25 (by omega) (by omega))
    | (refine Rowed.bif (fun c => ?_) (fun c => ?_) <;> simp only [beq_iff_eq, beq_eq_false_iff_ne, ne_eq, Bool.not_eq_true', Bool.not_eq_false'] at c)
theorem says_row (k : Nat) (x : Int) (h0 : 0 ≤ x) (h1 : x < 4294967296) : Rowed x (isa_says.f k x) := by
  unfold isa_says.f
  simp only [get_31_28 h0 h1, get_27_25 h0 h1, get_27_24 h0 h1, get_24_24 h0 h1, get_24_23 h0 h1, get_24_21 h0 h1, get_23_21 h0 h1, get_23_0 h0 h1, get_22_22 h0 h1, get_22_20 h0 h1, get_20_20 h0 h1, get_19_16 h0 h1, get_19_8 h0 h1, get_15_12 h0 h1, get_11_10 h0 h1, get_11_8 h0 h1, get_11_7 h0 h1, get_11_0 h0 h1, get_7_5 h0 h1, get_7_4 h0 h1, get_6_5 h0 h1, get_3_0 h0 h1, bit_4 h0 h1, bit_7 h0 h1, bit_20 h0 h1, bit_21 h0 h1, bit_22 h0 h1, bit_23 h0 h1, bit_24 h0 h1, bit_25 h0 h1, Option.bind_some]
  repeat' first
    | exact Rowed.eta (first_row k x h0 h1 (by omega))
    | exact Rowed.eta (second_row x h0 h1 (by omega))
    | exact Rowed.eta (media_row x h0 h1 (by omega))
    | exact Rowed.eta (single_row x h0 h1 (by omega) (by omega))
    | exact Rowed.eta (rest_row x h0 h1 (by omega))
    | (refine Rowed.bif (fun c => ?_) (fun c => ?_) <;> simp only [beq_iff_eq, beq_eq_false_iff_ne, ne_eq, Bool.not_eq_true', Bool.not_eq_false'] at c)
end Go.Va
