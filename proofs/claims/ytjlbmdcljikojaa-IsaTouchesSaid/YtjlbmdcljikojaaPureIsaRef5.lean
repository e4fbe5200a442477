/-
  What the program's first look answers is what the reference finds.
  Conditions: none.
-/
import Derived.Test.YtjlbmdcljikojaaPureIsaRef4
set_option linter.unusedVariables false
set_option linter.unusedSimpArgs false
set_option autoImplicit false
set_option maxRecDepth 10000
namespace Go.Va
theorem Same.is2 {w : Int} {j : T26} (w0 : 0 ≤ w) (w1 : w < 4294967296) (q k : Nat) (FL NL : List (Nat × Nat × Nat)) (NM : List (Nat × Nat)) (op : Option Nat) (h1 : Known w FL) (h2 : KnownN w NL) (h3 : KnownM w NM) (h4 : OpIs w op)
    (hk : keepR FL NL NM op = [rowD q, rowD k]) (hq : passV w (rowD q) = false) (hc : ((consts (rowD k)).all fun t => (bitsOf FL).contains t) = true) (hok : okR (rowD k) = true) (o1 : 1 ≤ j.f1_Op) (hin : ((rowD k).1.any fun y => y == j.f1_Op) = true) (hs : sayR (rowD k) w = j)
    (hm : isa_may.f 64 j = atlasref19_may.f 64 ⟨(rowD k).1, (rowD k).2.1, (rowD k).2.2.1⟩ j) : Same w (some j) := by
  refine ⟨j, rfl, .inr ⟨o1, k, hm, hok, ?_⟩⟩
  rw [first_out (l := rowsV) (fun r hr => out_pass w0 w1 h1 h2 h3 h4 hr)]
  unfold keepR at hk
  rw [hk]
  have hf : fitsL (rowD k).2.2.1.data.toList 32 w = true := by
    rw [fitsL_consts]
    refine List.all_eq_true.2 (fun t ht => ?_)
    have := List.all_eq_true.1 hc t ht
    exact beq_iff_eq.2 (known_bit w0 h1 (by simpa using this))
  have hp : passV w (rowD k) = mayV (rowD k) j := by simp only [passV, hf, hs, hin, Bool.true_and]
  simp only [firstV, hq, cond_false, hp, hs]
theorem pass_31 (x : Int) (h : x / 65536 % 16 = 0) : passV x (rowD 31) = false := by
  have e : mayV (rowD 31) (sayR (rowD 31) x) = false := by
    unfold mayV
    rw [say_31, ← rmay_31, h]
    have : ∀ c imm s, isa_may.f 64 ⟨c, 48, s, 1, 0, 0, 0, 0, 0, imm, 0, 0, false, false, false, 0, 0, 0, 0, 0⟩ = some false := fun c imm s => by
      unfold isa_may.f
      cases (c == 15) <;> rfl
    rw [this]
  unfold passV
  rw [e, Bool.and_false]
theorem product_same (x : Int) (h0 : 0 ≤ x) (h1 : x < 4294967296) (h25 : x / 33554432 % 8 = 0) (h4 : x / 16 % 16 = 9) : Same x (isa_product.f x (insC (x / 268435456 % 16))) := by
  unfold isa_product.f
  simp only [get_31_28 h0 h1, get_27_25 h0 h1, get_27_24 h0 h1, get_24_24 h0 h1, get_24_23 h0 h1, get_24_21 h0 h1, get_23_21 h0 h1, get_23_0 h0 h1, get_22_22 h0 h1, get_22_20 h0 h1, get_20_20 h0 h1, get_19_16 h0 h1, get_19_8 h0 h1, get_15_12 h0 h1, get_11_10 h0 h1, get_11_8 h0 h1, get_11_7 h0 h1, get_11_0 h0 h1, get_7_5 h0 h1, get_7_4 h0 h1, get_6_5 h0 h1, get_3_0 h0 h1, bit_4 h0 h1, bit_7 h0 h1, bit_20 h0 h1, bit_21 h0 h1, bit_22 h0 h1, bit_23 h0 h1, bit_24 h0 h1, bit_25 h0 h1, Option.bind_some]
  refine Same.bif (fun c1 => ?_) fun c1 => ?_
  · have c1 : ¬ x / 16777216 % 16 = 0 := by simpa using c1
    exact Same.none h0 h1 [(25, 3, 0), (4, 4, 9)] [(24, 4, 0)] [] none ⟨(by omega), (by omega), trivial⟩ ⟨(by omega), trivial⟩ trivial trivial (by kernel_rfl)
  have c1 : x / 16777216 % 16 = 0 := bne_zero c1
  have h : x / 2097152 % 8 = 0 ∨ x / 2097152 % 8 = 1 ∨ x / 2097152 % 8 = 2 ∨ x / 2097152 % 8 = 3 ∨ x / 2097152 % 8 = 4 ∨ x / 2097152 % 8 = 5 ∨ x / 2097152 % 8 = 6 ∨ x / 2097152 % 8 = 7 := by omega
  rcases h with h | h | h | h | h | h | h | h <;> simp only [h]
  · show Same x (bif x / 4096 % 16 != 0 then _ else _)
    refine Same.bif (fun c2 => ?_) fun c2 => ?_
    · have c2 : ¬ x / 4096 % 16 = 0 := by simpa using c2
      exact Same.none h0 h1 [(25, 3, 0), (4, 4, 9), (24, 4, 0), (21, 3, 0)] [(12, 4, 0)] [] none ⟨(by omega), (by omega), (by omega), (by omega), trivial⟩ ⟨(by omega), trivial⟩ trivial trivial (by kernel_rfl)
    · have c2 : x / 4096 % 16 = 0 := bne_zero c2
      simp only [c2]
      exact Same.is h0 h1 11 [(25, 3, 0), (4, 4, 9), (24, 4, 0), (21, 3, 0), (12, 4, 0)] [] [] none ⟨(by omega), (by omega), (by omega), (by omega), (by omega), trivial⟩ trivial trivial trivial (by kernel_rfl) (by kernel_rfl) (by kernel_rfl) (show (1 : Int) ≤ 19 by decide) (by kernel_rfl) (say_11 x) (rmay_11 _ _ _ _ _)
  · exact Same.is h0 h1 12 [(25, 3, 0), (4, 4, 9), (24, 4, 0), (21, 3, 1)] [] [] none ⟨(by omega), (by omega), (by omega), (by omega), trivial⟩ trivial trivial trivial (by kernel_rfl) (by kernel_rfl) (by kernel_rfl) (show (1 : Int) ≤ 20 by decide) (by kernel_rfl) (say_12 x) (rmay_12 _ _ _ _ _ _)
  · exact Same.none h0 h1 [(25, 3, 0), (4, 4, 9), (24, 4, 0), (21, 3, 2)] [] [] none ⟨(by omega), (by omega), (by omega), (by omega), trivial⟩ trivial trivial trivial (by kernel_rfl)
  · exact Same.none h0 h1 [(25, 3, 0), (4, 4, 9), (24, 4, 0), (21, 3, 3)] [] [] none ⟨(by omega), (by omega), (by omega), (by omega), trivial⟩ trivial trivial trivial (by kernel_rfl)
  · exact Same.is h0 h1 13 [(25, 3, 0), (4, 4, 9), (24, 4, 0), (21, 3, 4)] [] [] none ⟨(by omega), (by omega), (by omega), (by omega), trivial⟩ trivial trivial trivial (by kernel_rfl) (by kernel_rfl) (by kernel_rfl) (show (1 : Int) ≤ 21 by decide) (by kernel_rfl) (say_13 x) (rmay_13 _ _ _ _ _ _)
  · exact Same.is h0 h1 14 [(25, 3, 0), (4, 4, 9), (24, 4, 0), (21, 3, 5)] [] [] none ⟨(by omega), (by omega), (by omega), (by omega), trivial⟩ trivial trivial trivial (by kernel_rfl) (by kernel_rfl) (by kernel_rfl) (show (1 : Int) ≤ 22 by decide) (by kernel_rfl) (say_14 x) (rmay_14 _ _ _ _ _ _)
  · exact Same.is h0 h1 15 [(25, 3, 0), (4, 4, 9), (24, 4, 0), (21, 3, 6)] [] [] none ⟨(by omega), (by omega), (by omega), (by omega), trivial⟩ trivial trivial trivial (by kernel_rfl) (by kernel_rfl) (by kernel_rfl) (show (1 : Int) ≤ 23 by decide) (by kernel_rfl) (say_15 x) (rmay_15 _ _ _ _ _ _)
  · exact Same.is h0 h1 16 [(25, 3, 0), (4, 4, 9), (24, 4, 0), (21, 3, 7)] [] [] none ⟨(by omega), (by omega), (by omega), (by omega), trivial⟩ trivial trivial trivial (by kernel_rfl) (by kernel_rfl) (by kernel_rfl) (show (1 : Int) ≤ 24 by decide) (by kernel_rfl) (say_16 x) (rmay_16 _ _ _ _ _ _)
theorem data_same_reg (x : Int) (h0 : 0 ≤ x) (h1 : x < 4294967296) (h25 : x / 33554432 % 8 = 0) (h4 : x / 16 % 2 = 0) (hs : x / 8388608 % 4 = 2 → x / 1048576 % 2 = 1) : Same x (isa_data.f x ⟨x / 268435456 % 16, 0, false, 2, 0, 0, x % 16, 0, 0, 0, x / 32 % 4, x / 128 % 32, false, false, false, 0, 0, 0, 0, 0⟩) := by
  unfold isa_data.f
  simp only [get_31_28 h0 h1, get_27_25 h0 h1, get_27_24 h0 h1, get_24_24 h0 h1, get_24_23 h0 h1, get_24_21 h0 h1, get_23_21 h0 h1, get_23_0 h0 h1, get_22_22 h0 h1, get_22_20 h0 h1, get_20_20 h0 h1, get_19_16 h0 h1, get_19_8 h0 h1, get_15_12 h0 h1, get_11_10 h0 h1, get_11_8 h0 h1, get_11_7 h0 h1, get_11_0 h0 h1, get_7_5 h0 h1, get_7_4 h0 h1, get_6_5 h0 h1, get_3_0 h0 h1, bit_4 h0 h1, bit_7 h0 h1, bit_20 h0 h1, bit_21 h0 h1, bit_22 h0 h1, bit_23 h0 h1, bit_24 h0 h1, bit_25 h0 h1, Option.bind_some]
  have h : x / 2097152 % 16 = 0 ∨ x / 2097152 % 16 = 1 ∨ x / 2097152 % 16 = 2 ∨ x / 2097152 % 16 = 3 ∨ x / 2097152 % 16 = 4 ∨ x / 2097152 % 16 = 5 ∨ x / 2097152 % 16 = 6 ∨ x / 2097152 % 16 = 7 ∨ x / 2097152 % 16 = 8 ∨ x / 2097152 % 16 = 9 ∨ x / 2097152 % 16 = 10 ∨ x / 2097152 % 16 = 11 ∨ x / 2097152 % 16 = 12 ∨ x / 2097152 % 16 = 13 ∨ x / 2097152 % 16 = 14 ∨ x / 2097152 % 16 = 15 := by omega
  rcases h with h | h | h | h | h | h | h | h | h | h | h | h | h | h | h | h
  · simp only [h]
    exact Same.is h0 h1 1 [(25, 3, 0), (4, 1, 0), (21, 4, 0)] [] [] (some 0) ⟨(by omega), (by omega), (by omega), trivial⟩ trivial trivial (show x / 2097152 % 16 = _ by omega) (by kernel_rfl) (by kernel_rfl) (by kernel_rfl) (show (1 : Int) ≤ 1 by decide) (by kernel_rfl) (say_1_1 x (by omega)) (rmay_1 _ _ _ _ _ _ _ _ (by decide) (by decide))
  · simp only [h]
    exact Same.is h0 h1 1 [(25, 3, 0), (4, 1, 0), (21, 4, 1)] [] [] (some 1) ⟨(by omega), (by omega), (by omega), trivial⟩ trivial trivial (show x / 2097152 % 16 = _ by omega) (by kernel_rfl) (by kernel_rfl) (by kernel_rfl) (show (1 : Int) ≤ 2 by decide) (by kernel_rfl) (say_1_2 x (by omega)) (rmay_1 _ _ _ _ _ _ _ _ (by decide) (by decide))
  · simp only [h]
    exact Same.is h0 h1 1 [(25, 3, 0), (4, 1, 0), (21, 4, 2)] [] [] (some 2) ⟨(by omega), (by omega), (by omega), trivial⟩ trivial trivial (show x / 2097152 % 16 = _ by omega) (by kernel_rfl) (by kernel_rfl) (by kernel_rfl) (show (1 : Int) ≤ 3 by decide) (by kernel_rfl) (say_1_3 x (by omega)) (rmay_1 _ _ _ _ _ _ _ _ (by decide) (by decide))
  · simp only [h]
    exact Same.is h0 h1 1 [(25, 3, 0), (4, 1, 0), (21, 4, 3)] [] [] (some 3) ⟨(by omega), (by omega), (by omega), trivial⟩ trivial trivial (show x / 2097152 % 16 = _ by omega) (by kernel_rfl) (by kernel_rfl) (by kernel_rfl) (show (1 : Int) ≤ 4 by decide) (by kernel_rfl) (say_1_4 x (by omega)) (rmay_1 _ _ _ _ _ _ _ _ (by decide) (by decide))
  · simp only [h]
    exact Same.is h0 h1 1 [(25, 3, 0), (4, 1, 0), (21, 4, 4)] [] [] (some 4) ⟨(by omega), (by omega), (by omega), trivial⟩ trivial trivial (show x / 2097152 % 16 = _ by omega) (by kernel_rfl) (by kernel_rfl) (by kernel_rfl) (show (1 : Int) ≤ 5 by decide) (by kernel_rfl) (say_1_5 x (by omega)) (rmay_1 _ _ _ _ _ _ _ _ (by decide) (by decide))
  · simp only [h]
    exact Same.is h0 h1 1 [(25, 3, 0), (4, 1, 0), (21, 4, 5)] [] [] (some 5) ⟨(by omega), (by omega), (by omega), trivial⟩ trivial trivial (show x / 2097152 % 16 = _ by omega) (by kernel_rfl) (by kernel_rfl) (by kernel_rfl) (show (1 : Int) ≤ 6 by decide) (by kernel_rfl) (say_1_6 x (by omega)) (rmay_1 _ _ _ _ _ _ _ _ (by decide) (by decide))
  · simp only [h]
    exact Same.is h0 h1 1 [(25, 3, 0), (4, 1, 0), (21, 4, 6)] [] [] (some 6) ⟨(by omega), (by omega), (by omega), trivial⟩ trivial trivial (show x / 2097152 % 16 = _ by omega) (by kernel_rfl) (by kernel_rfl) (by kernel_rfl) (show (1 : Int) ≤ 7 by decide) (by kernel_rfl) (say_1_7 x (by omega)) (rmay_1 _ _ _ _ _ _ _ _ (by decide) (by decide))
  · simp only [h]
    exact Same.is h0 h1 1 [(25, 3, 0), (4, 1, 0), (21, 4, 7)] [] [] (some 7) ⟨(by omega), (by omega), (by omega), trivial⟩ trivial trivial (show x / 2097152 % 16 = _ by omega) (by kernel_rfl) (by kernel_rfl) (by kernel_rfl) (show (1 : Int) ≤ 8 by decide) (by kernel_rfl) (say_1_8 x (by omega)) (rmay_1 _ _ _ _ _ _ _ _ (by decide) (by decide))
  · have h20 : x / 1048576 % 2 = 1 := hs (by omega)
    simp only [h, h20]
    show Same x (bif x / 4096 % 16 != 0 then _ else _)
    refine Same.bif (fun c2 => ?_) fun c2 => ?_
    · have c2 : ¬ x / 4096 % 16 = 0 := by simpa using c2
      exact Same.none h0 h1 [(25, 3, 0), (4, 1, 0), (21, 4, 8), (20, 1, 1)] [(12, 4, 0)] [] (some 8) ⟨(by omega), (by omega), (by omega), (by omega), trivial⟩ ⟨(by omega), trivial⟩ trivial (show x / 2097152 % 16 = _ by omega) (by kernel_rfl)
    · have c2 : x / 4096 % 16 = 0 := bne_zero c2
      simp only [c2]
      exact Same.is h0 h1 4 [(25, 3, 0), (4, 1, 0), (21, 4, 8), (20, 1, 1), (12, 4, 0)] [] [] (some 8) ⟨(by omega), (by omega), (by omega), (by omega), (by omega), trivial⟩ trivial trivial (show x / 2097152 % 16 = _ by omega) (by kernel_rfl) (by kernel_rfl) (by kernel_rfl) (show (1 : Int) ≤ 9 by decide) (by kernel_rfl) (say_4_9 x (by omega)) (rmay_4 _ _ _ _ _ _ _ (by decide) (by decide))
  · have h20 : x / 1048576 % 2 = 1 := hs (by omega)
    simp only [h, h20]
    show Same x (bif x / 4096 % 16 != 0 then _ else _)
    refine Same.bif (fun c2 => ?_) fun c2 => ?_
    · have c2 : ¬ x / 4096 % 16 = 0 := by simpa using c2
      exact Same.none h0 h1 [(25, 3, 0), (4, 1, 0), (21, 4, 9), (20, 1, 1)] [(12, 4, 0)] [] (some 9) ⟨(by omega), (by omega), (by omega), (by omega), trivial⟩ ⟨(by omega), trivial⟩ trivial (show x / 2097152 % 16 = _ by omega) (by kernel_rfl)
    · have c2 : x / 4096 % 16 = 0 := bne_zero c2
      simp only [c2]
      exact Same.is h0 h1 4 [(25, 3, 0), (4, 1, 0), (21, 4, 9), (20, 1, 1), (12, 4, 0)] [] [] (some 9) ⟨(by omega), (by omega), (by omega), (by omega), (by omega), trivial⟩ trivial trivial (show x / 2097152 % 16 = _ by omega) (by kernel_rfl) (by kernel_rfl) (by kernel_rfl) (show (1 : Int) ≤ 10 by decide) (by kernel_rfl) (say_4_10 x (by omega)) (rmay_4 _ _ _ _ _ _ _ (by decide) (by decide))
  · have h20 : x / 1048576 % 2 = 1 := hs (by omega)
    simp only [h, h20]
    show Same x (bif x / 4096 % 16 != 0 then _ else _)
    refine Same.bif (fun c2 => ?_) fun c2 => ?_
    · have c2 : ¬ x / 4096 % 16 = 0 := by simpa using c2
      exact Same.none h0 h1 [(25, 3, 0), (4, 1, 0), (21, 4, 10), (20, 1, 1)] [(12, 4, 0)] [] (some 10) ⟨(by omega), (by omega), (by omega), (by omega), trivial⟩ ⟨(by omega), trivial⟩ trivial (show x / 2097152 % 16 = _ by omega) (by kernel_rfl)
    · have c2 : x / 4096 % 16 = 0 := bne_zero c2
      simp only [c2]
      exact Same.is h0 h1 4 [(25, 3, 0), (4, 1, 0), (21, 4, 10), (20, 1, 1), (12, 4, 0)] [] [] (some 10) ⟨(by omega), (by omega), (by omega), (by omega), (by omega), trivial⟩ trivial trivial (show x / 2097152 % 16 = _ by omega) (by kernel_rfl) (by kernel_rfl) (by kernel_rfl) (show (1 : Int) ≤ 11 by decide) (by kernel_rfl) (say_4_11 x (by omega)) (rmay_4 _ _ _ _ _ _ _ (by decide) (by decide))
  · have h20 : x / 1048576 % 2 = 1 := hs (by omega)
    simp only [h, h20]
    show Same x (bif x / 4096 % 16 != 0 then _ else _)
    refine Same.bif (fun c2 => ?_) fun c2 => ?_
    · have c2 : ¬ x / 4096 % 16 = 0 := by simpa using c2
      exact Same.none h0 h1 [(25, 3, 0), (4, 1, 0), (21, 4, 11), (20, 1, 1)] [(12, 4, 0)] [] (some 11) ⟨(by omega), (by omega), (by omega), (by omega), trivial⟩ ⟨(by omega), trivial⟩ trivial (show x / 2097152 % 16 = _ by omega) (by kernel_rfl)
    · have c2 : x / 4096 % 16 = 0 := bne_zero c2
      simp only [c2]
      exact Same.is h0 h1 4 [(25, 3, 0), (4, 1, 0), (21, 4, 11), (20, 1, 1), (12, 4, 0)] [] [] (some 11) ⟨(by omega), (by omega), (by omega), (by omega), (by omega), trivial⟩ trivial trivial (show x / 2097152 % 16 = _ by omega) (by kernel_rfl) (by kernel_rfl) (by kernel_rfl) (show (1 : Int) ≤ 12 by decide) (by kernel_rfl) (say_4_12 x (by omega)) (rmay_4 _ _ _ _ _ _ _ (by decide) (by decide))
  · simp only [h]
    exact Same.is h0 h1 1 [(25, 3, 0), (4, 1, 0), (21, 4, 12)] [] [] (some 12) ⟨(by omega), (by omega), (by omega), trivial⟩ trivial trivial (show x / 2097152 % 16 = _ by omega) (by kernel_rfl) (by kernel_rfl) (by kernel_rfl) (show (1 : Int) ≤ 13 by decide) (by kernel_rfl) (say_1_13 x (by omega)) (rmay_1 _ _ _ _ _ _ _ _ (by decide) (by decide))
  · simp only [h]
    show Same x (bif x / 65536 % 16 != 0 then _ else _)
    refine Same.bif (fun c2 => ?_) fun c2 => ?_
    · have c2 : ¬ x / 65536 % 16 = 0 := by simpa using c2
      exact Same.none h0 h1 [(25, 3, 0), (4, 1, 0), (21, 4, 13)] [(16, 4, 0)] [] (some 13) ⟨(by omega), (by omega), (by omega), trivial⟩ ⟨(by omega), trivial⟩ trivial (show x / 2097152 % 16 = _ by omega) (by kernel_rfl)
    · have c2 : x / 65536 % 16 = 0 := bne_zero c2
      simp only [c2]
      exact Same.is h0 h1 7 [(25, 3, 0), (4, 1, 0), (21, 4, 13), (16, 4, 0)] [] [] (some 13) ⟨(by omega), (by omega), (by omega), (by omega), trivial⟩ trivial trivial (show x / 2097152 % 16 = _ by omega) (by kernel_rfl) (by kernel_rfl) (by kernel_rfl) (show (1 : Int) ≤ 14 by decide) (by kernel_rfl) (say_7_14 x (by omega)) (rmay_7 _ _ _ _ _ _ _ (by decide) (by decide))
  · simp only [h]
    exact Same.is h0 h1 1 [(25, 3, 0), (4, 1, 0), (21, 4, 14)] [] [] (some 14) ⟨(by omega), (by omega), (by omega), trivial⟩ trivial trivial (show x / 2097152 % 16 = _ by omega) (by kernel_rfl) (by kernel_rfl) (by kernel_rfl) (show (1 : Int) ≤ 15 by decide) (by kernel_rfl) (say_1_15 x (by omega)) (rmay_1 _ _ _ _ _ _ _ _ (by decide) (by decide))
  · simp only [h]
    show Same x (bif x / 65536 % 16 != 0 then _ else _)
    refine Same.bif (fun c2 => ?_) fun c2 => ?_
    · have c2 : ¬ x / 65536 % 16 = 0 := by simpa using c2
      exact Same.none h0 h1 [(25, 3, 0), (4, 1, 0), (21, 4, 15)] [(16, 4, 0)] [] (some 15) ⟨(by omega), (by omega), (by omega), trivial⟩ ⟨(by omega), trivial⟩ trivial (show x / 2097152 % 16 = _ by omega) (by kernel_rfl)
    · have c2 : x / 65536 % 16 = 0 := bne_zero c2
      simp only [c2]
      exact Same.is h0 h1 7 [(25, 3, 0), (4, 1, 0), (21, 4, 15), (16, 4, 0)] [] [] (some 15) ⟨(by omega), (by omega), (by omega), (by omega), trivial⟩ trivial trivial (show x / 2097152 % 16 = _ by omega) (by kernel_rfl) (by kernel_rfl) (by kernel_rfl) (show (1 : Int) ≤ 16 by decide) (by kernel_rfl) (say_7_16 x (by omega)) (rmay_7 _ _ _ _ _ _ _ (by decide) (by decide))
theorem data_same_rsr (x : Int) (h0 : 0 ≤ x) (h1 : x < 4294967296) (h25 : x / 33554432 % 8 = 0) (h4 : x / 16 % 2 = 1) (h7 : x / 128 % 2 = 0) (hs : x / 8388608 % 4 = 2 → x / 1048576 % 2 = 1) : Same x (isa_data.f x ⟨x / 268435456 % 16, 0, false, 3, 0, 0, x % 16, x / 256 % 16, 0, 0, x / 32 % 4, 0, false, false, false, 0, 0, 0, 0, 0⟩) := by
  unfold isa_data.f
  simp only [get_31_28 h0 h1, get_27_25 h0 h1, get_27_24 h0 h1, get_24_24 h0 h1, get_24_23 h0 h1, get_24_21 h0 h1, get_23_21 h0 h1, get_23_0 h0 h1, get_22_22 h0 h1, get_22_20 h0 h1, get_20_20 h0 h1, get_19_16 h0 h1, get_19_8 h0 h1, get_15_12 h0 h1, get_11_10 h0 h1, get_11_8 h0 h1, get_11_7 h0 h1, get_11_0 h0 h1, get_7_5 h0 h1, get_7_4 h0 h1, get_6_5 h0 h1, get_3_0 h0 h1, bit_4 h0 h1, bit_7 h0 h1, bit_20 h0 h1, bit_21 h0 h1, bit_22 h0 h1, bit_23 h0 h1, bit_24 h0 h1, bit_25 h0 h1, Option.bind_some]
  have h : x / 2097152 % 16 = 0 ∨ x / 2097152 % 16 = 1 ∨ x / 2097152 % 16 = 2 ∨ x / 2097152 % 16 = 3 ∨ x / 2097152 % 16 = 4 ∨ x / 2097152 % 16 = 5 ∨ x / 2097152 % 16 = 6 ∨ x / 2097152 % 16 = 7 ∨ x / 2097152 % 16 = 8 ∨ x / 2097152 % 16 = 9 ∨ x / 2097152 % 16 = 10 ∨ x / 2097152 % 16 = 11 ∨ x / 2097152 % 16 = 12 ∨ x / 2097152 % 16 = 13 ∨ x / 2097152 % 16 = 14 ∨ x / 2097152 % 16 = 15 := by omega
  rcases h with h | h | h | h | h | h | h | h | h | h | h | h | h | h | h | h
  · simp only [h]
    exact Same.is h0 h1 2 [(25, 3, 0), (4, 1, 1), (7, 1, 0), (21, 4, 0)] [] [] (some 0) ⟨(by omega), (by omega), (by omega), (by omega), trivial⟩ trivial trivial (show x / 2097152 % 16 = _ by omega) (by kernel_rfl) (by kernel_rfl) (by kernel_rfl) (show (1 : Int) ≤ 1 by decide) (by kernel_rfl) (say_2_1 x (by omega)) (rmay_2 _ _ _ _ _ _ _ _ (by decide) (by decide))
  · simp only [h]
    exact Same.is h0 h1 2 [(25, 3, 0), (4, 1, 1), (7, 1, 0), (21, 4, 1)] [] [] (some 1) ⟨(by omega), (by omega), (by omega), (by omega), trivial⟩ trivial trivial (show x / 2097152 % 16 = _ by omega) (by kernel_rfl) (by kernel_rfl) (by kernel_rfl) (show (1 : Int) ≤ 2 by decide) (by kernel_rfl) (say_2_2 x (by omega)) (rmay_2 _ _ _ _ _ _ _ _ (by decide) (by decide))
  · simp only [h]
    exact Same.is h0 h1 2 [(25, 3, 0), (4, 1, 1), (7, 1, 0), (21, 4, 2)] [] [] (some 2) ⟨(by omega), (by omega), (by omega), (by omega), trivial⟩ trivial trivial (show x / 2097152 % 16 = _ by omega) (by kernel_rfl) (by kernel_rfl) (by kernel_rfl) (show (1 : Int) ≤ 3 by decide) (by kernel_rfl) (say_2_3 x (by omega)) (rmay_2 _ _ _ _ _ _ _ _ (by decide) (by decide))
  · simp only [h]
    exact Same.is h0 h1 2 [(25, 3, 0), (4, 1, 1), (7, 1, 0), (21, 4, 3)] [] [] (some 3) ⟨(by omega), (by omega), (by omega), (by omega), trivial⟩ trivial trivial (show x / 2097152 % 16 = _ by omega) (by kernel_rfl) (by kernel_rfl) (by kernel_rfl) (show (1 : Int) ≤ 4 by decide) (by kernel_rfl) (say_2_4 x (by omega)) (rmay_2 _ _ _ _ _ _ _ _ (by decide) (by decide))
  · simp only [h]
    exact Same.is h0 h1 2 [(25, 3, 0), (4, 1, 1), (7, 1, 0), (21, 4, 4)] [] [] (some 4) ⟨(by omega), (by omega), (by omega), (by omega), trivial⟩ trivial trivial (show x / 2097152 % 16 = _ by omega) (by kernel_rfl) (by kernel_rfl) (by kernel_rfl) (show (1 : Int) ≤ 5 by decide) (by kernel_rfl) (say_2_5 x (by omega)) (rmay_2 _ _ _ _ _ _ _ _ (by decide) (by decide))
  · simp only [h]
    exact Same.is h0 h1 2 [(25, 3, 0), (4, 1, 1), (7, 1, 0), (21, 4, 5)] [] [] (some 5) ⟨(by omega), (by omega), (by omega), (by omega), trivial⟩ trivial trivial (show x / 2097152 % 16 = _ by omega) (by kernel_rfl) (by kernel_rfl) (by kernel_rfl) (show (1 : Int) ≤ 6 by decide) (by kernel_rfl) (say_2_6 x (by omega)) (rmay_2 _ _ _ _ _ _ _ _ (by decide) (by decide))
  · simp only [h]
    exact Same.is h0 h1 2 [(25, 3, 0), (4, 1, 1), (7, 1, 0), (21, 4, 6)] [] [] (some 6) ⟨(by omega), (by omega), (by omega), (by omega), trivial⟩ trivial trivial (show x / 2097152 % 16 = _ by omega) (by kernel_rfl) (by kernel_rfl) (by kernel_rfl) (show (1 : Int) ≤ 7 by decide) (by kernel_rfl) (say_2_7 x (by omega)) (rmay_2 _ _ _ _ _ _ _ _ (by decide) (by decide))
  · simp only [h]
    exact Same.is h0 h1 2 [(25, 3, 0), (4, 1, 1), (7, 1, 0), (21, 4, 7)] [] [] (some 7) ⟨(by omega), (by omega), (by omega), (by omega), trivial⟩ trivial trivial (show x / 2097152 % 16 = _ by omega) (by kernel_rfl) (by kernel_rfl) (by kernel_rfl) (show (1 : Int) ≤ 8 by decide) (by kernel_rfl) (say_2_8 x (by omega)) (rmay_2 _ _ _ _ _ _ _ _ (by decide) (by decide))
  · have h20 : x / 1048576 % 2 = 1 := hs (by omega)
    simp only [h, h20]
    show Same x (bif x / 4096 % 16 != 0 then _ else _)
    refine Same.bif (fun c2 => ?_) fun c2 => ?_
    · have c2 : ¬ x / 4096 % 16 = 0 := by simpa using c2
      exact Same.none h0 h1 [(25, 3, 0), (4, 1, 1), (7, 1, 0), (21, 4, 8), (20, 1, 1)] [(12, 4, 0)] [] (some 8) ⟨(by omega), (by omega), (by omega), (by omega), (by omega), trivial⟩ ⟨(by omega), trivial⟩ trivial (show x / 2097152 % 16 = _ by omega) (by kernel_rfl)
    · have c2 : x / 4096 % 16 = 0 := bne_zero c2
      simp only [c2]
      exact Same.is h0 h1 5 [(25, 3, 0), (4, 1, 1), (7, 1, 0), (21, 4, 8), (20, 1, 1), (12, 4, 0)] [] [] (some 8) ⟨(by omega), (by omega), (by omega), (by omega), (by omega), (by omega), trivial⟩ trivial trivial (show x / 2097152 % 16 = _ by omega) (by kernel_rfl) (by kernel_rfl) (by kernel_rfl) (show (1 : Int) ≤ 9 by decide) (by kernel_rfl) (say_5_9 x (by omega)) (rmay_5 _ _ _ _ _ _ _ (by decide) (by decide))
  · have h20 : x / 1048576 % 2 = 1 := hs (by omega)
    simp only [h, h20]
    show Same x (bif x / 4096 % 16 != 0 then _ else _)
    refine Same.bif (fun c2 => ?_) fun c2 => ?_
    · have c2 : ¬ x / 4096 % 16 = 0 := by simpa using c2
      exact Same.none h0 h1 [(25, 3, 0), (4, 1, 1), (7, 1, 0), (21, 4, 9), (20, 1, 1)] [(12, 4, 0)] [] (some 9) ⟨(by omega), (by omega), (by omega), (by omega), (by omega), trivial⟩ ⟨(by omega), trivial⟩ trivial (show x / 2097152 % 16 = _ by omega) (by kernel_rfl)
    · have c2 : x / 4096 % 16 = 0 := bne_zero c2
      simp only [c2]
      exact Same.is h0 h1 5 [(25, 3, 0), (4, 1, 1), (7, 1, 0), (21, 4, 9), (20, 1, 1), (12, 4, 0)] [] [] (some 9) ⟨(by omega), (by omega), (by omega), (by omega), (by omega), (by omega), trivial⟩ trivial trivial (show x / 2097152 % 16 = _ by omega) (by kernel_rfl) (by kernel_rfl) (by kernel_rfl) (show (1 : Int) ≤ 10 by decide) (by kernel_rfl) (say_5_10 x (by omega)) (rmay_5 _ _ _ _ _ _ _ (by decide) (by decide))
  · have h20 : x / 1048576 % 2 = 1 := hs (by omega)
    simp only [h, h20]
    show Same x (bif x / 4096 % 16 != 0 then _ else _)
    refine Same.bif (fun c2 => ?_) fun c2 => ?_
    · have c2 : ¬ x / 4096 % 16 = 0 := by simpa using c2
      exact Same.none h0 h1 [(25, 3, 0), (4, 1, 1), (7, 1, 0), (21, 4, 10), (20, 1, 1)] [(12, 4, 0)] [] (some 10) ⟨(by omega), (by omega), (by omega), (by omega), (by omega), trivial⟩ ⟨(by omega), trivial⟩ trivial (show x / 2097152 % 16 = _ by omega) (by kernel_rfl)
    · have c2 : x / 4096 % 16 = 0 := bne_zero c2
      simp only [c2]
      exact Same.is h0 h1 5 [(25, 3, 0), (4, 1, 1), (7, 1, 0), (21, 4, 10), (20, 1, 1), (12, 4, 0)] [] [] (some 10) ⟨(by omega), (by omega), (by omega), (by omega), (by omega), (by omega), trivial⟩ trivial trivial (show x / 2097152 % 16 = _ by omega) (by kernel_rfl) (by kernel_rfl) (by kernel_rfl) (show (1 : Int) ≤ 11 by decide) (by kernel_rfl) (say_5_11 x (by omega)) (rmay_5 _ _ _ _ _ _ _ (by decide) (by decide))
  · have h20 : x / 1048576 % 2 = 1 := hs (by omega)
    simp only [h, h20]
    show Same x (bif x / 4096 % 16 != 0 then _ else _)
    refine Same.bif (fun c2 => ?_) fun c2 => ?_
    · have c2 : ¬ x / 4096 % 16 = 0 := by simpa using c2
      exact Same.none h0 h1 [(25, 3, 0), (4, 1, 1), (7, 1, 0), (21, 4, 11), (20, 1, 1)] [(12, 4, 0)] [] (some 11) ⟨(by omega), (by omega), (by omega), (by omega), (by omega), trivial⟩ ⟨(by omega), trivial⟩ trivial (show x / 2097152 % 16 = _ by omega) (by kernel_rfl)
    · have c2 : x / 4096 % 16 = 0 := bne_zero c2
      simp only [c2]
      exact Same.is h0 h1 5 [(25, 3, 0), (4, 1, 1), (7, 1, 0), (21, 4, 11), (20, 1, 1), (12, 4, 0)] [] [] (some 11) ⟨(by omega), (by omega), (by omega), (by omega), (by omega), (by omega), trivial⟩ trivial trivial (show x / 2097152 % 16 = _ by omega) (by kernel_rfl) (by kernel_rfl) (by kernel_rfl) (show (1 : Int) ≤ 12 by decide) (by kernel_rfl) (say_5_12 x (by omega)) (rmay_5 _ _ _ _ _ _ _ (by decide) (by decide))
  · simp only [h]
    exact Same.is h0 h1 2 [(25, 3, 0), (4, 1, 1), (7, 1, 0), (21, 4, 12)] [] [] (some 12) ⟨(by omega), (by omega), (by omega), (by omega), trivial⟩ trivial trivial (show x / 2097152 % 16 = _ by omega) (by kernel_rfl) (by kernel_rfl) (by kernel_rfl) (show (1 : Int) ≤ 13 by decide) (by kernel_rfl) (say_2_13 x (by omega)) (rmay_2 _ _ _ _ _ _ _ _ (by decide) (by decide))
  · simp only [h]
    show Same x (bif x / 65536 % 16 != 0 then _ else _)
    refine Same.bif (fun c2 => ?_) fun c2 => ?_
    · have c2 : ¬ x / 65536 % 16 = 0 := by simpa using c2
      exact Same.none h0 h1 [(25, 3, 0), (4, 1, 1), (7, 1, 0), (21, 4, 13)] [(16, 4, 0)] [] (some 13) ⟨(by omega), (by omega), (by omega), (by omega), trivial⟩ ⟨(by omega), trivial⟩ trivial (show x / 2097152 % 16 = _ by omega) (by kernel_rfl)
    · have c2 : x / 65536 % 16 = 0 := bne_zero c2
      simp only [c2]
      exact Same.is h0 h1 8 [(25, 3, 0), (4, 1, 1), (7, 1, 0), (21, 4, 13), (16, 4, 0)] [] [] (some 13) ⟨(by omega), (by omega), (by omega), (by omega), (by omega), trivial⟩ trivial trivial (show x / 2097152 % 16 = _ by omega) (by kernel_rfl) (by kernel_rfl) (by kernel_rfl) (show (1 : Int) ≤ 14 by decide) (by kernel_rfl) (say_8_14 x (by omega)) (rmay_8 _ _ _ _ _ _ _ (by decide) (by decide))
  · simp only [h]
    exact Same.is h0 h1 2 [(25, 3, 0), (4, 1, 1), (7, 1, 0), (21, 4, 14)] [] [] (some 14) ⟨(by omega), (by omega), (by omega), (by omega), trivial⟩ trivial trivial (show x / 2097152 % 16 = _ by omega) (by kernel_rfl) (by kernel_rfl) (by kernel_rfl) (show (1 : Int) ≤ 15 by decide) (by kernel_rfl) (say_2_15 x (by omega)) (rmay_2 _ _ _ _ _ _ _ _ (by decide) (by decide))
  · simp only [h]
    show Same x (bif x / 65536 % 16 != 0 then _ else _)
    refine Same.bif (fun c2 => ?_) fun c2 => ?_
    · have c2 : ¬ x / 65536 % 16 = 0 := by simpa using c2
      exact Same.none h0 h1 [(25, 3, 0), (4, 1, 1), (7, 1, 0), (21, 4, 15)] [(16, 4, 0)] [] (some 15) ⟨(by omega), (by omega), (by omega), (by omega), trivial⟩ ⟨(by omega), trivial⟩ trivial (show x / 2097152 % 16 = _ by omega) (by kernel_rfl)
    · have c2 : x / 65536 % 16 = 0 := bne_zero c2
      simp only [c2]
      exact Same.is h0 h1 8 [(25, 3, 0), (4, 1, 1), (7, 1, 0), (21, 4, 15), (16, 4, 0)] [] [] (some 15) ⟨(by omega), (by omega), (by omega), (by omega), (by omega), trivial⟩ trivial trivial (show x / 2097152 % 16 = _ by omega) (by kernel_rfl) (by kernel_rfl) (by kernel_rfl) (show (1 : Int) ≤ 16 by decide) (by kernel_rfl) (say_8_16 x (by omega)) (rmay_8 _ _ _ _ _ _ _ (by decide) (by decide))
theorem data_same_imm (x : Int) (h0 : 0 ≤ x) (h1 : x < 4294967296) (h25 : x / 33554432 % 8 = 1) (hs : x / 8388608 % 4 = 2 → x / 1048576 % 2 = 1) : Same x (isa_data.f x ⟨x / 268435456 % 16, 0, false, 1, 0, 0, 0, 0, 0, x % 4096, 0, 0, false, false, false, 0, 0, 0, 0, 0⟩) := by
  unfold isa_data.f
  simp only [get_31_28 h0 h1, get_27_25 h0 h1, get_27_24 h0 h1, get_24_24 h0 h1, get_24_23 h0 h1, get_24_21 h0 h1, get_23_21 h0 h1, get_23_0 h0 h1, get_22_22 h0 h1, get_22_20 h0 h1, get_20_20 h0 h1, get_19_16 h0 h1, get_19_8 h0 h1, get_15_12 h0 h1, get_11_10 h0 h1, get_11_8 h0 h1, get_11_7 h0 h1, get_11_0 h0 h1, get_7_5 h0 h1, get_7_4 h0 h1, get_6_5 h0 h1, get_3_0 h0 h1, bit_4 h0 h1, bit_7 h0 h1, bit_20 h0 h1, bit_21 h0 h1, bit_22 h0 h1, bit_23 h0 h1, bit_24 h0 h1, bit_25 h0 h1, Option.bind_some]
  have h : x / 2097152 % 16 = 0 ∨ x / 2097152 % 16 = 1 ∨ x / 2097152 % 16 = 2 ∨ x / 2097152 % 16 = 3 ∨ x / 2097152 % 16 = 4 ∨ x / 2097152 % 16 = 5 ∨ x / 2097152 % 16 = 6 ∨ x / 2097152 % 16 = 7 ∨ x / 2097152 % 16 = 8 ∨ x / 2097152 % 16 = 9 ∨ x / 2097152 % 16 = 10 ∨ x / 2097152 % 16 = 11 ∨ x / 2097152 % 16 = 12 ∨ x / 2097152 % 16 = 13 ∨ x / 2097152 % 16 = 14 ∨ x / 2097152 % 16 = 15 := by omega
  rcases h with h | h | h | h | h | h | h | h | h | h | h | h | h | h | h | h
  · simp only [h]
    exact Same.is h0 h1 0 [(25, 3, 1), (21, 4, 0)] [] [] (some 0) ⟨(by omega), (by omega), trivial⟩ trivial trivial (show x / 2097152 % 16 = _ by omega) (by kernel_rfl) (by kernel_rfl) (by kernel_rfl) (show (1 : Int) ≤ 1 by decide) (by kernel_rfl) (say_0_1 x (by omega)) (rmay_0 _ _ _ _ _ _ (by decide) (by decide))
  · simp only [h]
    exact Same.is h0 h1 0 [(25, 3, 1), (21, 4, 1)] [] [] (some 1) ⟨(by omega), (by omega), trivial⟩ trivial trivial (show x / 2097152 % 16 = _ by omega) (by kernel_rfl) (by kernel_rfl) (by kernel_rfl) (show (1 : Int) ≤ 2 by decide) (by kernel_rfl) (say_0_2 x (by omega)) (rmay_0 _ _ _ _ _ _ (by decide) (by decide))
  · simp only [h]
    exact Same.is h0 h1 0 [(25, 3, 1), (21, 4, 2)] [] [] (some 2) ⟨(by omega), (by omega), trivial⟩ trivial trivial (show x / 2097152 % 16 = _ by omega) (by kernel_rfl) (by kernel_rfl) (by kernel_rfl) (show (1 : Int) ≤ 3 by decide) (by kernel_rfl) (say_0_3 x (by omega)) (rmay_0 _ _ _ _ _ _ (by decide) (by decide))
  · simp only [h]
    exact Same.is h0 h1 0 [(25, 3, 1), (21, 4, 3)] [] [] (some 3) ⟨(by omega), (by omega), trivial⟩ trivial trivial (show x / 2097152 % 16 = _ by omega) (by kernel_rfl) (by kernel_rfl) (by kernel_rfl) (show (1 : Int) ≤ 4 by decide) (by kernel_rfl) (say_0_4 x (by omega)) (rmay_0 _ _ _ _ _ _ (by decide) (by decide))
  · simp only [h]
    exact Same.is h0 h1 0 [(25, 3, 1), (21, 4, 4)] [] [] (some 4) ⟨(by omega), (by omega), trivial⟩ trivial trivial (show x / 2097152 % 16 = _ by omega) (by kernel_rfl) (by kernel_rfl) (by kernel_rfl) (show (1 : Int) ≤ 5 by decide) (by kernel_rfl) (say_0_5 x (by omega)) (rmay_0 _ _ _ _ _ _ (by decide) (by decide))
  · simp only [h]
    exact Same.is h0 h1 0 [(25, 3, 1), (21, 4, 5)] [] [] (some 5) ⟨(by omega), (by omega), trivial⟩ trivial trivial (show x / 2097152 % 16 = _ by omega) (by kernel_rfl) (by kernel_rfl) (by kernel_rfl) (show (1 : Int) ≤ 6 by decide) (by kernel_rfl) (say_0_6 x (by omega)) (rmay_0 _ _ _ _ _ _ (by decide) (by decide))
  · simp only [h]
    exact Same.is h0 h1 0 [(25, 3, 1), (21, 4, 6)] [] [] (some 6) ⟨(by omega), (by omega), trivial⟩ trivial trivial (show x / 2097152 % 16 = _ by omega) (by kernel_rfl) (by kernel_rfl) (by kernel_rfl) (show (1 : Int) ≤ 7 by decide) (by kernel_rfl) (say_0_7 x (by omega)) (rmay_0 _ _ _ _ _ _ (by decide) (by decide))
  · simp only [h]
    exact Same.is h0 h1 0 [(25, 3, 1), (21, 4, 7)] [] [] (some 7) ⟨(by omega), (by omega), trivial⟩ trivial trivial (show x / 2097152 % 16 = _ by omega) (by kernel_rfl) (by kernel_rfl) (by kernel_rfl) (show (1 : Int) ≤ 8 by decide) (by kernel_rfl) (say_0_8 x (by omega)) (rmay_0 _ _ _ _ _ _ (by decide) (by decide))
  · have h20 : x / 1048576 % 2 = 1 := hs (by omega)
    simp only [h, h20]
    show Same x (bif x / 4096 % 16 != 0 then _ else _)
    refine Same.bif (fun c2 => ?_) fun c2 => ?_
    · have c2 : ¬ x / 4096 % 16 = 0 := by simpa using c2
      exact Same.none h0 h1 [(25, 3, 1), (21, 4, 8), (20, 1, 1)] [(12, 4, 0)] [] (some 8) ⟨(by omega), (by omega), (by omega), trivial⟩ ⟨(by omega), trivial⟩ trivial (show x / 2097152 % 16 = _ by omega) (by kernel_rfl)
    · have c2 : x / 4096 % 16 = 0 := bne_zero c2
      simp only [c2]
      exact Same.is h0 h1 3 [(25, 3, 1), (21, 4, 8), (20, 1, 1), (12, 4, 0)] [] [] (some 8) ⟨(by omega), (by omega), (by omega), (by omega), trivial⟩ trivial trivial (show x / 2097152 % 16 = _ by omega) (by kernel_rfl) (by kernel_rfl) (by kernel_rfl) (show (1 : Int) ≤ 9 by decide) (by kernel_rfl) (say_3_9 x (by omega)) (rmay_3 _ _ _ _ _ (by decide) (by decide))
  · have h20 : x / 1048576 % 2 = 1 := hs (by omega)
    simp only [h, h20]
    show Same x (bif x / 4096 % 16 != 0 then _ else _)
    refine Same.bif (fun c2 => ?_) fun c2 => ?_
    · have c2 : ¬ x / 4096 % 16 = 0 := by simpa using c2
      exact Same.none h0 h1 [(25, 3, 1), (21, 4, 9), (20, 1, 1)] [(12, 4, 0)] [] (some 9) ⟨(by omega), (by omega), (by omega), trivial⟩ ⟨(by omega), trivial⟩ trivial (show x / 2097152 % 16 = _ by omega) (by kernel_rfl)
    · have c2 : x / 4096 % 16 = 0 := bne_zero c2
      simp only [c2]
      exact Same.is h0 h1 3 [(25, 3, 1), (21, 4, 9), (20, 1, 1), (12, 4, 0)] [] [] (some 9) ⟨(by omega), (by omega), (by omega), (by omega), trivial⟩ trivial trivial (show x / 2097152 % 16 = _ by omega) (by kernel_rfl) (by kernel_rfl) (by kernel_rfl) (show (1 : Int) ≤ 10 by decide) (by kernel_rfl) (say_3_10 x (by omega)) (rmay_3 _ _ _ _ _ (by decide) (by decide))
  · have h20 : x / 1048576 % 2 = 1 := hs (by omega)
    simp only [h, h20]
    show Same x (bif x / 4096 % 16 != 0 then _ else _)
    refine Same.bif (fun c2 => ?_) fun c2 => ?_
    · have c2 : ¬ x / 4096 % 16 = 0 := by simpa using c2
      exact Same.none h0 h1 [(25, 3, 1), (21, 4, 10), (20, 1, 1)] [(12, 4, 0)] [] (some 10) ⟨(by omega), (by omega), (by omega), trivial⟩ ⟨(by omega), trivial⟩ trivial (show x / 2097152 % 16 = _ by omega) (by kernel_rfl)
    · have c2 : x / 4096 % 16 = 0 := bne_zero c2
      simp only [c2]
      exact Same.is h0 h1 3 [(25, 3, 1), (21, 4, 10), (20, 1, 1), (12, 4, 0)] [] [] (some 10) ⟨(by omega), (by omega), (by omega), (by omega), trivial⟩ trivial trivial (show x / 2097152 % 16 = _ by omega) (by kernel_rfl) (by kernel_rfl) (by kernel_rfl) (show (1 : Int) ≤ 11 by decide) (by kernel_rfl) (say_3_11 x (by omega)) (rmay_3 _ _ _ _ _ (by decide) (by decide))
  · have h20 : x / 1048576 % 2 = 1 := hs (by omega)
    simp only [h, h20]
    show Same x (bif x / 4096 % 16 != 0 then _ else _)
    refine Same.bif (fun c2 => ?_) fun c2 => ?_
    · have c2 : ¬ x / 4096 % 16 = 0 := by simpa using c2
      exact Same.none h0 h1 [(25, 3, 1), (21, 4, 11), (20, 1, 1)] [(12, 4, 0)] [] (some 11) ⟨(by omega), (by omega), (by omega), trivial⟩ ⟨(by omega), trivial⟩ trivial (show x / 2097152 % 16 = _ by omega) (by kernel_rfl)
    · have c2 : x / 4096 % 16 = 0 := bne_zero c2
      simp only [c2]
      exact Same.is h0 h1 3 [(25, 3, 1), (21, 4, 11), (20, 1, 1), (12, 4, 0)] [] [] (some 11) ⟨(by omega), (by omega), (by omega), (by omega), trivial⟩ trivial trivial (show x / 2097152 % 16 = _ by omega) (by kernel_rfl) (by kernel_rfl) (by kernel_rfl) (show (1 : Int) ≤ 12 by decide) (by kernel_rfl) (say_3_12 x (by omega)) (rmay_3 _ _ _ _ _ (by decide) (by decide))
  · simp only [h]
    exact Same.is h0 h1 0 [(25, 3, 1), (21, 4, 12)] [] [] (some 12) ⟨(by omega), (by omega), trivial⟩ trivial trivial (show x / 2097152 % 16 = _ by omega) (by kernel_rfl) (by kernel_rfl) (by kernel_rfl) (show (1 : Int) ≤ 13 by decide) (by kernel_rfl) (say_0_13 x (by omega)) (rmay_0 _ _ _ _ _ _ (by decide) (by decide))
  · simp only [h]
    show Same x (bif x / 65536 % 16 != 0 then _ else _)
    refine Same.bif (fun c2 => ?_) fun c2 => ?_
    · have c2 : ¬ x / 65536 % 16 = 0 := by simpa using c2
      exact Same.none h0 h1 [(25, 3, 1), (21, 4, 13)] [(16, 4, 0)] [] (some 13) ⟨(by omega), (by omega), trivial⟩ ⟨(by omega), trivial⟩ trivial (show x / 2097152 % 16 = _ by omega) (by kernel_rfl)
    · have c2 : x / 65536 % 16 = 0 := bne_zero c2
      simp only [c2]
      exact Same.is h0 h1 6 [(25, 3, 1), (21, 4, 13), (16, 4, 0)] [] [] (some 13) ⟨(by omega), (by omega), (by omega), trivial⟩ trivial trivial (show x / 2097152 % 16 = _ by omega) (by kernel_rfl) (by kernel_rfl) (by kernel_rfl) (show (1 : Int) ≤ 14 by decide) (by kernel_rfl) (say_6_14 x (by omega)) (rmay_6 _ _ _ _ _ (by decide) (by decide))
  · simp only [h]
    exact Same.is h0 h1 0 [(25, 3, 1), (21, 4, 14)] [] [] (some 14) ⟨(by omega), (by omega), trivial⟩ trivial trivial (show x / 2097152 % 16 = _ by omega) (by kernel_rfl) (by kernel_rfl) (by kernel_rfl) (show (1 : Int) ≤ 15 by decide) (by kernel_rfl) (say_0_15 x (by omega)) (rmay_0 _ _ _ _ _ _ (by decide) (by decide))
  · simp only [h]
    show Same x (bif x / 65536 % 16 != 0 then _ else _)
    refine Same.bif (fun c2 => ?_) fun c2 => ?_
    · have c2 : ¬ x / 65536 % 16 = 0 := by simpa using c2
      exact Same.none h0 h1 [(25, 3, 1), (21, 4, 15)] [(16, 4, 0)] [] (some 15) ⟨(by omega), (by omega), trivial⟩ ⟨(by omega), trivial⟩ trivial (show x / 2097152 % 16 = _ by omega) (by kernel_rfl)
    · have c2 : x / 65536 % 16 = 0 := bne_zero c2
      simp only [c2]
      exact Same.is h0 h1 6 [(25, 3, 1), (21, 4, 15), (16, 4, 0)] [] [] (some 15) ⟨(by omega), (by omega), (by omega), trivial⟩ trivial trivial (show x / 2097152 % 16 = _ by omega) (by kernel_rfl) (by kernel_rfl) (by kernel_rfl) (show (1 : Int) ≤ 16 by decide) (by kernel_rfl) (say_6_16 x (by omega)) (rmay_6 _ _ _ _ _ (by decide) (by decide))
theorem halves_same (x : Int) (h0 : 0 ≤ x) (h1 : x < 4294967296) (h25 : x / 33554432 % 8 = 0) (h4 : x / 16 % 2 = 1) (h7 : x / 128 % 2 = 1) (h9 : ¬ x / 16 % 16 = 9) : Same x (isa_halves.f x (insC (x / 268435456 % 16))) := by
  unfold isa_halves.f
  simp only [get_31_28 h0 h1, get_27_25 h0 h1, get_27_24 h0 h1, get_24_24 h0 h1, get_24_23 h0 h1, get_24_21 h0 h1, get_23_21 h0 h1, get_23_0 h0 h1, get_22_22 h0 h1, get_22_20 h0 h1, get_20_20 h0 h1, get_19_16 h0 h1, get_19_8 h0 h1, get_15_12 h0 h1, get_11_10 h0 h1, get_11_8 h0 h1, get_11_7 h0 h1, get_11_0 h0 h1, get_7_5 h0 h1, get_7_4 h0 h1, get_6_5 h0 h1, get_3_0 h0 h1, bit_4 h0 h1, bit_7 h0 h1, bit_20 h0 h1, bit_21 h0 h1, bit_22 h0 h1, bit_23 h0 h1, bit_24 h0 h1, bit_25 h0 h1, Option.bind_some, two_i64 (x / 256 % 16) (x % 16) (by omega) (by omega) (by omega) (by omega)]
  have hl : x / 1048576 % 2 = 0 ∨ x / 1048576 % 2 = 1 := by omega
  have hk : x / 32 % 4 = 0 ∨ x / 32 % 4 = 1 ∨ x / 32 % 4 = 2 ∨ x / 32 % 4 = 3 := by omega
  have hi : x / 4194304 % 2 = 0 ∨ x / 4194304 % 2 = 1 := by omega
  rcases hl with hl | hl <;> rcases hk with hk | hk | hk | hk <;> rcases hi with hi | hi
  · exfalso; omega
  · exfalso; omega
  · simp only [hl, hk, hi]
    show Same x (bif x / 256 % 16 != 0 then _ else _)
    refine Same.bif (fun c2 => ?_) fun c2 => ?_
    · have c2 : ¬ x / 256 % 16 = 0 := by simpa using c2
      exact Same.none h0 h1 [(25, 3, 0), (4, 1, 1), (7, 1, 1), (20, 1, 0), (5, 2, 1), (22, 1, 0)] [(8, 4, 0)] [] none ⟨(by omega), (by omega), (by omega), (by omega), (by omega), (by omega), trivial⟩ ⟨(by omega), trivial⟩ trivial trivial (by kernel_rfl)
    · have c2 : x / 256 % 16 = 0 := bne_zero c2
      exact Same.is h0 h1 49 [(25, 3, 0), (4, 1, 1), (7, 1, 1), (20, 1, 0), (5, 2, 1), (22, 1, 0), (8, 4, 0)] [] [] none ⟨(by omega), (by omega), (by omega), (by omega), (by omega), (by omega), (by omega), trivial⟩ trivial trivial trivial (by kernel_rfl) (by kernel_rfl) (by kernel_rfl) (show (1 : Int) ≤ 36 by decide) (by kernel_rfl) (say_49 x) (rmay_49 _ _ _ _ _ _ _)
  · simp only [hl, hk, hi]
    exact Same.is h0 h1 45 [(25, 3, 0), (4, 1, 1), (7, 1, 1), (20, 1, 0), (5, 2, 1), (22, 1, 1)] [] [] none ⟨(by omega), (by omega), (by omega), (by omega), (by omega), (by omega), trivial⟩ trivial trivial trivial (by kernel_rfl) (by kernel_rfl) (by kernel_rfl) (show (1 : Int) ≤ 36 by decide) (by kernel_rfl) (say_45 x) (rmay_45 _ _ _ _ _ _ _)
  · simp only [hl, hk, hi]
    show Same x (bif x / 256 % 16 != 0 then _ else _)
    refine Same.bif (fun c2 => ?_) fun c2 => ?_
    · have c2 : ¬ x / 256 % 16 = 0 := by simpa using c2
      exact Same.none h0 h1 [(25, 3, 0), (4, 1, 1), (7, 1, 1), (20, 1, 0), (5, 2, 2), (22, 1, 0)] [(8, 4, 0)] [] none ⟨(by omega), (by omega), (by omega), (by omega), (by omega), (by omega), trivial⟩ ⟨(by omega), trivial⟩ trivial trivial (by kernel_rfl)
    · have c2 : x / 256 % 16 = 0 := bne_zero c2
      exact Same.none h0 h1 [(25, 3, 0), (4, 1, 1), (7, 1, 1), (20, 1, 0), (5, 2, 2), (22, 1, 0), (8, 4, 0)] [] [] none ⟨(by omega), (by omega), (by omega), (by omega), (by omega), (by omega), (by omega), trivial⟩ trivial trivial trivial (by kernel_rfl)
  · simp only [hl, hk, hi]
    exact Same.none h0 h1 [(25, 3, 0), (4, 1, 1), (7, 1, 1), (20, 1, 0), (5, 2, 2), (22, 1, 1)] [] [] none ⟨(by omega), (by omega), (by omega), (by omega), (by omega), (by omega), trivial⟩ trivial trivial trivial (by kernel_rfl)
  · simp only [hl, hk, hi]
    show Same x (bif x / 256 % 16 != 0 then _ else _)
    refine Same.bif (fun c2 => ?_) fun c2 => ?_
    · have c2 : ¬ x / 256 % 16 = 0 := by simpa using c2
      exact Same.none h0 h1 [(25, 3, 0), (4, 1, 1), (7, 1, 1), (20, 1, 0), (5, 2, 3), (22, 1, 0)] [(8, 4, 0)] [] none ⟨(by omega), (by omega), (by omega), (by omega), (by omega), (by omega), trivial⟩ ⟨(by omega), trivial⟩ trivial trivial (by kernel_rfl)
    · have c2 : x / 256 % 16 = 0 := bne_zero c2
      exact Same.none h0 h1 [(25, 3, 0), (4, 1, 1), (7, 1, 1), (20, 1, 0), (5, 2, 3), (22, 1, 0), (8, 4, 0)] [] [] none ⟨(by omega), (by omega), (by omega), (by omega), (by omega), (by omega), (by omega), trivial⟩ trivial trivial trivial (by kernel_rfl)
  · simp only [hl, hk, hi]
    exact Same.none h0 h1 [(25, 3, 0), (4, 1, 1), (7, 1, 1), (20, 1, 0), (5, 2, 3), (22, 1, 1)] [] [] none ⟨(by omega), (by omega), (by omega), (by omega), (by omega), (by omega), trivial⟩ trivial trivial trivial (by kernel_rfl)
  · exfalso; omega
  · exfalso; omega
  · simp only [hl, hk, hi]
    show Same x (bif x / 256 % 16 != 0 then _ else _)
    refine Same.bif (fun c2 => ?_) fun c2 => ?_
    · have c2 : ¬ x / 256 % 16 = 0 := by simpa using c2
      exact Same.none h0 h1 [(25, 3, 0), (4, 1, 1), (7, 1, 1), (20, 1, 1), (5, 2, 1), (22, 1, 0)] [(8, 4, 0)] [] none ⟨(by omega), (by omega), (by omega), (by omega), (by omega), (by omega), trivial⟩ ⟨(by omega), trivial⟩ trivial trivial (by kernel_rfl)
    · have c2 : x / 256 % 16 = 0 := bne_zero c2
      exact Same.is h0 h1 48 [(25, 3, 0), (4, 1, 1), (7, 1, 1), (20, 1, 1), (5, 2, 1), (22, 1, 0), (8, 4, 0)] [] [] none ⟨(by omega), (by omega), (by omega), (by omega), (by omega), (by omega), (by omega), trivial⟩ trivial trivial trivial (by kernel_rfl) (by kernel_rfl) (by kernel_rfl) (show (1 : Int) ≤ 35 by decide) (by kernel_rfl) (say_48 x) (rmay_48 _ _ _ _ _ _ _)
  · simp only [hl, hk, hi]
    exact Same.is h0 h1 44 [(25, 3, 0), (4, 1, 1), (7, 1, 1), (20, 1, 1), (5, 2, 1), (22, 1, 1)] [] [] none ⟨(by omega), (by omega), (by omega), (by omega), (by omega), (by omega), trivial⟩ trivial trivial trivial (by kernel_rfl) (by kernel_rfl) (by kernel_rfl) (show (1 : Int) ≤ 35 by decide) (by kernel_rfl) (say_44 x) (rmay_44 _ _ _ _ _ _ _)
  · simp only [hl, hk, hi]
    show Same x (bif x / 256 % 16 != 0 then _ else _)
    refine Same.bif (fun c2 => ?_) fun c2 => ?_
    · have c2 : ¬ x / 256 % 16 = 0 := by simpa using c2
      exact Same.none h0 h1 [(25, 3, 0), (4, 1, 1), (7, 1, 1), (20, 1, 1), (5, 2, 2), (22, 1, 0)] [(8, 4, 0)] [] none ⟨(by omega), (by omega), (by omega), (by omega), (by omega), (by omega), trivial⟩ ⟨(by omega), trivial⟩ trivial trivial (by kernel_rfl)
    · have c2 : x / 256 % 16 = 0 := bne_zero c2
      exact Same.is h0 h1 50 [(25, 3, 0), (4, 1, 1), (7, 1, 1), (20, 1, 1), (5, 2, 2), (22, 1, 0), (8, 4, 0)] [] [] none ⟨(by omega), (by omega), (by omega), (by omega), (by omega), (by omega), (by omega), trivial⟩ trivial trivial trivial (by kernel_rfl) (by kernel_rfl) (by kernel_rfl) (show (1 : Int) ≤ 37 by decide) (by kernel_rfl) (say_50 x) (rmay_50 _ _ _ _ _ _ _)
  · simp only [hl, hk, hi]
    exact Same.is h0 h1 46 [(25, 3, 0), (4, 1, 1), (7, 1, 1), (20, 1, 1), (5, 2, 2), (22, 1, 1)] [] [] none ⟨(by omega), (by omega), (by omega), (by omega), (by omega), (by omega), trivial⟩ trivial trivial trivial (by kernel_rfl) (by kernel_rfl) (by kernel_rfl) (show (1 : Int) ≤ 37 by decide) (by kernel_rfl) (say_46 x) (rmay_46 _ _ _ _ _ _ _)
  · simp only [hl, hk, hi]
    show Same x (bif x / 256 % 16 != 0 then _ else _)
    refine Same.bif (fun c2 => ?_) fun c2 => ?_
    · have c2 : ¬ x / 256 % 16 = 0 := by simpa using c2
      exact Same.none h0 h1 [(25, 3, 0), (4, 1, 1), (7, 1, 1), (20, 1, 1), (5, 2, 3), (22, 1, 0)] [(8, 4, 0)] [] none ⟨(by omega), (by omega), (by omega), (by omega), (by omega), (by omega), trivial⟩ ⟨(by omega), trivial⟩ trivial trivial (by kernel_rfl)
    · have c2 : x / 256 % 16 = 0 := bne_zero c2
      exact Same.is h0 h1 51 [(25, 3, 0), (4, 1, 1), (7, 1, 1), (20, 1, 1), (5, 2, 3), (22, 1, 0), (8, 4, 0)] [] [] none ⟨(by omega), (by omega), (by omega), (by omega), (by omega), (by omega), (by omega), trivial⟩ trivial trivial trivial (by kernel_rfl) (by kernel_rfl) (by kernel_rfl) (show (1 : Int) ≤ 38 by decide) (by kernel_rfl) (say_51 x) (rmay_51 _ _ _ _ _ _ _)
  · simp only [hl, hk, hi]
    exact Same.is h0 h1 47 [(25, 3, 0), (4, 1, 1), (7, 1, 1), (20, 1, 1), (5, 2, 3), (22, 1, 1)] [] [] none ⟨(by omega), (by omega), (by omega), (by omega), (by omega), (by omega), trivial⟩ trivial trivial trivial (by kernel_rfl) (by kernel_rfl) (by kernel_rfl) (show (1 : Int) ≤ 38 by decide) (by kernel_rfl) (say_47 x) (rmay_47 _ _ _ _ _ _ _)
theorem special_same (x : Int) (h0 : 0 ≤ x) (h1 : x < 4294967296) (h25 : x / 33554432 % 8 = 0) (h23 : x / 8388608 % 4 = 2) (h20 : x / 1048576 % 2 = 0) (hb : x / 128 % 2 = 0 ∨ x / 16 % 2 = 0) : Same x (isa_special.f x (insC (x / 268435456 % 16))) := by
  have rest : (∀ (NL : List (Nat × Nat × Nat)), True) → (¬ x / 65536 % 16 = 15 ∨ ¬ x % 16 = 0 ∨ ¬ andI .u32 x 263196656 = 16777216) → Same x (bif ((andI .u32 x 263258096) == 18935808) then some ⟨x / 268435456 % 16, 48, (x / 4194304 % 2 == 1), 2, 0, 0, x % 16, 0, 0, 0, 0, x / 65536 % 16, false, false, false, 0, 0, 0, 0, 0⟩ else (bif ((andI .u32 x 268435440) == 19922704) then some ⟨x / 268435456 % 16, 43, false, 0, 0, 0, x % 16, 0, 0, 0, 0, 0, false, false, false, 0, 0, 0, 0, 0⟩ else (bif ((andI .u32 x 268435440) == 19922736) then some ⟨x / 268435456 % 16, 44, false, 0, 0, 0, x % 16, 0, 0, 0, 0, 0, false, false, false, 0, 0, 0, 0, 0⟩ else (bif ((andI .u32 x 267387120) == 18874480) then some ⟨x / 268435456 % 16, 46, false, 0, 0, 0, 0, 0, 0, x / 256 % 4096 * 16 + x % 16, 0, 0, false, false, false, 0, 0, 0, 0, 0⟩ else (bif ((andI .u32 x 268374000) == 24055568) then some ⟨x / 268435456 % 16, 25, false, 0, x / 4096 % 16, 0, x % 16, 0, 0, 0, 0, 0, false, false, false, 0, 0, 0, 0, 0⟩ else some ⟨0, 0, false, 0, 0, 0, 0, 0, 0, 0, 0, 0, false, false, false, 0, 0, 0, 0, 0⟩))))) := by
    intro _ hn
    refine Same.bif (fun cm => ?_) fun d0 => ?_
    · have m0 : x / 16 % 4096 = 3840 := mask_field 4 12 h0 h1 (by decide) (by decide) cm (by decide)
      have m1 : x / 1048576 % 4 = 2 := mask_field 20 2 h0 h1 (by decide) (by decide) cm (by decide)
      have m2 : x / 8388608 % 32 = 2 := mask_field 23 5 h0 h1 (by decide) (by decide) cm (by decide)
      have hv : x / 2097152 % 16 = 9 ∨ x / 2097152 % 16 = 11 := by omega
      rcases hv with hv | hv
      · exact Same.is h0 h1 30 [(25, 3, 0), (23, 2, 2), (20, 1, 0), (4, 12, 3840), (20, 2, 2), (23, 5, 2), (21, 4, 9)] [] [] (some 9) ⟨(by omega), (by omega), (by omega), (by omega), (by omega), (by omega), (by omega), trivial⟩ trivial trivial (show x / 2097152 % 16 = _ by omega) (by kernel_rfl) (by kernel_rfl) (by kernel_rfl) (show (1 : Int) ≤ 48 by decide) (by kernel_rfl) (say_30 x) (rmay_30 _ _ _ _)
      · exact Same.is h0 h1 30 [(25, 3, 0), (23, 2, 2), (20, 1, 0), (4, 12, 3840), (20, 2, 2), (23, 5, 2), (21, 4, 11)] [] [] (some 11) ⟨(by omega), (by omega), (by omega), (by omega), (by omega), (by omega), (by omega), trivial⟩ trivial trivial (show x / 2097152 % 16 = _ by omega) (by kernel_rfl) (by kernel_rfl) (by kernel_rfl) (show (1 : Int) ≤ 48 by decide) (by kernel_rfl) (say_30 x) (rmay_30 _ _ _ _)
    have d0 : ¬ andI .u32 x 263258096 = 18935808 := by simpa using d0
    refine Same.bif (fun cm => ?_) fun d1 => ?_
    · have m0 : x / 16 % 16777216 = 1245169 := mask_field 4 24 h0 h1 (by decide) (by decide) cm (by decide)
      exact Same.is h0 h1 25 [(25, 3, 0), (23, 2, 2), (20, 1, 0), (4, 24, 1245169)] [] [] (some 9) ⟨(by omega), (by omega), (by omega), (by omega), trivial⟩ trivial trivial (show x / 2097152 % 16 = _ by omega) (by kernel_rfl) (by kernel_rfl) (by kernel_rfl) (show (1 : Int) ≤ 43 by decide) (by kernel_rfl) (say_25 x) (rmay_25 _ _)
    have d1 : ¬ andI .u32 x 268435440 = 19922704 := by simpa using d1
    refine Same.bif (fun cm => ?_) fun d2 => ?_
    · have m0 : x / 16 % 16777216 = 1245171 := mask_field 4 24 h0 h1 (by decide) (by decide) cm (by decide)
      exact Same.is h0 h1 26 [(25, 3, 0), (23, 2, 2), (20, 1, 0), (4, 24, 1245171)] [] [] (some 9) ⟨(by omega), (by omega), (by omega), (by omega), trivial⟩ trivial trivial (show x / 2097152 % 16 = _ by omega) (by kernel_rfl) (by kernel_rfl) (by kernel_rfl) (show (1 : Int) ≤ 44 by decide) (by kernel_rfl) (say_26 x) (rmay_26 _ _)
    have d2 : ¬ andI .u32 x 268435440 = 19922736 := by simpa using d2
    refine Same.bif (fun cm => ?_) fun d3 => ?_
    · have m0 : x / 16 % 16 = 7 := mask_field 4 4 h0 h1 (by decide) (by decide) cm (by decide)
      have m1 : x / 1048576 % 256 = 18 := mask_field 20 8 h0 h1 (by decide) (by decide) cm (by decide)
      exact Same.is h0 h1 28 [(25, 3, 0), (23, 2, 2), (20, 1, 0), (4, 4, 7), (20, 8, 18)] [] [] (some 9) ⟨(by omega), (by omega), (by omega), (by omega), (by omega), trivial⟩ trivial trivial (show x / 2097152 % 16 = _ by omega) (by kernel_rfl) (by kernel_rfl) (by kernel_rfl) (show (1 : Int) ≤ 46 by decide) (by kernel_rfl) (say_28 x) (rmay_28 _ _)
    have d3 : ¬ andI .u32 x 267387120 = 18874480 := by simpa using d3
    refine Same.bif (fun cm => ?_) fun d4 => ?_
    · have m0 : x / 16 % 256 = 241 := mask_field 4 8 h0 h1 (by decide) (by decide) cm (by decide)
      have m1 : x / 65536 % 4096 = 367 := mask_field 16 12 h0 h1 (by decide) (by decide) cm (by decide)
      exact Same.is h0 h1 17 [(25, 3, 0), (23, 2, 2), (20, 1, 0), (4, 8, 241), (16, 12, 367)] [] [] (some 11) ⟨(by omega), (by omega), (by omega), (by omega), (by omega), trivial⟩ trivial trivial (show x / 2097152 % 16 = _ by omega) (by kernel_rfl) (by kernel_rfl) (by kernel_rfl) (show (1 : Int) ≤ 25 by decide) (by kernel_rfl) (say_17 x) (rmay_17 _ _ _)
    have d4 : ¬ andI .u32 x 268374000 = 24055568 := by simpa using d4
    rcases hn with hn | hn | hn
    · have hv : x / 2097152 % 16 = 8 ∨ x / 2097152 % 16 = 9 ∨ x / 2097152 % 16 = 10 ∨ x / 2097152 % 16 = 11 := by omega
      rcases hv with hv | hv | hv | hv <;> rcases hb with hb | hb
      · exact Same.none h0 h1 [(25, 3, 0), (23, 2, 2), (20, 1, 0), (21, 4, 8), (7, 1, 0)] [(16, 4, 15)] [(263258096, 18935808), (268435440, 19922704), (268435440, 19922736), (267387120, 18874480), (268374000, 24055568)] (some 8) ⟨(by omega), (by omega), (by omega), (by omega), (by omega), trivial⟩ ⟨(by omega), trivial⟩ ⟨(by simpa using d0), (by simpa using d1), (by simpa using d2), (by simpa using d3), (by simpa using d4), trivial⟩ (show x / 2097152 % 16 = _ by omega) (by kernel_rfl)
      · exact Same.none h0 h1 [(25, 3, 0), (23, 2, 2), (20, 1, 0), (21, 4, 8), (4, 1, 0)] [(16, 4, 15)] [(263258096, 18935808), (268435440, 19922704), (268435440, 19922736), (267387120, 18874480), (268374000, 24055568)] (some 8) ⟨(by omega), (by omega), (by omega), (by omega), (by omega), trivial⟩ ⟨(by omega), trivial⟩ ⟨(by simpa using d0), (by simpa using d1), (by simpa using d2), (by simpa using d3), (by simpa using d4), trivial⟩ (show x / 2097152 % 16 = _ by omega) (by kernel_rfl)
      · exact Same.none h0 h1 [(25, 3, 0), (23, 2, 2), (20, 1, 0), (21, 4, 9), (7, 1, 0)] [(16, 4, 15)] [(263258096, 18935808), (268435440, 19922704), (268435440, 19922736), (267387120, 18874480), (268374000, 24055568)] (some 9) ⟨(by omega), (by omega), (by omega), (by omega), (by omega), trivial⟩ ⟨(by omega), trivial⟩ ⟨(by simpa using d0), (by simpa using d1), (by simpa using d2), (by simpa using d3), (by simpa using d4), trivial⟩ (show x / 2097152 % 16 = _ by omega) (by kernel_rfl)
      · exact Same.none h0 h1 [(25, 3, 0), (23, 2, 2), (20, 1, 0), (21, 4, 9), (4, 1, 0)] [(16, 4, 15)] [(263258096, 18935808), (268435440, 19922704), (268435440, 19922736), (267387120, 18874480), (268374000, 24055568)] (some 9) ⟨(by omega), (by omega), (by omega), (by omega), (by omega), trivial⟩ ⟨(by omega), trivial⟩ ⟨(by simpa using d0), (by simpa using d1), (by simpa using d2), (by simpa using d3), (by simpa using d4), trivial⟩ (show x / 2097152 % 16 = _ by omega) (by kernel_rfl)
      · exact Same.none h0 h1 [(25, 3, 0), (23, 2, 2), (20, 1, 0), (21, 4, 10), (7, 1, 0)] [(16, 4, 15)] [(263258096, 18935808), (268435440, 19922704), (268435440, 19922736), (267387120, 18874480), (268374000, 24055568)] (some 10) ⟨(by omega), (by omega), (by omega), (by omega), (by omega), trivial⟩ ⟨(by omega), trivial⟩ ⟨(by simpa using d0), (by simpa using d1), (by simpa using d2), (by simpa using d3), (by simpa using d4), trivial⟩ (show x / 2097152 % 16 = _ by omega) (by kernel_rfl)
      · exact Same.none h0 h1 [(25, 3, 0), (23, 2, 2), (20, 1, 0), (21, 4, 10), (4, 1, 0)] [(16, 4, 15)] [(263258096, 18935808), (268435440, 19922704), (268435440, 19922736), (267387120, 18874480), (268374000, 24055568)] (some 10) ⟨(by omega), (by omega), (by omega), (by omega), (by omega), trivial⟩ ⟨(by omega), trivial⟩ ⟨(by simpa using d0), (by simpa using d1), (by simpa using d2), (by simpa using d3), (by simpa using d4), trivial⟩ (show x / 2097152 % 16 = _ by omega) (by kernel_rfl)
      · exact Same.none h0 h1 [(25, 3, 0), (23, 2, 2), (20, 1, 0), (21, 4, 11), (7, 1, 0)] [(16, 4, 15)] [(263258096, 18935808), (268435440, 19922704), (268435440, 19922736), (267387120, 18874480), (268374000, 24055568)] (some 11) ⟨(by omega), (by omega), (by omega), (by omega), (by omega), trivial⟩ ⟨(by omega), trivial⟩ ⟨(by simpa using d0), (by simpa using d1), (by simpa using d2), (by simpa using d3), (by simpa using d4), trivial⟩ (show x / 2097152 % 16 = _ by omega) (by kernel_rfl)
      · exact Same.none h0 h1 [(25, 3, 0), (23, 2, 2), (20, 1, 0), (21, 4, 11), (4, 1, 0)] [(16, 4, 15)] [(263258096, 18935808), (268435440, 19922704), (268435440, 19922736), (267387120, 18874480), (268374000, 24055568)] (some 11) ⟨(by omega), (by omega), (by omega), (by omega), (by omega), trivial⟩ ⟨(by omega), trivial⟩ ⟨(by simpa using d0), (by simpa using d1), (by simpa using d2), (by simpa using d3), (by simpa using d4), trivial⟩ (show x / 2097152 % 16 = _ by omega) (by kernel_rfl)
    · have hv : x / 2097152 % 16 = 8 ∨ x / 2097152 % 16 = 9 ∨ x / 2097152 % 16 = 10 ∨ x / 2097152 % 16 = 11 := by omega
      rcases hv with hv | hv | hv | hv <;> rcases hb with hb | hb
      · exact Same.none h0 h1 [(25, 3, 0), (23, 2, 2), (20, 1, 0), (21, 4, 8), (7, 1, 0)] [(0, 4, 0)] [(263258096, 18935808), (268435440, 19922704), (268435440, 19922736), (267387120, 18874480), (268374000, 24055568)] (some 8) ⟨(by omega), (by omega), (by omega), (by omega), (by omega), trivial⟩ ⟨(by omega), trivial⟩ ⟨(by simpa using d0), (by simpa using d1), (by simpa using d2), (by simpa using d3), (by simpa using d4), trivial⟩ (show x / 2097152 % 16 = _ by omega) (by kernel_rfl)
      · exact Same.none h0 h1 [(25, 3, 0), (23, 2, 2), (20, 1, 0), (21, 4, 8), (4, 1, 0)] [(0, 4, 0)] [(263258096, 18935808), (268435440, 19922704), (268435440, 19922736), (267387120, 18874480), (268374000, 24055568)] (some 8) ⟨(by omega), (by omega), (by omega), (by omega), (by omega), trivial⟩ ⟨(by omega), trivial⟩ ⟨(by simpa using d0), (by simpa using d1), (by simpa using d2), (by simpa using d3), (by simpa using d4), trivial⟩ (show x / 2097152 % 16 = _ by omega) (by kernel_rfl)
      · exact Same.none h0 h1 [(25, 3, 0), (23, 2, 2), (20, 1, 0), (21, 4, 9), (7, 1, 0)] [(0, 4, 0)] [(263258096, 18935808), (268435440, 19922704), (268435440, 19922736), (267387120, 18874480), (268374000, 24055568)] (some 9) ⟨(by omega), (by omega), (by omega), (by omega), (by omega), trivial⟩ ⟨(by omega), trivial⟩ ⟨(by simpa using d0), (by simpa using d1), (by simpa using d2), (by simpa using d3), (by simpa using d4), trivial⟩ (show x / 2097152 % 16 = _ by omega) (by kernel_rfl)
      · exact Same.none h0 h1 [(25, 3, 0), (23, 2, 2), (20, 1, 0), (21, 4, 9), (4, 1, 0)] [(0, 4, 0)] [(263258096, 18935808), (268435440, 19922704), (268435440, 19922736), (267387120, 18874480), (268374000, 24055568)] (some 9) ⟨(by omega), (by omega), (by omega), (by omega), (by omega), trivial⟩ ⟨(by omega), trivial⟩ ⟨(by simpa using d0), (by simpa using d1), (by simpa using d2), (by simpa using d3), (by simpa using d4), trivial⟩ (show x / 2097152 % 16 = _ by omega) (by kernel_rfl)
      · exact Same.none h0 h1 [(25, 3, 0), (23, 2, 2), (20, 1, 0), (21, 4, 10), (7, 1, 0)] [(0, 4, 0)] [(263258096, 18935808), (268435440, 19922704), (268435440, 19922736), (267387120, 18874480), (268374000, 24055568)] (some 10) ⟨(by omega), (by omega), (by omega), (by omega), (by omega), trivial⟩ ⟨(by omega), trivial⟩ ⟨(by simpa using d0), (by simpa using d1), (by simpa using d2), (by simpa using d3), (by simpa using d4), trivial⟩ (show x / 2097152 % 16 = _ by omega) (by kernel_rfl)
      · exact Same.none h0 h1 [(25, 3, 0), (23, 2, 2), (20, 1, 0), (21, 4, 10), (4, 1, 0)] [(0, 4, 0)] [(263258096, 18935808), (268435440, 19922704), (268435440, 19922736), (267387120, 18874480), (268374000, 24055568)] (some 10) ⟨(by omega), (by omega), (by omega), (by omega), (by omega), trivial⟩ ⟨(by omega), trivial⟩ ⟨(by simpa using d0), (by simpa using d1), (by simpa using d2), (by simpa using d3), (by simpa using d4), trivial⟩ (show x / 2097152 % 16 = _ by omega) (by kernel_rfl)
      · exact Same.none h0 h1 [(25, 3, 0), (23, 2, 2), (20, 1, 0), (21, 4, 11), (7, 1, 0)] [(0, 4, 0)] [(263258096, 18935808), (268435440, 19922704), (268435440, 19922736), (267387120, 18874480), (268374000, 24055568)] (some 11) ⟨(by omega), (by omega), (by omega), (by omega), (by omega), trivial⟩ ⟨(by omega), trivial⟩ ⟨(by simpa using d0), (by simpa using d1), (by simpa using d2), (by simpa using d3), (by simpa using d4), trivial⟩ (show x / 2097152 % 16 = _ by omega) (by kernel_rfl)
      · exact Same.none h0 h1 [(25, 3, 0), (23, 2, 2), (20, 1, 0), (21, 4, 11), (4, 1, 0)] [(0, 4, 0)] [(263258096, 18935808), (268435440, 19922704), (268435440, 19922736), (267387120, 18874480), (268374000, 24055568)] (some 11) ⟨(by omega), (by omega), (by omega), (by omega), (by omega), trivial⟩ ⟨(by omega), trivial⟩ ⟨(by simpa using d0), (by simpa using d1), (by simpa using d2), (by simpa using d3), (by simpa using d4), trivial⟩ (show x / 2097152 % 16 = _ by omega) (by kernel_rfl)
    · have hv : x / 2097152 % 16 = 8 ∨ x / 2097152 % 16 = 9 ∨ x / 2097152 % 16 = 10 ∨ x / 2097152 % 16 = 11 := by omega
      rcases hv with hv | hv | hv | hv <;> rcases hb with hb | hb
      · exact Same.none h0 h1 [(25, 3, 0), (23, 2, 2), (20, 1, 0), (21, 4, 8), (7, 1, 0)] [] [(263258096, 18935808), (268435440, 19922704), (268435440, 19922736), (267387120, 18874480), (268374000, 24055568), (263196656, 16777216)] (some 8) ⟨(by omega), (by omega), (by omega), (by omega), (by omega), trivial⟩ trivial ⟨(by simpa using d0), (by simpa using d1), (by simpa using d2), (by simpa using d3), (by simpa using d4), (by simpa using hn), trivial⟩ (show x / 2097152 % 16 = _ by omega) (by kernel_rfl)
      · exact Same.none h0 h1 [(25, 3, 0), (23, 2, 2), (20, 1, 0), (21, 4, 8), (4, 1, 0)] [] [(263258096, 18935808), (268435440, 19922704), (268435440, 19922736), (267387120, 18874480), (268374000, 24055568), (263196656, 16777216)] (some 8) ⟨(by omega), (by omega), (by omega), (by omega), (by omega), trivial⟩ trivial ⟨(by simpa using d0), (by simpa using d1), (by simpa using d2), (by simpa using d3), (by simpa using d4), (by simpa using hn), trivial⟩ (show x / 2097152 % 16 = _ by omega) (by kernel_rfl)
      · exact Same.none h0 h1 [(25, 3, 0), (23, 2, 2), (20, 1, 0), (21, 4, 9), (7, 1, 0)] [] [(263258096, 18935808), (268435440, 19922704), (268435440, 19922736), (267387120, 18874480), (268374000, 24055568), (263196656, 16777216)] (some 9) ⟨(by omega), (by omega), (by omega), (by omega), (by omega), trivial⟩ trivial ⟨(by simpa using d0), (by simpa using d1), (by simpa using d2), (by simpa using d3), (by simpa using d4), (by simpa using hn), trivial⟩ (show x / 2097152 % 16 = _ by omega) (by kernel_rfl)
      · exact Same.none h0 h1 [(25, 3, 0), (23, 2, 2), (20, 1, 0), (21, 4, 9), (4, 1, 0)] [] [(263258096, 18935808), (268435440, 19922704), (268435440, 19922736), (267387120, 18874480), (268374000, 24055568), (263196656, 16777216)] (some 9) ⟨(by omega), (by omega), (by omega), (by omega), (by omega), trivial⟩ trivial ⟨(by simpa using d0), (by simpa using d1), (by simpa using d2), (by simpa using d3), (by simpa using d4), (by simpa using hn), trivial⟩ (show x / 2097152 % 16 = _ by omega) (by kernel_rfl)
      · exact Same.none h0 h1 [(25, 3, 0), (23, 2, 2), (20, 1, 0), (21, 4, 10), (7, 1, 0)] [] [(263258096, 18935808), (268435440, 19922704), (268435440, 19922736), (267387120, 18874480), (268374000, 24055568), (263196656, 16777216)] (some 10) ⟨(by omega), (by omega), (by omega), (by omega), (by omega), trivial⟩ trivial ⟨(by simpa using d0), (by simpa using d1), (by simpa using d2), (by simpa using d3), (by simpa using d4), (by simpa using hn), trivial⟩ (show x / 2097152 % 16 = _ by omega) (by kernel_rfl)
      · exact Same.none h0 h1 [(25, 3, 0), (23, 2, 2), (20, 1, 0), (21, 4, 10), (4, 1, 0)] [] [(263258096, 18935808), (268435440, 19922704), (268435440, 19922736), (267387120, 18874480), (268374000, 24055568), (263196656, 16777216)] (some 10) ⟨(by omega), (by omega), (by omega), (by omega), (by omega), trivial⟩ trivial ⟨(by simpa using d0), (by simpa using d1), (by simpa using d2), (by simpa using d3), (by simpa using d4), (by simpa using hn), trivial⟩ (show x / 2097152 % 16 = _ by omega) (by kernel_rfl)
      · exact Same.none h0 h1 [(25, 3, 0), (23, 2, 2), (20, 1, 0), (21, 4, 11), (7, 1, 0)] [] [(263258096, 18935808), (268435440, 19922704), (268435440, 19922736), (267387120, 18874480), (268374000, 24055568), (263196656, 16777216)] (some 11) ⟨(by omega), (by omega), (by omega), (by omega), (by omega), trivial⟩ trivial ⟨(by simpa using d0), (by simpa using d1), (by simpa using d2), (by simpa using d3), (by simpa using d4), (by simpa using hn), trivial⟩ (show x / 2097152 % 16 = _ by omega) (by kernel_rfl)
      · exact Same.none h0 h1 [(25, 3, 0), (23, 2, 2), (20, 1, 0), (21, 4, 11), (4, 1, 0)] [] [(263258096, 18935808), (268435440, 19922704), (268435440, 19922736), (267387120, 18874480), (268374000, 24055568), (263196656, 16777216)] (some 11) ⟨(by omega), (by omega), (by omega), (by omega), (by omega), trivial⟩ trivial ⟨(by simpa using d0), (by simpa using d1), (by simpa using d2), (by simpa using d3), (by simpa using d4), (by simpa using hn), trivial⟩ (show x / 2097152 % 16 = _ by omega) (by kernel_rfl)
  unfold isa_special.f
  simp only [get_31_28 h0 h1, get_27_25 h0 h1, get_27_24 h0 h1, get_24_24 h0 h1, get_24_23 h0 h1, get_24_21 h0 h1, get_23_21 h0 h1, get_23_0 h0 h1, get_22_22 h0 h1, get_22_20 h0 h1, get_20_20 h0 h1, get_19_16 h0 h1, get_19_8 h0 h1, get_15_12 h0 h1, get_11_10 h0 h1, get_11_8 h0 h1, get_11_7 h0 h1, get_11_0 h0 h1, get_7_5 h0 h1, get_7_4 h0 h1, get_6_5 h0 h1, get_3_0 h0 h1, bit_4 h0 h1, bit_7 h0 h1, bit_20 h0 h1, bit_21 h0 h1, bit_22 h0 h1, bit_23 h0 h1, bit_24 h0 h1, bit_25 h0 h1, Option.bind_some, two_i64 (x / 256 % 4096) (x % 16) (by omega) (by omega) (by omega) (by omega)]
  refine Same.bif (fun cm => ?_) fun d => rest (fun _ => trivial) (.inr (.inr (by simpa using d)))
  refine Same.bif (fun c2 => ?_) fun c2 => rest (fun _ => trivial) (.inl (beq_false c2))
  refine Same.bif (fun c3 => ?_) fun c3 => rest (fun _ => trivial) (.inr (.inl (beq_false c3)))
  have c2 := beq_true c2
  have c3 := beq_true c3
  have m0 : x / 16 % 256 = 0 := mask_field 4 8 h0 h1 (by decide) (by decide) cm (by decide)
  have m1 : x / 1048576 % 4 = 0 := mask_field 20 2 h0 h1 (by decide) (by decide) cm (by decide)
  have m2 : x / 8388608 % 32 = 2 := mask_field 23 5 h0 h1 (by decide) (by decide) cm (by decide)
  have hv : x / 2097152 % 16 = 8 ∨ x / 2097152 % 16 = 10 := by omega
  rcases hv with hv | hv
  · exact Same.is h0 h1 29 [(25, 3, 0), (23, 2, 2), (20, 1, 0), (4, 8, 0), (20, 2, 0), (23, 5, 2), (16, 4, 15), (0, 4, 0), (21, 4, 8)] [] [] (some 8) ⟨(by omega), (by omega), (by omega), (by omega), (by omega), (by omega), (by omega), (by omega), (by omega), trivial⟩ trivial trivial (show x / 2097152 % 16 = _ by omega) (by kernel_rfl) (by kernel_rfl) (by kernel_rfl) (show (1 : Int) ≤ 47 by decide) (by kernel_rfl) (say_29 x) (rmay_29 _ _ _)
  · exact Same.is h0 h1 29 [(25, 3, 0), (23, 2, 2), (20, 1, 0), (4, 8, 0), (20, 2, 0), (23, 5, 2), (16, 4, 15), (0, 4, 0), (21, 4, 10)] [] [] (some 10) ⟨(by omega), (by omega), (by omega), (by omega), (by omega), (by omega), (by omega), (by omega), (by omega), trivial⟩ trivial trivial (show x / 2097152 % 16 = _ by omega) (by kernel_rfl) (by kernel_rfl) (by kernel_rfl) (show (1 : Int) ≤ 47 by decide) (by kernel_rfl) (say_29 x) (rmay_29 _ _ _)
theorem second_same (x : Int) (h0 : 0 ≤ x) (h1 : x < 4294967296) (h25 : x / 33554432 % 8 = 1) : Same x (isa_second.f x (insC (x / 268435456 % 16))) := by
  have two : orI .u32 (x % 4096) (shlI .u32 (IntKind.wrap .u32 (x / 65536 % 16)) 12) = x / 65536 % 16 * 4096 + x % 4096 := by
    have e : shlI .u32 (IntKind.wrap .u32 (x / 65536 % 16)) 12 = x / 65536 % 16 * 2 ^ 12 := by
      rw [wrap_u32 _ (by omega) (by omega)]
      show IntKind.wrap .u32 (x / 65536 % 16 * 2 ^ 12) = _
      rw [wrap_u32 _ (by omega) (by omega)]
    rw [e, or_field (x % 4096) (x / 65536 % 16) 12 4 (by omega) (by omega) (by omega) (by omega) (by decide) (by simp only [Int.reducePow]; omega), Int.add_comm]
    rfl
  unfold isa_second.f
  simp only [get_31_28 h0 h1, get_27_25 h0 h1, get_27_24 h0 h1, get_24_24 h0 h1, get_24_23 h0 h1, get_24_21 h0 h1, get_23_21 h0 h1, get_23_0 h0 h1, get_22_22 h0 h1, get_22_20 h0 h1, get_20_20 h0 h1, get_19_16 h0 h1, get_19_8 h0 h1, get_15_12 h0 h1, get_11_10 h0 h1, get_11_8 h0 h1, get_11_7 h0 h1, get_11_0 h0 h1, get_7_5 h0 h1, get_7_4 h0 h1, get_6_5 h0 h1, get_3_0 h0 h1, bit_4 h0 h1, bit_7 h0 h1, bit_20 h0 h1, bit_21 h0 h1, bit_22 h0 h1, bit_23 h0 h1, bit_24 h0 h1, bit_25 h0 h1, Option.bind_some, wrap_u32 (x % 4096) (by omega) (by omega), two]
  refine Same.bif (fun c1 => ?_) fun c1 => ?_
  · have c1 : ¬ x / 8388608 % 4 = 2 := by simpa using c1
    exact Same.eta (data_same_imm x h0 h1 h25 (fun h => absurd h c1))
  refine Same.bif (fun c2 => ?_) fun c2 => ?_
  · exact Same.eta (data_same_imm x h0 h1 h25 (fun _ => beq_true c2))
  have c1 := bne_zero c1
  have c2 := beq_false c2
  have c2 : x / 1048576 % 2 = 0 := by omega
  refine Same.bif (fun c3 => ?_) fun c3 => ?_
  · have c3 := beq_true c3
    exact Same.is h0 h1 9 [(25, 3, 1), (23, 2, 2), (20, 1, 0), (20, 3, 0)] [] [] (some 8) ⟨(by omega), (by omega), (by omega), (by omega), trivial⟩ trivial trivial (show x / 2097152 % 16 = _ by omega) (by kernel_rfl) (by kernel_rfl) (by kernel_rfl) (show (1 : Int) ≤ 17 by decide) (by kernel_rfl) (say_9 x) (rmay_9 _ _ _)
  refine Same.bif (fun c4 => ?_) fun c4 => ?_
  · have c4 := beq_true c4
    exact Same.is h0 h1 10 [(25, 3, 1), (23, 2, 2), (20, 1, 0), (20, 3, 4)] [] [] (some 10) ⟨(by omega), (by omega), (by omega), (by omega), trivial⟩ trivial trivial (show x / 2097152 % 16 = _ by omega) (by kernel_rfl) (by kernel_rfl) (by kernel_rfl) (show (1 : Int) ≤ 18 by decide) (by kernel_rfl) (say_10 x) (rmay_10 _ _ _)
  refine Same.bif (fun cm => ?_) fun d0 => ?_
  · have m0 : x / 1 % 268435456 = 52490240 := mask_field 0 28 h0 h1 (by decide) (by decide) cm (by decide)
    have z : x % 4096 = 0 := by omega
    simp only [z]
    exact Same.is2 h0 h1 31 34 [(25, 3, 1), (23, 2, 2), (20, 1, 0), (0, 28, 52490240)] [] [] (some 9) ⟨(by omega), (by omega), (by omega), (by omega), trivial⟩ trivial trivial (show x / 2097152 % 16 = _ by omega) (by kernel_rfl) (pass_31 x (by omega)) (by kernel_rfl) (by kernel_rfl) (show (1 : Int) ≤ 51 by decide) (by kernel_rfl) (say_34 x) (rmay_34 _)
  refine Same.bif (fun cm => ?_) fun d1 => ?_
  · have m0 : x / 1 % 268435456 = 52490243 := mask_field 0 28 h0 h1 (by decide) (by decide) cm (by decide)
    exact Same.is2 h0 h1 31 35 [(25, 3, 1), (23, 2, 2), (20, 1, 0), (0, 28, 52490243)] [] [] (some 9) ⟨(by omega), (by omega), (by omega), (by omega), trivial⟩ trivial trivial (show x / 2097152 % 16 = _ by omega) (by kernel_rfl) (pass_31 x (by omega)) (by kernel_rfl) (by kernel_rfl) (show (1 : Int) ≤ 52 by decide) (by kernel_rfl) (say_35 x) (rmay_35 _)
  have d0 : ¬ andI .u32 x 268435455 = 52490240 := by simpa using d0
  have d1 : ¬ andI .u32 x 268435455 = 52490243 := by simpa using d1
  have c3 := beq_false c3
  have c4 := beq_false c4
  have hv : x / 2097152 % 4 = 1 ∨ x / 2097152 % 4 = 3 := by omega
  refine Same.bif (fun c5 => ?_) fun c5 => ?_
  · have c5 := beq_true c5
    rcases hv with hv | hv
    · exact Same.is h0 h1 31 [(25, 3, 1), (23, 2, 2), (20, 1, 0), (21, 2, 1), (12, 4, 15)] [] [(268435455, 52490240), (268435455, 52490243)] (some 9) ⟨(by omega), (by omega), (by omega), (by omega), (by omega), trivial⟩ trivial ⟨(by simpa using d0), (by simpa using d1), trivial⟩ (show x / 2097152 % 16 = _ by omega) (by kernel_rfl) (by kernel_rfl) (by kernel_rfl) (show (1 : Int) ≤ 48 by decide) (by kernel_rfl) (say_31 x) (rmay_31 _ _ _ _)
    · exact Same.is h0 h1 31 [(25, 3, 1), (23, 2, 2), (20, 1, 0), (21, 2, 3), (12, 4, 15)] [] [(268435455, 52490240), (268435455, 52490243)] (some 11) ⟨(by omega), (by omega), (by omega), (by omega), (by omega), trivial⟩ trivial ⟨(by simpa using d0), (by simpa using d1), trivial⟩ (show x / 2097152 % 16 = _ by omega) (by kernel_rfl) (by kernel_rfl) (by kernel_rfl) (show (1 : Int) ≤ 48 by decide) (by kernel_rfl) (say_31 x) (rmay_31 _ _ _ _)
  · have c5 := beq_false c5
    rcases hv with hv | hv
    · exact Same.none h0 h1 [(25, 3, 1), (23, 2, 2), (20, 1, 0), (21, 2, 1)] [(12, 4, 15)] [(268435455, 52490240), (268435455, 52490243)] (some 9) ⟨(by omega), (by omega), (by omega), (by omega), trivial⟩ ⟨(by omega), trivial⟩ ⟨(by simpa using d0), (by simpa using d1), trivial⟩ (show x / 2097152 % 16 = _ by omega) (by kernel_rfl)
    · exact Same.none h0 h1 [(25, 3, 1), (23, 2, 2), (20, 1, 0), (21, 2, 3)] [(12, 4, 15)] [(268435455, 52490240), (268435455, 52490243)] (some 11) ⟨(by omega), (by omega), (by omega), (by omega), trivial⟩ ⟨(by omega), trivial⟩ ⟨(by simpa using d0), (by simpa using d1), trivial⟩ (show x / 2097152 % 16 = _ by omega) (by kernel_rfl)
theorem single_same (x : Int) (h0 : 0 ≤ x) (h1 : x < 4294967296) (h26 : x / 67108864 % 4 = 1) (h4 : x / 33554432 % 2 = 1 → x / 16 % 2 = 0) : Same x (isa_single.f x (insC (x / 268435456 % 16))) := by
  unfold isa_single.f
  simp only [get_31_28 h0 h1, get_27_25 h0 h1, get_27_24 h0 h1, get_24_24 h0 h1, get_24_23 h0 h1, get_24_21 h0 h1, get_23_21 h0 h1, get_23_0 h0 h1, get_22_22 h0 h1, get_22_20 h0 h1, get_20_20 h0 h1, get_19_16 h0 h1, get_19_8 h0 h1, get_15_12 h0 h1, get_11_10 h0 h1, get_11_8 h0 h1, get_11_7 h0 h1, get_11_0 h0 h1, get_7_5 h0 h1, get_7_4 h0 h1, get_6_5 h0 h1, get_3_0 h0 h1, bit_4 h0 h1, bit_7 h0 h1, bit_20 h0 h1, bit_21 h0 h1, bit_22 h0 h1, bit_23 h0 h1, bit_24 h0 h1, bit_25 h0 h1, Option.bind_some, wrap_u32 (x % 4096) (by omega) (by omega)]
  have hb : x / 4194304 % 2 = 0 ∨ x / 4194304 % 2 = 1 := by omega
  have hl : x / 1048576 % 2 = 0 ∨ x / 1048576 % 2 = 1 := by omega
  have hf : x / 33554432 % 2 = 0 ∨ x / 33554432 % 2 = 1 := by omega
  rcases hb with hb | hb <;> rcases hl with hl | hl <;> rcases hf with hf | hf <;> simp only [hb, hl, hf]
  · exact Same.is h0 h1 37 [(26, 2, 1), (22, 1, 0), (20, 1, 0), (25, 1, 0)] [] [] none ⟨(by omega), (by omega), (by omega), (by omega), trivial⟩ trivial trivial trivial (by kernel_rfl) (by kernel_rfl) (by kernel_rfl) (show (1 : Int) ≤ 32 by decide) (by kernel_rfl) (say_37 x) (rmay_37 _ _ _ _ _ _ _)
  · have h4 := h4 hf
    exact Same.is h0 h1 41 [(26, 2, 1), (22, 1, 0), (20, 1, 0), (25, 1, 1), (4, 1, 0)] [] [] none ⟨(by omega), (by omega), (by omega), (by omega), (by omega), trivial⟩ trivial trivial trivial (by kernel_rfl) (by kernel_rfl) (by kernel_rfl) (show (1 : Int) ≤ 32 by decide) (by kernel_rfl) (say_41 x) (rmay_41 _ _ _ _ _ _ _ _ _)
  · exact Same.is h0 h1 36 [(26, 2, 1), (22, 1, 0), (20, 1, 1), (25, 1, 0)] [] [] none ⟨(by omega), (by omega), (by omega), (by omega), trivial⟩ trivial trivial trivial (by kernel_rfl) (by kernel_rfl) (by kernel_rfl) (show (1 : Int) ≤ 31 by decide) (by kernel_rfl) (say_36 x) (rmay_36 _ _ _ _ _ _ _)
  · have h4 := h4 hf
    exact Same.is h0 h1 40 [(26, 2, 1), (22, 1, 0), (20, 1, 1), (25, 1, 1), (4, 1, 0)] [] [] none ⟨(by omega), (by omega), (by omega), (by omega), (by omega), trivial⟩ trivial trivial trivial (by kernel_rfl) (by kernel_rfl) (by kernel_rfl) (show (1 : Int) ≤ 31 by decide) (by kernel_rfl) (say_40 x) (rmay_40 _ _ _ _ _ _ _ _ _)
  · exact Same.is h0 h1 39 [(26, 2, 1), (22, 1, 1), (20, 1, 0), (25, 1, 0)] [] [] none ⟨(by omega), (by omega), (by omega), (by omega), trivial⟩ trivial trivial trivial (by kernel_rfl) (by kernel_rfl) (by kernel_rfl) (show (1 : Int) ≤ 34 by decide) (by kernel_rfl) (say_39 x) (rmay_39 _ _ _ _ _ _ _)
  · have h4 := h4 hf
    exact Same.is h0 h1 43 [(26, 2, 1), (22, 1, 1), (20, 1, 0), (25, 1, 1), (4, 1, 0)] [] [] none ⟨(by omega), (by omega), (by omega), (by omega), (by omega), trivial⟩ trivial trivial trivial (by kernel_rfl) (by kernel_rfl) (by kernel_rfl) (show (1 : Int) ≤ 34 by decide) (by kernel_rfl) (say_43 x) (rmay_43 _ _ _ _ _ _ _ _ _)
  · exact Same.is h0 h1 38 [(26, 2, 1), (22, 1, 1), (20, 1, 1), (25, 1, 0)] [] [] none ⟨(by omega), (by omega), (by omega), (by omega), trivial⟩ trivial trivial trivial (by kernel_rfl) (by kernel_rfl) (by kernel_rfl) (show (1 : Int) ≤ 33 by decide) (by kernel_rfl) (say_38 x) (rmay_38 _ _ _ _ _ _ _)
  · have h4 := h4 hf
    exact Same.is h0 h1 42 [(26, 2, 1), (22, 1, 1), (20, 1, 1), (25, 1, 1), (4, 1, 0)] [] [] none ⟨(by omega), (by omega), (by omega), (by omega), (by omega), trivial⟩ trivial trivial trivial (by kernel_rfl) (by kernel_rfl) (by kernel_rfl) (show (1 : Int) ≤ 33 by decide) (by kernel_rfl) (say_42 x) (rmay_42 _ _ _ _ _ _ _ _ _)
theorem media_same (x : Int) (h0 : 0 ≤ x) (h1 : x < 4294967296) (h25 : x / 33554432 % 8 = 3) (h4 : x / 16 % 2 = 1) : Same x (isa_media.f x (insC (x / 268435456 % 16))) := by
  unfold isa_media.f
  simp only [get_31_28 h0 h1, get_27_25 h0 h1, get_27_24 h0 h1, get_24_24 h0 h1, get_24_23 h0 h1, get_24_21 h0 h1, get_23_21 h0 h1, get_23_0 h0 h1, get_22_22 h0 h1, get_22_20 h0 h1, get_20_20 h0 h1, get_19_16 h0 h1, get_19_8 h0 h1, get_15_12 h0 h1, get_11_10 h0 h1, get_11_8 h0 h1, get_11_7 h0 h1, get_11_0 h0 h1, get_7_5 h0 h1, get_7_4 h0 h1, get_6_5 h0 h1, get_3_0 h0 h1, bit_4 h0 h1, bit_7 h0 h1, bit_20 h0 h1, bit_21 h0 h1, bit_22 h0 h1, bit_23 h0 h1, bit_24 h0 h1, bit_25 h0 h1, Option.bind_some]
  refine Same.bif (fun cm => ?_) fun d0 => ?_
  · have m0 : x / 16 % 256 = 243 := mask_field 4 8 h0 h1 (by decide) (by decide) cm (by decide)
    have m1 : x / 65536 % 4096 = 1727 := mask_field 16 12 h0 h1 (by decide) (by decide) cm (by decide)
    exact Same.is h0 h1 18 [(25, 3, 3), (4, 1, 1), (4, 8, 243), (16, 12, 1727)] [] [] none ⟨(by omega), (by omega), (by omega), (by omega), trivial⟩ trivial trivial trivial (by kernel_rfl) (by kernel_rfl) (by kernel_rfl) (show (1 : Int) ≤ 26 by decide) (by kernel_rfl) (say_18 x) (rmay_18 _ _ _)
  have d0 : ¬ andI .u32 x 268374000 = 113184560 := by simpa using d0
  refine Same.bif (fun cm => ?_) fun d1 => ?_
  rotate_left
  · have d1 : ¬ andI .u32 x 261030896 = 110035056 := by simpa using d1
    exact Same.none h0 h1 [(25, 3, 3), (4, 1, 1)] [] [(268374000, 113184560), (261030896, 110035056)] none ⟨(by omega), (by omega), trivial⟩ trivial ⟨(by simpa using d0), (by simpa using d1), trivial⟩ trivial (by kernel_rfl)
  have m0 : x / 16 % 64 = 7 := mask_field 4 6 h0 h1 (by decide) (by decide) cm (by decide)
  have m1 : x / 65536 % 16 = 15 := mask_field 16 4 h0 h1 (by decide) (by decide) cm (by decide)
  have m2 : x / 8388608 % 32 = 13 := mask_field 23 5 h0 h1 (by decide) (by decide) cm (by decide)
  refine Same.bif (fun c3 => ?_) fun c3 => ?_
  rotate_left
  · have c3 := beq_false c3
    exact Same.none h0 h1 [(25, 3, 3), (4, 1, 1), (4, 6, 7), (16, 4, 15), (23, 5, 13)] [(16, 4, 15)] [(268374000, 113184560)] none ⟨(by omega), (by omega), (by omega), (by omega), (by omega), trivial⟩ ⟨(by omega), trivial⟩ ⟨(by simpa using d0), trivial⟩ trivial (by kernel_rfl)
  have c3 := beq_true c3
  have h : x / 1048576 % 8 = 0 ∨ x / 1048576 % 8 = 1 ∨ x / 1048576 % 8 = 2 ∨ x / 1048576 % 8 = 3 ∨ x / 1048576 % 8 = 4 ∨ x / 1048576 % 8 = 5 ∨ x / 1048576 % 8 = 6 ∨ x / 1048576 % 8 = 7 := by omega
  rcases h with h | h | h | h | h | h | h | h <;> simp only [h]
  · exact Same.none h0 h1 [(25, 3, 3), (4, 1, 1), (4, 6, 7), (16, 4, 15), (23, 5, 13), (16, 4, 15), (20, 3, 0)] [] [(268374000, 113184560)] none ⟨(by omega), (by omega), (by omega), (by omega), (by omega), (by omega), (by omega), trivial⟩ trivial ⟨(by simpa using d0), trivial⟩ trivial (by kernel_rfl)
  · exact Same.none h0 h1 [(25, 3, 3), (4, 1, 1), (4, 6, 7), (16, 4, 15), (23, 5, 13), (16, 4, 15), (20, 3, 1)] [] [(268374000, 113184560)] none ⟨(by omega), (by omega), (by omega), (by omega), (by omega), (by omega), (by omega), trivial⟩ trivial ⟨(by simpa using d0), trivial⟩ trivial (by kernel_rfl)
  · exact Same.is h0 h1 21 [(25, 3, 3), (4, 1, 1), (4, 6, 7), (16, 4, 15), (23, 5, 13), (16, 4, 15), (20, 3, 2)] [] [(268374000, 113184560)] none ⟨(by omega), (by omega), (by omega), (by omega), (by omega), (by omega), (by omega), trivial⟩ trivial ⟨(by simpa using d0), trivial⟩ trivial (by kernel_rfl) (by kernel_rfl) (by kernel_rfl) (show (1 : Int) ≤ 29 by decide) (by kernel_rfl) (say_21 x) (rmay_21 _ _ _ _)
  · exact Same.is h0 h1 22 [(25, 3, 3), (4, 1, 1), (4, 6, 7), (16, 4, 15), (23, 5, 13), (16, 4, 15), (20, 3, 3)] [] [(268374000, 113184560)] none ⟨(by omega), (by omega), (by omega), (by omega), (by omega), (by omega), (by omega), trivial⟩ trivial ⟨(by simpa using d0), trivial⟩ trivial (by kernel_rfl) (by kernel_rfl) (by kernel_rfl) (show (1 : Int) ≤ 30 by decide) (by kernel_rfl) (say_22 x) (rmay_22 _ _ _ _)
  · exact Same.none h0 h1 [(25, 3, 3), (4, 1, 1), (4, 6, 7), (16, 4, 15), (23, 5, 13), (16, 4, 15), (20, 3, 4)] [] [(268374000, 113184560)] none ⟨(by omega), (by omega), (by omega), (by omega), (by omega), (by omega), (by omega), trivial⟩ trivial ⟨(by simpa using d0), trivial⟩ trivial (by kernel_rfl)
  · exact Same.none h0 h1 [(25, 3, 3), (4, 1, 1), (4, 6, 7), (16, 4, 15), (23, 5, 13), (16, 4, 15), (20, 3, 5)] [] [(268374000, 113184560)] none ⟨(by omega), (by omega), (by omega), (by omega), (by omega), (by omega), (by omega), trivial⟩ trivial ⟨(by simpa using d0), trivial⟩ trivial (by kernel_rfl)
  · exact Same.is h0 h1 19 [(25, 3, 3), (4, 1, 1), (4, 6, 7), (16, 4, 15), (23, 5, 13), (16, 4, 15), (20, 3, 6)] [] [(268374000, 113184560)] none ⟨(by omega), (by omega), (by omega), (by omega), (by omega), (by omega), (by omega), trivial⟩ trivial ⟨(by simpa using d0), trivial⟩ trivial (by kernel_rfl) (by kernel_rfl) (by kernel_rfl) (show (1 : Int) ≤ 27 by decide) (by kernel_rfl) (say_19 x) (rmay_19 _ _ _ _)
  · exact Same.is h0 h1 20 [(25, 3, 3), (4, 1, 1), (4, 6, 7), (16, 4, 15), (23, 5, 13), (16, 4, 15), (20, 3, 7)] [] [(268374000, 113184560)] none ⟨(by omega), (by omega), (by omega), (by omega), (by omega), (by omega), (by omega), trivial⟩ trivial ⟨(by simpa using d0), trivial⟩ trivial (by kernel_rfl) (by kernel_rfl) (by kernel_rfl) (show (1 : Int) ≤ 28 by decide) (by kernel_rfl) (say_20 x) (rmay_20 _ _ _ _)
theorem rest_same (x : Int) (h0 : 0 ≤ x) (h1 : x < 4294967296) (h25 : 4 ≤ x / 33554432 % 8) : Same x (isa_rest.f x (insC (x / 268435456 % 16))) := by
  have hw : IntKind.wrap .u16 x = IntKind.wrap .u16 (x % 65536) := by
    have f : ∀ z : Int, IntKind.wrap .u16 z = z % 65536 := fun z => by rfl
    rw [f, f]; omega
  have hww : IntKind.wrap .u16 (x % 65536) = x % 65536 := by
    have f : ∀ z : Int, IntKind.wrap .u16 z = z % 65536 := fun z => by rfl
    rw [f]; omega
  have hm (h24 : x / 33554432 % 8 = 4) : Same x (bif (x / 1048576 % 2 == 1) then (bif (x / 4194304 % 2 == 1) then some ⟨0, 0, false, 0, 0, 0, 0, 0, 0, 0, 0, 0, false, false, false, 0, 0, 0, 0, 0⟩ else some ⟨x / 268435456 % 16, 39, false, 0, 0, x / 65536 % 16, 0, 0, 0, 0, 0, 0, (x / 16777216 % 2 == 1), (x / 8388608 % 2 == 1), (x / 2097152 % 2 == 1), IntKind.wrap .u16 (x % 65536), 0, 0, 0, 0⟩) else (bif (x / 4194304 % 2 == 1) then some ⟨0, 0, false, 0, 0, 0, 0, 0, 0, 0, 0, 0, false, false, false, 0, 0, 0, 0, 0⟩ else some ⟨x / 268435456 % 16, 40, false, 0, 0, x / 65536 % 16, 0, 0, 0, 0, 0, 0, (x / 16777216 % 2 == 1), (x / 8388608 % 2 == 1), (x / 2097152 % 2 == 1), IntKind.wrap .u16 (x % 65536), 0, 0, 0, 0⟩)) := by
    refine Same.bif (fun c1 => Same.bif (fun c2 => ?_) fun c2 => ?_) fun c1 => Same.bif (fun c2 => ?_) fun c2 => ?_
    · have c1 := beq_true c1
      have c2 := beq_true c2
      exact Same.none h0 h1 [(25, 3, 4), (20, 1, 1), (22, 1, 1)] [] [] none ⟨(by omega), (by omega), (by omega), trivial⟩ trivial trivial trivial (by kernel_rfl)
    · have c1 := beq_true c1
      have c2 : x / 4194304 % 2 = 0 := by have := beq_false c2; omega
      exact Same.is h0 h1 52 [(25, 3, 4), (20, 1, 1), (22, 1, 0)] [] [] none ⟨(by omega), (by omega), (by omega), trivial⟩ trivial trivial trivial (by kernel_rfl) (by kernel_rfl) (by kernel_rfl) (show (1 : Int) ≤ 39 by decide) (by kernel_rfl) (say_52 x) (rmay_52 _ _ _ _ _ _ (by rw [hww]; omega) (by rw [hww]; omega) (by omega) (by omega))
    · have c1 : x / 1048576 % 2 = 0 := by have := beq_false c1; omega
      have c2 := beq_true c2
      exact Same.none h0 h1 [(25, 3, 4), (20, 1, 0), (22, 1, 1)] [] [] none ⟨(by omega), (by omega), (by omega), trivial⟩ trivial trivial trivial (by kernel_rfl)
    · have c1 : x / 1048576 % 2 = 0 := by have := beq_false c1; omega
      have c2 : x / 4194304 % 2 = 0 := by have := beq_false c2; omega
      exact Same.is h0 h1 53 [(25, 3, 4), (20, 1, 0), (22, 1, 0)] [] [] none ⟨(by omega), (by omega), (by omega), trivial⟩ trivial trivial trivial (by kernel_rfl) (by kernel_rfl) (by kernel_rfl) (show (1 : Int) ≤ 40 by decide) (by kernel_rfl) (say_53 x) (rmay_53 _ _ _ _ _ _ (by rw [hww]; omega) (by rw [hww]; omega) (by omega) (by omega))
  have hc (h24 : x / 16777216 % 16 = 14) : Same x (bif (!(x / 16 % 2 == 1)) then some ⟨0, 0, false, 0, 0, 0, 0, 0, 0, 0, 0, 0, false, false, false, 0, 0, 0, 0, 0⟩ else (bif (x / 256 % 16 != 15) then some ⟨0, 0, false, 0, 0, 0, 0, 0, 0, 0, 0, 0, false, false, false, 0, 0, 0, 0, 0⟩ else some ⟨x / 268435456 % 16, IntKind.wrap .i64 (49 + x / 1048576 % 2), false, 0, x / 4096 % 16, 0, 0, 0, 0, 0, 0, 0, false, false, false, 0, x / 65536 % 16, x / 2097152 % 8, x % 16, x / 32 % 8⟩)) := by
    refine Same.bif (fun c1 => ?_) fun c1 => Same.bif (fun c2 => ?_) fun c2 => ?_
    · have c1 : x / 16 % 2 = 0 := by have : ¬ x / 16 % 2 = 1 := by simpa using c1
                                     omega
      exact Same.none h0 h1 [(24, 4, 14), (4, 1, 0)] [] [] none ⟨(by omega), (by omega), trivial⟩ trivial trivial trivial (by kernel_rfl)
    · have c1 : x / 16 % 2 = 1 := by simpa using c1
      have c2 : ¬ x / 256 % 16 = 15 := by simpa using c2
      exact Same.none h0 h1 [(24, 4, 14), (4, 1, 1)] [(8, 4, 15)] [] none ⟨(by omega), (by omega), trivial⟩ ⟨(by omega), trivial⟩ trivial trivial (by kernel_rfl)
    · have c1 : x / 16 % 2 = 1 := by simpa using c1
      have c2 := bne_zero c2
      have hl : x / 1048576 % 2 = 0 ∨ x / 1048576 % 2 = 1 := by omega
      rcases hl with hl | hl <;> rw [hl]
      · exact Same.is h0 h1 32 [(24, 4, 14), (4, 1, 1), (8, 4, 15), (20, 1, 0)] [] [] none ⟨(by omega), (by omega), (by omega), (by omega), trivial⟩ trivial trivial trivial (by kernel_rfl) (by kernel_rfl) (by kernel_rfl) (show (1 : Int) ≤ 49 by decide) (by kernel_rfl) (say_32 x) (rmay_32 _ _ _ _ _ _)
      · exact Same.is h0 h1 33 [(24, 4, 14), (4, 1, 1), (8, 4, 15), (20, 1, 1)] [] [] none ⟨(by omega), (by omega), (by omega), (by omega), trivial⟩ trivial trivial trivial (by kernel_rfl) (by kernel_rfl) (by kernel_rfl) (show (1 : Int) ≤ 50 by decide) (by kernel_rfl) (say_33 x) (rmay_33 _ _ _ _ _ _)
  unfold isa_rest.f
  simp only [get_31_28 h0 h1, get_27_25 h0 h1, get_27_24 h0 h1, get_24_24 h0 h1, get_24_23 h0 h1, get_24_21 h0 h1, get_23_21 h0 h1, get_23_0 h0 h1, get_22_22 h0 h1, get_22_20 h0 h1, get_20_20 h0 h1, get_19_16 h0 h1, get_19_8 h0 h1, get_15_12 h0 h1, get_11_10 h0 h1, get_11_8 h0 h1, get_11_7 h0 h1, get_11_0 h0 h1, get_7_5 h0 h1, get_7_4 h0 h1, get_6_5 h0 h1, get_3_0 h0 h1, bit_4 h0 h1, bit_7 h0 h1, bit_20 h0 h1, bit_21 h0 h1, bit_22 h0 h1, bit_23 h0 h1, bit_24 h0 h1, bit_25 h0 h1, Option.bind_some, hw, imm_branch x h0 h1]
  have h : x / 16777216 % 16 = 8 ∨ x / 16777216 % 16 = 9 ∨ x / 16777216 % 16 = 10 ∨ x / 16777216 % 16 = 11 ∨ x / 16777216 % 16 = 12 ∨ x / 16777216 % 16 = 13 ∨ x / 16777216 % 16 = 14 ∨ x / 16777216 % 16 = 15 := by omega
  rcases h with h | h | h | h | h | h | h | h <;> simp only [h]
  · exact hm (by omega)
  · exact hm (by omega)
  · have h2 : x / 16777216 % 2 = 0 := by omega
    rw [h2]
    exact Same.is h0 h1 23 [(24, 4, 10)] [] [] none ⟨(by omega), trivial⟩ trivial trivial trivial (by kernel_rfl) (by kernel_rfl) (by kernel_rfl) (show (1 : Int) ≤ 41 by decide) (by kernel_rfl) (say_23 x) (rmay_23 _ _)
  · have h2 : x / 16777216 % 2 = 1 := by omega
    rw [h2]
    exact Same.is h0 h1 24 [(24, 4, 11)] [] [] none ⟨(by omega), trivial⟩ trivial trivial trivial (by kernel_rfl) (by kernel_rfl) (by kernel_rfl) (show (1 : Int) ≤ 42 by decide) (by kernel_rfl) (say_24 x) (rmay_24 _ _)
  · exact Same.none h0 h1 [(24, 4, 12)] [] [] none ⟨(by omega), trivial⟩ trivial trivial trivial (by kernel_rfl)
  · exact Same.none h0 h1 [(24, 4, 13)] [] [] none ⟨(by omega), trivial⟩ trivial trivial trivial (by kernel_rfl)
  · exact hc h
  · rw [wrap_u32 (x % 16777216) (by omega) (by omega)]
    exact Same.is h0 h1 27 [(24, 4, 15)] [] [] none ⟨(by omega), trivial⟩ trivial trivial trivial (by kernel_rfl) (by kernel_rfl) (by kernel_rfl) (show (1 : Int) ≤ 45 by decide) (by kernel_rfl) (say_27 x) (rmay_27 _ _)
theorem first_same (k : Nat) (x : Int) (h0 : 0 ≤ x) (h1 : x < 4294967296) (h25 : x / 33554432 % 8 = 0) : Same x (isa_first.f k x (insC (x / 268435456 % 16))) := by
  unfold isa_first.f isa_first.q0.l
  simp only [get_31_28 h0 h1, get_27_25 h0 h1, get_27_24 h0 h1, get_24_24 h0 h1, get_24_23 h0 h1, get_24_21 h0 h1, get_23_21 h0 h1, get_23_0 h0 h1, get_22_22 h0 h1, get_22_20 h0 h1, get_20_20 h0 h1, get_19_16 h0 h1, get_19_8 h0 h1, get_15_12 h0 h1, get_11_10 h0 h1, get_11_8 h0 h1, get_11_7 h0 h1, get_11_0 h0 h1, get_7_5 h0 h1, get_7_4 h0 h1, get_6_5 h0 h1, get_3_0 h0 h1, bit_4 h0 h1, bit_7 h0 h1, bit_20 h0 h1, bit_21 h0 h1, bit_22 h0 h1, bit_23 h0 h1, bit_24 h0 h1, bit_25 h0 h1, Option.bind_some, cond_bind, Option.bind_assoc]
  repeat' first
    | exact Same.eta (product_same x h0 h1 h25 (by omega))
    | exact Same.eta (halves_same x h0 h1 h25 (by omega) (by omega) (by omega))
    | exact Same.eta (special_same x h0 h1 h25 (by omega) (by omega) (by omega))
    | exact Same.eta (data_same_reg x h0 h1 h25 (by omega) (by omega))
    | exact Same.eta (data_same_rsr x h0 h1 h25 (by omega) (by omega) (by omega))
    | (refine Same.bif (fun c => ?_) (fun c => ?_) <;> simp only [beq_iff_eq, beq_eq_false_iff_ne, ne_eq, Bool.not_eq_true', Bool.not_eq_false'] at c)
theorem says_same (k : Nat) (x : Int) (h0 : 0 ≤ x) (h1 : x < 4294967296) : Same x (isa_says.f k x) := by
  unfold isa_says.f
  simp only [get_31_28 h0 h1, get_27_25 h0 h1, get_27_24 h0 h1, get_24_24 h0 h1, get_24_23 h0 h1, get_24_21 h0 h1, get_23_21 h0 h1, get_23_0 h0 h1, get_22_22 h0 h1, get_22_20 h0 h1, get_20_20 h0 h1, get_19_16 h0 h1, get_19_8 h0 h1, get_15_12 h0 h1, get_11_10 h0 h1, get_11_8 h0 h1, get_11_7 h0 h1, get_11_0 h0 h1, get_7_5 h0 h1, get_7_4 h0 h1, get_6_5 h0 h1, get_3_0 h0 h1, bit_4 h0 h1, bit_7 h0 h1, bit_20 h0 h1, bit_21 h0 h1, bit_22 h0 h1, bit_23 h0 h1, bit_24 h0 h1, bit_25 h0 h1, Option.bind_some]
  repeat' first
    | exact Same.eta (first_same k x h0 h1 (by omega))
    | exact Same.eta (second_same x h0 h1 (by omega))
    | exact Same.eta (media_same x h0 h1 (by omega) (by omega))
    | exact Same.eta (single_same x h0 h1 (by omega) (by omega))
    | exact Same.eta (rest_same x h0 h1 (by omega))
    | (refine Same.bif (fun c => ?_) (fun c => ?_) <;> simp only [beq_iff_eq, beq_eq_false_iff_ne, ne_eq, Bool.not_eq_true', Bool.not_eq_false'] at c)
end Go.Va
