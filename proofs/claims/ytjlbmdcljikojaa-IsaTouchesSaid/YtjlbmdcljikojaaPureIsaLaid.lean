/-
  Encode answers of every instruction.
  Conditions: none.
-/
import Derived.Test.YtjlbmdcljikojaaPureIsaBack4
set_option linter.unusedVariables false
set_option linter.unusedSimpArgs false
set_option autoImplicit false
set_option maxRecDepth 10000
namespace Go.Va
/-- A word is answered. -/
def Wd (r : Option Int) : Prop := ∃ v, r = some v ∧ 0 ≤ v ∧ v < 4294967296
theorem wrap_range (v : Int) : 0 ≤ IntKind.wrap .u32 v ∧ IntKind.wrap .u32 v < 4294967296 := by
  have e : IntKind.wrap .u32 v = v % 4294967296 := by rfl
  rw [e]; omega
theorem or_range (a b : Int) : 0 ≤ orI .u32 a b ∧ orI .u32 a b < 4294967296 := by unfold orI; exact wrap_range _
theorem Wd.or {a b : Int} : Wd (some (orI .u32 a b)) := ⟨_, rfl, or_range _ _⟩
theorem Wd.same {a : Int} (h0 : 0 ≤ a) (h1 : a < 4294967296) : Wd (some a) := ⟨_, rfl, h0, h1⟩
theorem Wd.bif {b : Bool} {p q : Option Int} (h1 : b = true → Wd p) (h2 : b = false → Wd q) : Wd (bif b then p else q) := by cases b; exact h2 rfl; exact h1 rfl
theorem Wd.bind {r : Option Int} {F : Int → Option Int} (h : Wd r) (f : ∀ v, 0 ≤ v → v < 4294967296 → Wd (F v)) : Wd (r.bind F) := by
  obtain ⟨v, rfl, h0, h1⟩ := h; exact f v h0 h1
theorem Wd.with {x lo v : Int} (h : decide (lo < 0) = false) : Wd (isa_word_with.f x lo v) := by unfold isa_word_with.f; rw [h]; exact Wd.or
theorem Wd.flag {x lo : Int} {b : Bool} (h : decide (lo < 0) = false) (h0 : 0 ≤ x) (h1 : x < 4294967296) : Wd (isa_word_flag.f x lo b) := by unfold isa_word_flag.f; rw [h]; cases b; exact Wd.same h0 h1; exact Wd.or
theorem beside_wd (x : Int) (j : T26) (h0 : 0 ≤ x) (h1 : x < 4294967296) : Wd (isa_beside.f x j) := by
  unfold isa_beside.f
  repeat' first
    | with_reducible exact Wd.or
    | (with_reducible refine Wd.bind ?_ (fun v v0 v1 => ?_))
    | ((with_reducible refine Wd.bif (fun c => ?_) (fun c => ?_)) <;> simp only [beq_iff_eq, beq_eq_false_iff_ne, ne_eq, Bool.not_eq_true', Bool.not_eq_false', Bool.and_eq_true, Bool.and_eq_false_iff, decide_eq_true_eq, decide_eq_false_iff_not] at c)
    | ((with_reducible refine Wd.with ?_); rfl)
    | ((with_reducible refine Wd.flag ?_ ?_ ?_) <;> first | with_reducible assumption | with_reducible exact (or_range _ _).1 | with_reducible exact (or_range _ _).2 | rfl)
    | ((with_reducible refine Wd.same ?_ ?_) <;> with_reducible assumption)
    | (exfalso; omega)
theorem operand_wd (x : Int) (j : T26) (h0 : 0 ≤ x) (h1 : x < 4294967296) : Wd (isa_operand.f x j) := by
  unfold isa_operand.f
  repeat' first
    | with_reducible exact Wd.or
    | (with_reducible refine Wd.bind ?_ (fun v v0 v1 => ?_))
    | ((with_reducible refine Wd.bif (fun c => ?_) (fun c => ?_)) <;> simp only [beq_iff_eq, beq_eq_false_iff_ne, ne_eq, Bool.not_eq_true', Bool.not_eq_false', Bool.and_eq_true, Bool.and_eq_false_iff, decide_eq_true_eq, decide_eq_false_iff_not] at c)
    | ((with_reducible refine Wd.with ?_); rfl)
    | ((with_reducible refine Wd.flag ?_ ?_ ?_) <;> first | with_reducible assumption | with_reducible exact (or_range _ _).1 | with_reducible exact (or_range _ _).2 | rfl)
    | ((with_reducible refine Wd.same ?_ ?_) <;> with_reducible assumption)
    | (exfalso; omega)
theorem layHalf_wd (x : Int) (j : T26) (h0 : 0 ≤ x) (h1 : x < 4294967296) (o1 : 35 ≤ j.f1_Op) (o2 : j.f1_Op ≤ 38) : Wd (isa_layHalf.f x j) := by
  unfold isa_layHalf.f
  simp only [wrap_i64 (j.f1_Op - 35) (by omega) (by omega)]
  repeat' first
    | with_reducible exact Wd.or
    | (with_reducible refine Wd.bind ?_ (fun v v0 v1 => ?_))
    | ((with_reducible refine Wd.bif (fun c => ?_) (fun c => ?_)) <;> simp only [beq_iff_eq, beq_eq_false_iff_ne, ne_eq, Bool.not_eq_true', Bool.not_eq_false', Bool.and_eq_true, Bool.and_eq_false_iff, decide_eq_true_eq, decide_eq_false_iff_not] at c)
    | ((with_reducible refine Wd.with ?_); rfl)
    | ((with_reducible refine Wd.flag ?_ ?_ ?_) <;> first | with_reducible assumption | with_reducible exact (or_range _ _).1 | with_reducible exact (or_range _ _).2 | rfl)
    | ((with_reducible refine Wd.same ?_ ?_) <;> with_reducible assumption)
    | (exfalso; omega)
theorem layLast_wd (x : Int) (j : T26) (h0 : 0 ≤ x) (h1 : x < 4294967296) : Wd (isa_layLast.f x j) := by
  unfold isa_layLast.f
  repeat' first
    | with_reducible exact Wd.or
    | (with_reducible refine Wd.bind ?_ (fun v v0 v1 => ?_))
    | ((with_reducible refine Wd.bif (fun c => ?_) (fun c => ?_)) <;> simp only [beq_iff_eq, beq_eq_false_iff_ne, ne_eq, Bool.not_eq_true', Bool.not_eq_false', Bool.and_eq_true, Bool.and_eq_false_iff, decide_eq_true_eq, decide_eq_false_iff_not] at c)
    | ((with_reducible refine Wd.with ?_); rfl)
    | ((with_reducible refine Wd.flag ?_ ?_ ?_) <;> first | with_reducible assumption | with_reducible exact (or_range _ _).1 | with_reducible exact (or_range _ _).2 | rfl)
    | ((with_reducible refine Wd.same ?_ ?_) <;> with_reducible assumption)
    | (exfalso; omega)
theorem lay_wd (j : T26) (o1 : 1 ≤ j.f1_Op) (o2 : j.f1_Op ≤ 52) : Wd (isa_lay.f j) := by
  unfold isa_lay.f
  simp only [wrap_i64 (j.f1_Op - 19) (by omega) (by omega), wrap_i64 (j.f1_Op - 25) (by omega) (by omega)]
  repeat' first
    | with_reducible exact Wd.or
    | (with_reducible refine Wd.bind ?_ (fun v v0 v1 => ?_))
    | ((with_reducible refine Wd.bif (fun c => ?_) (fun c => ?_)) <;> simp only [beq_iff_eq, beq_eq_false_iff_ne, ne_eq, Bool.not_eq_true', Bool.not_eq_false', Bool.and_eq_true, Bool.and_eq_false_iff, decide_eq_true_eq, decide_eq_false_iff_not] at c)
    | ((with_reducible refine Wd.with ?_); rfl)
    | ((with_reducible refine Wd.flag ?_ ?_ ?_) <;> first | with_reducible assumption | with_reducible exact (or_range _ _).1 | with_reducible exact (or_range _ _).2 | rfl)
    | ((with_reducible refine beside_wd _ _ ?_ ?_) <;> with_reducible assumption)
    | ((with_reducible refine operand_wd _ _ ?_ ?_) <;> with_reducible assumption)
    | ((with_reducible refine layHalf_wd _ _ ?_ ?_ ?_ ?_) <;> first | assumption | (show _ ≤ j.f1_Op; omega) | (show j.f1_Op ≤ _; omega))
    | ((with_reducible refine layLast_wd _ _ ?_ ?_) <;> with_reducible assumption)
    | ((with_reducible refine Wd.same ?_ ?_) <;> with_reducible assumption)
    | (exfalso; omega)

theorem fields_eq {a b : T26} (h : ((a.f0_Cond == b.f0_Cond) && ((a.f1_Op == b.f1_Op) && ((a.f2_S == b.f2_S) && ((a.f3_Form == b.f3_Form) && ((a.f4_Rd == b.f4_Rd) && ((a.f5_Rn == b.f5_Rn) && ((a.f6_Rm == b.f6_Rm) && ((a.f7_Rs == b.f7_Rs) && ((a.f8_Ra == b.f8_Ra) && ((a.f9_Imm == b.f9_Imm) && ((a.f10_Shift == b.f10_Shift) && ((a.f11_Amount == b.f11_Amount) && ((a.f12_Pre == b.f12_Pre) && ((a.f13_Up == b.f13_Up) && ((a.f14_Write == b.f14_Write) && ((a.f15_List == b.f15_List) && (((a.f16_Tuple_CRn == b.f16_Tuple_CRn) && ((a.f17_Tuple_Op1 == b.f17_Tuple_Op1) && ((a.f18_Tuple_CRm == b.f18_Tuple_CRm) && ((a.f19_Tuple_Op2 == b.f19_Tuple_Op2) && true)))) && true))))))))))))))))) = true) : a = b := by
  cases a; cases b
  simp only [Bool.and_eq_true, beq_iff_eq, Bool.and_true, and_assoc] at h
  simp only [T26.mk.injEq]
  exact h
/-- What Encode answers: no word and 190, or a word that Decode says is this one. -/
theorem encode_8 (j : T26) : isa_Encode.f 64 j = some (0, 190) ∨ ∃ x, isa_Encode.f 64 j = some (x, 0) ∧ isa_Decode.f 64 x = some (j, true) ∧ 0 ≤ x ∧ x < 4294967296 := by
  cases d1 : decide (j.f1_Op < 1) with
  | true => left; unfold isa_Encode.f; rw [d1]; rfl
  | false =>
    cases d2 : decide (j.f1_Op > 52) with
    | true => left; unfold isa_Encode.f; rw [d1, d2]; rfl
    | false =>
      have o1 : 1 ≤ j.f1_Op := by have := of_decide_eq_false d1; omega
      have o2 : j.f1_Op ≤ 52 := by have := of_decide_eq_false d2; omega
      obtain ⟨x, hl, x0, x1⟩ := lay_wd j o1 o2
      have hl' : isa_lay.f ⟨j.f0_Cond, j.f1_Op, j.f2_S, j.f3_Form, j.f4_Rd, j.f5_Rn, j.f6_Rm, j.f7_Rs, j.f8_Ra, j.f9_Imm, j.f10_Shift, j.f11_Amount, j.f12_Pre, j.f13_Up, j.f14_Write, j.f15_List, j.f16_Tuple_CRn, j.f17_Tuple_Op1, j.f18_Tuple_CRm, j.f19_Tuple_Op2⟩ = some x := hl
      rcases decode_8 x x0 x1 with h | ⟨i, h, _, _, _, _, _⟩
      · left; unfold isa_Encode.f
        simp only [d1, d2, hl', h, cond_false, Option.bind_some, Bool.not_false, cond_true]
      · by_cases e : i = j
        · subst e
          exact Or.inr ⟨x, encode_back x i o1 o2 hl h, h, x0, x1⟩
        · left; unfold isa_Encode.f
          simp only [d1, d2, hl', h, cond_false, Option.bind_some, Bool.not_true]
          rw [Bool.eq_false_iff.2 (fun hh => e (fields_eq hh))]
          rfl
end Go.Va
