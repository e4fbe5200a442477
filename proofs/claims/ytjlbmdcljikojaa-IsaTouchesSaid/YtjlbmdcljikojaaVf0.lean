-- Written by a program of this session (wip/va/vaprint.py). Not trusted: Lean checks it.
import Derived.Test.YtjlbmdcljikojaaVaTy
set_option linter.unusedVariables false
set_option linter.unusedSimpArgs false
set_option autoImplicit false
set_option maxRecDepth 100000
namespace Go.Va
open Go.Proofs
/-! ### (atlas/isa.word).get: function 33 -/
def isa_word_get.f (x0 : Int) (x1 : Int) (x2 : Int) : Option (Int) := (bif decide (x2 < 0) then none else (bif decide ((IntKind.wrap .u64 ((IntKind.wrap .u64 (x1 - x2)) + 1)) < 0) then none else (some (IntKind.wrap .i64 (andI .u32 (shrI .u32 x0 x2) (IntKind.wrap .u32 ((shlI .u32 1 (IntKind.wrap .u64 ((IntKind.wrap .u64 (x1 - x2)) + 1))) - 1)))))))
theorem isa_word_get.run (x0 : Int) (x1 : Int) (x2 : Int) : runF Try.prog (gamOf []) noLam Try.f33 [(.val (.int .u32 x0)), (.val (.int .u64 x1)), (.val (.int .u64 x2))] some = (isa_word_get.f x0 x1 x2).bind fun r => some (.ret (.val (.int .i64 r))) := by
  unfold isa_word_get.f
  try simp only [cond_bind, elim_bind, Option.bind_some, Option.bind_none, Option.bind_assoc]
  kernel_rfl
def isa_word_get.g : GFun := fun β args K => match args with
  | [a0, a1, a2] => (intO .u32 a0).bind fun x0 => (intO .u64 a1).bind fun x1 => (intO .u64 a2).bind fun x2 => (isa_word_get.f x0 x1 x2).bind fun r => K (.ret (.val (.int .i64 r)))
  | _ => none
theorem isa_word_get.callable : callable Try.prog 33 = true := callable_of Try.func33 (by kernel_rfl)
theorem isa_word_get.ok : GOk Try.prog 33 (isa_word_get.g) := by
  intro β args K r h
  unfold isa_word_get.g at h
  split at h
  · obtain ⟨x0, e0, h⟩ := Option.bind_eq_some_iff.1 h
    obtain ⟨x1, e1, h⟩ := Option.bind_eq_some_iff.1 h
    obtain ⟨x2, e2, h⟩ := Option.bind_eq_some_iff.1 h
    obtain ⟨y, hy, hK⟩ := Option.bind_eq_some_iff.1 h
    have hrun := isa_word_get.run x0 x1 x2
    rw [hy] at hrun
    obtain ⟨out, e, hs⟩ := sim_of_run Try.func33 (by kernel_rfl) mixed (gamOf_nil _) (noLam_ok _ _) (args' := [(.val (.int .u32 x0)), (.val (.int .u64 x1)), (.val (.int .u64 x2))]) (RefsL.cons (Refs.of_eq (intO_eq e0)) (RefsL.cons (Refs.of_eq (intO_eq e1)) (RefsL.cons (Refs.of_eq (intO_eq e2)) RefsL.nil))) hrun
    simp only [Option.some.injEq] at e
    subst e
    exact ⟨_, hK, hs⟩
  · cases h
/-! ### (atlas/isa.word).bit: function 36 -/
def isa_word_bit.f (x0 : Int) (x1 : Int) : Option (Bool) := (bif decide (x1 < 0) then none else (some ((andI .u32 (shrI .u32 x0 x1) 1) == 1)))
theorem isa_word_bit.run (x0 : Int) (x1 : Int) : runF Try.prog (gamOf []) noLam Try.f36 [(.val (.int .u32 x0)), (.val (.int .u64 x1))] some = (isa_word_bit.f x0 x1).bind fun r => some (.ret (.val (.bool r))) := by
  unfold isa_word_bit.f
  try simp only [cond_bind, elim_bind, Option.bind_some, Option.bind_none, Option.bind_assoc]
  kernel_rfl
def isa_word_bit.g : GFun := fun β args K => match args with
  | [a0, a1] => (intO .u32 a0).bind fun x0 => (intO .u64 a1).bind fun x1 => (isa_word_bit.f x0 x1).bind fun r => K (.ret (.val (.bool r)))
  | _ => none
theorem isa_word_bit.callable : callable Try.prog 36 = true := callable_of Try.func36 (by kernel_rfl)
theorem isa_word_bit.ok : GOk Try.prog 36 (isa_word_bit.g) := by
  intro β args K r h
  unfold isa_word_bit.g at h
  split at h
  · obtain ⟨x0, e0, h⟩ := Option.bind_eq_some_iff.1 h
    obtain ⟨x1, e1, h⟩ := Option.bind_eq_some_iff.1 h
    obtain ⟨y, hy, hK⟩ := Option.bind_eq_some_iff.1 h
    have hrun := isa_word_bit.run x0 x1
    rw [hy] at hrun
    obtain ⟨out, e, hs⟩ := sim_of_run Try.func36 (by kernel_rfl) mixed (gamOf_nil _) (noLam_ok _ _) (args' := [(.val (.int .u32 x0)), (.val (.int .u64 x1))]) (RefsL.cons (Refs.of_eq (intO_eq e0)) (RefsL.cons (Refs.of_eq (intO_eq e1)) RefsL.nil)) hrun
    simp only [Option.some.injEq] at e
    subst e
    exact ⟨_, hK, hs⟩
  · cases h
/-! ### atlas/isa.product: function 55 -/
def isa_product.f (x0 : Int) (x1 : T26) : Option (T26) := ((isa_word_get.f x0 27 24).bind fun r1 => (bif (r1 != 0) then (some (⟨0, 0, false, 0, 0, 0, 0, 0, 0, 0, 0, 0, false, false, false, 0, 0, 0, 0, 0⟩ : T26)) else ((isa_word_get.f x0 23 21).bind fun r2 => (bif (decide (0 ≤ r2) && decide (r2 < ((8 : Nat) : Int))) then (bif decide ((0 + (r2).toNat * 1) < 8) then ((isa_word_bit.f x0 20).bind fun r3 => ((isa_word_get.f x0 19 16).bind fun r4 => ((isa_word_get.f x0 15 12).bind fun r5 => ((isa_word_get.f x0 11 8).bind fun r6 => ((isa_word_get.f x0 3 0).bind fun r7 => (bif ((([19, 20, 0, 0, 21, 22, 23, 24] : List Int).getD (0 + (r2).toNat * 1) 0) == 0) then (some (⟨0, 0, false, 0, 0, 0, 0, 0, 0, 0, 0, 0, false, false, false, 0, 0, 0, 0, 0⟩ : T26)) else (bif ((([19, 20, 0, 0, 21, 22, 23, 24] : List Int).getD (0 + (r2).toNat * 1) 0) == 19) then (bif (r5 != 0) then (some (⟨0, 0, false, 0, 0, 0, 0, 0, 0, 0, 0, 0, false, false, false, 0, 0, 0, 0, 0⟩ : T26)) else (some (⟨x1.f0_Cond, (([19, 20, 0, 0, 21, 22, 23, 24] : List Int).getD (0 + (r2).toNat * 1) 0), r3, x1.f3_Form, r4, x1.f5_Rn, r7, r6, r5, x1.f9_Imm, x1.f10_Shift, x1.f11_Amount, x1.f12_Pre, x1.f13_Up, x1.f14_Write, x1.f15_List, x1.f16_Tuple_CRn, x1.f17_Tuple_Op1, x1.f18_Tuple_CRm, x1.f19_Tuple_Op2⟩ : T26))) else (some (⟨x1.f0_Cond, (([19, 20, 0, 0, 21, 22, 23, 24] : List Int).getD (0 + (r2).toNat * 1) 0), r3, x1.f3_Form, r4, x1.f5_Rn, r7, r6, r5, x1.f9_Imm, x1.f10_Shift, x1.f11_Amount, x1.f12_Pre, x1.f13_Up, x1.f14_Write, x1.f15_List, x1.f16_Tuple_CRn, x1.f17_Tuple_Op1, x1.f18_Tuple_CRm, x1.f19_Tuple_Op2⟩ : T26))))))))) else none) else none))))
theorem isa_product.run (x0 : Int) (x1 : T26) : runF Try.prog (gamOf [(33, isa_word_get.g), (36, isa_word_bit.g)]) noLam Try.f55 [(.val (.int .u32 x0)), (T26.av x1)] some = (isa_product.f x0 x1).bind fun r => some (.ret (T26.av r)) := by
  unfold isa_product.f
  try simp only [cond_bind, elim_bind, Option.bind_some, Option.bind_none, Option.bind_assoc]
  kernel_rfl
def isa_product.g : GFun := fun β args K => match args with
  | [a0, a1] => (intO .u32 a0).bind fun x0 => (T26.of a1).bind fun x1 => (isa_product.f x0 x1).bind fun r => K (.ret (T26.av r))
  | _ => none
theorem isa_product.callable : callable Try.prog 55 = true := callable_of Try.func55 (by kernel_rfl)
theorem isa_product.ok : GOk Try.prog 55 (isa_product.g) := by
  intro β args K r h
  unfold isa_product.g at h
  split at h
  · obtain ⟨x0, e0, h⟩ := Option.bind_eq_some_iff.1 h
    obtain ⟨x1, e1, h⟩ := Option.bind_eq_some_iff.1 h
    obtain ⟨y, hy, hK⟩ := Option.bind_eq_some_iff.1 h
    have hrun := isa_product.run x0 x1
    rw [hy] at hrun
    obtain ⟨out, e, hs⟩ := sim_of_run Try.func55 (by kernel_rfl) mixed (gamOf_cons (isa_word_get.ok) isa_word_get.callable (gamOf_cons (isa_word_bit.ok) isa_word_bit.callable (gamOf_nil _))) (noLam_ok _ _) (args' := [(.val (.int .u32 x0)), (T26.av x1)]) (RefsL.cons (Refs.of_eq (intO_eq e0)) (RefsL.cons (T26.refs e1) RefsL.nil)) hrun
    simp only [Option.some.injEq] at e
    subst e
    exact ⟨_, hK, hs⟩
  · cases h
/-! ### atlas/isa.half: function 63 -/
def isa_half.f (x0 : Bool) (x1 : Int) : Option (Int) := (bif (!x0) then (bif (x1 == 1) then (some 36) else (bif x0 then (bif (decide (x1 > 0)) then (bif (decide (0 ≤ x1) && decide (x1 < ((4 : Nat) : Int))) then (some (([0, 35, 37, 38] : List Int).getD (x1).toNat 0)) else none) else (some 0)) else (some 0))) else (bif x0 then (bif (decide (x1 > 0)) then (bif (decide (0 ≤ x1) && decide (x1 < ((4 : Nat) : Int))) then (some (([0, 35, 37, 38] : List Int).getD (x1).toNat 0)) else none) else (some 0)) else (some 0)))
theorem isa_half.run (x0 : Bool) (x1 : Int) : runF Try.prog (gamOf []) noLam Try.f63 [(.val (.bool x0)), (.val (.int .i64 x1))] some = (isa_half.f x0 x1).bind fun r => some (.ret (.val (.int .i64 r))) := by
  unfold isa_half.f
  try simp only [cond_bind, elim_bind, Option.bind_some, Option.bind_none, Option.bind_assoc]
  kernel_rfl
def isa_half.g : GFun := fun β args K => match args with
  | [a0, a1] => (boolO a0).bind fun x0 => (intO .i64 a1).bind fun x1 => (isa_half.f x0 x1).bind fun r => K (.ret (.val (.int .i64 r)))
  | _ => none
theorem isa_half.callable : callable Try.prog 63 = true := callable_of Try.func63 (by kernel_rfl)
theorem isa_half.ok : GOk Try.prog 63 (isa_half.g) := by
  intro β args K r h
  unfold isa_half.g at h
  split at h
  · obtain ⟨x0, e0, h⟩ := Option.bind_eq_some_iff.1 h
    obtain ⟨x1, e1, h⟩ := Option.bind_eq_some_iff.1 h
    obtain ⟨y, hy, hK⟩ := Option.bind_eq_some_iff.1 h
    have hrun := isa_half.run x0 x1
    rw [hy] at hrun
    obtain ⟨out, e, hs⟩ := sim_of_run Try.func63 (by kernel_rfl) mixed (gamOf_nil _) (noLam_ok _ _) (args' := [(.val (.bool x0)), (.val (.int .i64 x1))]) (RefsL.cons (Refs.of_eq (boolO_eq e0)) (RefsL.cons (Refs.of_eq (intO_eq e1)) RefsL.nil)) hrun
    simp only [Option.some.injEq] at e
    subst e
    exact ⟨_, hK, hs⟩
  · cases h
/-! ### atlas/isa.halves: function 56 -/
def isa_halves.f (x0 : Int) (x1 : T26) : Option (T26) := ((isa_word_bit.f x0 20).bind fun r1 => ((isa_word_get.f x0 6 5).bind fun r2 => ((isa_half.f r1 r2).bind fun r3 => ((isa_word_bit.f x0 24).bind fun r4 => ((isa_word_bit.f x0 23).bind fun r5 => ((isa_word_bit.f x0 21).bind fun r6 => ((isa_word_get.f x0 19 16).bind fun r7 => ((isa_word_get.f x0 15 12).bind fun r8 => ((isa_word_bit.f x0 22).bind fun r9 => (bif r9 then ((isa_word_get.f x0 11 8).bind fun r10 => ((isa_word_get.f x0 3 0).bind fun r11 => (bif (r3 == 0) then (some (⟨0, 0, false, 0, 0, 0, 0, 0, 0, 0, 0, 0, false, false, false, 0, 0, 0, 0, 0⟩ : T26)) else (some (⟨x1.f0_Cond, r3, x1.f2_S, 1, r8, r7, x1.f6_Rm, x1.f7_Rs, x1.f8_Ra, (IntKind.wrap .u32 (orI .i64 (shlI .i64 r10 4) r11)), x1.f10_Shift, x1.f11_Amount, r4, r5, r6, x1.f15_List, x1.f16_Tuple_CRn, x1.f17_Tuple_Op1, x1.f18_Tuple_CRm, x1.f19_Tuple_Op2⟩ : T26))))) else ((isa_word_get.f x0 3 0).bind fun r12 => ((isa_word_get.f x0 11 8).bind fun r13 => (bif (r13 != 0) then (some (⟨0, 0, false, 0, 0, 0, 0, 0, 0, 0, 0, 0, false, false, false, 0, 0, 0, 0, 0⟩ : T26)) else (bif (r3 == 0) then (some (⟨0, 0, false, 0, 0, 0, 0, 0, 0, 0, 0, 0, false, false, false, 0, 0, 0, 0, 0⟩ : T26)) else (some (⟨x1.f0_Cond, r3, x1.f2_S, 2, r8, r7, r12, x1.f7_Rs, x1.f8_Ra, x1.f9_Imm, x1.f10_Shift, x1.f11_Amount, r4, r5, r6, x1.f15_List, x1.f16_Tuple_CRn, x1.f17_Tuple_Op1, x1.f18_Tuple_CRm, x1.f19_Tuple_Op2⟩ : T26))))))))))))))))
theorem isa_halves.run (x0 : Int) (x1 : T26) : runF Try.prog (gamOf [(36, isa_word_bit.g), (33, isa_word_get.g), (63, isa_half.g)]) noLam Try.f56 [(.val (.int .u32 x0)), (T26.av x1)] some = (isa_halves.f x0 x1).bind fun r => some (.ret (T26.av r)) := by
  unfold isa_halves.f
  try simp only [cond_bind, elim_bind, Option.bind_some, Option.bind_none, Option.bind_assoc]
  kernel_rfl
def isa_halves.g : GFun := fun β args K => match args with
  | [a0, a1] => (intO .u32 a0).bind fun x0 => (T26.of a1).bind fun x1 => (isa_halves.f x0 x1).bind fun r => K (.ret (T26.av r))
  | _ => none
theorem isa_halves.callable : callable Try.prog 56 = true := callable_of Try.func56 (by kernel_rfl)
theorem isa_halves.ok : GOk Try.prog 56 (isa_halves.g) := by
  intro β args K r h
  unfold isa_halves.g at h
  split at h
  · obtain ⟨x0, e0, h⟩ := Option.bind_eq_some_iff.1 h
    obtain ⟨x1, e1, h⟩ := Option.bind_eq_some_iff.1 h
    obtain ⟨y, hy, hK⟩ := Option.bind_eq_some_iff.1 h
    have hrun := isa_halves.run x0 x1
    rw [hy] at hrun
    obtain ⟨out, e, hs⟩ := sim_of_run Try.func56 (by kernel_rfl) mixed (gamOf_cons (isa_word_bit.ok) isa_word_bit.callable (gamOf_cons (isa_word_get.ok) isa_word_get.callable (gamOf_cons (isa_half.ok) isa_half.callable (gamOf_nil _)))) (noLam_ok _ _) (args' := [(.val (.int .u32 x0)), (T26.av x1)]) (RefsL.cons (Refs.of_eq (intO_eq e0)) (RefsL.cons (T26.refs e1) RefsL.nil)) hrun
    simp only [Option.some.injEq] at e
    subst e
    exact ⟨_, hK, hs⟩
  · cases h
/-! ### atlas/isa.special: function 57 -/
def isa_special.f (x0 : Int) (x1 : T26) : Option (T26) := (bif ((andI .u32 x0 263196656) == 16777216) then ((isa_word_get.f x0 19 16).bind fun r1 => (bif (r1 == 15) then ((isa_word_get.f x0 3 0).bind fun r2 => (bif (r2 == 0) then ((isa_word_bit.f x0 22).bind fun r3 => ((isa_word_get.f x0 15 12).bind fun r4 => (some (⟨x1.f0_Cond, 47, r3, x1.f3_Form, r4, x1.f5_Rn, x1.f6_Rm, x1.f7_Rs, x1.f8_Ra, x1.f9_Imm, x1.f10_Shift, x1.f11_Amount, x1.f12_Pre, x1.f13_Up, x1.f14_Write, x1.f15_List, x1.f16_Tuple_CRn, x1.f17_Tuple_Op1, x1.f18_Tuple_CRm, x1.f19_Tuple_Op2⟩ : T26)))) else (bif ((andI .u32 x0 263258096) == 18935808) then ((isa_word_bit.f x0 22).bind fun r5 => ((isa_word_get.f x0 19 16).bind fun r6 => ((isa_word_get.f x0 3 0).bind fun r7 => (some (⟨x1.f0_Cond, 48, r5, 2, x1.f4_Rd, x1.f5_Rn, r7, x1.f7_Rs, x1.f8_Ra, x1.f9_Imm, x1.f10_Shift, r6, x1.f12_Pre, x1.f13_Up, x1.f14_Write, x1.f15_List, x1.f16_Tuple_CRn, x1.f17_Tuple_Op1, x1.f18_Tuple_CRm, x1.f19_Tuple_Op2⟩ : T26))))) else (bif ((andI .u32 x0 268435440) == 19922704) then ((isa_word_get.f x0 3 0).bind fun r8 => (some (⟨x1.f0_Cond, 43, x1.f2_S, x1.f3_Form, x1.f4_Rd, x1.f5_Rn, r8, x1.f7_Rs, x1.f8_Ra, x1.f9_Imm, x1.f10_Shift, x1.f11_Amount, x1.f12_Pre, x1.f13_Up, x1.f14_Write, x1.f15_List, x1.f16_Tuple_CRn, x1.f17_Tuple_Op1, x1.f18_Tuple_CRm, x1.f19_Tuple_Op2⟩ : T26))) else (bif ((andI .u32 x0 268435440) == 19922736) then ((isa_word_get.f x0 3 0).bind fun r9 => (some (⟨x1.f0_Cond, 44, x1.f2_S, x1.f3_Form, x1.f4_Rd, x1.f5_Rn, r9, x1.f7_Rs, x1.f8_Ra, x1.f9_Imm, x1.f10_Shift, x1.f11_Amount, x1.f12_Pre, x1.f13_Up, x1.f14_Write, x1.f15_List, x1.f16_Tuple_CRn, x1.f17_Tuple_Op1, x1.f18_Tuple_CRm, x1.f19_Tuple_Op2⟩ : T26))) else (bif ((andI .u32 x0 267387120) == 18874480) then ((isa_word_get.f x0 19 8).bind fun r10 => ((isa_word_get.f x0 3 0).bind fun r11 => (some (⟨x1.f0_Cond, 46, x1.f2_S, x1.f3_Form, x1.f4_Rd, x1.f5_Rn, x1.f6_Rm, x1.f7_Rs, x1.f8_Ra, (IntKind.wrap .u32 (orI .i64 (shlI .i64 r10 4) r11)), x1.f10_Shift, x1.f11_Amount, x1.f12_Pre, x1.f13_Up, x1.f14_Write, x1.f15_List, x1.f16_Tuple_CRn, x1.f17_Tuple_Op1, x1.f18_Tuple_CRm, x1.f19_Tuple_Op2⟩ : T26)))) else (bif ((andI .u32 x0 268374000) == 24055568) then ((isa_word_get.f x0 15 12).bind fun r12 => ((isa_word_get.f x0 3 0).bind fun r13 => (some (⟨x1.f0_Cond, 25, x1.f2_S, x1.f3_Form, r12, x1.f5_Rn, r13, x1.f7_Rs, x1.f8_Ra, x1.f9_Imm, x1.f10_Shift, x1.f11_Amount, x1.f12_Pre, x1.f13_Up, x1.f14_Write, x1.f15_List, x1.f16_Tuple_CRn, x1.f17_Tuple_Op1, x1.f18_Tuple_CRm, x1.f19_Tuple_Op2⟩ : T26)))) else (some (⟨0, 0, false, 0, 0, 0, 0, 0, 0, 0, 0, 0, false, false, false, 0, 0, 0, 0, 0⟩ : T26))))))))) else (bif ((andI .u32 x0 263258096) == 18935808) then ((isa_word_bit.f x0 22).bind fun r14 => ((isa_word_get.f x0 19 16).bind fun r15 => ((isa_word_get.f x0 3 0).bind fun r16 => (some (⟨x1.f0_Cond, 48, r14, 2, x1.f4_Rd, x1.f5_Rn, r16, x1.f7_Rs, x1.f8_Ra, x1.f9_Imm, x1.f10_Shift, r15, x1.f12_Pre, x1.f13_Up, x1.f14_Write, x1.f15_List, x1.f16_Tuple_CRn, x1.f17_Tuple_Op1, x1.f18_Tuple_CRm, x1.f19_Tuple_Op2⟩ : T26))))) else (bif ((andI .u32 x0 268435440) == 19922704) then ((isa_word_get.f x0 3 0).bind fun r17 => (some (⟨x1.f0_Cond, 43, x1.f2_S, x1.f3_Form, x1.f4_Rd, x1.f5_Rn, r17, x1.f7_Rs, x1.f8_Ra, x1.f9_Imm, x1.f10_Shift, x1.f11_Amount, x1.f12_Pre, x1.f13_Up, x1.f14_Write, x1.f15_List, x1.f16_Tuple_CRn, x1.f17_Tuple_Op1, x1.f18_Tuple_CRm, x1.f19_Tuple_Op2⟩ : T26))) else (bif ((andI .u32 x0 268435440) == 19922736) then ((isa_word_get.f x0 3 0).bind fun r18 => (some (⟨x1.f0_Cond, 44, x1.f2_S, x1.f3_Form, x1.f4_Rd, x1.f5_Rn, r18, x1.f7_Rs, x1.f8_Ra, x1.f9_Imm, x1.f10_Shift, x1.f11_Amount, x1.f12_Pre, x1.f13_Up, x1.f14_Write, x1.f15_List, x1.f16_Tuple_CRn, x1.f17_Tuple_Op1, x1.f18_Tuple_CRm, x1.f19_Tuple_Op2⟩ : T26))) else (bif ((andI .u32 x0 267387120) == 18874480) then ((isa_word_get.f x0 19 8).bind fun r19 => ((isa_word_get.f x0 3 0).bind fun r20 => (some (⟨x1.f0_Cond, 46, x1.f2_S, x1.f3_Form, x1.f4_Rd, x1.f5_Rn, x1.f6_Rm, x1.f7_Rs, x1.f8_Ra, (IntKind.wrap .u32 (orI .i64 (shlI .i64 r19 4) r20)), x1.f10_Shift, x1.f11_Amount, x1.f12_Pre, x1.f13_Up, x1.f14_Write, x1.f15_List, x1.f16_Tuple_CRn, x1.f17_Tuple_Op1, x1.f18_Tuple_CRm, x1.f19_Tuple_Op2⟩ : T26)))) else (bif ((andI .u32 x0 268374000) == 24055568) then ((isa_word_get.f x0 15 12).bind fun r21 => ((isa_word_get.f x0 3 0).bind fun r22 => (some (⟨x1.f0_Cond, 25, x1.f2_S, x1.f3_Form, r21, x1.f5_Rn, r22, x1.f7_Rs, x1.f8_Ra, x1.f9_Imm, x1.f10_Shift, x1.f11_Amount, x1.f12_Pre, x1.f13_Up, x1.f14_Write, x1.f15_List, x1.f16_Tuple_CRn, x1.f17_Tuple_Op1, x1.f18_Tuple_CRm, x1.f19_Tuple_Op2⟩ : T26)))) else (some (⟨0, 0, false, 0, 0, 0, 0, 0, 0, 0, 0, 0, false, false, false, 0, 0, 0, 0, 0⟩ : T26))))))))) else (bif ((andI .u32 x0 263258096) == 18935808) then ((isa_word_bit.f x0 22).bind fun r23 => ((isa_word_get.f x0 19 16).bind fun r24 => ((isa_word_get.f x0 3 0).bind fun r25 => (some (⟨x1.f0_Cond, 48, r23, 2, x1.f4_Rd, x1.f5_Rn, r25, x1.f7_Rs, x1.f8_Ra, x1.f9_Imm, x1.f10_Shift, r24, x1.f12_Pre, x1.f13_Up, x1.f14_Write, x1.f15_List, x1.f16_Tuple_CRn, x1.f17_Tuple_Op1, x1.f18_Tuple_CRm, x1.f19_Tuple_Op2⟩ : T26))))) else (bif ((andI .u32 x0 268435440) == 19922704) then ((isa_word_get.f x0 3 0).bind fun r26 => (some (⟨x1.f0_Cond, 43, x1.f2_S, x1.f3_Form, x1.f4_Rd, x1.f5_Rn, r26, x1.f7_Rs, x1.f8_Ra, x1.f9_Imm, x1.f10_Shift, x1.f11_Amount, x1.f12_Pre, x1.f13_Up, x1.f14_Write, x1.f15_List, x1.f16_Tuple_CRn, x1.f17_Tuple_Op1, x1.f18_Tuple_CRm, x1.f19_Tuple_Op2⟩ : T26))) else (bif ((andI .u32 x0 268435440) == 19922736) then ((isa_word_get.f x0 3 0).bind fun r27 => (some (⟨x1.f0_Cond, 44, x1.f2_S, x1.f3_Form, x1.f4_Rd, x1.f5_Rn, r27, x1.f7_Rs, x1.f8_Ra, x1.f9_Imm, x1.f10_Shift, x1.f11_Amount, x1.f12_Pre, x1.f13_Up, x1.f14_Write, x1.f15_List, x1.f16_Tuple_CRn, x1.f17_Tuple_Op1, x1.f18_Tuple_CRm, x1.f19_Tuple_Op2⟩ : T26))) else (bif ((andI .u32 x0 267387120) == 18874480) then ((isa_word_get.f x0 19 8).bind fun r28 => ((isa_word_get.f x0 3 0).bind fun r29 => (some (⟨x1.f0_Cond, 46, x1.f2_S, x1.f3_Form, x1.f4_Rd, x1.f5_Rn, x1.f6_Rm, x1.f7_Rs, x1.f8_Ra, (IntKind.wrap .u32 (orI .i64 (shlI .i64 r28 4) r29)), x1.f10_Shift, x1.f11_Amount, x1.f12_Pre, x1.f13_Up, x1.f14_Write, x1.f15_List, x1.f16_Tuple_CRn, x1.f17_Tuple_Op1, x1.f18_Tuple_CRm, x1.f19_Tuple_Op2⟩ : T26)))) else (bif ((andI .u32 x0 268374000) == 24055568) then ((isa_word_get.f x0 15 12).bind fun r30 => ((isa_word_get.f x0 3 0).bind fun r31 => (some (⟨x1.f0_Cond, 25, x1.f2_S, x1.f3_Form, r30, x1.f5_Rn, r31, x1.f7_Rs, x1.f8_Ra, x1.f9_Imm, x1.f10_Shift, x1.f11_Amount, x1.f12_Pre, x1.f13_Up, x1.f14_Write, x1.f15_List, x1.f16_Tuple_CRn, x1.f17_Tuple_Op1, x1.f18_Tuple_CRm, x1.f19_Tuple_Op2⟩ : T26)))) else (some (⟨0, 0, false, 0, 0, 0, 0, 0, 0, 0, 0, 0, false, false, false, 0, 0, 0, 0, 0⟩ : T26))))))))
theorem isa_special.run (x0 : Int) (x1 : T26) : runF Try.prog (gamOf [(33, isa_word_get.g), (36, isa_word_bit.g)]) noLam Try.f57 [(.val (.int .u32 x0)), (T26.av x1)] some = (isa_special.f x0 x1).bind fun r => some (.ret (T26.av r)) := by
  unfold isa_special.f
  try simp only [cond_bind, elim_bind, Option.bind_some, Option.bind_none, Option.bind_assoc]
  kernel_rfl
def isa_special.g : GFun := fun β args K => match args with
  | [a0, a1] => (intO .u32 a0).bind fun x0 => (T26.of a1).bind fun x1 => (isa_special.f x0 x1).bind fun r => K (.ret (T26.av r))
  | _ => none
theorem isa_special.callable : callable Try.prog 57 = true := callable_of Try.func57 (by kernel_rfl)
theorem isa_special.ok : GOk Try.prog 57 (isa_special.g) := by
  intro β args K r h
  unfold isa_special.g at h
  split at h
  · obtain ⟨x0, e0, h⟩ := Option.bind_eq_some_iff.1 h
    obtain ⟨x1, e1, h⟩ := Option.bind_eq_some_iff.1 h
    obtain ⟨y, hy, hK⟩ := Option.bind_eq_some_iff.1 h
    have hrun := isa_special.run x0 x1
    rw [hy] at hrun
    obtain ⟨out, e, hs⟩ := sim_of_run Try.func57 (by kernel_rfl) mixed (gamOf_cons (isa_word_get.ok) isa_word_get.callable (gamOf_cons (isa_word_bit.ok) isa_word_bit.callable (gamOf_nil _))) (noLam_ok _ _) (args' := [(.val (.int .u32 x0)), (T26.av x1)]) (RefsL.cons (Refs.of_eq (intO_eq e0)) (RefsL.cons (T26.refs e1) RefsL.nil)) hrun
    simp only [Option.some.injEq] at e
    subst e
    exact ⟨_, hK, hs⟩
  · cases h
/-! ### atlas/isa.moves: function 27 -/
def isa_moves.f (x0 : Int) : Option (Bool) := (bif (x0 == 14) then (some true) else (some (x0 == 16)))
theorem isa_moves.run (x0 : Int) : runF Try.prog (gamOf []) noLam Try.f27 [(.val (.int .i64 x0))] some = (isa_moves.f x0).bind fun r => some (.ret (.val (.bool r))) := by
  unfold isa_moves.f
  try simp only [cond_bind, elim_bind, Option.bind_some, Option.bind_none, Option.bind_assoc]
  kernel_rfl
def isa_moves.g : GFun := fun β args K => match args with
  | [a0] => (intO .i64 a0).bind fun x0 => (isa_moves.f x0).bind fun r => K (.ret (.val (.bool r)))
  | _ => none
theorem isa_moves.callable : callable Try.prog 27 = true := callable_of Try.func27 (by kernel_rfl)
theorem isa_moves.ok : GOk Try.prog 27 (isa_moves.g) := by
  intro β args K r h
  unfold isa_moves.g at h
  split at h
  · obtain ⟨x0, e0, h⟩ := Option.bind_eq_some_iff.1 h
    obtain ⟨y, hy, hK⟩ := Option.bind_eq_some_iff.1 h
    have hrun := isa_moves.run x0
    rw [hy] at hrun
    obtain ⟨out, e, hs⟩ := sim_of_run Try.func27 (by kernel_rfl) mixed (gamOf_nil _) (noLam_ok _ _) (args' := [(.val (.int .i64 x0))]) (RefsL.cons (Refs.of_eq (intO_eq e0)) RefsL.nil) hrun
    simp only [Option.some.injEq] at e
    subst e
    exact ⟨_, hK, hs⟩
  · cases h
/-! ### atlas/isa.compares: function 31 -/
def isa_compares.f (x0 : Int) : Option (Bool) := (bif (decide (x0 ≥ 9)) then (some (decide (x0 ≤ 12))) else (some false))
theorem isa_compares.run (x0 : Int) : runF Try.prog (gamOf []) noLam Try.f31 [(.val (.int .i64 x0))] some = (isa_compares.f x0).bind fun r => some (.ret (.val (.bool r))) := by
  unfold isa_compares.f
  try simp only [cond_bind, elim_bind, Option.bind_some, Option.bind_none, Option.bind_assoc]
  kernel_rfl
def isa_compares.g : GFun := fun β args K => match args with
  | [a0] => (intO .i64 a0).bind fun x0 => (isa_compares.f x0).bind fun r => K (.ret (.val (.bool r)))
  | _ => none
theorem isa_compares.callable : callable Try.prog 31 = true := callable_of Try.func31 (by kernel_rfl)
theorem isa_compares.ok : GOk Try.prog 31 (isa_compares.g) := by
  intro β args K r h
  unfold isa_compares.g at h
  split at h
  · obtain ⟨x0, e0, h⟩ := Option.bind_eq_some_iff.1 h
    obtain ⟨y, hy, hK⟩ := Option.bind_eq_some_iff.1 h
    have hrun := isa_compares.run x0
    rw [hy] at hrun
    obtain ⟨out, e, hs⟩ := sim_of_run Try.func31 (by kernel_rfl) mixed (gamOf_nil _) (noLam_ok _ _) (args' := [(.val (.int .i64 x0))]) (RefsL.cons (Refs.of_eq (intO_eq e0)) RefsL.nil) hrun
    simp only [Option.some.injEq] at e
    subst e
    exact ⟨_, hK, hs⟩
  · cases h
/-! ### atlas/isa.data: function 58 -/
def isa_data.f (x0 : Int) (x1 : T26) : Option (T26) := ((isa_word_get.f x0 24 21).bind fun r1 => ((isa_word_bit.f x0 20).bind fun r2 => ((isa_word_get.f x0 19 16).bind fun r3 => ((isa_word_get.f x0 15 12).bind fun r4 => ((isa_compares.f (IntKind.wrap .i64 (r1 + 1))).bind fun r5 => (bif r5 then (bif (!r2) then (some (⟨0, 0, false, 0, 0, 0, 0, 0, 0, 0, 0, 0, false, false, false, 0, 0, 0, 0, 0⟩ : T26)) else (bif (r4 != 0) then (some (⟨0, 0, false, 0, 0, 0, 0, 0, 0, 0, 0, 0, false, false, false, 0, 0, 0, 0, 0⟩ : T26)) else ((isa_moves.f (IntKind.wrap .i64 (r1 + 1))).bind fun r6 => (bif r6 then (bif (r3 != 0) then (some (⟨0, 0, false, 0, 0, 0, 0, 0, 0, 0, 0, 0, false, false, false, 0, 0, 0, 0, 0⟩ : T26)) else (some (⟨x1.f0_Cond, (IntKind.wrap .i64 (r1 + 1)), r2, x1.f3_Form, r4, r3, x1.f6_Rm, x1.f7_Rs, x1.f8_Ra, x1.f9_Imm, x1.f10_Shift, x1.f11_Amount, x1.f12_Pre, x1.f13_Up, x1.f14_Write, x1.f15_List, x1.f16_Tuple_CRn, x1.f17_Tuple_Op1, x1.f18_Tuple_CRm, x1.f19_Tuple_Op2⟩ : T26))) else (some (⟨x1.f0_Cond, (IntKind.wrap .i64 (r1 + 1)), r2, x1.f3_Form, r4, r3, x1.f6_Rm, x1.f7_Rs, x1.f8_Ra, x1.f9_Imm, x1.f10_Shift, x1.f11_Amount, x1.f12_Pre, x1.f13_Up, x1.f14_Write, x1.f15_List, x1.f16_Tuple_CRn, x1.f17_Tuple_Op1, x1.f18_Tuple_CRm, x1.f19_Tuple_Op2⟩ : T26)))))) else ((isa_moves.f (IntKind.wrap .i64 (r1 + 1))).bind fun r7 => (bif r7 then (bif (r3 != 0) then (some (⟨0, 0, false, 0, 0, 0, 0, 0, 0, 0, 0, 0, false, false, false, 0, 0, 0, 0, 0⟩ : T26)) else (some (⟨x1.f0_Cond, (IntKind.wrap .i64 (r1 + 1)), r2, x1.f3_Form, r4, r3, x1.f6_Rm, x1.f7_Rs, x1.f8_Ra, x1.f9_Imm, x1.f10_Shift, x1.f11_Amount, x1.f12_Pre, x1.f13_Up, x1.f14_Write, x1.f15_List, x1.f16_Tuple_CRn, x1.f17_Tuple_Op1, x1.f18_Tuple_CRm, x1.f19_Tuple_Op2⟩ : T26))) else (some (⟨x1.f0_Cond, (IntKind.wrap .i64 (r1 + 1)), r2, x1.f3_Form, r4, r3, x1.f6_Rm, x1.f7_Rs, x1.f8_Ra, x1.f9_Imm, x1.f10_Shift, x1.f11_Amount, x1.f12_Pre, x1.f13_Up, x1.f14_Write, x1.f15_List, x1.f16_Tuple_CRn, x1.f17_Tuple_Op1, x1.f18_Tuple_CRm, x1.f19_Tuple_Op2⟩ : T26))))))))))
theorem isa_data.run (x0 : Int) (x1 : T26) : runF Try.prog (gamOf [(33, isa_word_get.g), (36, isa_word_bit.g), (31, isa_compares.g), (27, isa_moves.g)]) noLam Try.f58 [(.val (.int .u32 x0)), (T26.av x1)] some = (isa_data.f x0 x1).bind fun r => some (.ret (T26.av r)) := by
  unfold isa_data.f
  try simp only [cond_bind, elim_bind, Option.bind_some, Option.bind_none, Option.bind_assoc]
  kernel_rfl
def isa_data.g : GFun := fun β args K => match args with
  | [a0, a1] => (intO .u32 a0).bind fun x0 => (T26.of a1).bind fun x1 => (isa_data.f x0 x1).bind fun r => K (.ret (T26.av r))
  | _ => none
theorem isa_data.callable : callable Try.prog 58 = true := callable_of Try.func58 (by kernel_rfl)
theorem isa_data.ok : GOk Try.prog 58 (isa_data.g) := by
  intro β args K r h
  unfold isa_data.g at h
  split at h
  · obtain ⟨x0, e0, h⟩ := Option.bind_eq_some_iff.1 h
    obtain ⟨x1, e1, h⟩ := Option.bind_eq_some_iff.1 h
    obtain ⟨y, hy, hK⟩ := Option.bind_eq_some_iff.1 h
    have hrun := isa_data.run x0 x1
    rw [hy] at hrun
    obtain ⟨out, e, hs⟩ := sim_of_run Try.func58 (by kernel_rfl) mixed (gamOf_cons (isa_word_get.ok) isa_word_get.callable (gamOf_cons (isa_word_bit.ok) isa_word_bit.callable (gamOf_cons (isa_compares.ok) isa_compares.callable (gamOf_cons (isa_moves.ok) isa_moves.callable (gamOf_nil _))))) (noLam_ok _ _) (args' := [(.val (.int .u32 x0)), (T26.av x1)]) (RefsL.cons (Refs.of_eq (intO_eq e0)) (RefsL.cons (T26.refs e1) RefsL.nil)) hrun
    simp only [Option.some.injEq] at e
    subst e
    exact ⟨_, hK, hs⟩
  · cases h
/-! ### atlas/isa.first: function 34 -/
def isa_first.q0.h : Head (Int × Int × Int × Bool × Int × Int × Int × Int × Int × Int × Int × Int × Int × Bool × Bool × Bool × Int × Int × Int × Int × Int × Int × Int × Bool × Int × Int × Int × Int × Int × Int × Int × Int × Int × Bool × Bool × Bool × Int × Int × Int × Int × Int) where
  k γ s F := (sizedN 53 s).bind fun _ => (intO .u32 (gt s.tm 0)).bind fun v2 => (ptrN 0 (gt s.tm 3)).bind fun b4 => (ptrN 0 (gt s.tm 4)).bind fun b6 => (rowN 27 20 s.hp b4).bind fun l8 => (intO .i64 (gt l8 0)).bind fun v10 => (intO .i64 (gt l8 1)).bind fun v12 => (boolO (gt l8 2)).bind fun v14 => (intO .i64 (gt l8 3)).bind fun v16 => (intO .i64 (gt l8 4)).bind fun v18 => (intO .i64 (gt l8 5)).bind fun v20 => (intO .i64 (gt l8 6)).bind fun v22 => (intO .i64 (gt l8 7)).bind fun v24 => (intO .i64 (gt l8 8)).bind fun v26 => (intO .u32 (gt l8 9)).bind fun v28 => (intO .i64 (gt l8 10)).bind fun v30 => (intO .i64 (gt l8 11)).bind fun v32 => (boolO (gt l8 12)).bind fun v34 => (boolO (gt l8 13)).bind fun v36 => (boolO (gt l8 14)).bind fun v38 => (intO .u16 (gt l8 15)).bind fun v40 => (intO .i64 (gt l8 16)).bind fun v42 => (intO .i64 (gt l8 17)).bind fun v44 => (intO .i64 (gt l8 18)).bind fun v46 => (intO .i64 (gt l8 19)).bind fun v48 => (rowN 27 20 s.hp b6).bind fun l50 => (intO .i64 (gt l50 0)).bind fun v52 => (intO .i64 (gt l50 1)).bind fun v54 => (boolO (gt l50 2)).bind fun v56 => (intO .i64 (gt l50 3)).bind fun v58 => (intO .i64 (gt l50 4)).bind fun v60 => (intO .i64 (gt l50 5)).bind fun v62 => (intO .i64 (gt l50 6)).bind fun v64 => (intO .i64 (gt l50 7)).bind fun v66 => (intO .i64 (gt l50 8)).bind fun v68 => (intO .u32 (gt l50 9)).bind fun v70 => (intO .i64 (gt l50 10)).bind fun v72 => (intO .i64 (gt l50 11)).bind fun v74 => (boolO (gt l50 12)).bind fun v76 => (boolO (gt l50 13)).bind fun v78 => (boolO (gt l50 14)).bind fun v80 => (intO .u16 (gt l50 15)).bind fun v82 => (intO .i64 (gt l50 16)).bind fun v84 => (intO .i64 (gt l50 17)).bind fun v86 => (intO .i64 (gt l50 18)).bind fun v88 => (intO .i64 (gt l50 19)).bind fun v90 => (distO [some b4, some b6]).bind fun _ => F (v2, v10, v12, v14, v16, v18, v20, v22, v24, v26, v28, v30, v32, v34, v36, v38, v40, v42, v44, v46, v48, v52, v54, v56, v58, v60, v62, v64, v66, v68, v70, v72, v74, v76, v78, v80, v82, v84, v86, v88, v90)
  st x := ⟨sparseT [(0, (.val (.int .u32 x.1))), (3, (.ptr 0 0)), (4, (.ptr 1 0))] 53 0, [.row [(.val (.int .i64 x.2.1)), (.val (.int .i64 x.2.2.1)), (.val (.bool x.2.2.2.1)), (.val (.int .i64 x.2.2.2.2.1)), (.val (.int .i64 x.2.2.2.2.2.1)), (.val (.int .i64 x.2.2.2.2.2.2.1)), (.val (.int .i64 x.2.2.2.2.2.2.2.1)), (.val (.int .i64 x.2.2.2.2.2.2.2.2.1)), (.val (.int .i64 x.2.2.2.2.2.2.2.2.2.1)), (.val (.int .u32 x.2.2.2.2.2.2.2.2.2.2.1)), (.val (.int .i64 x.2.2.2.2.2.2.2.2.2.2.2.1)), (.val (.int .i64 x.2.2.2.2.2.2.2.2.2.2.2.2.1)), (.val (.bool x.2.2.2.2.2.2.2.2.2.2.2.2.2.1)), (.val (.bool x.2.2.2.2.2.2.2.2.2.2.2.2.2.2.1)), (.val (.bool x.2.2.2.2.2.2.2.2.2.2.2.2.2.2.2.1)), (.val (.int .u16 x.2.2.2.2.2.2.2.2.2.2.2.2.2.2.2.2.1)), (.val (.int .i64 x.2.2.2.2.2.2.2.2.2.2.2.2.2.2.2.2.2.1)), (.val (.int .i64 x.2.2.2.2.2.2.2.2.2.2.2.2.2.2.2.2.2.2.1)), (.val (.int .i64 x.2.2.2.2.2.2.2.2.2.2.2.2.2.2.2.2.2.2.2.1)), (.val (.int .i64 x.2.2.2.2.2.2.2.2.2.2.2.2.2.2.2.2.2.2.2.2.1))] 27 true, .row [(.val (.int .i64 x.2.2.2.2.2.2.2.2.2.2.2.2.2.2.2.2.2.2.2.2.2.1)), (.val (.int .i64 x.2.2.2.2.2.2.2.2.2.2.2.2.2.2.2.2.2.2.2.2.2.2.1)), (.val (.bool x.2.2.2.2.2.2.2.2.2.2.2.2.2.2.2.2.2.2.2.2.2.2.2.1)), (.val (.int .i64 x.2.2.2.2.2.2.2.2.2.2.2.2.2.2.2.2.2.2.2.2.2.2.2.2.1)), (.val (.int .i64 x.2.2.2.2.2.2.2.2.2.2.2.2.2.2.2.2.2.2.2.2.2.2.2.2.2.1)), (.val (.int .i64 x.2.2.2.2.2.2.2.2.2.2.2.2.2.2.2.2.2.2.2.2.2.2.2.2.2.2.1)), (.val (.int .i64 x.2.2.2.2.2.2.2.2.2.2.2.2.2.2.2.2.2.2.2.2.2.2.2.2.2.2.2.1)), (.val (.int .i64 x.2.2.2.2.2.2.2.2.2.2.2.2.2.2.2.2.2.2.2.2.2.2.2.2.2.2.2.2.1)), (.val (.int .i64 x.2.2.2.2.2.2.2.2.2.2.2.2.2.2.2.2.2.2.2.2.2.2.2.2.2.2.2.2.2.1)), (.val (.int .u32 x.2.2.2.2.2.2.2.2.2.2.2.2.2.2.2.2.2.2.2.2.2.2.2.2.2.2.2.2.2.2.1)), (.val (.int .i64 x.2.2.2.2.2.2.2.2.2.2.2.2.2.2.2.2.2.2.2.2.2.2.2.2.2.2.2.2.2.2.2.1)), (.val (.int .i64 x.2.2.2.2.2.2.2.2.2.2.2.2.2.2.2.2.2.2.2.2.2.2.2.2.2.2.2.2.2.2.2.2.1)), (.val (.bool x.2.2.2.2.2.2.2.2.2.2.2.2.2.2.2.2.2.2.2.2.2.2.2.2.2.2.2.2.2.2.2.2.2.1)), (.val (.bool x.2.2.2.2.2.2.2.2.2.2.2.2.2.2.2.2.2.2.2.2.2.2.2.2.2.2.2.2.2.2.2.2.2.2.1)), (.val (.bool x.2.2.2.2.2.2.2.2.2.2.2.2.2.2.2.2.2.2.2.2.2.2.2.2.2.2.2.2.2.2.2.2.2.2.2.1)), (.val (.int .u16 x.2.2.2.2.2.2.2.2.2.2.2.2.2.2.2.2.2.2.2.2.2.2.2.2.2.2.2.2.2.2.2.2.2.2.2.2.1)), (.val (.int .i64 x.2.2.2.2.2.2.2.2.2.2.2.2.2.2.2.2.2.2.2.2.2.2.2.2.2.2.2.2.2.2.2.2.2.2.2.2.2.1)), (.val (.int .i64 x.2.2.2.2.2.2.2.2.2.2.2.2.2.2.2.2.2.2.2.2.2.2.2.2.2.2.2.2.2.2.2.2.2.2.2.2.2.2.1)), (.val (.int .i64 x.2.2.2.2.2.2.2.2.2.2.2.2.2.2.2.2.2.2.2.2.2.2.2.2.2.2.2.2.2.2.2.2.2.2.2.2.2.2.2.1)), (.val (.int .i64 x.2.2.2.2.2.2.2.2.2.2.2.2.2.2.2.2.2.2.2.2.2.2.2.2.2.2.2.2.2.2.2.2.2.2.2.2.2.2.2.2))] 27 true]⟩
  ok γ s F r h := by
    obtain ⟨_, hz, h⟩ := Option.bind_eq_some_iff.1 h
    obtain ⟨v2, h1, h⟩ := Option.bind_eq_some_iff.1 h
    obtain ⟨b4, h3, h⟩ := Option.bind_eq_some_iff.1 h
    obtain ⟨b6, h5, h⟩ := Option.bind_eq_some_iff.1 h
    obtain ⟨l8, h7, h⟩ := Option.bind_eq_some_iff.1 h
    obtain ⟨v10, h9, h⟩ := Option.bind_eq_some_iff.1 h
    obtain ⟨v12, h11, h⟩ := Option.bind_eq_some_iff.1 h
    obtain ⟨v14, h13, h⟩ := Option.bind_eq_some_iff.1 h
    obtain ⟨v16, h15, h⟩ := Option.bind_eq_some_iff.1 h
    obtain ⟨v18, h17, h⟩ := Option.bind_eq_some_iff.1 h
    obtain ⟨v20, h19, h⟩ := Option.bind_eq_some_iff.1 h
    obtain ⟨v22, h21, h⟩ := Option.bind_eq_some_iff.1 h
    obtain ⟨v24, h23, h⟩ := Option.bind_eq_some_iff.1 h
    obtain ⟨v26, h25, h⟩ := Option.bind_eq_some_iff.1 h
    obtain ⟨v28, h27, h⟩ := Option.bind_eq_some_iff.1 h
    obtain ⟨v30, h29, h⟩ := Option.bind_eq_some_iff.1 h
    obtain ⟨v32, h31, h⟩ := Option.bind_eq_some_iff.1 h
    obtain ⟨v34, h33, h⟩ := Option.bind_eq_some_iff.1 h
    obtain ⟨v36, h35, h⟩ := Option.bind_eq_some_iff.1 h
    obtain ⟨v38, h37, h⟩ := Option.bind_eq_some_iff.1 h
    obtain ⟨v40, h39, h⟩ := Option.bind_eq_some_iff.1 h
    obtain ⟨v42, h41, h⟩ := Option.bind_eq_some_iff.1 h
    obtain ⟨v44, h43, h⟩ := Option.bind_eq_some_iff.1 h
    obtain ⟨v46, h45, h⟩ := Option.bind_eq_some_iff.1 h
    obtain ⟨v48, h47, h⟩ := Option.bind_eq_some_iff.1 h
    obtain ⟨l50, h49, h⟩ := Option.bind_eq_some_iff.1 h
    obtain ⟨v52, h51, h⟩ := Option.bind_eq_some_iff.1 h
    obtain ⟨v54, h53, h⟩ := Option.bind_eq_some_iff.1 h
    obtain ⟨v56, h55, h⟩ := Option.bind_eq_some_iff.1 h
    obtain ⟨v58, h57, h⟩ := Option.bind_eq_some_iff.1 h
    obtain ⟨v60, h59, h⟩ := Option.bind_eq_some_iff.1 h
    obtain ⟨v62, h61, h⟩ := Option.bind_eq_some_iff.1 h
    obtain ⟨v64, h63, h⟩ := Option.bind_eq_some_iff.1 h
    obtain ⟨v66, h65, h⟩ := Option.bind_eq_some_iff.1 h
    obtain ⟨v68, h67, h⟩ := Option.bind_eq_some_iff.1 h
    obtain ⟨v70, h69, h⟩ := Option.bind_eq_some_iff.1 h
    obtain ⟨v72, h71, h⟩ := Option.bind_eq_some_iff.1 h
    obtain ⟨v74, h73, h⟩ := Option.bind_eq_some_iff.1 h
    obtain ⟨v76, h75, h⟩ := Option.bind_eq_some_iff.1 h
    obtain ⟨v78, h77, h⟩ := Option.bind_eq_some_iff.1 h
    obtain ⟨v80, h79, h⟩ := Option.bind_eq_some_iff.1 h
    obtain ⟨v82, h81, h⟩ := Option.bind_eq_some_iff.1 h
    obtain ⟨v84, h83, h⟩ := Option.bind_eq_some_iff.1 h
    obtain ⟨v86, h85, h⟩ := Option.bind_eq_some_iff.1 h
    obtain ⟨v88, h87, h⟩ := Option.bind_eq_some_iff.1 h
    obtain ⟨v90, h89, h⟩ := Option.bind_eq_some_iff.1 h
    obtain ⟨_, h91, h⟩ := Option.bind_eq_some_iff.1 h
    exact ⟨_, h, weak_ren (l := [some b4, some b6]) (sizedN_ok hz) (distO_ok h91) (LiveR.cons (RefsR.plain (Refs.of_eq (intO_eq h1)) rfl) (LiveR.cons (RefsR.ptr (l := [some b4, some b6]) (i := 0) rfl (ptrN_eq h3)) (LiveR.cons (RefsR.ptr (l := [some b4, some b6]) (i := 1) rfl (ptrN_eq h5)) LiveR.nil))) (BlksR.cons (rowN_refs h7 rfl (GtRefsR.cons (RefsR.plain (Refs.of_eq (intO_eq h9)) rfl) (GtRefsR.cons (RefsR.plain (Refs.of_eq (intO_eq h11)) rfl) (GtRefsR.cons (RefsR.plain (Refs.of_eq (boolO_eq h13)) rfl) (GtRefsR.cons (RefsR.plain (Refs.of_eq (intO_eq h15)) rfl) (GtRefsR.cons (RefsR.plain (Refs.of_eq (intO_eq h17)) rfl) (GtRefsR.cons (RefsR.plain (Refs.of_eq (intO_eq h19)) rfl) (GtRefsR.cons (RefsR.plain (Refs.of_eq (intO_eq h21)) rfl) (GtRefsR.cons (RefsR.plain (Refs.of_eq (intO_eq h23)) rfl) (GtRefsR.cons (RefsR.plain (Refs.of_eq (intO_eq h25)) rfl) (GtRefsR.cons (RefsR.plain (Refs.of_eq (intO_eq h27)) rfl) (GtRefsR.cons (RefsR.plain (Refs.of_eq (intO_eq h29)) rfl) (GtRefsR.cons (RefsR.plain (Refs.of_eq (intO_eq h31)) rfl) (GtRefsR.cons (RefsR.plain (Refs.of_eq (boolO_eq h33)) rfl) (GtRefsR.cons (RefsR.plain (Refs.of_eq (boolO_eq h35)) rfl) (GtRefsR.cons (RefsR.plain (Refs.of_eq (boolO_eq h37)) rfl) (GtRefsR.cons (RefsR.plain (Refs.of_eq (intO_eq h39)) rfl) (GtRefsR.cons (RefsR.plain (Refs.of_eq (intO_eq h41)) rfl) (GtRefsR.cons (RefsR.plain (Refs.of_eq (intO_eq h43)) rfl) (GtRefsR.cons (RefsR.plain (Refs.of_eq (intO_eq h45)) rfl) (GtRefsR.cons (RefsR.plain (Refs.of_eq (intO_eq h47)) rfl) GtRefsR.nil)))))))))))))))))))) rfl) (BlksR.cons (rowN_refs h49 rfl (GtRefsR.cons (RefsR.plain (Refs.of_eq (intO_eq h51)) rfl) (GtRefsR.cons (RefsR.plain (Refs.of_eq (intO_eq h53)) rfl) (GtRefsR.cons (RefsR.plain (Refs.of_eq (boolO_eq h55)) rfl) (GtRefsR.cons (RefsR.plain (Refs.of_eq (intO_eq h57)) rfl) (GtRefsR.cons (RefsR.plain (Refs.of_eq (intO_eq h59)) rfl) (GtRefsR.cons (RefsR.plain (Refs.of_eq (intO_eq h61)) rfl) (GtRefsR.cons (RefsR.plain (Refs.of_eq (intO_eq h63)) rfl) (GtRefsR.cons (RefsR.plain (Refs.of_eq (intO_eq h65)) rfl) (GtRefsR.cons (RefsR.plain (Refs.of_eq (intO_eq h67)) rfl) (GtRefsR.cons (RefsR.plain (Refs.of_eq (intO_eq h69)) rfl) (GtRefsR.cons (RefsR.plain (Refs.of_eq (intO_eq h71)) rfl) (GtRefsR.cons (RefsR.plain (Refs.of_eq (intO_eq h73)) rfl) (GtRefsR.cons (RefsR.plain (Refs.of_eq (boolO_eq h75)) rfl) (GtRefsR.cons (RefsR.plain (Refs.of_eq (boolO_eq h77)) rfl) (GtRefsR.cons (RefsR.plain (Refs.of_eq (boolO_eq h79)) rfl) (GtRefsR.cons (RefsR.plain (Refs.of_eq (intO_eq h81)) rfl) (GtRefsR.cons (RefsR.plain (Refs.of_eq (intO_eq h83)) rfl) (GtRefsR.cons (RefsR.plain (Refs.of_eq (intO_eq h85)) rfl) (GtRefsR.cons (RefsR.plain (Refs.of_eq (intO_eq h87)) rfl) (GtRefsR.cons (RefsR.plain (Refs.of_eq (intO_eq h89)) rfl) GtRefsR.nil)))))))))))))))))))) rfl) BlksR.nil))⟩

def isa_first.q0.x0 : Head (Int × Int × Bool × Int × Int × Int × Int × Int × Int × Int × Int × Int × Bool × Bool × Bool × Int × Int × Int × Int × Int) where
  k γ s F := (sizedN 53 s).bind fun _ => (ptrN 0 (gt s.tm 4)).bind fun b2 => (rowN 27 20 s.hp b2).bind fun l4 => (intO .i64 (gt l4 0)).bind fun v6 => (intO .i64 (gt l4 1)).bind fun v8 => (boolO (gt l4 2)).bind fun v10 => (intO .i64 (gt l4 3)).bind fun v12 => (intO .i64 (gt l4 4)).bind fun v14 => (intO .i64 (gt l4 5)).bind fun v16 => (intO .i64 (gt l4 6)).bind fun v18 => (intO .i64 (gt l4 7)).bind fun v20 => (intO .i64 (gt l4 8)).bind fun v22 => (intO .u32 (gt l4 9)).bind fun v24 => (intO .i64 (gt l4 10)).bind fun v26 => (intO .i64 (gt l4 11)).bind fun v28 => (boolO (gt l4 12)).bind fun v30 => (boolO (gt l4 13)).bind fun v32 => (boolO (gt l4 14)).bind fun v34 => (intO .u16 (gt l4 15)).bind fun v36 => (intO .i64 (gt l4 16)).bind fun v38 => (intO .i64 (gt l4 17)).bind fun v40 => (intO .i64 (gt l4 18)).bind fun v42 => (intO .i64 (gt l4 19)).bind fun v44 => (distO [some b2]).bind fun _ => F (v6, v8, v10, v12, v14, v16, v18, v20, v22, v24, v26, v28, v30, v32, v34, v36, v38, v40, v42, v44)
  st x := ⟨sparseT [(4, (.ptr 0 0))] 53 0, [.row [(.val (.int .i64 x.1)), (.val (.int .i64 x.2.1)), (.val (.bool x.2.2.1)), (.val (.int .i64 x.2.2.2.1)), (.val (.int .i64 x.2.2.2.2.1)), (.val (.int .i64 x.2.2.2.2.2.1)), (.val (.int .i64 x.2.2.2.2.2.2.1)), (.val (.int .i64 x.2.2.2.2.2.2.2.1)), (.val (.int .i64 x.2.2.2.2.2.2.2.2.1)), (.val (.int .u32 x.2.2.2.2.2.2.2.2.2.1)), (.val (.int .i64 x.2.2.2.2.2.2.2.2.2.2.1)), (.val (.int .i64 x.2.2.2.2.2.2.2.2.2.2.2.1)), (.val (.bool x.2.2.2.2.2.2.2.2.2.2.2.2.1)), (.val (.bool x.2.2.2.2.2.2.2.2.2.2.2.2.2.1)), (.val (.bool x.2.2.2.2.2.2.2.2.2.2.2.2.2.2.1)), (.val (.int .u16 x.2.2.2.2.2.2.2.2.2.2.2.2.2.2.2.1)), (.val (.int .i64 x.2.2.2.2.2.2.2.2.2.2.2.2.2.2.2.2.1)), (.val (.int .i64 x.2.2.2.2.2.2.2.2.2.2.2.2.2.2.2.2.2.1)), (.val (.int .i64 x.2.2.2.2.2.2.2.2.2.2.2.2.2.2.2.2.2.2.1)), (.val (.int .i64 x.2.2.2.2.2.2.2.2.2.2.2.2.2.2.2.2.2.2.2))] 27 true]⟩
  ok γ s F r h := by
    obtain ⟨_, hz, h⟩ := Option.bind_eq_some_iff.1 h
    obtain ⟨b2, h1, h⟩ := Option.bind_eq_some_iff.1 h
    obtain ⟨l4, h3, h⟩ := Option.bind_eq_some_iff.1 h
    obtain ⟨v6, h5, h⟩ := Option.bind_eq_some_iff.1 h
    obtain ⟨v8, h7, h⟩ := Option.bind_eq_some_iff.1 h
    obtain ⟨v10, h9, h⟩ := Option.bind_eq_some_iff.1 h
    obtain ⟨v12, h11, h⟩ := Option.bind_eq_some_iff.1 h
    obtain ⟨v14, h13, h⟩ := Option.bind_eq_some_iff.1 h
    obtain ⟨v16, h15, h⟩ := Option.bind_eq_some_iff.1 h
    obtain ⟨v18, h17, h⟩ := Option.bind_eq_some_iff.1 h
    obtain ⟨v20, h19, h⟩ := Option.bind_eq_some_iff.1 h
    obtain ⟨v22, h21, h⟩ := Option.bind_eq_some_iff.1 h
    obtain ⟨v24, h23, h⟩ := Option.bind_eq_some_iff.1 h
    obtain ⟨v26, h25, h⟩ := Option.bind_eq_some_iff.1 h
    obtain ⟨v28, h27, h⟩ := Option.bind_eq_some_iff.1 h
    obtain ⟨v30, h29, h⟩ := Option.bind_eq_some_iff.1 h
    obtain ⟨v32, h31, h⟩ := Option.bind_eq_some_iff.1 h
    obtain ⟨v34, h33, h⟩ := Option.bind_eq_some_iff.1 h
    obtain ⟨v36, h35, h⟩ := Option.bind_eq_some_iff.1 h
    obtain ⟨v38, h37, h⟩ := Option.bind_eq_some_iff.1 h
    obtain ⟨v40, h39, h⟩ := Option.bind_eq_some_iff.1 h
    obtain ⟨v42, h41, h⟩ := Option.bind_eq_some_iff.1 h
    obtain ⟨v44, h43, h⟩ := Option.bind_eq_some_iff.1 h
    obtain ⟨_, h45, h⟩ := Option.bind_eq_some_iff.1 h
    exact ⟨_, h, weak_ren (l := [some b2]) (sizedN_ok hz) (distO_ok h45) (LiveR.cons (RefsR.ptr (l := [some b2]) (i := 0) rfl (ptrN_eq h1)) LiveR.nil) (BlksR.cons (rowN_refs h3 rfl (GtRefsR.cons (RefsR.plain (Refs.of_eq (intO_eq h5)) rfl) (GtRefsR.cons (RefsR.plain (Refs.of_eq (intO_eq h7)) rfl) (GtRefsR.cons (RefsR.plain (Refs.of_eq (boolO_eq h9)) rfl) (GtRefsR.cons (RefsR.plain (Refs.of_eq (intO_eq h11)) rfl) (GtRefsR.cons (RefsR.plain (Refs.of_eq (intO_eq h13)) rfl) (GtRefsR.cons (RefsR.plain (Refs.of_eq (intO_eq h15)) rfl) (GtRefsR.cons (RefsR.plain (Refs.of_eq (intO_eq h17)) rfl) (GtRefsR.cons (RefsR.plain (Refs.of_eq (intO_eq h19)) rfl) (GtRefsR.cons (RefsR.plain (Refs.of_eq (intO_eq h21)) rfl) (GtRefsR.cons (RefsR.plain (Refs.of_eq (intO_eq h23)) rfl) (GtRefsR.cons (RefsR.plain (Refs.of_eq (intO_eq h25)) rfl) (GtRefsR.cons (RefsR.plain (Refs.of_eq (intO_eq h27)) rfl) (GtRefsR.cons (RefsR.plain (Refs.of_eq (boolO_eq h29)) rfl) (GtRefsR.cons (RefsR.plain (Refs.of_eq (boolO_eq h31)) rfl) (GtRefsR.cons (RefsR.plain (Refs.of_eq (boolO_eq h33)) rfl) (GtRefsR.cons (RefsR.plain (Refs.of_eq (intO_eq h35)) rfl) (GtRefsR.cons (RefsR.plain (Refs.of_eq (intO_eq h37)) rfl) (GtRefsR.cons (RefsR.plain (Refs.of_eq (intO_eq h39)) rfl) (GtRefsR.cons (RefsR.plain (Refs.of_eq (intO_eq h41)) rfl) (GtRefsR.cons (RefsR.plain (Refs.of_eq (intO_eq h43)) rfl) GtRefsR.nil)))))))))))))))))))) rfl) BlksR.nil)⟩

def isa_first.q0.t : Tail (Int × Int × Bool × Int × Int × Int × Int × Int × Int × Int × Int × Int × Bool × Bool × Bool × Int × Int × Int × Int × Int) := Tail.one .ret isa_first.q0.x0
theorem isa_first.q0.np (y : (Int × Int × Bool × Int × Int × Int × Int × Int × Int × Int × Int × Int × Bool × Bool × Bool × Int × Int × Int × Int × Int)) (v : AV) : (isa_first.q0.t.out y).1 ≠ .panic v := fun h => by cases h
def isa_first.q0.l (k : Nat) (x : (Int × Int × Int × Bool × Int × Int × Int × Int × Int × Int × Int × Int × Int × Bool × Bool × Bool × Int × Int × Int × Int × Int × Int × Int × Bool × Int × Int × Int × Int × Int × Int × Int × Int × Int × Bool × Bool × Bool × Int × Int × Int × Int × Int)) : Option (Int × Int × Bool × Int × Int × Int × Int × Int × Int × Int × Int × Int × Bool × Bool × Bool × Int × Int × Int × Int × Int) := ((isa_word_get.f x.1 3 0).bind fun r9 => ((isa_word_get.f x.1 6 5).bind fun r10 => ((isa_word_bit.f x.1 4).bind fun r11 => (bif r11 then ((isa_word_get.f x.1 11 8).bind fun r12 => ((isa_data.f x.1 (⟨x.2.1, x.2.2.1, x.2.2.2.1, 3, x.2.2.2.2.2.1, x.2.2.2.2.2.2.1, r9, r12, x.2.2.2.2.2.2.2.2.2.1, x.2.2.2.2.2.2.2.2.2.2.1, r10, x.2.2.2.2.2.2.2.2.2.2.2.2.1, x.2.2.2.2.2.2.2.2.2.2.2.2.2.1, x.2.2.2.2.2.2.2.2.2.2.2.2.2.2.1, x.2.2.2.2.2.2.2.2.2.2.2.2.2.2.2.1, x.2.2.2.2.2.2.2.2.2.2.2.2.2.2.2.2.1, x.2.2.2.2.2.2.2.2.2.2.2.2.2.2.2.2.2.1, x.2.2.2.2.2.2.2.2.2.2.2.2.2.2.2.2.2.2.1, x.2.2.2.2.2.2.2.2.2.2.2.2.2.2.2.2.2.2.2.1, x.2.2.2.2.2.2.2.2.2.2.2.2.2.2.2.2.2.2.2.2.1⟩ : T26)).bind fun r13 => (some (r13.f0_Cond, r13.f1_Op, r13.f2_S, r13.f3_Form, r13.f4_Rd, r13.f5_Rn, r13.f6_Rm, r13.f7_Rs, r13.f8_Ra, r13.f9_Imm, r13.f10_Shift, r13.f11_Amount, r13.f12_Pre, r13.f13_Up, r13.f14_Write, r13.f15_List, r13.f16_Tuple_CRn, r13.f17_Tuple_Op1, r13.f18_Tuple_CRm, r13.f19_Tuple_Op2)))) else ((isa_word_get.f x.1 11 7).bind fun r14 => ((isa_data.f x.1 (⟨x.2.1, x.2.2.1, x.2.2.2.1, 2, x.2.2.2.2.2.1, x.2.2.2.2.2.2.1, r9, x.2.2.2.2.2.2.2.2.1, x.2.2.2.2.2.2.2.2.2.1, x.2.2.2.2.2.2.2.2.2.2.1, r10, r14, x.2.2.2.2.2.2.2.2.2.2.2.2.2.1, x.2.2.2.2.2.2.2.2.2.2.2.2.2.2.1, x.2.2.2.2.2.2.2.2.2.2.2.2.2.2.2.1, x.2.2.2.2.2.2.2.2.2.2.2.2.2.2.2.2.1, x.2.2.2.2.2.2.2.2.2.2.2.2.2.2.2.2.2.1, x.2.2.2.2.2.2.2.2.2.2.2.2.2.2.2.2.2.2.1, x.2.2.2.2.2.2.2.2.2.2.2.2.2.2.2.2.2.2.2.1, x.2.2.2.2.2.2.2.2.2.2.2.2.2.2.2.2.2.2.2.2.1⟩ : T26)).bind fun r15 => (some (r15.f0_Cond, r15.f1_Op, r15.f2_S, r15.f3_Form, r15.f4_Rd, r15.f5_Rn, r15.f6_Rm, r15.f7_Rs, r15.f8_Ra, r15.f9_Imm, r15.f10_Shift, r15.f11_Amount, r15.f12_Pre, r15.f13_Up, r15.f14_Write, r15.f15_List, r15.f16_Tuple_CRn, r15.f17_Tuple_Op1, r15.f18_Tuple_CRm, r15.f19_Tuple_Op2))))))))
theorem isa_first.q0.at : codeAt (bodyOf Try.f34) [true, true] = some (codeOf (bodyOf Try.f34) [true, true]) := by kernel_rfl
theorem isa_first.q0.goes (k : Nat) (x : (Int × Int × Int × Bool × Int × Int × Int × Int × Int × Int × Int × Int × Int × Bool × Bool × Bool × Int × Int × Int × Int × Int × Int × Int × Bool × Int × Int × Int × Int × Int × Int × Int × Int × Int × Bool × Bool × Bool × Int × Int × Int × Int × Int)) : E Try.prog (gamOf [(33, isa_word_get.g), (55, isa_product.g), (36, isa_word_bit.g), (56, isa_halves.g), (57, isa_special.g), (58, isa_data.g)]) (lamOf []) (codeOf (bodyOf Try.f34) [true, true]) [true, true] (isa_first.q0.h.st x) (fun ex t => isa_first.q0.t.d _ ex t some) = isa_first.q0.l k x := by
  kernel_rfl
theorem isa_first.q0.ok_ (k : Nat) : PieceOk Try.prog (bodyOf Try.f34) ⟨[true, true], _, _, isa_first.q0.h, isa_first.q0.t, isa_first.q0.l k⟩ :=
  piece_code (gamOf_cons (isa_word_get.ok) isa_word_get.callable (gamOf_cons (isa_product.ok) isa_product.callable (gamOf_cons (isa_word_bit.ok) isa_word_bit.callable (gamOf_cons (isa_halves.ok) isa_halves.callable (gamOf_cons (isa_special.ok) isa_special.callable (gamOf_cons (isa_data.ok) isa_data.callable (gamOf_nil _))))))) (lamOf_nil _ _) mixed isa_first.q0.at isa_first.q0.np (isa_first.q0.goes k)
def isa_first.q0.p (k : Nat) : Piece := ⟨[true, true], _, _, isa_first.q0.h, isa_first.q0.t, isa_first.q0.l k⟩
theorem isa_first.q0.ok (k : Nat) : PieceOk Try.prog (bodyOf Try.f34) (isa_first.q0.p k) := isa_first.q0.ok_ k
def isa_first.f (k : Nat) (x0 : Int) (x1 : T26) : Option (T26) := ((isa_word_get.f x0 7 4).bind fun r1 => (bif (r1 == 9) then ((isa_product.f x0 (⟨x1.f0_Cond, x1.f1_Op, x1.f2_S, x1.f3_Form, x1.f4_Rd, x1.f5_Rn, x1.f6_Rm, x1.f7_Rs, x1.f8_Ra, x1.f9_Imm, x1.f10_Shift, x1.f11_Amount, x1.f12_Pre, x1.f13_Up, x1.f14_Write, x1.f15_List, x1.f16_Tuple_CRn, x1.f17_Tuple_Op1, x1.f18_Tuple_CRm, x1.f19_Tuple_Op2⟩ : T26)).bind fun r2 => (some (⟨r2.f0_Cond, r2.f1_Op, r2.f2_S, r2.f3_Form, r2.f4_Rd, r2.f5_Rn, r2.f6_Rm, r2.f7_Rs, r2.f8_Ra, r2.f9_Imm, r2.f10_Shift, r2.f11_Amount, r2.f12_Pre, r2.f13_Up, r2.f14_Write, r2.f15_List, r2.f16_Tuple_CRn, r2.f17_Tuple_Op1, r2.f18_Tuple_CRm, r2.f19_Tuple_Op2⟩ : T26))) else ((isa_word_bit.f x0 7).bind fun r3 => (bif r3 then ((isa_word_bit.f x0 4).bind fun r4 => (bif r4 then ((isa_halves.f x0 (⟨x1.f0_Cond, x1.f1_Op, x1.f2_S, x1.f3_Form, x1.f4_Rd, x1.f5_Rn, x1.f6_Rm, x1.f7_Rs, x1.f8_Ra, x1.f9_Imm, x1.f10_Shift, x1.f11_Amount, x1.f12_Pre, x1.f13_Up, x1.f14_Write, x1.f15_List, x1.f16_Tuple_CRn, x1.f17_Tuple_Op1, x1.f18_Tuple_CRm, x1.f19_Tuple_Op2⟩ : T26)).bind fun r5 => (some (⟨r5.f0_Cond, r5.f1_Op, r5.f2_S, r5.f3_Form, r5.f4_Rd, r5.f5_Rn, r5.f6_Rm, r5.f7_Rs, r5.f8_Ra, r5.f9_Imm, r5.f10_Shift, r5.f11_Amount, r5.f12_Pre, r5.f13_Up, r5.f14_Write, r5.f15_List, r5.f16_Tuple_CRn, r5.f17_Tuple_Op1, r5.f18_Tuple_CRm, r5.f19_Tuple_Op2⟩ : T26))) else ((isa_word_get.f x0 24 23).bind fun r6 => (bif (r6 == 2) then ((isa_word_bit.f x0 20).bind fun r7 => (bif (!r7) then ((isa_special.f x0 (⟨x1.f0_Cond, x1.f1_Op, x1.f2_S, x1.f3_Form, x1.f4_Rd, x1.f5_Rn, x1.f6_Rm, x1.f7_Rs, x1.f8_Ra, x1.f9_Imm, x1.f10_Shift, x1.f11_Amount, x1.f12_Pre, x1.f13_Up, x1.f14_Write, x1.f15_List, x1.f16_Tuple_CRn, x1.f17_Tuple_Op1, x1.f18_Tuple_CRm, x1.f19_Tuple_Op2⟩ : T26)).bind fun r8 => (some (⟨r8.f0_Cond, r8.f1_Op, r8.f2_S, r8.f3_Form, r8.f4_Rd, r8.f5_Rn, r8.f6_Rm, r8.f7_Rs, r8.f8_Ra, r8.f9_Imm, r8.f10_Shift, r8.f11_Amount, r8.f12_Pre, r8.f13_Up, r8.f14_Write, r8.f15_List, r8.f16_Tuple_CRn, r8.f17_Tuple_Op1, r8.f18_Tuple_CRm, r8.f19_Tuple_Op2⟩ : T26))) else ((isa_first.q0.l k (x0, x1.f0_Cond, x1.f1_Op, x1.f2_S, x1.f3_Form, x1.f4_Rd, x1.f5_Rn, x1.f6_Rm, x1.f7_Rs, x1.f8_Ra, x1.f9_Imm, x1.f10_Shift, x1.f11_Amount, x1.f12_Pre, x1.f13_Up, x1.f14_Write, x1.f15_List, x1.f16_Tuple_CRn, x1.f17_Tuple_Op1, x1.f18_Tuple_CRm, x1.f19_Tuple_Op2, 0, 0, false, 0, 0, 0, 0, 0, 0, 0, 0, 0, false, false, false, 0, 0, 0, 0, 0)).bind fun r16 => (some (⟨r16.1, r16.2.1, r16.2.2.1, r16.2.2.2.1, r16.2.2.2.2.1, r16.2.2.2.2.2.1, r16.2.2.2.2.2.2.1, r16.2.2.2.2.2.2.2.1, r16.2.2.2.2.2.2.2.2.1, r16.2.2.2.2.2.2.2.2.2.1, r16.2.2.2.2.2.2.2.2.2.2.1, r16.2.2.2.2.2.2.2.2.2.2.2.1, r16.2.2.2.2.2.2.2.2.2.2.2.2.1, r16.2.2.2.2.2.2.2.2.2.2.2.2.2.1, r16.2.2.2.2.2.2.2.2.2.2.2.2.2.2.1, r16.2.2.2.2.2.2.2.2.2.2.2.2.2.2.2.1, r16.2.2.2.2.2.2.2.2.2.2.2.2.2.2.2.2.1, r16.2.2.2.2.2.2.2.2.2.2.2.2.2.2.2.2.2.1, r16.2.2.2.2.2.2.2.2.2.2.2.2.2.2.2.2.2.2.1, r16.2.2.2.2.2.2.2.2.2.2.2.2.2.2.2.2.2.2.2⟩ : T26))))) else ((isa_first.q0.l k (x0, x1.f0_Cond, x1.f1_Op, x1.f2_S, x1.f3_Form, x1.f4_Rd, x1.f5_Rn, x1.f6_Rm, x1.f7_Rs, x1.f8_Ra, x1.f9_Imm, x1.f10_Shift, x1.f11_Amount, x1.f12_Pre, x1.f13_Up, x1.f14_Write, x1.f15_List, x1.f16_Tuple_CRn, x1.f17_Tuple_Op1, x1.f18_Tuple_CRm, x1.f19_Tuple_Op2, 0, 0, false, 0, 0, 0, 0, 0, 0, 0, 0, 0, false, false, false, 0, 0, 0, 0, 0)).bind fun r17 => (some (⟨r17.1, r17.2.1, r17.2.2.1, r17.2.2.2.1, r17.2.2.2.2.1, r17.2.2.2.2.2.1, r17.2.2.2.2.2.2.1, r17.2.2.2.2.2.2.2.1, r17.2.2.2.2.2.2.2.2.1, r17.2.2.2.2.2.2.2.2.2.1, r17.2.2.2.2.2.2.2.2.2.2.1, r17.2.2.2.2.2.2.2.2.2.2.2.1, r17.2.2.2.2.2.2.2.2.2.2.2.2.1, r17.2.2.2.2.2.2.2.2.2.2.2.2.2.1, r17.2.2.2.2.2.2.2.2.2.2.2.2.2.2.1, r17.2.2.2.2.2.2.2.2.2.2.2.2.2.2.2.1, r17.2.2.2.2.2.2.2.2.2.2.2.2.2.2.2.2.1, r17.2.2.2.2.2.2.2.2.2.2.2.2.2.2.2.2.2.1, r17.2.2.2.2.2.2.2.2.2.2.2.2.2.2.2.2.2.2.1, r17.2.2.2.2.2.2.2.2.2.2.2.2.2.2.2.2.2.2.2⟩ : T26))))))) else ((isa_word_get.f x0 24 23).bind fun r18 => (bif (r18 == 2) then ((isa_word_bit.f x0 20).bind fun r19 => (bif (!r19) then ((isa_special.f x0 (⟨x1.f0_Cond, x1.f1_Op, x1.f2_S, x1.f3_Form, x1.f4_Rd, x1.f5_Rn, x1.f6_Rm, x1.f7_Rs, x1.f8_Ra, x1.f9_Imm, x1.f10_Shift, x1.f11_Amount, x1.f12_Pre, x1.f13_Up, x1.f14_Write, x1.f15_List, x1.f16_Tuple_CRn, x1.f17_Tuple_Op1, x1.f18_Tuple_CRm, x1.f19_Tuple_Op2⟩ : T26)).bind fun r20 => (some (⟨r20.f0_Cond, r20.f1_Op, r20.f2_S, r20.f3_Form, r20.f4_Rd, r20.f5_Rn, r20.f6_Rm, r20.f7_Rs, r20.f8_Ra, r20.f9_Imm, r20.f10_Shift, r20.f11_Amount, r20.f12_Pre, r20.f13_Up, r20.f14_Write, r20.f15_List, r20.f16_Tuple_CRn, r20.f17_Tuple_Op1, r20.f18_Tuple_CRm, r20.f19_Tuple_Op2⟩ : T26))) else ((isa_first.q0.l k (x0, x1.f0_Cond, x1.f1_Op, x1.f2_S, x1.f3_Form, x1.f4_Rd, x1.f5_Rn, x1.f6_Rm, x1.f7_Rs, x1.f8_Ra, x1.f9_Imm, x1.f10_Shift, x1.f11_Amount, x1.f12_Pre, x1.f13_Up, x1.f14_Write, x1.f15_List, x1.f16_Tuple_CRn, x1.f17_Tuple_Op1, x1.f18_Tuple_CRm, x1.f19_Tuple_Op2, 0, 0, false, 0, 0, 0, 0, 0, 0, 0, 0, 0, false, false, false, 0, 0, 0, 0, 0)).bind fun r21 => (some (⟨r21.1, r21.2.1, r21.2.2.1, r21.2.2.2.1, r21.2.2.2.2.1, r21.2.2.2.2.2.1, r21.2.2.2.2.2.2.1, r21.2.2.2.2.2.2.2.1, r21.2.2.2.2.2.2.2.2.1, r21.2.2.2.2.2.2.2.2.2.1, r21.2.2.2.2.2.2.2.2.2.2.1, r21.2.2.2.2.2.2.2.2.2.2.2.1, r21.2.2.2.2.2.2.2.2.2.2.2.2.1, r21.2.2.2.2.2.2.2.2.2.2.2.2.2.1, r21.2.2.2.2.2.2.2.2.2.2.2.2.2.2.1, r21.2.2.2.2.2.2.2.2.2.2.2.2.2.2.2.1, r21.2.2.2.2.2.2.2.2.2.2.2.2.2.2.2.2.1, r21.2.2.2.2.2.2.2.2.2.2.2.2.2.2.2.2.2.1, r21.2.2.2.2.2.2.2.2.2.2.2.2.2.2.2.2.2.2.1, r21.2.2.2.2.2.2.2.2.2.2.2.2.2.2.2.2.2.2.2⟩ : T26))))) else ((isa_first.q0.l k (x0, x1.f0_Cond, x1.f1_Op, x1.f2_S, x1.f3_Form, x1.f4_Rd, x1.f5_Rn, x1.f6_Rm, x1.f7_Rs, x1.f8_Ra, x1.f9_Imm, x1.f10_Shift, x1.f11_Amount, x1.f12_Pre, x1.f13_Up, x1.f14_Write, x1.f15_List, x1.f16_Tuple_CRn, x1.f17_Tuple_Op1, x1.f18_Tuple_CRm, x1.f19_Tuple_Op2, 0, 0, false, 0, 0, 0, 0, 0, 0, 0, 0, 0, false, false, false, 0, 0, 0, 0, 0)).bind fun r22 => (some (⟨r22.1, r22.2.1, r22.2.2.1, r22.2.2.2.1, r22.2.2.2.2.1, r22.2.2.2.2.2.1, r22.2.2.2.2.2.2.1, r22.2.2.2.2.2.2.2.1, r22.2.2.2.2.2.2.2.2.1, r22.2.2.2.2.2.2.2.2.2.1, r22.2.2.2.2.2.2.2.2.2.2.1, r22.2.2.2.2.2.2.2.2.2.2.2.1, r22.2.2.2.2.2.2.2.2.2.2.2.2.1, r22.2.2.2.2.2.2.2.2.2.2.2.2.2.1, r22.2.2.2.2.2.2.2.2.2.2.2.2.2.2.1, r22.2.2.2.2.2.2.2.2.2.2.2.2.2.2.2.1, r22.2.2.2.2.2.2.2.2.2.2.2.2.2.2.2.2.1, r22.2.2.2.2.2.2.2.2.2.2.2.2.2.2.2.2.2.1, r22.2.2.2.2.2.2.2.2.2.2.2.2.2.2.2.2.2.2.1, r22.2.2.2.2.2.2.2.2.2.2.2.2.2.2.2.2.2.2.2⟩ : T26)))))))))
theorem isa_first.run (k : Nat) (x0 : Int) (x1 : T26) : runF Try.prog (gamOf [(33, isa_word_get.g), (55, isa_product.g), (36, isa_word_bit.g), (56, isa_halves.g), (57, isa_special.g), (58, isa_data.g)]) (lamOf [isa_first.q0.p k]) Try.f34 [(.val (.int .u32 x0)), (T26.av x1)] some = (isa_first.f k x0 x1).bind fun r => some (.ret (T26.av r)) := by
  unfold isa_first.f
  try simp only [cond_bind, elim_bind, Option.bind_some, Option.bind_none, Option.bind_assoc]
  kernel_rfl
def isa_first.g (k : Nat) : GFun := fun β args K => match args with
  | [a0, a1] => (intO .u32 a0).bind fun x0 => (T26.of a1).bind fun x1 => (isa_first.f k x0 x1).bind fun r => K (.ret (T26.av r))
  | _ => none
theorem isa_first.callable : callable Try.prog 34 = true := callable_of Try.func34 (by kernel_rfl)
theorem isa_first.ok (k : Nat) : GOk Try.prog 34 (isa_first.g k) := by
  intro β args K r h
  unfold isa_first.g at h
  split at h
  · obtain ⟨x0, e0, h⟩ := Option.bind_eq_some_iff.1 h
    obtain ⟨x1, e1, h⟩ := Option.bind_eq_some_iff.1 h
    obtain ⟨y, hy, hK⟩ := Option.bind_eq_some_iff.1 h
    have hrun := isa_first.run k x0 x1
    rw [hy] at hrun
    obtain ⟨out, e, hs⟩ := sim_of_run Try.func34 (by kernel_rfl) mixed (gamOf_cons (isa_word_get.ok) isa_word_get.callable (gamOf_cons (isa_product.ok) isa_product.callable (gamOf_cons (isa_word_bit.ok) isa_word_bit.callable (gamOf_cons (isa_halves.ok) isa_halves.callable (gamOf_cons (isa_special.ok) isa_special.callable (gamOf_cons (isa_data.ok) isa_data.callable (gamOf_nil _))))))) (lamOf_cons (isa_first.q0.ok k) (lamOf_nil _ _)) (args' := [(.val (.int .u32 x0)), (T26.av x1)]) (RefsL.cons (Refs.of_eq (intO_eq e0)) (RefsL.cons (T26.refs e1) RefsL.nil)) hrun
    simp only [Option.some.injEq] at e
    subst e
    exact ⟨_, hK, hs⟩
  · cases h
/-! ### atlas/isa.second: function 35 -/
def isa_second.f (x0 : Int) (x1 : T26) : Option (T26) := ((isa_word_get.f x0 11 0).bind fun r1 => ((isa_word_get.f x0 24 23).bind fun r2 => (bif (r2 != 2) then ((isa_data.f x0 (⟨x1.f0_Cond, x1.f1_Op, x1.f2_S, 1, x1.f4_Rd, x1.f5_Rn, x1.f6_Rm, x1.f7_Rs, x1.f8_Ra, (IntKind.wrap .u32 r1), x1.f10_Shift, x1.f11_Amount, x1.f12_Pre, x1.f13_Up, x1.f14_Write, x1.f15_List, x1.f16_Tuple_CRn, x1.f17_Tuple_Op1, x1.f18_Tuple_CRm, x1.f19_Tuple_Op2⟩ : T26)).bind fun r3 => (some (⟨r3.f0_Cond, r3.f1_Op, r3.f2_S, r3.f3_Form, r3.f4_Rd, r3.f5_Rn, r3.f6_Rm, r3.f7_Rs, r3.f8_Ra, r3.f9_Imm, r3.f10_Shift, r3.f11_Amount, r3.f12_Pre, r3.f13_Up, r3.f14_Write, r3.f15_List, r3.f16_Tuple_CRn, r3.f17_Tuple_Op1, r3.f18_Tuple_CRm, r3.f19_Tuple_Op2⟩ : T26))) else ((isa_word_bit.f x0 20).bind fun r4 => (bif r4 then ((isa_data.f x0 (⟨x1.f0_Cond, x1.f1_Op, x1.f2_S, 1, x1.f4_Rd, x1.f5_Rn, x1.f6_Rm, x1.f7_Rs, x1.f8_Ra, (IntKind.wrap .u32 r1), x1.f10_Shift, x1.f11_Amount, x1.f12_Pre, x1.f13_Up, x1.f14_Write, x1.f15_List, x1.f16_Tuple_CRn, x1.f17_Tuple_Op1, x1.f18_Tuple_CRm, x1.f19_Tuple_Op2⟩ : T26)).bind fun r5 => (some (⟨r5.f0_Cond, r5.f1_Op, r5.f2_S, r5.f3_Form, r5.f4_Rd, r5.f5_Rn, r5.f6_Rm, r5.f7_Rs, r5.f8_Ra, r5.f9_Imm, r5.f10_Shift, r5.f11_Amount, r5.f12_Pre, r5.f13_Up, r5.f14_Write, r5.f15_List, r5.f16_Tuple_CRn, r5.f17_Tuple_Op1, r5.f18_Tuple_CRm, r5.f19_Tuple_Op2⟩ : T26))) else ((isa_word_get.f x0 22 20).bind fun r6 => (bif (r6 == 0) then ((isa_word_get.f x0 15 12).bind fun r7 => ((isa_word_get.f x0 19 16).bind fun r8 => (some (⟨x1.f0_Cond, 17, x1.f2_S, x1.f3_Form, r7, x1.f5_Rn, x1.f6_Rm, x1.f7_Rs, x1.f8_Ra, (orI .u32 (IntKind.wrap .u32 r1) (shlI .u32 (IntKind.wrap .u32 r8) 12)), x1.f10_Shift, x1.f11_Amount, x1.f12_Pre, x1.f13_Up, x1.f14_Write, x1.f15_List, x1.f16_Tuple_CRn, x1.f17_Tuple_Op1, x1.f18_Tuple_CRm, x1.f19_Tuple_Op2⟩ : T26)))) else ((isa_word_get.f x0 22 20).bind fun r9 => (bif (r9 == 4) then ((isa_word_get.f x0 15 12).bind fun r10 => ((isa_word_get.f x0 19 16).bind fun r11 => (some (⟨x1.f0_Cond, 18, x1.f2_S, x1.f3_Form, r10, x1.f5_Rn, x1.f6_Rm, x1.f7_Rs, x1.f8_Ra, (orI .u32 (IntKind.wrap .u32 r1) (shlI .u32 (IntKind.wrap .u32 r11) 12)), x1.f10_Shift, x1.f11_Amount, x1.f12_Pre, x1.f13_Up, x1.f14_Write, x1.f15_List, x1.f16_Tuple_CRn, x1.f17_Tuple_Op1, x1.f18_Tuple_CRm, x1.f19_Tuple_Op2⟩ : T26)))) else (bif ((andI .u32 x0 268435455) == 52490240) then (some (⟨x1.f0_Cond, 51, x1.f2_S, x1.f3_Form, x1.f4_Rd, x1.f5_Rn, x1.f6_Rm, x1.f7_Rs, x1.f8_Ra, (IntKind.wrap .u32 r1), x1.f10_Shift, x1.f11_Amount, x1.f12_Pre, x1.f13_Up, x1.f14_Write, x1.f15_List, x1.f16_Tuple_CRn, x1.f17_Tuple_Op1, x1.f18_Tuple_CRm, x1.f19_Tuple_Op2⟩ : T26)) else (bif ((andI .u32 x0 268435455) == 52490243) then (some (⟨x1.f0_Cond, 52, x1.f2_S, x1.f3_Form, x1.f4_Rd, x1.f5_Rn, x1.f6_Rm, x1.f7_Rs, x1.f8_Ra, 0, x1.f10_Shift, x1.f11_Amount, x1.f12_Pre, x1.f13_Up, x1.f14_Write, x1.f15_List, x1.f16_Tuple_CRn, x1.f17_Tuple_Op1, x1.f18_Tuple_CRm, x1.f19_Tuple_Op2⟩ : T26)) else ((isa_word_get.f x0 15 12).bind fun r12 => (bif (r12 == 15) then ((isa_word_bit.f x0 22).bind fun r13 => ((isa_word_get.f x0 19 16).bind fun r14 => (some (⟨x1.f0_Cond, 48, r13, 1, x1.f4_Rd, x1.f5_Rn, x1.f6_Rm, x1.f7_Rs, x1.f8_Ra, (IntKind.wrap .u32 r1), x1.f10_Shift, r14, x1.f12_Pre, x1.f13_Up, x1.f14_Write, x1.f15_List, x1.f16_Tuple_CRn, x1.f17_Tuple_Op1, x1.f18_Tuple_CRm, x1.f19_Tuple_Op2⟩ : T26)))) else (some (⟨0, 0, false, 0, 0, 0, 0, 0, 0, 0, 0, 0, false, false, false, 0, 0, 0, 0, 0⟩ : T26)))))))))))))))
theorem isa_second.run (x0 : Int) (x1 : T26) : runF Try.prog (gamOf [(33, isa_word_get.g), (58, isa_data.g), (36, isa_word_bit.g)]) noLam Try.f35 [(.val (.int .u32 x0)), (T26.av x1)] some = (isa_second.f x0 x1).bind fun r => some (.ret (T26.av r)) := by
  unfold isa_second.f
  try simp only [cond_bind, elim_bind, Option.bind_some, Option.bind_none, Option.bind_assoc]
  kernel_rfl
def isa_second.g : GFun := fun β args K => match args with
  | [a0, a1] => (intO .u32 a0).bind fun x0 => (T26.of a1).bind fun x1 => (isa_second.f x0 x1).bind fun r => K (.ret (T26.av r))
  | _ => none
theorem isa_second.callable : callable Try.prog 35 = true := callable_of Try.func35 (by kernel_rfl)
theorem isa_second.ok : GOk Try.prog 35 (isa_second.g) := by
  intro β args K r h
  unfold isa_second.g at h
  split at h
  · obtain ⟨x0, e0, h⟩ := Option.bind_eq_some_iff.1 h
    obtain ⟨x1, e1, h⟩ := Option.bind_eq_some_iff.1 h
    obtain ⟨y, hy, hK⟩ := Option.bind_eq_some_iff.1 h
    have hrun := isa_second.run x0 x1
    rw [hy] at hrun
    obtain ⟨out, e, hs⟩ := sim_of_run Try.func35 (by kernel_rfl) mixed (gamOf_cons (isa_word_get.ok) isa_word_get.callable (gamOf_cons (isa_data.ok) isa_data.callable (gamOf_cons (isa_word_bit.ok) isa_word_bit.callable (gamOf_nil _)))) (noLam_ok _ _) (args' := [(.val (.int .u32 x0)), (T26.av x1)]) (RefsL.cons (Refs.of_eq (intO_eq e0)) (RefsL.cons (T26.refs e1) RefsL.nil)) hrun
    simp only [Option.some.injEq] at e
    subst e
    exact ⟨_, hK, hs⟩
  · cases h
/-! ### atlas/isa.small: function 59 -/
def isa_small.f (x0 : Int) : Option (Int) := (bif (x0 == 2) then (some 29) else (bif (x0 == 3) then (some 30) else (bif (x0 == 6) then (some 27) else (bif (x0 == 7) then (some 28) else (some 0)))))
theorem isa_small.run (x0 : Int) : runF Try.prog (gamOf []) noLam Try.f59 [(.val (.int .i64 x0))] some = (isa_small.f x0).bind fun r => some (.ret (.val (.int .i64 r))) := by
  unfold isa_small.f
  try simp only [cond_bind, elim_bind, Option.bind_some, Option.bind_none, Option.bind_assoc]
  kernel_rfl
def isa_small.g : GFun := fun β args K => match args with
  | [a0] => (intO .i64 a0).bind fun x0 => (isa_small.f x0).bind fun r => K (.ret (.val (.int .i64 r)))
  | _ => none
theorem isa_small.callable : callable Try.prog 59 = true := callable_of Try.func59 (by kernel_rfl)
theorem isa_small.ok : GOk Try.prog 59 (isa_small.g) := by
  intro β args K r h
  unfold isa_small.g at h
  split at h
  · obtain ⟨x0, e0, h⟩ := Option.bind_eq_some_iff.1 h
    obtain ⟨y, hy, hK⟩ := Option.bind_eq_some_iff.1 h
    have hrun := isa_small.run x0
    rw [hy] at hrun
    obtain ⟨out, e, hs⟩ := sim_of_run Try.func59 (by kernel_rfl) mixed (gamOf_nil _) (noLam_ok _ _) (args' := [(.val (.int .i64 x0))]) (RefsL.cons (Refs.of_eq (intO_eq e0)) RefsL.nil) hrun
    simp only [Option.some.injEq] at e
    subst e
    exact ⟨_, hK, hs⟩
  · cases h
end Go.Va
