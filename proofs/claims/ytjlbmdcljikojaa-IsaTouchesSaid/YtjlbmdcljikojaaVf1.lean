-- Written by a program of this session (wip/va/vaprint.py). Not trusted: Lean checks it.
import Derived.Test.YtjlbmdcljikojaaVaTy
import Derived.Test.YtjlbmdcljikojaaVf0
set_option linter.unusedVariables false
set_option linter.unusedSimpArgs false
set_option autoImplicit false
set_option maxRecDepth 100000
namespace Go.Va
open Go.Proofs
/-! ### atlas/isa.media: function 37 -/
def isa_media.f (x0 : Int) (x1 : T26) : Option (T26) := ((isa_word_get.f x0 15 12).bind fun r1 => ((isa_word_get.f x0 3 0).bind fun r2 => (bif ((andI .u32 x0 268374000) == 113184560) then (some (⟨x1.f0_Cond, 26, x1.f2_S, x1.f3_Form, r1, x1.f5_Rn, r2, x1.f7_Rs, x1.f8_Ra, x1.f9_Imm, x1.f10_Shift, x1.f11_Amount, x1.f12_Pre, x1.f13_Up, x1.f14_Write, x1.f15_List, x1.f16_Tuple_CRn, x1.f17_Tuple_Op1, x1.f18_Tuple_CRm, x1.f19_Tuple_Op2⟩ : T26)) else (bif ((andI .u32 x0 261030896) == 110035056) then ((isa_word_get.f x0 19 16).bind fun r3 => (bif (r3 == 15) then ((isa_word_get.f x0 22 20).bind fun r4 => ((isa_small.f r4).bind fun r5 => (bif (r5 != 0) then ((isa_word_get.f x0 22 20).bind fun r6 => ((isa_small.f r6).bind fun r7 => ((isa_word_get.f x0 11 10).bind fun r8 => (some (⟨x1.f0_Cond, r7, x1.f2_S, x1.f3_Form, r1, x1.f5_Rn, r2, x1.f7_Rs, x1.f8_Ra, x1.f9_Imm, x1.f10_Shift, r8, x1.f12_Pre, x1.f13_Up, x1.f14_Write, x1.f15_List, x1.f16_Tuple_CRn, x1.f17_Tuple_Op1, x1.f18_Tuple_CRm, x1.f19_Tuple_Op2⟩ : T26))))) else (some (⟨0, 0, false, 0, 0, 0, 0, 0, 0, 0, 0, 0, false, false, false, 0, 0, 0, 0, 0⟩ : T26))))) else (some (⟨0, 0, false, 0, 0, 0, 0, 0, 0, 0, 0, 0, false, false, false, 0, 0, 0, 0, 0⟩ : T26)))) else (some (⟨0, 0, false, 0, 0, 0, 0, 0, 0, 0, 0, 0, false, false, false, 0, 0, 0, 0, 0⟩ : T26))))))
theorem isa_media.run (x0 : Int) (x1 : T26) : runF Try.prog (gamOf [(33, isa_word_get.g), (59, isa_small.g)]) noLam Try.f37 [(.val (.int .u32 x0)), (T26.av x1)] some = (isa_media.f x0 x1).bind fun r => some (.ret (T26.av r)) := by
  unfold isa_media.f
  try simp only [cond_bind, elim_bind, Option.bind_some, Option.bind_none, Option.bind_assoc]
  kernel_rfl
def isa_media.g : GFun := fun β args K => match args with
  | [a0, a1] => (intO .u32 a0).bind fun x0 => (T26.of a1).bind fun x1 => (isa_media.f x0 x1).bind fun r => K (.ret (T26.av r))
  | _ => none
theorem isa_media.callable : callable Try.prog 37 = true := callable_of Try.func37 (by kernel_rfl)
theorem isa_media.ok : GOk Try.prog 37 (isa_media.g) := by
  intro β args K r h
  unfold isa_media.g at h
  split at h
  · obtain ⟨x0, e0, h⟩ := Option.bind_eq_some_iff.1 h
    obtain ⟨x1, e1, h⟩ := Option.bind_eq_some_iff.1 h
    obtain ⟨y, hy, hK⟩ := Option.bind_eq_some_iff.1 h
    have hrun := isa_media.run x0 x1
    rw [hy] at hrun
    obtain ⟨out, e, hs⟩ := sim_of_run Try.func37 (by kernel_rfl) mixed (gamOf_cons (isa_word_get.ok) isa_word_get.callable (gamOf_cons (isa_small.ok) isa_small.callable (gamOf_nil _))) (noLam_ok _ _) (args' := [(.val (.int .u32 x0)), (T26.av x1)]) (RefsL.cons (Refs.of_eq (intO_eq e0)) (RefsL.cons (T26.refs e1) RefsL.nil)) hrun
    simp only [Option.some.injEq] at e
    subst e
    exact ⟨_, hK, hs⟩
  · cases h
/-! ### atlas/isa.single: function 38 -/
def isa_single.f (x0 : Int) (x1 : T26) : Option (T26) := ((isa_word_get.f x0 22 22).bind fun r1 => ((isa_word_get.f x0 20 20).bind fun r2 => (bif (decide (0 ≤ (IntKind.wrap .i64 ((IntKind.wrap .i64 (r1 * 2)) + r2))) && decide ((IntKind.wrap .i64 ((IntKind.wrap .i64 (r1 * 2)) + r2)) < ((4 : Nat) : Int))) then (bif decide ((0 + ((IntKind.wrap .i64 ((IntKind.wrap .i64 (r1 * 2)) + r2))).toNat * 1) < 4) then ((isa_word_bit.f x0 24).bind fun r3 => ((isa_word_bit.f x0 23).bind fun r4 => ((isa_word_bit.f x0 21).bind fun r5 => ((isa_word_get.f x0 19 16).bind fun r6 => ((isa_word_get.f x0 15 12).bind fun r7 => ((isa_word_bit.f x0 25).bind fun r8 => (bif (!r8) then ((isa_word_get.f x0 11 0).bind fun r9 => (some (⟨x1.f0_Cond, (([32, 31, 34, 33] : List Int).getD (0 + ((IntKind.wrap .i64 ((IntKind.wrap .i64 (r1 * 2)) + r2))).toNat * 1) 0), x1.f2_S, 1, r7, r6, x1.f6_Rm, x1.f7_Rs, x1.f8_Ra, (IntKind.wrap .u32 r9), x1.f10_Shift, x1.f11_Amount, r3, r4, r5, x1.f15_List, x1.f16_Tuple_CRn, x1.f17_Tuple_Op1, x1.f18_Tuple_CRm, x1.f19_Tuple_Op2⟩ : T26))) else ((isa_word_get.f x0 11 7).bind fun r10 => ((isa_word_get.f x0 6 5).bind fun r11 => ((isa_word_get.f x0 3 0).bind fun r12 => (some (⟨x1.f0_Cond, (([32, 31, 34, 33] : List Int).getD (0 + ((IntKind.wrap .i64 ((IntKind.wrap .i64 (r1 * 2)) + r2))).toNat * 1) 0), x1.f2_S, 2, r7, r6, r12, x1.f7_Rs, x1.f8_Ra, x1.f9_Imm, r11, r10, r3, r4, r5, x1.f15_List, x1.f16_Tuple_CRn, x1.f17_Tuple_Op1, x1.f18_Tuple_CRm, x1.f19_Tuple_Op2⟩ : T26)))))))))))) else none) else none)))
theorem isa_single.run (x0 : Int) (x1 : T26) : runF Try.prog (gamOf [(33, isa_word_get.g), (36, isa_word_bit.g)]) noLam Try.f38 [(.val (.int .u32 x0)), (T26.av x1)] some = (isa_single.f x0 x1).bind fun r => some (.ret (T26.av r)) := by
  unfold isa_single.f
  try simp only [cond_bind, elim_bind, Option.bind_some, Option.bind_none, Option.bind_assoc]
  kernel_rfl
def isa_single.g : GFun := fun β args K => match args with
  | [a0, a1] => (intO .u32 a0).bind fun x0 => (T26.of a1).bind fun x1 => (isa_single.f x0 x1).bind fun r => K (.ret (T26.av r))
  | _ => none
theorem isa_single.callable : callable Try.prog 38 = true := callable_of Try.func38 (by kernel_rfl)
theorem isa_single.ok : GOk Try.prog 38 (isa_single.g) := by
  intro β args K r h
  unfold isa_single.g at h
  split at h
  · obtain ⟨x0, e0, h⟩ := Option.bind_eq_some_iff.1 h
    obtain ⟨x1, e1, h⟩ := Option.bind_eq_some_iff.1 h
    obtain ⟨y, hy, hK⟩ := Option.bind_eq_some_iff.1 h
    have hrun := isa_single.run x0 x1
    rw [hy] at hrun
    obtain ⟨out, e, hs⟩ := sim_of_run Try.func38 (by kernel_rfl) mixed (gamOf_cons (isa_word_get.ok) isa_word_get.callable (gamOf_cons (isa_word_bit.ok) isa_word_bit.callable (gamOf_nil _))) (noLam_ok _ _) (args' := [(.val (.int .u32 x0)), (T26.av x1)]) (RefsL.cons (Refs.of_eq (intO_eq e0)) (RefsL.cons (T26.refs e1) RefsL.nil)) hrun
    simp only [Option.some.injEq] at e
    subst e
    exact ⟨_, hK, hs⟩
  · cases h
/-! ### atlas/isa.rest: function 39 -/
def isa_rest.f (x0 : Int) (x1 : T26) : Option (T26) := ((isa_word_get.f x0 27 24).bind fun r1 => (bif (r1 == 8) then (bif (r1 == 8) then ((isa_word_bit.f x0 20).bind fun r2 => (bif r2 then ((isa_word_bit.f x0 24).bind fun r3 => ((isa_word_bit.f x0 23).bind fun r4 => ((isa_word_bit.f x0 21).bind fun r5 => ((isa_word_get.f x0 19 16).bind fun r6 => ((isa_word_bit.f x0 22).bind fun r7 => (bif r7 then (some (⟨0, 0, false, 0, 0, 0, 0, 0, 0, 0, 0, 0, false, false, false, 0, 0, 0, 0, 0⟩ : T26)) else (some (⟨x1.f0_Cond, 39, x1.f2_S, x1.f3_Form, x1.f4_Rd, r6, x1.f6_Rm, x1.f7_Rs, x1.f8_Ra, x1.f9_Imm, x1.f10_Shift, x1.f11_Amount, r3, r4, r5, (IntKind.wrap .u16 x0), x1.f16_Tuple_CRn, x1.f17_Tuple_Op1, x1.f18_Tuple_CRm, x1.f19_Tuple_Op2⟩ : T26)))))))) else ((isa_word_bit.f x0 24).bind fun r8 => ((isa_word_bit.f x0 23).bind fun r9 => ((isa_word_bit.f x0 21).bind fun r10 => ((isa_word_get.f x0 19 16).bind fun r11 => ((isa_word_bit.f x0 22).bind fun r12 => (bif r12 then (some (⟨0, 0, false, 0, 0, 0, 0, 0, 0, 0, 0, 0, false, false, false, 0, 0, 0, 0, 0⟩ : T26)) else (some (⟨x1.f0_Cond, 40, x1.f2_S, x1.f3_Form, x1.f4_Rd, r11, x1.f6_Rm, x1.f7_Rs, x1.f8_Ra, x1.f9_Imm, x1.f10_Shift, x1.f11_Amount, r8, r9, r10, (IntKind.wrap .u16 x0), x1.f16_Tuple_CRn, x1.f17_Tuple_Op1, x1.f18_Tuple_CRm, x1.f19_Tuple_Op2⟩ : T26)))))))))) else (bif (r1 == 10) then (bif (r1 == 10) then ((isa_word_get.f x0 24 24).bind fun r13 => (some (⟨x1.f0_Cond, (IntKind.wrap .i64 (41 + r13)), x1.f2_S, x1.f3_Form, x1.f4_Rd, x1.f5_Rn, x1.f6_Rm, x1.f7_Rs, x1.f8_Ra, (IntKind.wrap .u32 (shrI .i32 (IntKind.wrap .i32 (shlI .u32 x0 8)) 6)), x1.f10_Shift, x1.f11_Amount, x1.f12_Pre, x1.f13_Up, x1.f14_Write, x1.f15_List, x1.f16_Tuple_CRn, x1.f17_Tuple_Op1, x1.f18_Tuple_CRm, x1.f19_Tuple_Op2⟩ : T26))) else (bif (r1 == 14) then ((isa_word_bit.f x0 4).bind fun r14 => (bif (!r14) then (some (⟨0, 0, false, 0, 0, 0, 0, 0, 0, 0, 0, 0, false, false, false, 0, 0, 0, 0, 0⟩ : T26)) else ((isa_word_get.f x0 11 8).bind fun r15 => (bif (r15 != 15) then (some (⟨0, 0, false, 0, 0, 0, 0, 0, 0, 0, 0, 0, false, false, false, 0, 0, 0, 0, 0⟩ : T26)) else ((isa_word_get.f x0 20 20).bind fun r16 => ((isa_word_get.f x0 15 12).bind fun r17 => ((isa_word_get.f x0 19 16).bind fun r18 => ((isa_word_get.f x0 23 21).bind fun r19 => ((isa_word_get.f x0 3 0).bind fun r20 => ((isa_word_get.f x0 7 5).bind fun r21 => (some (⟨x1.f0_Cond, (IntKind.wrap .i64 (49 + r16)), x1.f2_S, x1.f3_Form, r17, x1.f5_Rn, x1.f6_Rm, x1.f7_Rs, x1.f8_Ra, x1.f9_Imm, x1.f10_Shift, x1.f11_Amount, x1.f12_Pre, x1.f13_Up, x1.f14_Write, x1.f15_List, r18, r19, r20, r21⟩ : T26)))))))))))) else (bif (r1 == 15) then ((isa_word_get.f x0 23 0).bind fun r22 => (some (⟨x1.f0_Cond, 45, x1.f2_S, x1.f3_Form, x1.f4_Rd, x1.f5_Rn, x1.f6_Rm, x1.f7_Rs, x1.f8_Ra, (IntKind.wrap .u32 r22), x1.f10_Shift, x1.f11_Amount, x1.f12_Pre, x1.f13_Up, x1.f14_Write, x1.f15_List, x1.f16_Tuple_CRn, x1.f17_Tuple_Op1, x1.f18_Tuple_CRm, x1.f19_Tuple_Op2⟩ : T26))) else (some (⟨0, 0, false, 0, 0, 0, 0, 0, 0, 0, 0, 0, false, false, false, 0, 0, 0, 0, 0⟩ : T26))))) else (bif (r1 == 11) then ((isa_word_get.f x0 24 24).bind fun r23 => (some (⟨x1.f0_Cond, (IntKind.wrap .i64 (41 + r23)), x1.f2_S, x1.f3_Form, x1.f4_Rd, x1.f5_Rn, x1.f6_Rm, x1.f7_Rs, x1.f8_Ra, (IntKind.wrap .u32 (shrI .i32 (IntKind.wrap .i32 (shlI .u32 x0 8)) 6)), x1.f10_Shift, x1.f11_Amount, x1.f12_Pre, x1.f13_Up, x1.f14_Write, x1.f15_List, x1.f16_Tuple_CRn, x1.f17_Tuple_Op1, x1.f18_Tuple_CRm, x1.f19_Tuple_Op2⟩ : T26))) else (bif (r1 == 14) then ((isa_word_bit.f x0 4).bind fun r24 => (bif (!r24) then (some (⟨0, 0, false, 0, 0, 0, 0, 0, 0, 0, 0, 0, false, false, false, 0, 0, 0, 0, 0⟩ : T26)) else ((isa_word_get.f x0 11 8).bind fun r25 => (bif (r25 != 15) then (some (⟨0, 0, false, 0, 0, 0, 0, 0, 0, 0, 0, 0, false, false, false, 0, 0, 0, 0, 0⟩ : T26)) else ((isa_word_get.f x0 20 20).bind fun r26 => ((isa_word_get.f x0 15 12).bind fun r27 => ((isa_word_get.f x0 19 16).bind fun r28 => ((isa_word_get.f x0 23 21).bind fun r29 => ((isa_word_get.f x0 3 0).bind fun r30 => ((isa_word_get.f x0 7 5).bind fun r31 => (some (⟨x1.f0_Cond, (IntKind.wrap .i64 (49 + r26)), x1.f2_S, x1.f3_Form, r27, x1.f5_Rn, x1.f6_Rm, x1.f7_Rs, x1.f8_Ra, x1.f9_Imm, x1.f10_Shift, x1.f11_Amount, x1.f12_Pre, x1.f13_Up, x1.f14_Write, x1.f15_List, r28, r29, r30, r31⟩ : T26)))))))))))) else (bif (r1 == 15) then ((isa_word_get.f x0 23 0).bind fun r32 => (some (⟨x1.f0_Cond, 45, x1.f2_S, x1.f3_Form, x1.f4_Rd, x1.f5_Rn, x1.f6_Rm, x1.f7_Rs, x1.f8_Ra, (IntKind.wrap .u32 r32), x1.f10_Shift, x1.f11_Amount, x1.f12_Pre, x1.f13_Up, x1.f14_Write, x1.f15_List, x1.f16_Tuple_CRn, x1.f17_Tuple_Op1, x1.f18_Tuple_CRm, x1.f19_Tuple_Op2⟩ : T26))) else (some (⟨0, 0, false, 0, 0, 0, 0, 0, 0, 0, 0, 0, false, false, false, 0, 0, 0, 0, 0⟩ : T26))))))) else (bif (r1 == 9) then ((isa_word_bit.f x0 20).bind fun r33 => (bif r33 then ((isa_word_bit.f x0 24).bind fun r34 => ((isa_word_bit.f x0 23).bind fun r35 => ((isa_word_bit.f x0 21).bind fun r36 => ((isa_word_get.f x0 19 16).bind fun r37 => ((isa_word_bit.f x0 22).bind fun r38 => (bif r38 then (some (⟨0, 0, false, 0, 0, 0, 0, 0, 0, 0, 0, 0, false, false, false, 0, 0, 0, 0, 0⟩ : T26)) else (some (⟨x1.f0_Cond, 39, x1.f2_S, x1.f3_Form, x1.f4_Rd, r37, x1.f6_Rm, x1.f7_Rs, x1.f8_Ra, x1.f9_Imm, x1.f10_Shift, x1.f11_Amount, r34, r35, r36, (IntKind.wrap .u16 x0), x1.f16_Tuple_CRn, x1.f17_Tuple_Op1, x1.f18_Tuple_CRm, x1.f19_Tuple_Op2⟩ : T26)))))))) else ((isa_word_bit.f x0 24).bind fun r39 => ((isa_word_bit.f x0 23).bind fun r40 => ((isa_word_bit.f x0 21).bind fun r41 => ((isa_word_get.f x0 19 16).bind fun r42 => ((isa_word_bit.f x0 22).bind fun r43 => (bif r43 then (some (⟨0, 0, false, 0, 0, 0, 0, 0, 0, 0, 0, 0, false, false, false, 0, 0, 0, 0, 0⟩ : T26)) else (some (⟨x1.f0_Cond, 40, x1.f2_S, x1.f3_Form, x1.f4_Rd, r42, x1.f6_Rm, x1.f7_Rs, x1.f8_Ra, x1.f9_Imm, x1.f10_Shift, x1.f11_Amount, r39, r40, r41, (IntKind.wrap .u16 x0), x1.f16_Tuple_CRn, x1.f17_Tuple_Op1, x1.f18_Tuple_CRm, x1.f19_Tuple_Op2⟩ : T26)))))))))) else (bif (r1 == 10) then (bif (r1 == 10) then ((isa_word_get.f x0 24 24).bind fun r44 => (some (⟨x1.f0_Cond, (IntKind.wrap .i64 (41 + r44)), x1.f2_S, x1.f3_Form, x1.f4_Rd, x1.f5_Rn, x1.f6_Rm, x1.f7_Rs, x1.f8_Ra, (IntKind.wrap .u32 (shrI .i32 (IntKind.wrap .i32 (shlI .u32 x0 8)) 6)), x1.f10_Shift, x1.f11_Amount, x1.f12_Pre, x1.f13_Up, x1.f14_Write, x1.f15_List, x1.f16_Tuple_CRn, x1.f17_Tuple_Op1, x1.f18_Tuple_CRm, x1.f19_Tuple_Op2⟩ : T26))) else (bif (r1 == 14) then ((isa_word_bit.f x0 4).bind fun r45 => (bif (!r45) then (some (⟨0, 0, false, 0, 0, 0, 0, 0, 0, 0, 0, 0, false, false, false, 0, 0, 0, 0, 0⟩ : T26)) else ((isa_word_get.f x0 11 8).bind fun r46 => (bif (r46 != 15) then (some (⟨0, 0, false, 0, 0, 0, 0, 0, 0, 0, 0, 0, false, false, false, 0, 0, 0, 0, 0⟩ : T26)) else ((isa_word_get.f x0 20 20).bind fun r47 => ((isa_word_get.f x0 15 12).bind fun r48 => ((isa_word_get.f x0 19 16).bind fun r49 => ((isa_word_get.f x0 23 21).bind fun r50 => ((isa_word_get.f x0 3 0).bind fun r51 => ((isa_word_get.f x0 7 5).bind fun r52 => (some (⟨x1.f0_Cond, (IntKind.wrap .i64 (49 + r47)), x1.f2_S, x1.f3_Form, r48, x1.f5_Rn, x1.f6_Rm, x1.f7_Rs, x1.f8_Ra, x1.f9_Imm, x1.f10_Shift, x1.f11_Amount, x1.f12_Pre, x1.f13_Up, x1.f14_Write, x1.f15_List, r49, r50, r51, r52⟩ : T26)))))))))))) else (bif (r1 == 15) then ((isa_word_get.f x0 23 0).bind fun r53 => (some (⟨x1.f0_Cond, 45, x1.f2_S, x1.f3_Form, x1.f4_Rd, x1.f5_Rn, x1.f6_Rm, x1.f7_Rs, x1.f8_Ra, (IntKind.wrap .u32 r53), x1.f10_Shift, x1.f11_Amount, x1.f12_Pre, x1.f13_Up, x1.f14_Write, x1.f15_List, x1.f16_Tuple_CRn, x1.f17_Tuple_Op1, x1.f18_Tuple_CRm, x1.f19_Tuple_Op2⟩ : T26))) else (some (⟨0, 0, false, 0, 0, 0, 0, 0, 0, 0, 0, 0, false, false, false, 0, 0, 0, 0, 0⟩ : T26))))) else (bif (r1 == 11) then ((isa_word_get.f x0 24 24).bind fun r54 => (some (⟨x1.f0_Cond, (IntKind.wrap .i64 (41 + r54)), x1.f2_S, x1.f3_Form, x1.f4_Rd, x1.f5_Rn, x1.f6_Rm, x1.f7_Rs, x1.f8_Ra, (IntKind.wrap .u32 (shrI .i32 (IntKind.wrap .i32 (shlI .u32 x0 8)) 6)), x1.f10_Shift, x1.f11_Amount, x1.f12_Pre, x1.f13_Up, x1.f14_Write, x1.f15_List, x1.f16_Tuple_CRn, x1.f17_Tuple_Op1, x1.f18_Tuple_CRm, x1.f19_Tuple_Op2⟩ : T26))) else (bif (r1 == 14) then ((isa_word_bit.f x0 4).bind fun r55 => (bif (!r55) then (some (⟨0, 0, false, 0, 0, 0, 0, 0, 0, 0, 0, 0, false, false, false, 0, 0, 0, 0, 0⟩ : T26)) else ((isa_word_get.f x0 11 8).bind fun r56 => (bif (r56 != 15) then (some (⟨0, 0, false, 0, 0, 0, 0, 0, 0, 0, 0, 0, false, false, false, 0, 0, 0, 0, 0⟩ : T26)) else ((isa_word_get.f x0 20 20).bind fun r57 => ((isa_word_get.f x0 15 12).bind fun r58 => ((isa_word_get.f x0 19 16).bind fun r59 => ((isa_word_get.f x0 23 21).bind fun r60 => ((isa_word_get.f x0 3 0).bind fun r61 => ((isa_word_get.f x0 7 5).bind fun r62 => (some (⟨x1.f0_Cond, (IntKind.wrap .i64 (49 + r57)), x1.f2_S, x1.f3_Form, r58, x1.f5_Rn, x1.f6_Rm, x1.f7_Rs, x1.f8_Ra, x1.f9_Imm, x1.f10_Shift, x1.f11_Amount, x1.f12_Pre, x1.f13_Up, x1.f14_Write, x1.f15_List, r59, r60, r61, r62⟩ : T26)))))))))))) else (bif (r1 == 15) then ((isa_word_get.f x0 23 0).bind fun r63 => (some (⟨x1.f0_Cond, 45, x1.f2_S, x1.f3_Form, x1.f4_Rd, x1.f5_Rn, x1.f6_Rm, x1.f7_Rs, x1.f8_Ra, (IntKind.wrap .u32 r63), x1.f10_Shift, x1.f11_Amount, x1.f12_Pre, x1.f13_Up, x1.f14_Write, x1.f15_List, x1.f16_Tuple_CRn, x1.f17_Tuple_Op1, x1.f18_Tuple_CRm, x1.f19_Tuple_Op2⟩ : T26))) else (some (⟨0, 0, false, 0, 0, 0, 0, 0, 0, 0, 0, 0, false, false, false, 0, 0, 0, 0, 0⟩ : T26)))))))))
theorem isa_rest.run (x0 : Int) (x1 : T26) : runF Try.prog (gamOf [(33, isa_word_get.g), (36, isa_word_bit.g)]) noLam Try.f39 [(.val (.int .u32 x0)), (T26.av x1)] some = (isa_rest.f x0 x1).bind fun r => some (.ret (T26.av r)) := by
  unfold isa_rest.f
  try simp only [cond_bind, elim_bind, Option.bind_some, Option.bind_none, Option.bind_assoc]
  kernel_rfl
def isa_rest.g : GFun := fun β args K => match args with
  | [a0, a1] => (intO .u32 a0).bind fun x0 => (T26.of a1).bind fun x1 => (isa_rest.f x0 x1).bind fun r => K (.ret (T26.av r))
  | _ => none
theorem isa_rest.callable : callable Try.prog 39 = true := callable_of Try.func39 (by kernel_rfl)
theorem isa_rest.ok : GOk Try.prog 39 (isa_rest.g) := by
  intro β args K r h
  unfold isa_rest.g at h
  split at h
  · obtain ⟨x0, e0, h⟩ := Option.bind_eq_some_iff.1 h
    obtain ⟨x1, e1, h⟩ := Option.bind_eq_some_iff.1 h
    obtain ⟨y, hy, hK⟩ := Option.bind_eq_some_iff.1 h
    have hrun := isa_rest.run x0 x1
    rw [hy] at hrun
    obtain ⟨out, e, hs⟩ := sim_of_run Try.func39 (by kernel_rfl) mixed (gamOf_cons (isa_word_get.ok) isa_word_get.callable (gamOf_cons (isa_word_bit.ok) isa_word_bit.callable (gamOf_nil _))) (noLam_ok _ _) (args' := [(.val (.int .u32 x0)), (T26.av x1)]) (RefsL.cons (Refs.of_eq (intO_eq e0)) (RefsL.cons (T26.refs e1) RefsL.nil)) hrun
    simp only [Option.some.injEq] at e
    subst e
    exact ⟨_, hK, hs⟩
  · cases h
/-! ### atlas/isa.says: function 20 -/
def isa_says.f (k : Nat) (x0 : Int) : Option (T26) := ((isa_word_get.f x0 31 28).bind fun r1 => ((isa_word_get.f x0 27 25).bind fun r2 => (bif (r2 == 0) then ((isa_first.f k x0 (⟨r1, 0, false, 0, 0, 0, 0, 0, 0, 0, 0, 0, false, false, false, 0, 0, 0, 0, 0⟩ : T26)).bind fun r3 => (some (⟨r3.f0_Cond, r3.f1_Op, r3.f2_S, r3.f3_Form, r3.f4_Rd, r3.f5_Rn, r3.f6_Rm, r3.f7_Rs, r3.f8_Ra, r3.f9_Imm, r3.f10_Shift, r3.f11_Amount, r3.f12_Pre, r3.f13_Up, r3.f14_Write, r3.f15_List, r3.f16_Tuple_CRn, r3.f17_Tuple_Op1, r3.f18_Tuple_CRm, r3.f19_Tuple_Op2⟩ : T26))) else (bif (r2 == 1) then ((isa_second.f x0 (⟨r1, 0, false, 0, 0, 0, 0, 0, 0, 0, 0, 0, false, false, false, 0, 0, 0, 0, 0⟩ : T26)).bind fun r4 => (some (⟨r4.f0_Cond, r4.f1_Op, r4.f2_S, r4.f3_Form, r4.f4_Rd, r4.f5_Rn, r4.f6_Rm, r4.f7_Rs, r4.f8_Ra, r4.f9_Imm, r4.f10_Shift, r4.f11_Amount, r4.f12_Pre, r4.f13_Up, r4.f14_Write, r4.f15_List, r4.f16_Tuple_CRn, r4.f17_Tuple_Op1, r4.f18_Tuple_CRm, r4.f19_Tuple_Op2⟩ : T26))) else (bif (r2 == 3) then ((isa_word_bit.f x0 4).bind fun r5 => (bif r5 then ((isa_media.f x0 (⟨r1, 0, false, 0, 0, 0, 0, 0, 0, 0, 0, 0, false, false, false, 0, 0, 0, 0, 0⟩ : T26)).bind fun r6 => (some (⟨r6.f0_Cond, r6.f1_Op, r6.f2_S, r6.f3_Form, r6.f4_Rd, r6.f5_Rn, r6.f6_Rm, r6.f7_Rs, r6.f8_Ra, r6.f9_Imm, r6.f10_Shift, r6.f11_Amount, r6.f12_Pre, r6.f13_Up, r6.f14_Write, r6.f15_List, r6.f16_Tuple_CRn, r6.f17_Tuple_Op1, r6.f18_Tuple_CRm, r6.f19_Tuple_Op2⟩ : T26))) else ((isa_single.f x0 (⟨r1, 0, false, 0, 0, 0, 0, 0, 0, 0, 0, 0, false, false, false, 0, 0, 0, 0, 0⟩ : T26)).bind fun r7 => (some (⟨r7.f0_Cond, r7.f1_Op, r7.f2_S, r7.f3_Form, r7.f4_Rd, r7.f5_Rn, r7.f6_Rm, r7.f7_Rs, r7.f8_Ra, r7.f9_Imm, r7.f10_Shift, r7.f11_Amount, r7.f12_Pre, r7.f13_Up, r7.f14_Write, r7.f15_List, r7.f16_Tuple_CRn, r7.f17_Tuple_Op1, r7.f18_Tuple_CRm, r7.f19_Tuple_Op2⟩ : T26))))) else (bif (r2 == 2) then ((isa_single.f x0 (⟨r1, 0, false, 0, 0, 0, 0, 0, 0, 0, 0, 0, false, false, false, 0, 0, 0, 0, 0⟩ : T26)).bind fun r8 => (some (⟨r8.f0_Cond, r8.f1_Op, r8.f2_S, r8.f3_Form, r8.f4_Rd, r8.f5_Rn, r8.f6_Rm, r8.f7_Rs, r8.f8_Ra, r8.f9_Imm, r8.f10_Shift, r8.f11_Amount, r8.f12_Pre, r8.f13_Up, r8.f14_Write, r8.f15_List, r8.f16_Tuple_CRn, r8.f17_Tuple_Op1, r8.f18_Tuple_CRm, r8.f19_Tuple_Op2⟩ : T26))) else ((isa_rest.f x0 (⟨r1, 0, false, 0, 0, 0, 0, 0, 0, 0, 0, 0, false, false, false, 0, 0, 0, 0, 0⟩ : T26)).bind fun r9 => (some (⟨r9.f0_Cond, r9.f1_Op, r9.f2_S, r9.f3_Form, r9.f4_Rd, r9.f5_Rn, r9.f6_Rm, r9.f7_Rs, r9.f8_Ra, r9.f9_Imm, r9.f10_Shift, r9.f11_Amount, r9.f12_Pre, r9.f13_Up, r9.f14_Write, r9.f15_List, r9.f16_Tuple_CRn, r9.f17_Tuple_Op1, r9.f18_Tuple_CRm, r9.f19_Tuple_Op2⟩ : T26)))))))))
theorem isa_says.run (k : Nat) (x0 : Int) : runF Try.prog (gamOf [(33, isa_word_get.g), (34, isa_first.g k), (35, isa_second.g), (36, isa_word_bit.g), (37, isa_media.g), (38, isa_single.g), (39, isa_rest.g)]) noLam Try.f20 [(.val (.int .u32 x0))] some = (isa_says.f k x0).bind fun r => some (.ret (T26.av r)) := by
  unfold isa_says.f
  try simp only [cond_bind, elim_bind, Option.bind_some, Option.bind_none, Option.bind_assoc]
  kernel_rfl
def isa_says.g (k : Nat) : GFun := fun β args K => match args with
  | [a0] => (intO .u32 a0).bind fun x0 => (isa_says.f k x0).bind fun r => K (.ret (T26.av r))
  | _ => none
theorem isa_says.callable : callable Try.prog 20 = true := callable_of Try.func20 (by kernel_rfl)
theorem isa_says.ok (k : Nat) : GOk Try.prog 20 (isa_says.g k) := by
  intro β args K r h
  unfold isa_says.g at h
  split at h
  · obtain ⟨x0, e0, h⟩ := Option.bind_eq_some_iff.1 h
    obtain ⟨y, hy, hK⟩ := Option.bind_eq_some_iff.1 h
    have hrun := isa_says.run k x0
    rw [hy] at hrun
    obtain ⟨out, e, hs⟩ := sim_of_run Try.func20 (by kernel_rfl) mixed (gamOf_cons (isa_word_get.ok) isa_word_get.callable (gamOf_cons (isa_first.ok k) isa_first.callable (gamOf_cons (isa_second.ok) isa_second.callable (gamOf_cons (isa_word_bit.ok) isa_word_bit.callable (gamOf_cons (isa_media.ok) isa_media.callable (gamOf_cons (isa_single.ok) isa_single.callable (gamOf_cons (isa_rest.ok) isa_rest.callable (gamOf_nil _)))))))) (noLam_ok _ _) (args' := [(.val (.int .u32 x0))]) (RefsL.cons (Refs.of_eq (intO_eq e0)) RefsL.nil) hrun
    simp only [Option.some.injEq] at e
    subst e
    exact ⟨_, hK, hs⟩
  · cases h
/-! ### atlas/isa.wide: function 32 -/
def isa_wide.f (x0 : Int) : Option (Bool) := (bif (decide (x0 ≥ 21)) then (some (decide (x0 ≤ 24))) else (some false))
theorem isa_wide.run (x0 : Int) : runF Try.prog (gamOf []) noLam Try.f32 [(.val (.int .i64 x0))] some = (isa_wide.f x0).bind fun r => some (.ret (.val (.bool r))) := by
  unfold isa_wide.f
  try simp only [cond_bind, elim_bind, Option.bind_some, Option.bind_none, Option.bind_assoc]
  kernel_rfl
def isa_wide.g : GFun := fun β args K => match args with
  | [a0] => (intO .i64 a0).bind fun x0 => (isa_wide.f x0).bind fun r => K (.ret (.val (.bool r)))
  | _ => none
theorem isa_wide.callable : callable Try.prog 32 = true := callable_of Try.func32 (by kernel_rfl)
theorem isa_wide.ok : GOk Try.prog 32 (isa_wide.g) := by
  intro β args K r h
  unfold isa_wide.g at h
  split at h
  · obtain ⟨x0, e0, h⟩ := Option.bind_eq_some_iff.1 h
    obtain ⟨y, hy, hK⟩ := Option.bind_eq_some_iff.1 h
    have hrun := isa_wide.run x0
    rw [hy] at hrun
    obtain ⟨out, e, hs⟩ := sim_of_run Try.func32 (by kernel_rfl) mixed (gamOf_nil _) (noLam_ok _ _) (args' := [(.val (.int .i64 x0))]) (RefsL.cons (Refs.of_eq (intO_eq e0)) RefsL.nil) hrun
    simp only [Option.some.injEq] at e
    subst e
    exact ⟨_, hK, hs⟩
  · cases h
/-! ### atlas/isa.any15: function 40 -/
def isa_any15.q0.h : Head ((List Int) × Int × Int) where
  k γ s F := (sizedN 14 s).bind fun _ => (vtO (.int .i64) (gt s.tm 5)).bind fun v2 => (intO .i64 (gt s.tm 6)).bind fun v4 => (intO .i64 (gt s.tm 7)).bind fun v6 => (distO []).bind fun _ => F (v2, v4, v6)
  st x := ⟨sparseT [(5, (.vt (.int .i64) x.1)), (6, (.val (.int .i64 x.2.1))), (7, (.val (.int .i64 x.2.2)))] 14 0, []⟩
  ok γ s F r h := by
    obtain ⟨_, hz, h⟩ := Option.bind_eq_some_iff.1 h
    obtain ⟨v2, h1, h⟩ := Option.bind_eq_some_iff.1 h
    obtain ⟨v4, h3, h⟩ := Option.bind_eq_some_iff.1 h
    obtain ⟨v6, h5, h⟩ := Option.bind_eq_some_iff.1 h
    obtain ⟨_, h7, h⟩ := Option.bind_eq_some_iff.1 h
    exact ⟨_, h, weak_ren (l := []) (sizedN_ok hz) (distO_ok h7) (LiveR.cons (RefsR.plain (vtO_refs h1) rfl) (LiveR.cons (RefsR.plain (Refs.of_eq (intO_eq h3)) rfl) (LiveR.cons (RefsR.plain (Refs.of_eq (intO_eq h5)) rfl) LiveR.nil))) BlksR.nil⟩

def isa_any15.q0.x0 : Head (Bool) where
  k γ s F := (sizedN 14 s).bind fun _ => (boolO (gt s.tm 2)).bind fun v2 => (distO []).bind fun _ => F (v2)
  st x := ⟨sparseT [(2, (.val (.bool x)))] 14 0, []⟩
  ok γ s F r h := by
    obtain ⟨_, hz, h⟩ := Option.bind_eq_some_iff.1 h
    obtain ⟨v2, h1, h⟩ := Option.bind_eq_some_iff.1 h
    obtain ⟨_, h3, h⟩ := Option.bind_eq_some_iff.1 h
    exact ⟨_, h, weak_ren (l := []) (sizedN_ok hz) (distO_ok h3) (LiveR.cons (RefsR.plain (Refs.of_eq (boolO_eq h1)) rfl) LiveR.nil) BlksR.nil⟩

def isa_any15.q0.x1 : Head (Unit) where
  k γ s F := (sizedN 14 s).bind fun _ => (distO []).bind fun _ => F ()
  st x := ⟨sparseT [] 14 0, []⟩
  ok γ s F r h := by
    obtain ⟨_, hz, h⟩ := Option.bind_eq_some_iff.1 h
    obtain ⟨_, h1, h⟩ := Option.bind_eq_some_iff.1 h
    exact ⟨_, h, weak_ren (l := []) (sizedN_ok hz) (distO_ok h1) LiveR.nil BlksR.nil⟩

def isa_any15.q0.t : Tail ((Bool) ⊕ (Unit)) := Tail.or .ret isa_any15.q0.x0 (Tail.one (.exit 0) isa_any15.q0.x1)
theorem isa_any15.q0.np (y : ((Bool) ⊕ (Unit))) (v : AV) : (isa_any15.q0.t.out y).1 ≠ .panic v := fun h => by rcases y with _ | y <;> first | (cases h; done) | (cases h)
theorem isa_any15.q0.nn (y : ((Bool) ⊕ (Unit))) : (isa_any15.q0.t.out y).1 ≠ .normal := fun h => by rcases y with _ | y <;> first | (cases h; done) | (cases h)
def isa_any15.q0.l (k : Nat) : Nat → ((List Int) × Int × Int) → Option ((Bool) ⊕ (Unit))
  | 0, _ => none
  | n + 1, x => (bif (decide (x.2.2 < x.2.1)) then (bif (decide (0 ≤ x.2.2) && decide (x.2.2 < ((x.1.length : Nat) : Int))) then (bif ((x.1.getD (x.2.2).toNat 0) == 15) then (some (Sum.inl true)) else (isa_any15.q0.l k n (x.1, x.2.1, (IntKind.wrap .i64 (x.2.2 + 1))))) else none) else (some (Sum.inr ())))
theorem isa_any15.q0.z (k : Nat) (x : ((List Int) × Int × Int)) : isa_any15.q0.l k 0 x = none := rfl
theorem isa_any15.q0.at : codeAt (bodyOf Try.f40) [false, true, false, true] = some (.loop (loopBody (bodyOf Try.f40) [false, true, false, true])) := by kernel_rfl
theorem isa_any15.q0.goes (k n : Nat) (x : ((List Int) × Int × Int)) : E Try.prog (gamOf []) (lamOf []) (loopBody (bodyOf Try.f40) [false, true, false, true]) (false :: [false, true, false, true]) (isa_any15.q0.h.st x) (contD isa_any15.q0.h isa_any15.q0.t (isa_any15.q0.l k n) some) = isa_any15.q0.l k (n + 1) x := by
  kernel_rfl
theorem isa_any15.q0.ok_ (k : Nat) : PieceOk Try.prog (bodyOf Try.f40) ⟨[false, true, false, true], _, _, isa_any15.q0.h, isa_any15.q0.t, isa_any15.q0.l k k⟩ :=
  piece_loop (gamOf_nil _) (lamOf_nil _ _) mixed isa_any15.q0.at isa_any15.q0.np isa_any15.q0.nn (isa_any15.q0.z k) (isa_any15.q0.goes k) k
def isa_any15.q0.p (k : Nat) : Piece := ⟨[false, true, false, true], _, _, isa_any15.q0.h, isa_any15.q0.t, isa_any15.q0.l k k⟩
theorem isa_any15.q0.ok (k : Nat) : PieceOk Try.prog (bodyOf Try.f40) (isa_any15.q0.p k) := isa_any15.q0.ok_ k
def isa_any15.f (k : Nat) (x0 : (List Int)) : Option (Bool) := ((isa_any15.q0.l k k (x0, ((x0.length : Nat) : Int), 0)).bind fun r1 => (Sum.elim (fun r2 => (some r2)) (fun r3 => (some false)) r1))
theorem isa_any15.run (k : Nat) (x0 : (List Int)) : runF Try.prog (gamOf []) (lamOf [isa_any15.q0.p k]) Try.f40 [(.vt (.int .i64) x0)] some = (isa_any15.f k x0).bind fun r => some (.ret (.val (.bool r))) := by
  unfold isa_any15.f
  try simp only [cond_bind, elim_bind, Option.bind_some, Option.bind_none, Option.bind_assoc]
  kernel_rfl
def isa_any15.g (k : Nat) : GFun := fun β args K => match args with
  | [a0] => (vtO (.int .i64) a0).bind fun x0 => (isa_any15.f k x0).bind fun r => K (.ret (.val (.bool r)))
  | _ => none
theorem isa_any15.callable : callable Try.prog 40 = true := callable_of Try.func40 (by kernel_rfl)
theorem isa_any15.ok (k : Nat) : GOk Try.prog 40 (isa_any15.g k) := by
  intro β args K r h
  unfold isa_any15.g at h
  split at h
  · obtain ⟨x0, e0, h⟩ := Option.bind_eq_some_iff.1 h
    obtain ⟨y, hy, hK⟩ := Option.bind_eq_some_iff.1 h
    have hrun := isa_any15.run k x0
    rw [hy] at hrun
    obtain ⟨out, e, hs⟩ := sim_of_run Try.func40 (by kernel_rfl) mixed (gamOf_nil _) (lamOf_cons (isa_any15.q0.ok k) (lamOf_nil _ _)) (args' := [(.vt (.int .i64) x0)]) (RefsL.cons (vtO_refs e0) RefsL.nil) hrun
    simp only [Option.some.injEq] at e
    subst e
    exact ⟨_, hK, hs⟩
  · cases h
/-! ### atlas/isa.may: function 21 -/
def isa_may.q0.h : Head (Int × Int × Bool × Int × Int × Int × Int × Int × Int × Int × Int × Int × Bool × Bool × Bool × Int × Int × Int × Int × Int) where
  k γ s F := (sizedN 183 s).bind fun _ => (ptrN 0 (gt s.tm 1)).bind fun b2 => (rowN 27 20 s.hp b2).bind fun l4 => (intO .i64 (gt l4 0)).bind fun v6 => (intO .i64 (gt l4 1)).bind fun v8 => (boolO (gt l4 2)).bind fun v10 => (intO .i64 (gt l4 3)).bind fun v12 => (intO .i64 (gt l4 4)).bind fun v14 => (intO .i64 (gt l4 5)).bind fun v16 => (intO .i64 (gt l4 6)).bind fun v18 => (intO .i64 (gt l4 7)).bind fun v20 => (intO .i64 (gt l4 8)).bind fun v22 => (intO .u32 (gt l4 9)).bind fun v24 => (intO .i64 (gt l4 10)).bind fun v26 => (intO .i64 (gt l4 11)).bind fun v28 => (boolO (gt l4 12)).bind fun v30 => (boolO (gt l4 13)).bind fun v32 => (boolO (gt l4 14)).bind fun v34 => (intO .u16 (gt l4 15)).bind fun v36 => (intO .i64 (gt l4 16)).bind fun v38 => (intO .i64 (gt l4 17)).bind fun v40 => (intO .i64 (gt l4 18)).bind fun v42 => (intO .i64 (gt l4 19)).bind fun v44 => (distO [some b2]).bind fun _ => F (v6, v8, v10, v12, v14, v16, v18, v20, v22, v24, v26, v28, v30, v32, v34, v36, v38, v40, v42, v44)
  st x := ⟨sparseT [(1, (.ptr 0 0))] 183 0, [.row [(.val (.int .i64 x.1)), (.val (.int .i64 x.2.1)), (.val (.bool x.2.2.1)), (.val (.int .i64 x.2.2.2.1)), (.val (.int .i64 x.2.2.2.2.1)), (.val (.int .i64 x.2.2.2.2.2.1)), (.val (.int .i64 x.2.2.2.2.2.2.1)), (.val (.int .i64 x.2.2.2.2.2.2.2.1)), (.val (.int .i64 x.2.2.2.2.2.2.2.2.1)), (.val (.int .u32 x.2.2.2.2.2.2.2.2.2.1)), (.val (.int .i64 x.2.2.2.2.2.2.2.2.2.2.1)), (.val (.int .i64 x.2.2.2.2.2.2.2.2.2.2.2.1)), (.val (.bool x.2.2.2.2.2.2.2.2.2.2.2.2.1)), (.val (.bool x.2.2.2.2.2.2.2.2.2.2.2.2.2.1)), (.val (.bool x.2.2.2.2.2.2.2.2.2.2.2.2.2.2.1)), (.val (.int .u16 x.2.2.2.2.2.2.2.2.2.2.2.2.2.2.2.1)), (.val (.int .i64 x.2.2.2.2.2.2.2.2.2.2.2.2.2.2.2.2.1)), (.val (.int .i64 x.2.2.2.2.2.2.2.2.2.2.2.2.2.2.2.2.2.1)), (.val (.int .i64 x.2.2.2.2.2.2.2.2.2.2.2.2.2.2.2.2.2.2.1)), (.val (.int .i64 x.2.2.2.2.2.2.2.2.2.2.2.2.2.2.2.2.2.2.2))] 27 true]⟩
  ok γ s F r h := by
    obtain ⟨_, hz, h⟩ := Option.bind_eq_some_iff.1 h
    obtain ⟨b2, h1, h⟩ := Option.bind_eq_some_iff.1 h
    obtain ⟨l4, h3, h⟩ := Option.bind_eq_some_iff.1 h
    obtain ⟨v6, h5, h⟩ := Option.bind_eq_some_iff.1 h
    obtain ⟨v8, h7, h⟩ := Option.bind_eq_some_iff.1 h
    obtain ⟨v10, h9, h⟩ := Option.bind_eq_some_iff.1 h
    obtain ⟨v12, h11, h⟩ := Option.bind_eq_some_iff.1 h
    obtain ⟨v14, h13, h⟩ := Option.bind_eq_some_iff.1 h
    obtain ⟨v16, h15, h⟩ := Option.bind_eq_some_iff.1 h
    obtain ⟨v18, h17, h⟩ := Option.bind_eq_some_iff.1 h
    obtain ⟨v20, h19, h⟩ := Option.bind_eq_some_iff.1 h
    obtain ⟨v22, h21, h⟩ := Option.bind_eq_some_iff.1 h
    obtain ⟨v24, h23, h⟩ := Option.bind_eq_some_iff.1 h
    obtain ⟨v26, h25, h⟩ := Option.bind_eq_some_iff.1 h
    obtain ⟨v28, h27, h⟩ := Option.bind_eq_some_iff.1 h
    obtain ⟨v30, h29, h⟩ := Option.bind_eq_some_iff.1 h
    obtain ⟨v32, h31, h⟩ := Option.bind_eq_some_iff.1 h
    obtain ⟨v34, h33, h⟩ := Option.bind_eq_some_iff.1 h
    obtain ⟨v36, h35, h⟩ := Option.bind_eq_some_iff.1 h
    obtain ⟨v38, h37, h⟩ := Option.bind_eq_some_iff.1 h
    obtain ⟨v40, h39, h⟩ := Option.bind_eq_some_iff.1 h
    obtain ⟨v42, h41, h⟩ := Option.bind_eq_some_iff.1 h
    obtain ⟨v44, h43, h⟩ := Option.bind_eq_some_iff.1 h
    obtain ⟨_, h45, h⟩ := Option.bind_eq_some_iff.1 h
    exact ⟨_, h, weak_ren (l := [some b2]) (sizedN_ok hz) (distO_ok h45) (LiveR.cons (RefsR.ptr (l := [some b2]) (i := 0) rfl (ptrN_eq h1)) LiveR.nil) (BlksR.cons (rowN_refs h3 rfl (GtRefsR.cons (RefsR.plain (Refs.of_eq (intO_eq h5)) rfl) (GtRefsR.cons (RefsR.plain (Refs.of_eq (intO_eq h7)) rfl) (GtRefsR.cons (RefsR.plain (Refs.of_eq (boolO_eq h9)) rfl) (GtRefsR.cons (RefsR.plain (Refs.of_eq (intO_eq h11)) rfl) (GtRefsR.cons (RefsR.plain (Refs.of_eq (intO_eq h13)) rfl) (GtRefsR.cons (RefsR.plain (Refs.of_eq (intO_eq h15)) rfl) (GtRefsR.cons (RefsR.plain (Refs.of_eq (intO_eq h17)) rfl) (GtRefsR.cons (RefsR.plain (Refs.of_eq (intO_eq h19)) rfl) (GtRefsR.cons (RefsR.plain (Refs.of_eq (intO_eq h21)) rfl) (GtRefsR.cons (RefsR.plain (Refs.of_eq (intO_eq h23)) rfl) (GtRefsR.cons (RefsR.plain (Refs.of_eq (intO_eq h25)) rfl) (GtRefsR.cons (RefsR.plain (Refs.of_eq (intO_eq h27)) rfl) (GtRefsR.cons (RefsR.plain (Refs.of_eq (boolO_eq h29)) rfl) (GtRefsR.cons (RefsR.plain (Refs.of_eq (boolO_eq h31)) rfl) (GtRefsR.cons (RefsR.plain (Refs.of_eq (boolO_eq h33)) rfl) (GtRefsR.cons (RefsR.plain (Refs.of_eq (intO_eq h35)) rfl) (GtRefsR.cons (RefsR.plain (Refs.of_eq (intO_eq h37)) rfl) (GtRefsR.cons (RefsR.plain (Refs.of_eq (intO_eq h39)) rfl) (GtRefsR.cons (RefsR.plain (Refs.of_eq (intO_eq h41)) rfl) (GtRefsR.cons (RefsR.plain (Refs.of_eq (intO_eq h43)) rfl) GtRefsR.nil)))))))))))))))))))) rfl) BlksR.nil)⟩

def isa_may.q0.x0 : Head (Bool) where
  k γ s F := (sizedN 183 s).bind fun _ => (boolO (gt s.tm 2)).bind fun v2 => (distO []).bind fun _ => F (v2)
  st x := ⟨sparseT [(2, (.val (.bool x)))] 183 0, []⟩
  ok γ s F r h := by
    obtain ⟨_, hz, h⟩ := Option.bind_eq_some_iff.1 h
    obtain ⟨v2, h1, h⟩ := Option.bind_eq_some_iff.1 h
    obtain ⟨_, h3, h⟩ := Option.bind_eq_some_iff.1 h
    exact ⟨_, h, weak_ren (l := []) (sizedN_ok hz) (distO_ok h3) (LiveR.cons (RefsR.plain (Refs.of_eq (boolO_eq h1)) rfl) LiveR.nil) BlksR.nil⟩

def isa_may.q0.t : Tail (Bool) := Tail.one .ret isa_may.q0.x0
theorem isa_may.q0.np (y : (Bool)) (v : AV) : (isa_may.q0.t.out y).1 ≠ .panic v := fun h => by cases h
def isa_may.q0.l (k : Nat) (x : (Int × Int × Bool × Int × Int × Int × Int × Int × Int × Int × Int × Int × Bool × Bool × Bool × Int × Int × Int × Int × Int)) : Option (Bool) := (bif (x.2.2.2.2.1 != 15) then (some true) else (some (x.2.1 == 31)))
theorem isa_may.q0.at : codeAt (bodyOf Try.f21) [true, true, false, true, true, true, true, true, true, true, false, false, true] = some (codeOf (bodyOf Try.f21) [true, true, false, true, true, true, true, true, true, true, false, false, true]) := by kernel_rfl
theorem isa_may.q0.goes (k : Nat) (x : (Int × Int × Bool × Int × Int × Int × Int × Int × Int × Int × Int × Int × Bool × Bool × Bool × Int × Int × Int × Int × Int)) : E Try.prog (gamOf [(40, isa_any15.g k), (32, isa_wide.g)]) (lamOf []) (codeOf (bodyOf Try.f21) [true, true, false, true, true, true, true, true, true, true, false, false, true]) [true, true, false, true, true, true, true, true, true, true, false, false, true] (isa_may.q0.h.st x) (fun ex t => isa_may.q0.t.d _ ex t some) = isa_may.q0.l k x := by
  kernel_rfl
theorem isa_may.q0.ok_ (k : Nat) : PieceOk Try.prog (bodyOf Try.f21) ⟨[true, true, false, true, true, true, true, true, true, true, false, false, true], _, _, isa_may.q0.h, isa_may.q0.t, isa_may.q0.l k⟩ :=
  piece_code (gamOf_cons (isa_any15.ok k) isa_any15.callable (gamOf_cons (isa_wide.ok) isa_wide.callable (gamOf_nil _))) (lamOf_nil _ _) mixed isa_may.q0.at isa_may.q0.np (isa_may.q0.goes k)
def isa_may.q0.p (k : Nat) : Piece := ⟨[true, true, false, true, true, true, true, true, true, true, false, false, true], _, _, isa_may.q0.h, isa_may.q0.t, isa_may.q0.l k⟩
theorem isa_may.q0.ok (k : Nat) : PieceOk Try.prog (bodyOf Try.f21) (isa_may.q0.p k) := isa_may.q0.ok_ k
def isa_may.f (k : Nat) (x0 : T26) : Option (Bool) := (bif (x0.f0_Cond == 15) then (some false) else (bif (x0.f1_Op == 0) then (some false) else (bif (decide (x0.f1_Op ≤ 16)) then (bif (x0.f3_Form != 3) then (some true) else ((isa_any15.f k ([x0.f4_Rd, x0.f5_Rn, x0.f6_Rm, x0.f7_Rs] : List Int)).bind fun r1 => (some (!r1)))) else (bif (decide (x0.f1_Op ≤ 30)) then ((isa_any15.f k ([x0.f4_Rd, x0.f6_Rm, x0.f7_Rs, x0.f8_Ra] : List Int)).bind fun r2 => (bif (!r2) then ((isa_wide.f x0.f1_Op).bind fun r3 => (bif (!r3) then (some true) else (some (x0.f4_Rd != x0.f8_Ra)))) else (some false))) else (bif (decide (x0.f1_Op ≤ 38)) then (bif x0.f14_Write then (bif x0.f14_Write then (bif (!x0.f12_Pre) then (some false) else (bif (x0.f5_Rn == 15) then (some false) else (bif (x0.f5_Rn == x0.f4_Rd) then (some false) else (bif (x0.f3_Form == 2) then (bif (x0.f6_Rm == 15) then (some false) else ((isa_may.q0.l k (x0.f0_Cond, x0.f1_Op, x0.f2_S, x0.f3_Form, x0.f4_Rd, x0.f5_Rn, x0.f6_Rm, x0.f7_Rs, x0.f8_Ra, x0.f9_Imm, x0.f10_Shift, x0.f11_Amount, x0.f12_Pre, x0.f13_Up, x0.f14_Write, x0.f15_List, x0.f16_Tuple_CRn, x0.f17_Tuple_Op1, x0.f18_Tuple_CRm, x0.f19_Tuple_Op2)).bind fun r4 => (some r4))) else ((isa_may.q0.l k (x0.f0_Cond, x0.f1_Op, x0.f2_S, x0.f3_Form, x0.f4_Rd, x0.f5_Rn, x0.f6_Rm, x0.f7_Rs, x0.f8_Ra, x0.f9_Imm, x0.f10_Shift, x0.f11_Amount, x0.f12_Pre, x0.f13_Up, x0.f14_Write, x0.f15_List, x0.f16_Tuple_CRn, x0.f17_Tuple_Op1, x0.f18_Tuple_CRm, x0.f19_Tuple_Op2)).bind fun r5 => (some r5)))))) else (bif (x0.f5_Rn == 15) then (some false) else (bif (x0.f5_Rn == x0.f4_Rd) then (some false) else (bif (x0.f3_Form == 2) then (bif (x0.f6_Rm == 15) then (some false) else ((isa_may.q0.l k (x0.f0_Cond, x0.f1_Op, x0.f2_S, x0.f3_Form, x0.f4_Rd, x0.f5_Rn, x0.f6_Rm, x0.f7_Rs, x0.f8_Ra, x0.f9_Imm, x0.f10_Shift, x0.f11_Amount, x0.f12_Pre, x0.f13_Up, x0.f14_Write, x0.f15_List, x0.f16_Tuple_CRn, x0.f17_Tuple_Op1, x0.f18_Tuple_CRm, x0.f19_Tuple_Op2)).bind fun r6 => (some r6))) else ((isa_may.q0.l k (x0.f0_Cond, x0.f1_Op, x0.f2_S, x0.f3_Form, x0.f4_Rd, x0.f5_Rn, x0.f6_Rm, x0.f7_Rs, x0.f8_Ra, x0.f9_Imm, x0.f10_Shift, x0.f11_Amount, x0.f12_Pre, x0.f13_Up, x0.f14_Write, x0.f15_List, x0.f16_Tuple_CRn, x0.f17_Tuple_Op1, x0.f18_Tuple_CRm, x0.f19_Tuple_Op2)).bind fun r7 => (some r7)))))) else (bif x0.f14_Write then (bif (!x0.f12_Pre) then (some false) else (bif (!x0.f12_Pre) then (bif (x0.f5_Rn == 15) then (some false) else (bif (x0.f5_Rn == x0.f4_Rd) then (some false) else (bif (x0.f3_Form == 2) then (bif (x0.f6_Rm == 15) then (some false) else ((isa_may.q0.l k (x0.f0_Cond, x0.f1_Op, x0.f2_S, x0.f3_Form, x0.f4_Rd, x0.f5_Rn, x0.f6_Rm, x0.f7_Rs, x0.f8_Ra, x0.f9_Imm, x0.f10_Shift, x0.f11_Amount, x0.f12_Pre, x0.f13_Up, x0.f14_Write, x0.f15_List, x0.f16_Tuple_CRn, x0.f17_Tuple_Op1, x0.f18_Tuple_CRm, x0.f19_Tuple_Op2)).bind fun r8 => (some r8))) else ((isa_may.q0.l k (x0.f0_Cond, x0.f1_Op, x0.f2_S, x0.f3_Form, x0.f4_Rd, x0.f5_Rn, x0.f6_Rm, x0.f7_Rs, x0.f8_Ra, x0.f9_Imm, x0.f10_Shift, x0.f11_Amount, x0.f12_Pre, x0.f13_Up, x0.f14_Write, x0.f15_List, x0.f16_Tuple_CRn, x0.f17_Tuple_Op1, x0.f18_Tuple_CRm, x0.f19_Tuple_Op2)).bind fun r9 => (some r9))))) else (bif (x0.f3_Form == 2) then (bif (x0.f6_Rm == 15) then (some false) else ((isa_may.q0.l k (x0.f0_Cond, x0.f1_Op, x0.f2_S, x0.f3_Form, x0.f4_Rd, x0.f5_Rn, x0.f6_Rm, x0.f7_Rs, x0.f8_Ra, x0.f9_Imm, x0.f10_Shift, x0.f11_Amount, x0.f12_Pre, x0.f13_Up, x0.f14_Write, x0.f15_List, x0.f16_Tuple_CRn, x0.f17_Tuple_Op1, x0.f18_Tuple_CRm, x0.f19_Tuple_Op2)).bind fun r10 => (some r10))) else ((isa_may.q0.l k (x0.f0_Cond, x0.f1_Op, x0.f2_S, x0.f3_Form, x0.f4_Rd, x0.f5_Rn, x0.f6_Rm, x0.f7_Rs, x0.f8_Ra, x0.f9_Imm, x0.f10_Shift, x0.f11_Amount, x0.f12_Pre, x0.f13_Up, x0.f14_Write, x0.f15_List, x0.f16_Tuple_CRn, x0.f17_Tuple_Op1, x0.f18_Tuple_CRm, x0.f19_Tuple_Op2)).bind fun r11 => (some r11))))) else (bif (!x0.f12_Pre) then (bif (x0.f5_Rn == 15) then (some false) else (bif (x0.f5_Rn == x0.f4_Rd) then (some false) else (bif (x0.f3_Form == 2) then (bif (x0.f6_Rm == 15) then (some false) else ((isa_may.q0.l k (x0.f0_Cond, x0.f1_Op, x0.f2_S, x0.f3_Form, x0.f4_Rd, x0.f5_Rn, x0.f6_Rm, x0.f7_Rs, x0.f8_Ra, x0.f9_Imm, x0.f10_Shift, x0.f11_Amount, x0.f12_Pre, x0.f13_Up, x0.f14_Write, x0.f15_List, x0.f16_Tuple_CRn, x0.f17_Tuple_Op1, x0.f18_Tuple_CRm, x0.f19_Tuple_Op2)).bind fun r12 => (some r12))) else ((isa_may.q0.l k (x0.f0_Cond, x0.f1_Op, x0.f2_S, x0.f3_Form, x0.f4_Rd, x0.f5_Rn, x0.f6_Rm, x0.f7_Rs, x0.f8_Ra, x0.f9_Imm, x0.f10_Shift, x0.f11_Amount, x0.f12_Pre, x0.f13_Up, x0.f14_Write, x0.f15_List, x0.f16_Tuple_CRn, x0.f17_Tuple_Op1, x0.f18_Tuple_CRm, x0.f19_Tuple_Op2)).bind fun r13 => (some r13))))) else (bif (x0.f3_Form == 2) then (bif (x0.f6_Rm == 15) then (some false) else ((isa_may.q0.l k (x0.f0_Cond, x0.f1_Op, x0.f2_S, x0.f3_Form, x0.f4_Rd, x0.f5_Rn, x0.f6_Rm, x0.f7_Rs, x0.f8_Ra, x0.f9_Imm, x0.f10_Shift, x0.f11_Amount, x0.f12_Pre, x0.f13_Up, x0.f14_Write, x0.f15_List, x0.f16_Tuple_CRn, x0.f17_Tuple_Op1, x0.f18_Tuple_CRm, x0.f19_Tuple_Op2)).bind fun r14 => (some r14))) else ((isa_may.q0.l k (x0.f0_Cond, x0.f1_Op, x0.f2_S, x0.f3_Form, x0.f4_Rd, x0.f5_Rn, x0.f6_Rm, x0.f7_Rs, x0.f8_Ra, x0.f9_Imm, x0.f10_Shift, x0.f11_Amount, x0.f12_Pre, x0.f13_Up, x0.f14_Write, x0.f15_List, x0.f16_Tuple_CRn, x0.f17_Tuple_Op1, x0.f18_Tuple_CRm, x0.f19_Tuple_Op2)).bind fun r15 => (some r15)))))) else (bif (decide (x0.f1_Op ≤ 40)) then (bif decide ((IntKind.wrap .u64 x0.f5_Rn) < 0) then none else (bif (x0.f15_List != 0) then (bif (x0.f5_Rn != 15) then (bif x0.f14_Write then (bif (!((andI .u16 (shrI .u16 x0.f15_List (IntKind.wrap .u64 x0.f5_Rn)) 1) == 1)) then (bif (x0.f1_Op == 40) then (some (!((shrI .u16 x0.f15_List 15) == 1))) else (some true)) else (some false)) else (bif (x0.f1_Op == 40) then (some (!((shrI .u16 x0.f15_List 15) == 1))) else (some true))) else (some false)) else (some false))) else (bif (x0.f1_Op == 43) then (bif (x0.f1_Op == 43) then (some (x0.f6_Rm != 15)) else (bif (x0.f1_Op == 47) then (bif (x0.f1_Op == 47) then (some (x0.f4_Rd != 15)) else (bif (x0.f1_Op == 48) then (bif (x0.f11_Amount != 0) then (some (x0.f6_Rm != 15)) else (some false)) else (bif (x0.f1_Op == 46) then (some (x0.f0_Cond == 14)) else (some true)))) else (bif (x0.f1_Op == 49) then (bif (x0.f1_Op == 49) then (some (x0.f4_Rd != 15)) else (bif (x0.f1_Op == 48) then (bif (x0.f11_Amount != 0) then (some (x0.f6_Rm != 15)) else (some false)) else (bif (x0.f1_Op == 46) then (some (x0.f0_Cond == 14)) else (some true)))) else (bif (x0.f1_Op == 50) then (some (x0.f4_Rd != 15)) else (bif (x0.f1_Op == 48) then (bif (x0.f11_Amount != 0) then (some (x0.f6_Rm != 15)) else (some false)) else (bif (x0.f1_Op == 46) then (some (x0.f0_Cond == 14)) else (some true))))))) else (bif (x0.f1_Op == 44) then (some (x0.f6_Rm != 15)) else (bif (x0.f1_Op == 47) then (bif (x0.f1_Op == 47) then (some (x0.f4_Rd != 15)) else (bif (x0.f1_Op == 48) then (bif (x0.f11_Amount != 0) then (some (x0.f6_Rm != 15)) else (some false)) else (bif (x0.f1_Op == 46) then (some (x0.f0_Cond == 14)) else (some true)))) else (bif (x0.f1_Op == 49) then (bif (x0.f1_Op == 49) then (some (x0.f4_Rd != 15)) else (bif (x0.f1_Op == 48) then (bif (x0.f11_Amount != 0) then (some (x0.f6_Rm != 15)) else (some false)) else (bif (x0.f1_Op == 46) then (some (x0.f0_Cond == 14)) else (some true)))) else (bif (x0.f1_Op == 50) then (some (x0.f4_Rd != 15)) else (bif (x0.f1_Op == 48) then (bif (x0.f11_Amount != 0) then (some (x0.f6_Rm != 15)) else (some false)) else (bif (x0.f1_Op == 46) then (some (x0.f0_Cond == 14)) else (some true))))))))))))))
theorem isa_may.run (k : Nat) (x0 : T26) : runF Try.prog (gamOf [(40, isa_any15.g k), (32, isa_wide.g)]) (lamOf [isa_may.q0.p k]) Try.f21 [(T26.av x0)] some = (isa_may.f k x0).bind fun r => some (.ret (.val (.bool r))) := by
  unfold isa_may.f
  try simp only [cond_bind, elim_bind, Option.bind_some, Option.bind_none, Option.bind_assoc]
  kernel_rfl
def isa_may.g (k : Nat) : GFun := fun β args K => match args with
  | [a0] => (T26.of a0).bind fun x0 => (isa_may.f k x0).bind fun r => K (.ret (.val (.bool r)))
  | _ => none
theorem isa_may.callable : callable Try.prog 21 = true := callable_of Try.func21 (by kernel_rfl)
theorem isa_may.ok (k : Nat) : GOk Try.prog 21 (isa_may.g k) := by
  intro β args K r h
  unfold isa_may.g at h
  split at h
  · obtain ⟨x0, e0, h⟩ := Option.bind_eq_some_iff.1 h
    obtain ⟨y, hy, hK⟩ := Option.bind_eq_some_iff.1 h
    have hrun := isa_may.run k x0
    rw [hy] at hrun
    obtain ⟨out, e, hs⟩ := sim_of_run Try.func21 (by kernel_rfl) mixed (gamOf_cons (isa_any15.ok k) isa_any15.callable (gamOf_cons (isa_wide.ok) isa_wide.callable (gamOf_nil _))) (lamOf_cons (isa_may.q0.ok k) (lamOf_nil _ _)) (args' := [(T26.av x0)]) (RefsL.cons (T26.refs e0) RefsL.nil) hrun
    simp only [Option.some.injEq] at e
    subst e
    exact ⟨_, hK, hs⟩
  · cases h
/-! ### atlas/isa.Decode: function 9 -/
def isa_Decode.f (k : Nat) (x0 : Int) : Option (T26 × Bool) := ((isa_says.f k x0).bind fun r1 => ((isa_may.f k (⟨r1.f0_Cond, r1.f1_Op, r1.f2_S, r1.f3_Form, r1.f4_Rd, r1.f5_Rn, r1.f6_Rm, r1.f7_Rs, r1.f8_Ra, r1.f9_Imm, r1.f10_Shift, r1.f11_Amount, r1.f12_Pre, r1.f13_Up, r1.f14_Write, r1.f15_List, r1.f16_Tuple_CRn, r1.f17_Tuple_Op1, r1.f18_Tuple_CRm, r1.f19_Tuple_Op2⟩ : T26)).bind fun r2 => (bif (!r2) then (some ((⟨0, 0, false, 0, 0, 0, 0, 0, 0, 0, 0, 0, false, false, false, 0, 0, 0, 0, 0⟩ : T26), false)) else (some ((⟨r1.f0_Cond, r1.f1_Op, r1.f2_S, r1.f3_Form, r1.f4_Rd, r1.f5_Rn, r1.f6_Rm, r1.f7_Rs, r1.f8_Ra, r1.f9_Imm, r1.f10_Shift, r1.f11_Amount, r1.f12_Pre, r1.f13_Up, r1.f14_Write, r1.f15_List, r1.f16_Tuple_CRn, r1.f17_Tuple_Op1, r1.f18_Tuple_CRm, r1.f19_Tuple_Op2⟩ : T26), true)))))
theorem isa_Decode.run (k : Nat) (x0 : Int) : runF Try.prog (gamOf [(20, isa_says.g k), (21, isa_may.g k)]) noLam Try.f9 [(.val (.int .u32 x0))] some = (isa_Decode.f k x0).bind fun r => some (.ret (.tup [(T26.av r.1), (.val (.bool r.2))])) := by
  unfold isa_Decode.f
  try simp only [cond_bind, elim_bind, Option.bind_some, Option.bind_none, Option.bind_assoc]
  kernel_rfl
def isa_Decode.g (k : Nat) : GFun := fun β args K => match args with
  | [a0] => (intO .u32 a0).bind fun x0 => (isa_Decode.f k x0).bind fun r => K (.ret (.tup [(T26.av r.1), (.val (.bool r.2))]))
  | _ => none
theorem isa_Decode.callable : callable Try.prog 9 = true := callable_of Try.func9 (by kernel_rfl)
theorem isa_Decode.ok (k : Nat) : GOk Try.prog 9 (isa_Decode.g k) := by
  intro β args K r h
  unfold isa_Decode.g at h
  split at h
  · obtain ⟨x0, e0, h⟩ := Option.bind_eq_some_iff.1 h
    obtain ⟨y, hy, hK⟩ := Option.bind_eq_some_iff.1 h
    have hrun := isa_Decode.run k x0
    rw [hy] at hrun
    obtain ⟨out, e, hs⟩ := sim_of_run Try.func9 (by kernel_rfl) mixed (gamOf_cons (isa_says.ok k) isa_says.callable (gamOf_cons (isa_may.ok k) isa_may.callable (gamOf_nil _))) (noLam_ok _ _) (args' := [(.val (.int .u32 x0))]) (RefsL.cons (Refs.of_eq (intO_eq e0)) RefsL.nil) hrun
    simp only [Option.some.injEq] at e
    subst e
    exact ⟨_, hK, hs⟩
  · cases h
/-! ### (atlas/isa.word).with: function 44 -/
def isa_word_with.f (x0 : Int) (x1 : Int) (x2 : Int) : Option (Int) := (bif decide (x1 < 0) then none else (some (orI .u32 x0 (shlI .u32 (IntKind.wrap .u32 x2) x1))))
theorem isa_word_with.run (x0 : Int) (x1 : Int) (x2 : Int) : runF Try.prog (gamOf []) noLam Try.f44 [(.val (.int .u32 x0)), (.val (.int .u64 x1)), (.val (.int .i64 x2))] some = (isa_word_with.f x0 x1 x2).bind fun r => some (.ret (.val (.int .u32 r))) := by
  unfold isa_word_with.f
  try simp only [cond_bind, elim_bind, Option.bind_some, Option.bind_none, Option.bind_assoc]
  kernel_rfl
def isa_word_with.g : GFun := fun β args K => match args with
  | [a0, a1, a2] => (intO .u32 a0).bind fun x0 => (intO .u64 a1).bind fun x1 => (intO .i64 a2).bind fun x2 => (isa_word_with.f x0 x1 x2).bind fun r => K (.ret (.val (.int .u32 r)))
  | _ => none
theorem isa_word_with.callable : callable Try.prog 44 = true := callable_of Try.func44 (by kernel_rfl)
theorem isa_word_with.ok : GOk Try.prog 44 (isa_word_with.g) := by
  intro β args K r h
  unfold isa_word_with.g at h
  split at h
  · obtain ⟨x0, e0, h⟩ := Option.bind_eq_some_iff.1 h
    obtain ⟨x1, e1, h⟩ := Option.bind_eq_some_iff.1 h
    obtain ⟨x2, e2, h⟩ := Option.bind_eq_some_iff.1 h
    obtain ⟨y, hy, hK⟩ := Option.bind_eq_some_iff.1 h
    have hrun := isa_word_with.run x0 x1 x2
    rw [hy] at hrun
    obtain ⟨out, e, hs⟩ := sim_of_run Try.func44 (by kernel_rfl) mixed (gamOf_nil _) (noLam_ok _ _) (args' := [(.val (.int .u32 x0)), (.val (.int .u64 x1)), (.val (.int .i64 x2))]) (RefsL.cons (Refs.of_eq (intO_eq e0)) (RefsL.cons (Refs.of_eq (intO_eq e1)) (RefsL.cons (Refs.of_eq (intO_eq e2)) RefsL.nil))) hrun
    simp only [Option.some.injEq] at e
    subst e
    exact ⟨_, hK, hs⟩
  · cases h
/-! ### (atlas/isa.word).flag: function 46 -/
def isa_word_flag.f (x0 : Int) (x1 : Int) (x2 : Bool) : Option (Int) := (bif x2 then (bif decide (x1 < 0) then none else (some (orI .u32 x0 (shlI .u32 1 x1)))) else (some x0))
theorem isa_word_flag.run (x0 : Int) (x1 : Int) (x2 : Bool) : runF Try.prog (gamOf []) noLam Try.f46 [(.val (.int .u32 x0)), (.val (.int .u64 x1)), (.val (.bool x2))] some = (isa_word_flag.f x0 x1 x2).bind fun r => some (.ret (.val (.int .u32 r))) := by
  unfold isa_word_flag.f
  try simp only [cond_bind, elim_bind, Option.bind_some, Option.bind_none, Option.bind_assoc]
  kernel_rfl
def isa_word_flag.g : GFun := fun β args K => match args with
  | [a0, a1, a2] => (intO .u32 a0).bind fun x0 => (intO .u64 a1).bind fun x1 => (boolO a2).bind fun x2 => (isa_word_flag.f x0 x1 x2).bind fun r => K (.ret (.val (.int .u32 r)))
  | _ => none
theorem isa_word_flag.callable : callable Try.prog 46 = true := callable_of Try.func46 (by kernel_rfl)
theorem isa_word_flag.ok : GOk Try.prog 46 (isa_word_flag.g) := by
  intro β args K r h
  unfold isa_word_flag.g at h
  split at h
  · obtain ⟨x0, e0, h⟩ := Option.bind_eq_some_iff.1 h
    obtain ⟨x1, e1, h⟩ := Option.bind_eq_some_iff.1 h
    obtain ⟨x2, e2, h⟩ := Option.bind_eq_some_iff.1 h
    obtain ⟨y, hy, hK⟩ := Option.bind_eq_some_iff.1 h
    have hrun := isa_word_flag.run x0 x1 x2
    rw [hy] at hrun
    obtain ⟨out, e, hs⟩ := sim_of_run Try.func46 (by kernel_rfl) mixed (gamOf_nil _) (noLam_ok _ _) (args' := [(.val (.int .u32 x0)), (.val (.int .u64 x1)), (.val (.bool x2))]) (RefsL.cons (Refs.of_eq (intO_eq e0)) (RefsL.cons (Refs.of_eq (intO_eq e1)) (RefsL.cons (Refs.of_eq (boolO_eq e2)) RefsL.nil))) hrun
    simp only [Option.some.injEq] at e
    subst e
    exact ⟨_, hK, hs⟩
  · cases h
/-! ### atlas/isa.operand: function 45 -/
def isa_operand.f (x0 : Int) (x1 : T26) : Option (Int) := (bif (x1.f3_Form == 1) then ((isa_word_flag.f x0 25 true).bind fun r1 => (some (orI .u32 r1 x1.f9_Imm))) else (bif (x1.f3_Form == 3) then ((isa_word_with.f x0 8 x1.f7_Rs).bind fun r2 => ((isa_word_with.f r2 5 x1.f10_Shift).bind fun r3 => ((isa_word_flag.f r3 4 true).bind fun r4 => ((isa_word_with.f r4 0 x1.f6_Rm).bind fun r5 => (some r5))))) else ((isa_word_with.f x0 7 x1.f11_Amount).bind fun r6 => ((isa_word_with.f r6 5 x1.f10_Shift).bind fun r7 => ((isa_word_with.f r7 0 x1.f6_Rm).bind fun r8 => (some r8))))))
theorem isa_operand.run (x0 : Int) (x1 : T26) : runF Try.prog (gamOf [(46, isa_word_flag.g), (44, isa_word_with.g)]) noLam Try.f45 [(.val (.int .u32 x0)), (T26.av x1)] some = (isa_operand.f x0 x1).bind fun r => some (.ret (.val (.int .u32 r))) := by
  unfold isa_operand.f
  try simp only [cond_bind, elim_bind, Option.bind_some, Option.bind_none, Option.bind_assoc]
  kernel_rfl
def isa_operand.g : GFun := fun β args K => match args with
  | [a0, a1] => (intO .u32 a0).bind fun x0 => (T26.of a1).bind fun x1 => (isa_operand.f x0 x1).bind fun r => K (.ret (.val (.int .u32 r)))
  | _ => none
theorem isa_operand.callable : callable Try.prog 45 = true := callable_of Try.func45 (by kernel_rfl)
theorem isa_operand.ok : GOk Try.prog 45 (isa_operand.g) := by
  intro β args K r h
  unfold isa_operand.g at h
  split at h
  · obtain ⟨x0, e0, h⟩ := Option.bind_eq_some_iff.1 h
    obtain ⟨x1, e1, h⟩ := Option.bind_eq_some_iff.1 h
    obtain ⟨y, hy, hK⟩ := Option.bind_eq_some_iff.1 h
    have hrun := isa_operand.run x0 x1
    rw [hy] at hrun
    obtain ⟨out, e, hs⟩ := sim_of_run Try.func45 (by kernel_rfl) mixed (gamOf_cons (isa_word_flag.ok) isa_word_flag.callable (gamOf_cons (isa_word_with.ok) isa_word_with.callable (gamOf_nil _))) (noLam_ok _ _) (args' := [(.val (.int .u32 x0)), (T26.av x1)]) (RefsL.cons (Refs.of_eq (intO_eq e0)) (RefsL.cons (T26.refs e1) RefsL.nil)) hrun
    simp only [Option.some.injEq] at e
    subst e
    exact ⟨_, hK, hs⟩
  · cases h
/-! ### atlas/isa.beside: function 47 -/
def isa_beside.f (x0 : Int) (x1 : T26) : Option (Int) := ((isa_word_flag.f x0 24 x1.f12_Pre).bind fun r1 => ((isa_word_flag.f r1 23 x1.f13_Up).bind fun r2 => ((isa_word_flag.f r2 21 x1.f14_Write).bind fun r3 => ((isa_word_with.f r3 16 x1.f5_Rn).bind fun r4 => (some r4)))))
theorem isa_beside.run (x0 : Int) (x1 : T26) : runF Try.prog (gamOf [(46, isa_word_flag.g), (44, isa_word_with.g)]) noLam Try.f47 [(.val (.int .u32 x0)), (T26.av x1)] some = (isa_beside.f x0 x1).bind fun r => some (.ret (.val (.int .u32 r))) := by
  unfold isa_beside.f
  try simp only [cond_bind, elim_bind, Option.bind_some, Option.bind_none, Option.bind_assoc]
  kernel_rfl
def isa_beside.g : GFun := fun β args K => match args with
  | [a0, a1] => (intO .u32 a0).bind fun x0 => (T26.of a1).bind fun x1 => (isa_beside.f x0 x1).bind fun r => K (.ret (.val (.int .u32 r)))
  | _ => none
theorem isa_beside.callable : callable Try.prog 47 = true := callable_of Try.func47 (by kernel_rfl)
theorem isa_beside.ok : GOk Try.prog 47 (isa_beside.g) := by
  intro β args K r h
  unfold isa_beside.g at h
  split at h
  · obtain ⟨x0, e0, h⟩ := Option.bind_eq_some_iff.1 h
    obtain ⟨x1, e1, h⟩ := Option.bind_eq_some_iff.1 h
    obtain ⟨y, hy, hK⟩ := Option.bind_eq_some_iff.1 h
    have hrun := isa_beside.run x0 x1
    rw [hy] at hrun
    obtain ⟨out, e, hs⟩ := sim_of_run Try.func47 (by kernel_rfl) mixed (gamOf_cons (isa_word_flag.ok) isa_word_flag.callable (gamOf_cons (isa_word_with.ok) isa_word_with.callable (gamOf_nil _))) (noLam_ok _ _) (args' := [(.val (.int .u32 x0)), (T26.av x1)]) (RefsL.cons (Refs.of_eq (intO_eq e0)) (RefsL.cons (T26.refs e1) RefsL.nil)) hrun
    simp only [Option.some.injEq] at e
    subst e
    exact ⟨_, hK, hs⟩
  · cases h
/-! ### atlas/isa.layHalf: function 48 -/
def isa_layHalf.f (x0 : Int) (x1 : T26) : Option (Int) := (bif (decide (0 ≤ (IntKind.wrap .i64 (x1.f1_Op - 35))) && decide ((IntKind.wrap .i64 (x1.f1_Op - 35)) < ((4 : Nat) : Int))) then ((isa_word_flag.f x0 20 (x1.f1_Op != 36)).bind fun r1 => ((isa_word_with.f r1 5 (([1, 1, 2, 3] : List Int).getD ((IntKind.wrap .i64 (x1.f1_Op - 35))).toNat 0)).bind fun r2 => (bif (x1.f3_Form == 1) then ((isa_word_flag.f (orI .u32 r2 144) 22 true).bind fun r3 => ((isa_word_with.f r3 8 (IntKind.wrap .i64 (shrI .u32 x1.f9_Imm 4))).bind fun r4 => ((isa_word_with.f r4 0 (IntKind.wrap .i64 (andI .u32 x1.f9_Imm 15))).bind fun r5 => (some r5)))) else ((isa_word_with.f (orI .u32 r2 144) 0 x1.f6_Rm).bind fun r6 => (some r6))))) else none)
theorem isa_layHalf.run (x0 : Int) (x1 : T26) : runF Try.prog (gamOf [(46, isa_word_flag.g), (44, isa_word_with.g)]) noLam Try.f48 [(.val (.int .u32 x0)), (T26.av x1)] some = (isa_layHalf.f x0 x1).bind fun r => some (.ret (.val (.int .u32 r))) := by
  unfold isa_layHalf.f
  try simp only [cond_bind, elim_bind, Option.bind_some, Option.bind_none, Option.bind_assoc]
  kernel_rfl
def isa_layHalf.g : GFun := fun β args K => match args with
  | [a0, a1] => (intO .u32 a0).bind fun x0 => (T26.of a1).bind fun x1 => (isa_layHalf.f x0 x1).bind fun r => K (.ret (.val (.int .u32 r)))
  | _ => none
theorem isa_layHalf.callable : callable Try.prog 48 = true := callable_of Try.func48 (by kernel_rfl)
theorem isa_layHalf.ok : GOk Try.prog 48 (isa_layHalf.g) := by
  intro β args K r h
  unfold isa_layHalf.g at h
  split at h
  · obtain ⟨x0, e0, h⟩ := Option.bind_eq_some_iff.1 h
    obtain ⟨x1, e1, h⟩ := Option.bind_eq_some_iff.1 h
    obtain ⟨y, hy, hK⟩ := Option.bind_eq_some_iff.1 h
    have hrun := isa_layHalf.run x0 x1
    rw [hy] at hrun
    obtain ⟨out, e, hs⟩ := sim_of_run Try.func48 (by kernel_rfl) mixed (gamOf_cons (isa_word_flag.ok) isa_word_flag.callable (gamOf_cons (isa_word_with.ok) isa_word_with.callable (gamOf_nil _))) (noLam_ok _ _) (args' := [(.val (.int .u32 x0)), (T26.av x1)]) (RefsL.cons (Refs.of_eq (intO_eq e0)) (RefsL.cons (T26.refs e1) RefsL.nil)) hrun
    simp only [Option.some.injEq] at e
    subst e
    exact ⟨_, hK, hs⟩
  · cases h
end Go.Va
