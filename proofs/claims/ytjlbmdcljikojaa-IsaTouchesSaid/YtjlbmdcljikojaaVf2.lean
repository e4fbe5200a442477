-- Written by a program of this session (wip/va/vaprint.py). Not trusted: Lean checks it.
import Derived.Test.YtjlbmdcljikojaaVaTy
import Derived.Test.YtjlbmdcljikojaaVf1
set_option linter.unusedVariables false
set_option linter.unusedSimpArgs false
set_option autoImplicit false
set_option maxRecDepth 100000
namespace Go.Va
open Go.Proofs
/-! ### atlas/isa.layLast: function 49 -/
def isa_layLast.f (x0 : Int) (x1 : T26) : Option (Int) := (bif (x1.f1_Op == 41) then (bif (x1.f1_Op == 41) then ((isa_word_with.f x0 24 (IntKind.wrap .i64 ((IntKind.wrap .i64 (10 + x1.f1_Op)) - 41))).bind fun r1 => (some (orI .u32 r1 (shrI .u32 (shlI .u32 x1.f9_Imm 6) 8)))) else (bif (x1.f1_Op == 43) then ((isa_word_with.f x0 0 x1.f6_Rm).bind fun r2 => (some (orI .u32 r2 19922704))) else (bif (x1.f1_Op == 44) then ((isa_word_with.f x0 0 x1.f6_Rm).bind fun r3 => (some (orI .u32 r3 19922736))) else (bif (x1.f1_Op == 45) then (some (orI .u32 (orI .u32 x0 251658240) x1.f9_Imm)) else (bif (x1.f1_Op == 46) then ((isa_word_with.f x0 8 (IntKind.wrap .i64 (shrI .u32 x1.f9_Imm 4))).bind fun r4 => ((isa_word_with.f r4 0 (IntKind.wrap .i64 (andI .u32 x1.f9_Imm 15))).bind fun r5 => (some (orI .u32 r5 18874480)))) else (bif (x1.f1_Op == 47) then ((isa_word_flag.f x0 22 x1.f2_S).bind fun r6 => ((isa_word_with.f r6 12 x1.f4_Rd).bind fun r7 => (some (orI .u32 r7 17760256)))) else (bif (x1.f1_Op == 48) then ((isa_word_flag.f x0 22 x1.f2_S).bind fun r8 => ((isa_word_with.f r8 16 x1.f11_Amount).bind fun r9 => (bif (x1.f3_Form == 1) then (some (orI .u32 (orI .u32 (orI .u32 r9 18935808) 33554432) x1.f9_Imm)) else ((isa_word_with.f (orI .u32 r9 18935808) 0 x1.f6_Rm).bind fun r10 => (some r10))))) else (bif (x1.f1_Op == 49) then (bif (x1.f1_Op == 49) then ((isa_word_with.f x0 21 x1.f17_Tuple_Op1).bind fun r11 => ((isa_word_flag.f r11 20 (x1.f1_Op == 50)).bind fun r12 => ((isa_word_with.f r12 16 x1.f16_Tuple_CRn).bind fun r13 => ((isa_word_with.f r13 12 x1.f4_Rd).bind fun r14 => ((isa_word_with.f r14 5 x1.f19_Tuple_Op2).bind fun r15 => ((isa_word_with.f r15 0 x1.f18_Tuple_CRm).bind fun r16 => (some (orI .u32 r16 234884880)))))))) else (bif (x1.f1_Op == 51) then (some (orI .u32 x0 52490240)) else (bif (x1.f1_Op == 52) then (some (orI .u32 x0 52490243)) else (some x0)))) else (bif (x1.f1_Op == 50) then ((isa_word_with.f x0 21 x1.f17_Tuple_Op1).bind fun r17 => ((isa_word_flag.f r17 20 (x1.f1_Op == 50)).bind fun r18 => ((isa_word_with.f r18 16 x1.f16_Tuple_CRn).bind fun r19 => ((isa_word_with.f r19 12 x1.f4_Rd).bind fun r20 => ((isa_word_with.f r20 5 x1.f19_Tuple_Op2).bind fun r21 => ((isa_word_with.f r21 0 x1.f18_Tuple_CRm).bind fun r22 => (some (orI .u32 r22 234884880)))))))) else (bif (x1.f1_Op == 51) then (some (orI .u32 x0 52490240)) else (bif (x1.f1_Op == 52) then (some (orI .u32 x0 52490243)) else (some x0)))))))))))) else (bif (x1.f1_Op == 42) then ((isa_word_with.f x0 24 (IntKind.wrap .i64 ((IntKind.wrap .i64 (10 + x1.f1_Op)) - 41))).bind fun r23 => (some (orI .u32 r23 (shrI .u32 (shlI .u32 x1.f9_Imm 6) 8)))) else (bif (x1.f1_Op == 43) then ((isa_word_with.f x0 0 x1.f6_Rm).bind fun r24 => (some (orI .u32 r24 19922704))) else (bif (x1.f1_Op == 44) then ((isa_word_with.f x0 0 x1.f6_Rm).bind fun r25 => (some (orI .u32 r25 19922736))) else (bif (x1.f1_Op == 45) then (some (orI .u32 (orI .u32 x0 251658240) x1.f9_Imm)) else (bif (x1.f1_Op == 46) then ((isa_word_with.f x0 8 (IntKind.wrap .i64 (shrI .u32 x1.f9_Imm 4))).bind fun r26 => ((isa_word_with.f r26 0 (IntKind.wrap .i64 (andI .u32 x1.f9_Imm 15))).bind fun r27 => (some (orI .u32 r27 18874480)))) else (bif (x1.f1_Op == 47) then ((isa_word_flag.f x0 22 x1.f2_S).bind fun r28 => ((isa_word_with.f r28 12 x1.f4_Rd).bind fun r29 => (some (orI .u32 r29 17760256)))) else (bif (x1.f1_Op == 48) then ((isa_word_flag.f x0 22 x1.f2_S).bind fun r30 => ((isa_word_with.f r30 16 x1.f11_Amount).bind fun r31 => (bif (x1.f3_Form == 1) then (some (orI .u32 (orI .u32 (orI .u32 r31 18935808) 33554432) x1.f9_Imm)) else ((isa_word_with.f (orI .u32 r31 18935808) 0 x1.f6_Rm).bind fun r32 => (some r32))))) else (bif (x1.f1_Op == 49) then (bif (x1.f1_Op == 49) then ((isa_word_with.f x0 21 x1.f17_Tuple_Op1).bind fun r33 => ((isa_word_flag.f r33 20 (x1.f1_Op == 50)).bind fun r34 => ((isa_word_with.f r34 16 x1.f16_Tuple_CRn).bind fun r35 => ((isa_word_with.f r35 12 x1.f4_Rd).bind fun r36 => ((isa_word_with.f r36 5 x1.f19_Tuple_Op2).bind fun r37 => ((isa_word_with.f r37 0 x1.f18_Tuple_CRm).bind fun r38 => (some (orI .u32 r38 234884880)))))))) else (bif (x1.f1_Op == 51) then (some (orI .u32 x0 52490240)) else (bif (x1.f1_Op == 52) then (some (orI .u32 x0 52490243)) else (some x0)))) else (bif (x1.f1_Op == 50) then ((isa_word_with.f x0 21 x1.f17_Tuple_Op1).bind fun r39 => ((isa_word_flag.f r39 20 (x1.f1_Op == 50)).bind fun r40 => ((isa_word_with.f r40 16 x1.f16_Tuple_CRn).bind fun r41 => ((isa_word_with.f r41 12 x1.f4_Rd).bind fun r42 => ((isa_word_with.f r42 5 x1.f19_Tuple_Op2).bind fun r43 => ((isa_word_with.f r43 0 x1.f18_Tuple_CRm).bind fun r44 => (some (orI .u32 r44 234884880)))))))) else (bif (x1.f1_Op == 51) then (some (orI .u32 x0 52490240)) else (bif (x1.f1_Op == 52) then (some (orI .u32 x0 52490243)) else (some x0)))))))))))))
theorem isa_layLast.run (x0 : Int) (x1 : T26) : runF Try.prog (gamOf [(44, isa_word_with.g), (46, isa_word_flag.g)]) noLam Try.f49 [(.val (.int .u32 x0)), (T26.av x1)] some = (isa_layLast.f x0 x1).bind fun r => some (.ret (.val (.int .u32 r))) := by
  unfold isa_layLast.f
  try simp only [cond_bind, elim_bind, Option.bind_some, Option.bind_none, Option.bind_assoc]
  kernel_rfl
def isa_layLast.g : GFun := fun β args K => match args with
  | [a0, a1] => (intO .u32 a0).bind fun x0 => (T26.of a1).bind fun x1 => (isa_layLast.f x0 x1).bind fun r => K (.ret (.val (.int .u32 r)))
  | _ => none
theorem isa_layLast.callable : callable Try.prog 49 = true := callable_of Try.func49 (by kernel_rfl)
theorem isa_layLast.ok : GOk Try.prog 49 (isa_layLast.g) := by
  intro β args K r h
  unfold isa_layLast.g at h
  split at h
  · obtain ⟨x0, e0, h⟩ := Option.bind_eq_some_iff.1 h
    obtain ⟨x1, e1, h⟩ := Option.bind_eq_some_iff.1 h
    obtain ⟨y, hy, hK⟩ := Option.bind_eq_some_iff.1 h
    have hrun := isa_layLast.run x0 x1
    rw [hy] at hrun
    obtain ⟨out, e, hs⟩ := sim_of_run Try.func49 (by kernel_rfl) mixed (gamOf_cons (isa_word_with.ok) isa_word_with.callable (gamOf_cons (isa_word_flag.ok) isa_word_flag.callable (gamOf_nil _))) (noLam_ok _ _) (args' := [(.val (.int .u32 x0)), (T26.av x1)]) (RefsL.cons (Refs.of_eq (intO_eq e0)) (RefsL.cons (T26.refs e1) RefsL.nil)) hrun
    simp only [Option.some.injEq] at e
    subst e
    exact ⟨_, hK, hs⟩
  · cases h
/-! ### atlas/isa.lay: function 23 -/
def isa_lay.f (x0 : T26) : Option (Int) := ((isa_word_with.f 0 28 x0.f0_Cond).bind fun r1 => (bif (decide (x0.f1_Op ≥ 1)) then (bif (decide (x0.f1_Op ≤ 16)) then ((isa_word_with.f r1 21 (IntKind.wrap .i64 (x0.f1_Op - 1))).bind fun r2 => ((isa_word_flag.f r2 20 x0.f2_S).bind fun r3 => ((isa_word_with.f r3 16 x0.f5_Rn).bind fun r4 => ((isa_word_with.f r4 12 x0.f4_Rd).bind fun r5 => ((isa_operand.f r5 (⟨x0.f0_Cond, x0.f1_Op, x0.f2_S, x0.f3_Form, x0.f4_Rd, x0.f5_Rn, x0.f6_Rm, x0.f7_Rs, x0.f8_Ra, x0.f9_Imm, x0.f10_Shift, x0.f11_Amount, x0.f12_Pre, x0.f13_Up, x0.f14_Write, x0.f15_List, x0.f16_Tuple_CRn, x0.f17_Tuple_Op1, x0.f18_Tuple_CRm, x0.f19_Tuple_Op2⟩ : T26)).bind fun r6 => (some r6)))))) else (bif (x0.f1_Op == 17) then ((isa_word_with.f r1 20 (IntKind.wrap .i64 (48 + (IntKind.wrap .i64 ((IntKind.wrap .i64 (x0.f1_Op - 17)) * 4))))).bind fun r7 => ((isa_word_with.f r7 16 (IntKind.wrap .i64 (shrI .u32 x0.f9_Imm 12))).bind fun r8 => ((isa_word_with.f r8 12 x0.f4_Rd).bind fun r9 => (some (orI .u32 r9 (andI .u32 x0.f9_Imm 4095)))))) else (bif (x0.f1_Op == 18) then ((isa_word_with.f r1 20 (IntKind.wrap .i64 (48 + (IntKind.wrap .i64 ((IntKind.wrap .i64 (x0.f1_Op - 17)) * 4))))).bind fun r10 => ((isa_word_with.f r10 16 (IntKind.wrap .i64 (shrI .u32 x0.f9_Imm 12))).bind fun r11 => ((isa_word_with.f r11 12 x0.f4_Rd).bind fun r12 => (some (orI .u32 r12 (andI .u32 x0.f9_Imm 4095)))))) else (bif (decide (x0.f1_Op ≤ 24)) then (bif (decide (0 ≤ (if (IntKind.wrap .i64 (x0.f1_Op - 19)) > 0 then (IntKind.wrap .i64 (x0.f1_Op - 19)) else 0)) && decide ((if (IntKind.wrap .i64 (x0.f1_Op - 19)) > 0 then (IntKind.wrap .i64 (x0.f1_Op - 19)) else 0) < ((6 : Nat) : Int))) then ((isa_word_with.f r1 21 (([0, 1, 4, 5, 6, 7] : List Int).getD ((if (IntKind.wrap .i64 (x0.f1_Op - 19)) > 0 then (IntKind.wrap .i64 (x0.f1_Op - 19)) else 0)).toNat 0)).bind fun r13 => ((isa_word_flag.f r13 20 x0.f2_S).bind fun r14 => ((isa_word_with.f r14 16 x0.f4_Rd).bind fun r15 => ((isa_word_with.f r15 12 x0.f8_Ra).bind fun r16 => ((isa_word_with.f r16 8 x0.f7_Rs).bind fun r17 => ((isa_word_with.f r17 0 x0.f6_Rm).bind fun r18 => (some (orI .u32 r18 144)))))))) else none) else (bif (decide (x0.f1_Op ≤ 30)) then (bif (decide (0 ≤ (IntKind.wrap .i64 (x0.f1_Op - 25))) && decide ((IntKind.wrap .i64 (x0.f1_Op - 25)) < ((6 : Nat) : Int))) then ((isa_word_with.f r1 12 x0.f4_Rd).bind fun r19 => ((isa_word_with.f r19 10 x0.f11_Amount).bind fun r20 => ((isa_word_with.f r20 0 x0.f6_Rm).bind fun r21 => (some (orI .u32 r21 (([24055568, 113184560, 116326512, 117375088, 112132208, 113180784] : List Int).getD ((IntKind.wrap .i64 (x0.f1_Op - 25))).toNat 0)))))) else none) else (bif (decide (x0.f1_Op ≤ 34)) then ((isa_beside.f r1 (⟨x0.f0_Cond, x0.f1_Op, x0.f2_S, x0.f3_Form, x0.f4_Rd, x0.f5_Rn, x0.f6_Rm, x0.f7_Rs, x0.f8_Ra, x0.f9_Imm, x0.f10_Shift, x0.f11_Amount, x0.f12_Pre, x0.f13_Up, x0.f14_Write, x0.f15_List, x0.f16_Tuple_CRn, x0.f17_Tuple_Op1, x0.f18_Tuple_CRm, x0.f19_Tuple_Op2⟩ : T26)).bind fun r22 => ((isa_word_flag.f r22 22 (decide ((IntKind.wrap .i64 (x0.f1_Op - 31)) ≥ 2))).bind fun r23 => ((isa_word_flag.f r23 20 ((Int.tmod (IntKind.wrap .i64 (x0.f1_Op - 31)) 2) == 0)).bind fun r24 => ((isa_word_with.f r24 12 x0.f4_Rd).bind fun r25 => (bif (x0.f3_Form == 1) then (some (orI .u32 (orI .u32 r25 67108864) x0.f9_Imm)) else ((isa_word_with.f (orI .u32 r25 67108864) 7 x0.f11_Amount).bind fun r26 => ((isa_word_with.f r26 5 x0.f10_Shift).bind fun r27 => ((isa_word_with.f r27 0 x0.f6_Rm).bind fun r28 => ((isa_word_flag.f r28 25 true).bind fun r29 => (some r29)))))))))) else (bif (decide (x0.f1_Op ≤ 38)) then ((isa_beside.f r1 (⟨x0.f0_Cond, x0.f1_Op, x0.f2_S, x0.f3_Form, x0.f4_Rd, x0.f5_Rn, x0.f6_Rm, x0.f7_Rs, x0.f8_Ra, x0.f9_Imm, x0.f10_Shift, x0.f11_Amount, x0.f12_Pre, x0.f13_Up, x0.f14_Write, x0.f15_List, x0.f16_Tuple_CRn, x0.f17_Tuple_Op1, x0.f18_Tuple_CRm, x0.f19_Tuple_Op2⟩ : T26)).bind fun r30 => ((isa_word_with.f r30 12 x0.f4_Rd).bind fun r31 => ((isa_layHalf.f r31 (⟨x0.f0_Cond, x0.f1_Op, x0.f2_S, x0.f3_Form, x0.f4_Rd, x0.f5_Rn, x0.f6_Rm, x0.f7_Rs, x0.f8_Ra, x0.f9_Imm, x0.f10_Shift, x0.f11_Amount, x0.f12_Pre, x0.f13_Up, x0.f14_Write, x0.f15_List, x0.f16_Tuple_CRn, x0.f17_Tuple_Op1, x0.f18_Tuple_CRm, x0.f19_Tuple_Op2⟩ : T26)).bind fun r32 => (some r32)))) else (bif (decide (x0.f1_Op ≤ 40)) then ((isa_beside.f r1 (⟨x0.f0_Cond, x0.f1_Op, x0.f2_S, x0.f3_Form, x0.f4_Rd, x0.f5_Rn, x0.f6_Rm, x0.f7_Rs, x0.f8_Ra, x0.f9_Imm, x0.f10_Shift, x0.f11_Amount, x0.f12_Pre, x0.f13_Up, x0.f14_Write, x0.f15_List, x0.f16_Tuple_CRn, x0.f17_Tuple_Op1, x0.f18_Tuple_CRm, x0.f19_Tuple_Op2⟩ : T26)).bind fun r33 => ((isa_word_flag.f r33 20 (x0.f1_Op == 39)).bind fun r34 => (some (orI .u32 (orI .u32 r34 134217728) (IntKind.wrap .u32 x0.f15_List))))) else ((isa_layLast.f r1 (⟨x0.f0_Cond, x0.f1_Op, x0.f2_S, x0.f3_Form, x0.f4_Rd, x0.f5_Rn, x0.f6_Rm, x0.f7_Rs, x0.f8_Ra, x0.f9_Imm, x0.f10_Shift, x0.f11_Amount, x0.f12_Pre, x0.f13_Up, x0.f14_Write, x0.f15_List, x0.f16_Tuple_CRn, x0.f17_Tuple_Op1, x0.f18_Tuple_CRm, x0.f19_Tuple_Op2⟩ : T26)).bind fun r35 => (some r35)))))))))) else (bif (x0.f1_Op == 17) then ((isa_word_with.f r1 20 (IntKind.wrap .i64 (48 + (IntKind.wrap .i64 ((IntKind.wrap .i64 (x0.f1_Op - 17)) * 4))))).bind fun r36 => ((isa_word_with.f r36 16 (IntKind.wrap .i64 (shrI .u32 x0.f9_Imm 12))).bind fun r37 => ((isa_word_with.f r37 12 x0.f4_Rd).bind fun r38 => (some (orI .u32 r38 (andI .u32 x0.f9_Imm 4095)))))) else (bif (x0.f1_Op == 18) then ((isa_word_with.f r1 20 (IntKind.wrap .i64 (48 + (IntKind.wrap .i64 ((IntKind.wrap .i64 (x0.f1_Op - 17)) * 4))))).bind fun r39 => ((isa_word_with.f r39 16 (IntKind.wrap .i64 (shrI .u32 x0.f9_Imm 12))).bind fun r40 => ((isa_word_with.f r40 12 x0.f4_Rd).bind fun r41 => (some (orI .u32 r41 (andI .u32 x0.f9_Imm 4095)))))) else (bif (decide (x0.f1_Op ≤ 24)) then (bif (decide (0 ≤ (if (IntKind.wrap .i64 (x0.f1_Op - 19)) > 0 then (IntKind.wrap .i64 (x0.f1_Op - 19)) else 0)) && decide ((if (IntKind.wrap .i64 (x0.f1_Op - 19)) > 0 then (IntKind.wrap .i64 (x0.f1_Op - 19)) else 0) < ((6 : Nat) : Int))) then ((isa_word_with.f r1 21 (([0, 1, 4, 5, 6, 7] : List Int).getD ((if (IntKind.wrap .i64 (x0.f1_Op - 19)) > 0 then (IntKind.wrap .i64 (x0.f1_Op - 19)) else 0)).toNat 0)).bind fun r42 => ((isa_word_flag.f r42 20 x0.f2_S).bind fun r43 => ((isa_word_with.f r43 16 x0.f4_Rd).bind fun r44 => ((isa_word_with.f r44 12 x0.f8_Ra).bind fun r45 => ((isa_word_with.f r45 8 x0.f7_Rs).bind fun r46 => ((isa_word_with.f r46 0 x0.f6_Rm).bind fun r47 => (some (orI .u32 r47 144)))))))) else none) else (bif (decide (x0.f1_Op ≤ 30)) then (bif (decide (0 ≤ (IntKind.wrap .i64 (x0.f1_Op - 25))) && decide ((IntKind.wrap .i64 (x0.f1_Op - 25)) < ((6 : Nat) : Int))) then ((isa_word_with.f r1 12 x0.f4_Rd).bind fun r48 => ((isa_word_with.f r48 10 x0.f11_Amount).bind fun r49 => ((isa_word_with.f r49 0 x0.f6_Rm).bind fun r50 => (some (orI .u32 r50 (([24055568, 113184560, 116326512, 117375088, 112132208, 113180784] : List Int).getD ((IntKind.wrap .i64 (x0.f1_Op - 25))).toNat 0)))))) else none) else (bif (decide (x0.f1_Op ≤ 34)) then ((isa_beside.f r1 (⟨x0.f0_Cond, x0.f1_Op, x0.f2_S, x0.f3_Form, x0.f4_Rd, x0.f5_Rn, x0.f6_Rm, x0.f7_Rs, x0.f8_Ra, x0.f9_Imm, x0.f10_Shift, x0.f11_Amount, x0.f12_Pre, x0.f13_Up, x0.f14_Write, x0.f15_List, x0.f16_Tuple_CRn, x0.f17_Tuple_Op1, x0.f18_Tuple_CRm, x0.f19_Tuple_Op2⟩ : T26)).bind fun r51 => ((isa_word_flag.f r51 22 (decide ((IntKind.wrap .i64 (x0.f1_Op - 31)) ≥ 2))).bind fun r52 => ((isa_word_flag.f r52 20 ((Int.tmod (IntKind.wrap .i64 (x0.f1_Op - 31)) 2) == 0)).bind fun r53 => ((isa_word_with.f r53 12 x0.f4_Rd).bind fun r54 => (bif (x0.f3_Form == 1) then (some (orI .u32 (orI .u32 r54 67108864) x0.f9_Imm)) else ((isa_word_with.f (orI .u32 r54 67108864) 7 x0.f11_Amount).bind fun r55 => ((isa_word_with.f r55 5 x0.f10_Shift).bind fun r56 => ((isa_word_with.f r56 0 x0.f6_Rm).bind fun r57 => ((isa_word_flag.f r57 25 true).bind fun r58 => (some r58)))))))))) else (bif (decide (x0.f1_Op ≤ 38)) then ((isa_beside.f r1 (⟨x0.f0_Cond, x0.f1_Op, x0.f2_S, x0.f3_Form, x0.f4_Rd, x0.f5_Rn, x0.f6_Rm, x0.f7_Rs, x0.f8_Ra, x0.f9_Imm, x0.f10_Shift, x0.f11_Amount, x0.f12_Pre, x0.f13_Up, x0.f14_Write, x0.f15_List, x0.f16_Tuple_CRn, x0.f17_Tuple_Op1, x0.f18_Tuple_CRm, x0.f19_Tuple_Op2⟩ : T26)).bind fun r59 => ((isa_word_with.f r59 12 x0.f4_Rd).bind fun r60 => ((isa_layHalf.f r60 (⟨x0.f0_Cond, x0.f1_Op, x0.f2_S, x0.f3_Form, x0.f4_Rd, x0.f5_Rn, x0.f6_Rm, x0.f7_Rs, x0.f8_Ra, x0.f9_Imm, x0.f10_Shift, x0.f11_Amount, x0.f12_Pre, x0.f13_Up, x0.f14_Write, x0.f15_List, x0.f16_Tuple_CRn, x0.f17_Tuple_Op1, x0.f18_Tuple_CRm, x0.f19_Tuple_Op2⟩ : T26)).bind fun r61 => (some r61)))) else (bif (decide (x0.f1_Op ≤ 40)) then ((isa_beside.f r1 (⟨x0.f0_Cond, x0.f1_Op, x0.f2_S, x0.f3_Form, x0.f4_Rd, x0.f5_Rn, x0.f6_Rm, x0.f7_Rs, x0.f8_Ra, x0.f9_Imm, x0.f10_Shift, x0.f11_Amount, x0.f12_Pre, x0.f13_Up, x0.f14_Write, x0.f15_List, x0.f16_Tuple_CRn, x0.f17_Tuple_Op1, x0.f18_Tuple_CRm, x0.f19_Tuple_Op2⟩ : T26)).bind fun r62 => ((isa_word_flag.f r62 20 (x0.f1_Op == 39)).bind fun r63 => (some (orI .u32 (orI .u32 r63 134217728) (IntKind.wrap .u32 x0.f15_List))))) else ((isa_layLast.f r1 (⟨x0.f0_Cond, x0.f1_Op, x0.f2_S, x0.f3_Form, x0.f4_Rd, x0.f5_Rn, x0.f6_Rm, x0.f7_Rs, x0.f8_Ra, x0.f9_Imm, x0.f10_Shift, x0.f11_Amount, x0.f12_Pre, x0.f13_Up, x0.f14_Write, x0.f15_List, x0.f16_Tuple_CRn, x0.f17_Tuple_Op1, x0.f18_Tuple_CRm, x0.f19_Tuple_Op2⟩ : T26)).bind fun r64 => (some r64)))))))))))
theorem isa_lay.run (x0 : T26) : runF Try.prog (gamOf [(44, isa_word_with.g), (46, isa_word_flag.g), (45, isa_operand.g), (47, isa_beside.g), (48, isa_layHalf.g), (49, isa_layLast.g)]) noLam Try.f23 [(T26.av x0)] some = (isa_lay.f x0).bind fun r => some (.ret (.val (.int .u32 r))) := by
  unfold isa_lay.f
  try simp only [cond_bind, elim_bind, Option.bind_some, Option.bind_none, Option.bind_assoc]
  kernel_rfl
def isa_lay.g : GFun := fun β args K => match args with
  | [a0] => (T26.of a0).bind fun x0 => (isa_lay.f x0).bind fun r => K (.ret (.val (.int .u32 r)))
  | _ => none
theorem isa_lay.callable : callable Try.prog 23 = true := callable_of Try.func23 (by kernel_rfl)
theorem isa_lay.ok : GOk Try.prog 23 (isa_lay.g) := by
  intro β args K r h
  unfold isa_lay.g at h
  split at h
  · obtain ⟨x0, e0, h⟩ := Option.bind_eq_some_iff.1 h
    obtain ⟨y, hy, hK⟩ := Option.bind_eq_some_iff.1 h
    have hrun := isa_lay.run x0
    rw [hy] at hrun
    obtain ⟨out, e, hs⟩ := sim_of_run Try.func23 (by kernel_rfl) mixed (gamOf_cons (isa_word_with.ok) isa_word_with.callable (gamOf_cons (isa_word_flag.ok) isa_word_flag.callable (gamOf_cons (isa_operand.ok) isa_operand.callable (gamOf_cons (isa_beside.ok) isa_beside.callable (gamOf_cons (isa_layHalf.ok) isa_layHalf.callable (gamOf_cons (isa_layLast.ok) isa_layLast.callable (gamOf_nil _))))))) (noLam_ok _ _) (args' := [(T26.av x0)]) (RefsL.cons (T26.refs e0) RefsL.nil) hrun
    simp only [Option.some.injEq] at e
    subst e
    exact ⟨_, hK, hs⟩
  · cases h
/-! ### atlas/isa.Encode: function 12 -/
def isa_Encode.f (k : Nat) (x0 : T26) : Option (Int × Int) := (bif (decide (x0.f1_Op < 1)) then (some (0, 190)) else (bif (decide (x0.f1_Op > 52)) then (some (0, 190)) else ((isa_lay.f (⟨x0.f0_Cond, x0.f1_Op, x0.f2_S, x0.f3_Form, x0.f4_Rd, x0.f5_Rn, x0.f6_Rm, x0.f7_Rs, x0.f8_Ra, x0.f9_Imm, x0.f10_Shift, x0.f11_Amount, x0.f12_Pre, x0.f13_Up, x0.f14_Write, x0.f15_List, x0.f16_Tuple_CRn, x0.f17_Tuple_Op1, x0.f18_Tuple_CRm, x0.f19_Tuple_Op2⟩ : T26)).bind fun r1 => ((isa_Decode.f k r1).bind fun r2 => (bif (!r2.2) then (some (0, 190)) else (bif (!((r2.1.f0_Cond == x0.f0_Cond) && ((r2.1.f1_Op == x0.f1_Op) && ((r2.1.f2_S == x0.f2_S) && ((r2.1.f3_Form == x0.f3_Form) && ((r2.1.f4_Rd == x0.f4_Rd) && ((r2.1.f5_Rn == x0.f5_Rn) && ((r2.1.f6_Rm == x0.f6_Rm) && ((r2.1.f7_Rs == x0.f7_Rs) && ((r2.1.f8_Ra == x0.f8_Ra) && ((r2.1.f9_Imm == x0.f9_Imm) && ((r2.1.f10_Shift == x0.f10_Shift) && ((r2.1.f11_Amount == x0.f11_Amount) && ((r2.1.f12_Pre == x0.f12_Pre) && ((r2.1.f13_Up == x0.f13_Up) && ((r2.1.f14_Write == x0.f14_Write) && ((r2.1.f15_List == x0.f15_List) && (((r2.1.f16_Tuple_CRn == x0.f16_Tuple_CRn) && ((r2.1.f17_Tuple_Op1 == x0.f17_Tuple_Op1) && ((r2.1.f18_Tuple_CRm == x0.f18_Tuple_CRm) && ((r2.1.f19_Tuple_Op2 == x0.f19_Tuple_Op2) && true)))) && true)))))))))))))))))) then (some (0, 190)) else (some (r1, 0))))))))
theorem isa_Encode.run (k : Nat) (x0 : T26) : runF Try.prog (gamOf [(23, isa_lay.g), (9, isa_Decode.g k)]) noLam Try.f12 [(T26.av x0)] some = (isa_Encode.f k x0).bind fun r => some (.ret (.tup [(.val (.int .u32 r.1)), (.val (.int .i64 r.2))])) := by
  unfold isa_Encode.f
  try simp only [cond_bind, elim_bind, Option.bind_some, Option.bind_none, Option.bind_assoc]
  kernel_rfl
def isa_Encode.g (k : Nat) : GFun := fun β args K => match args with
  | [a0] => (T26.of a0).bind fun x0 => (isa_Encode.f k x0).bind fun r => K (.ret (.tup [(.val (.int .u32 r.1)), (.val (.int .i64 r.2))]))
  | _ => none
theorem isa_Encode.callable : callable Try.prog 12 = true := callable_of Try.func12 (by kernel_rfl)
theorem isa_Encode.ok (k : Nat) : GOk Try.prog 12 (isa_Encode.g k) := by
  intro β args K r h
  unfold isa_Encode.g at h
  split at h
  · obtain ⟨x0, e0, h⟩ := Option.bind_eq_some_iff.1 h
    obtain ⟨y, hy, hK⟩ := Option.bind_eq_some_iff.1 h
    have hrun := isa_Encode.run k x0
    rw [hy] at hrun
    obtain ⟨out, e, hs⟩ := sim_of_run Try.func12 (by kernel_rfl) mixed (gamOf_cons (isa_lay.ok) isa_lay.callable (gamOf_cons (isa_Decode.ok k) isa_Decode.callable (gamOf_nil _))) (noLam_ok _ _) (args' := [(T26.av x0)]) (RefsL.cons (T26.refs e0) RefsL.nil) hrun
    simp only [Option.some.injEq] at e
    subst e
    exact ⟨_, hK, hs⟩
  · cases h
/-! ### atlas/atlaslaw19.alive: function 11 -/
def atlaslaw19_alive.f (k : Nat)  : Option (Bool) := ((isa_Decode.f k 3818913793).bind fun r1 => ((isa_Encode.f k (⟨14, 14, false, 1, 0, 0, 0, 0, 0, 1, 0, 0, false, false, false, 0, 0, 0, 0, 0⟩ : T26)).bind fun r2 => ((isa_Decode.f k 4087349249).bind fun r3 => (bif r1.2 then (bif (r1.1.f1_Op == 14) then (bif (r1.1.f0_Cond == 14) then (bif (r1.1.f9_Imm == 1) then (bif (r2.1 == 3818913793) then (bif (r2.2 == 0) then (some (!r3.2)) else (some false)) else (some false)) else (some false)) else (some false)) else (some false)) else (some false)))))
theorem atlaslaw19_alive.run (k : Nat)  : runF Try.prog (gamOf [(9, isa_Decode.g k), (12, isa_Encode.g k)]) noLam Try.f11 [] some = (atlaslaw19_alive.f k ).bind fun r => some (.ret (.val (.bool r))) := by
  unfold atlaslaw19_alive.f
  try simp only [cond_bind, elim_bind, Option.bind_some, Option.bind_none, Option.bind_assoc]
  kernel_rfl
def atlaslaw19_alive.g (k : Nat) : GFun := fun β args K => match args with
  | [] => (atlaslaw19_alive.f k ).bind fun r => K (.ret (.val (.bool r)))
  | _ => none
theorem atlaslaw19_alive.callable : callable Try.prog 11 = true := callable_of Try.func11 (by kernel_rfl)
theorem atlaslaw19_alive.ok (k : Nat) : GOk Try.prog 11 (atlaslaw19_alive.g k) := by
  intro β args K r h
  unfold atlaslaw19_alive.g at h
  split at h
  · obtain ⟨y, hy, hK⟩ := Option.bind_eq_some_iff.1 h
    have hrun := atlaslaw19_alive.run k 
    rw [hy] at hrun
    obtain ⟨out, e, hs⟩ := sim_of_run Try.func11 (by kernel_rfl) mixed (gamOf_cons (isa_Decode.ok k) isa_Decode.callable (gamOf_cons (isa_Encode.ok k) isa_Encode.callable (gamOf_nil _))) (noLam_ok _ _) (args' := []) RefsL.nil hrun
    simp only [Option.some.injEq] at e
    subst e
    exact ⟨_, hK, hs⟩
  · cases h
/-! ### atlas/isa.Right: function 14 -/
def isa_Right.f (k : Nat) (x0 : T26) : Option (Bool) := ((isa_Encode.f k (⟨x0.f0_Cond, x0.f1_Op, x0.f2_S, x0.f3_Form, x0.f4_Rd, x0.f5_Rn, x0.f6_Rm, x0.f7_Rs, x0.f8_Ra, x0.f9_Imm, x0.f10_Shift, x0.f11_Amount, x0.f12_Pre, x0.f13_Up, x0.f14_Write, x0.f15_List, x0.f16_Tuple_CRn, x0.f17_Tuple_Op1, x0.f18_Tuple_CRm, x0.f19_Tuple_Op2⟩ : T26)).bind fun r1 => (some (r1.2 == 0)))
theorem isa_Right.run (k : Nat) (x0 : T26) : runF Try.prog (gamOf [(12, isa_Encode.g k)]) noLam Try.f14 [(T26.av x0)] some = (isa_Right.f k x0).bind fun r => some (.ret (.val (.bool r))) := by
  unfold isa_Right.f
  try simp only [cond_bind, elim_bind, Option.bind_some, Option.bind_none, Option.bind_assoc]
  kernel_rfl
def isa_Right.g (k : Nat) : GFun := fun β args K => match args with
  | [a0] => (T26.of a0).bind fun x0 => (isa_Right.f k x0).bind fun r => K (.ret (.val (.bool r)))
  | _ => none
theorem isa_Right.callable : callable Try.prog 14 = true := callable_of Try.func14 (by kernel_rfl)
theorem isa_Right.ok (k : Nat) : GOk Try.prog 14 (isa_Right.g k) := by
  intro β args K r h
  unfold isa_Right.g at h
  split at h
  · obtain ⟨x0, e0, h⟩ := Option.bind_eq_some_iff.1 h
    obtain ⟨y, hy, hK⟩ := Option.bind_eq_some_iff.1 h
    have hrun := isa_Right.run k x0
    rw [hy] at hrun
    obtain ⟨out, e, hs⟩ := sim_of_run Try.func14 (by kernel_rfl) mixed (gamOf_cons (isa_Encode.ok k) isa_Encode.callable (gamOf_nil _)) (noLam_ok _ _) (args' := [(T26.av x0)]) (RefsL.cons (T26.refs e0) RefsL.nil) hrun
    simp only [Option.some.injEq] at e
    subst e
    exact ⟨_, hK, hs⟩
  · cases h
/-! ### atlas/atlaslaw19.IsaBack: function 6 -/
def atlaslaw19_IsaBack.f (k : Nat) (x0 : Int) : Option (Bool) := ((atlaslaw19_alive.f k).bind fun r1 => (bif (!r1) then (some false) else ((isa_Decode.f k x0).bind fun r2 => (bif (!r2.2) then (some ((r2.1.f0_Cond == 0) && ((r2.1.f1_Op == 0) && ((r2.1.f2_S == false) && ((r2.1.f3_Form == 0) && ((r2.1.f4_Rd == 0) && ((r2.1.f5_Rn == 0) && ((r2.1.f6_Rm == 0) && ((r2.1.f7_Rs == 0) && ((r2.1.f8_Ra == 0) && ((r2.1.f9_Imm == 0) && ((r2.1.f10_Shift == 0) && ((r2.1.f11_Amount == 0) && ((r2.1.f12_Pre == false) && ((r2.1.f13_Up == false) && ((r2.1.f14_Write == false) && ((r2.1.f15_List == 0) && (((r2.1.f16_Tuple_CRn == 0) && ((r2.1.f17_Tuple_Op1 == 0) && ((r2.1.f18_Tuple_CRm == 0) && ((r2.1.f19_Tuple_Op2 == 0) && true)))) && true)))))))))))))))))) else ((isa_Encode.f k (⟨r2.1.f0_Cond, r2.1.f1_Op, r2.1.f2_S, r2.1.f3_Form, r2.1.f4_Rd, r2.1.f5_Rn, r2.1.f6_Rm, r2.1.f7_Rs, r2.1.f8_Ra, r2.1.f9_Imm, r2.1.f10_Shift, r2.1.f11_Amount, r2.1.f12_Pre, r2.1.f13_Up, r2.1.f14_Write, r2.1.f15_List, r2.1.f16_Tuple_CRn, r2.1.f17_Tuple_Op1, r2.1.f18_Tuple_CRm, r2.1.f19_Tuple_Op2⟩ : T26)).bind fun r3 => (bif (r3.1 == x0) then (bif (r3.2 == 0) then ((isa_Right.f k (⟨r2.1.f0_Cond, r2.1.f1_Op, r2.1.f2_S, r2.1.f3_Form, r2.1.f4_Rd, r2.1.f5_Rn, r2.1.f6_Rm, r2.1.f7_Rs, r2.1.f8_Ra, r2.1.f9_Imm, r2.1.f10_Shift, r2.1.f11_Amount, r2.1.f12_Pre, r2.1.f13_Up, r2.1.f14_Write, r2.1.f15_List, r2.1.f16_Tuple_CRn, r2.1.f17_Tuple_Op1, r2.1.f18_Tuple_CRm, r2.1.f19_Tuple_Op2⟩ : T26)).bind fun r4 => (some r4)) else (some false)) else (some false)))))))
theorem atlaslaw19_IsaBack.run (k : Nat) (x0 : Int) : runF Try.prog (gamOf [(11, atlaslaw19_alive.g k), (9, isa_Decode.g k), (12, isa_Encode.g k), (14, isa_Right.g k)]) noLam Try.f6 [(.val (.int .u32 x0))] some = (atlaslaw19_IsaBack.f k x0).bind fun r => some (.ret (.val (.bool r))) := by
  unfold atlaslaw19_IsaBack.f
  try simp only [cond_bind, elim_bind, Option.bind_some, Option.bind_none, Option.bind_assoc]
  kernel_rfl
def atlaslaw19_IsaBack.g (k : Nat) : GFun := fun β args K => match args with
  | [a0] => (intO .u32 a0).bind fun x0 => (atlaslaw19_IsaBack.f k x0).bind fun r => K (.ret (.val (.bool r)))
  | _ => none
theorem atlaslaw19_IsaBack.callable : callable Try.prog 6 = true := callable_of Try.func6 (by kernel_rfl)
theorem atlaslaw19_IsaBack.ok (k : Nat) : GOk Try.prog 6 (atlaslaw19_IsaBack.g k) := by
  intro β args K r h
  unfold atlaslaw19_IsaBack.g at h
  split at h
  · obtain ⟨x0, e0, h⟩ := Option.bind_eq_some_iff.1 h
    obtain ⟨y, hy, hK⟩ := Option.bind_eq_some_iff.1 h
    have hrun := atlaslaw19_IsaBack.run k x0
    rw [hy] at hrun
    obtain ⟨out, e, hs⟩ := sim_of_run Try.func6 (by kernel_rfl) mixed (gamOf_cons (atlaslaw19_alive.ok k) atlaslaw19_alive.callable (gamOf_cons (isa_Decode.ok k) isa_Decode.callable (gamOf_cons (isa_Encode.ok k) isa_Encode.callable (gamOf_cons (isa_Right.ok k) isa_Right.callable (gamOf_nil _))))) (noLam_ok _ _) (args' := [(.val (.int .u32 x0))]) (RefsL.cons (Refs.of_eq (intO_eq e0)) RefsL.nil) hrun
    simp only [Option.some.injEq] at e
    subst e
    exact ⟨_, hK, hs⟩
  · cases h
/-! ### atlas/atlaslaw19.IsaBits: function 4 -/
def atlaslaw19_IsaBits.f (k : Nat) (x0 : Int) (x1 : Int) (x2 : Int) : Option (Bool) := ((atlaslaw19_alive.f k).bind fun r1 => (bif (!r1) then (some false) else ((isa_Decode.f k x0).bind fun r2 => (bif (!r2.2) then (some true) else (bif decide ((Int.tmod (IntKind.wrap .u64 x1) 32) < 0) then none else ((isa_Decode.f k (xorI .u32 x0 (shlI .u32 1 (Int.tmod (IntKind.wrap .u64 x1) 32)))).bind fun r3 => (bif r3.2 then (bif ((r3.1.f0_Cond == r2.1.f0_Cond) && ((r3.1.f1_Op == r2.1.f1_Op) && ((r3.1.f2_S == r2.1.f2_S) && ((r3.1.f3_Form == r2.1.f3_Form) && ((r3.1.f4_Rd == r2.1.f4_Rd) && ((r3.1.f5_Rn == r2.1.f5_Rn) && ((r3.1.f6_Rm == r2.1.f6_Rm) && ((r3.1.f7_Rs == r2.1.f7_Rs) && ((r3.1.f8_Ra == r2.1.f8_Ra) && ((r3.1.f9_Imm == r2.1.f9_Imm) && ((r3.1.f10_Shift == r2.1.f10_Shift) && ((r3.1.f11_Amount == r2.1.f11_Amount) && ((r3.1.f12_Pre == r2.1.f12_Pre) && ((r3.1.f13_Up == r2.1.f13_Up) && ((r3.1.f14_Write == r2.1.f14_Write) && ((r3.1.f15_List == r2.1.f15_List) && (((r3.1.f16_Tuple_CRn == r2.1.f16_Tuple_CRn) && ((r3.1.f17_Tuple_Op1 == r2.1.f17_Tuple_Op1) && ((r3.1.f18_Tuple_CRm == r2.1.f18_Tuple_CRm) && ((r3.1.f19_Tuple_Op2 == r2.1.f19_Tuple_Op2) && true)))) && true))))))))))))))))) then (some false) else ((isa_Decode.f k (orI .u32 (andNotI .u32 x0 4026531840) (shlI .u32 (IntKind.wrap .u32 (andI .i64 x2 15)) 28))).bind fun r4 => (bif ((andI .i64 x2 15) == 15) then (bif (!r4.2) then (some ((r4.1.f0_Cond == 0) && ((r4.1.f1_Op == 0) && ((r4.1.f2_S == false) && ((r4.1.f3_Form == 0) && ((r4.1.f4_Rd == 0) && ((r4.1.f5_Rn == 0) && ((r4.1.f6_Rm == 0) && ((r4.1.f7_Rs == 0) && ((r4.1.f8_Ra == 0) && ((r4.1.f9_Imm == 0) && ((r4.1.f10_Shift == 0) && ((r4.1.f11_Amount == 0) && ((r4.1.f12_Pre == false) && ((r4.1.f13_Up == false) && ((r4.1.f14_Write == false) && ((r4.1.f15_List == 0) && (((r4.1.f16_Tuple_CRn == 0) && ((r4.1.f17_Tuple_Op1 == 0) && ((r4.1.f18_Tuple_CRm == 0) && ((r4.1.f19_Tuple_Op2 == 0) && true)))) && true)))))))))))))))))) else (some false)) else (bif (r2.1.f1_Op == 46) then (bif ((andI .i64 x2 15) != 14) then (bif (!r4.2) then (some ((r4.1.f0_Cond == 0) && ((r4.1.f1_Op == 0) && ((r4.1.f2_S == false) && ((r4.1.f3_Form == 0) && ((r4.1.f4_Rd == 0) && ((r4.1.f5_Rn == 0) && ((r4.1.f6_Rm == 0) && ((r4.1.f7_Rs == 0) && ((r4.1.f8_Ra == 0) && ((r4.1.f9_Imm == 0) && ((r4.1.f10_Shift == 0) && ((r4.1.f11_Amount == 0) && ((r4.1.f12_Pre == false) && ((r4.1.f13_Up == false) && ((r4.1.f14_Write == false) && ((r4.1.f15_List == 0) && (((r4.1.f16_Tuple_CRn == 0) && ((r4.1.f17_Tuple_Op1 == 0) && ((r4.1.f18_Tuple_CRm == 0) && ((r4.1.f19_Tuple_Op2 == 0) && true)))) && true)))))))))))))))))) else (some false)) else (bif r4.2 then (some ((r4.1.f0_Cond == (andI .i64 x2 15)) && ((r4.1.f1_Op == r2.1.f1_Op) && ((r4.1.f2_S == r2.1.f2_S) && ((r4.1.f3_Form == r2.1.f3_Form) && ((r4.1.f4_Rd == r2.1.f4_Rd) && ((r4.1.f5_Rn == r2.1.f5_Rn) && ((r4.1.f6_Rm == r2.1.f6_Rm) && ((r4.1.f7_Rs == r2.1.f7_Rs) && ((r4.1.f8_Ra == r2.1.f8_Ra) && ((r4.1.f9_Imm == r2.1.f9_Imm) && ((r4.1.f10_Shift == r2.1.f10_Shift) && ((r4.1.f11_Amount == r2.1.f11_Amount) && ((r4.1.f12_Pre == r2.1.f12_Pre) && ((r4.1.f13_Up == r2.1.f13_Up) && ((r4.1.f14_Write == r2.1.f14_Write) && ((r4.1.f15_List == r2.1.f15_List) && (((r4.1.f16_Tuple_CRn == r2.1.f16_Tuple_CRn) && ((r4.1.f17_Tuple_Op1 == r2.1.f17_Tuple_Op1) && ((r4.1.f18_Tuple_CRm == r2.1.f18_Tuple_CRm) && ((r4.1.f19_Tuple_Op2 == r2.1.f19_Tuple_Op2) && true)))) && true)))))))))))))))))) else (some false))) else (bif r4.2 then (some ((r4.1.f0_Cond == (andI .i64 x2 15)) && ((r4.1.f1_Op == r2.1.f1_Op) && ((r4.1.f2_S == r2.1.f2_S) && ((r4.1.f3_Form == r2.1.f3_Form) && ((r4.1.f4_Rd == r2.1.f4_Rd) && ((r4.1.f5_Rn == r2.1.f5_Rn) && ((r4.1.f6_Rm == r2.1.f6_Rm) && ((r4.1.f7_Rs == r2.1.f7_Rs) && ((r4.1.f8_Ra == r2.1.f8_Ra) && ((r4.1.f9_Imm == r2.1.f9_Imm) && ((r4.1.f10_Shift == r2.1.f10_Shift) && ((r4.1.f11_Amount == r2.1.f11_Amount) && ((r4.1.f12_Pre == r2.1.f12_Pre) && ((r4.1.f13_Up == r2.1.f13_Up) && ((r4.1.f14_Write == r2.1.f14_Write) && ((r4.1.f15_List == r2.1.f15_List) && (((r4.1.f16_Tuple_CRn == r2.1.f16_Tuple_CRn) && ((r4.1.f17_Tuple_Op1 == r2.1.f17_Tuple_Op1) && ((r4.1.f18_Tuple_CRm == r2.1.f18_Tuple_CRm) && ((r4.1.f19_Tuple_Op2 == r2.1.f19_Tuple_Op2) && true)))) && true)))))))))))))))))) else (some false)))))) else ((isa_Decode.f k (orI .u32 (andNotI .u32 x0 4026531840) (shlI .u32 (IntKind.wrap .u32 (andI .i64 x2 15)) 28))).bind fun r5 => (bif ((andI .i64 x2 15) == 15) then (bif (!r5.2) then (some ((r5.1.f0_Cond == 0) && ((r5.1.f1_Op == 0) && ((r5.1.f2_S == false) && ((r5.1.f3_Form == 0) && ((r5.1.f4_Rd == 0) && ((r5.1.f5_Rn == 0) && ((r5.1.f6_Rm == 0) && ((r5.1.f7_Rs == 0) && ((r5.1.f8_Ra == 0) && ((r5.1.f9_Imm == 0) && ((r5.1.f10_Shift == 0) && ((r5.1.f11_Amount == 0) && ((r5.1.f12_Pre == false) && ((r5.1.f13_Up == false) && ((r5.1.f14_Write == false) && ((r5.1.f15_List == 0) && (((r5.1.f16_Tuple_CRn == 0) && ((r5.1.f17_Tuple_Op1 == 0) && ((r5.1.f18_Tuple_CRm == 0) && ((r5.1.f19_Tuple_Op2 == 0) && true)))) && true)))))))))))))))))) else (some false)) else (bif (r2.1.f1_Op == 46) then (bif ((andI .i64 x2 15) != 14) then (bif (!r5.2) then (some ((r5.1.f0_Cond == 0) && ((r5.1.f1_Op == 0) && ((r5.1.f2_S == false) && ((r5.1.f3_Form == 0) && ((r5.1.f4_Rd == 0) && ((r5.1.f5_Rn == 0) && ((r5.1.f6_Rm == 0) && ((r5.1.f7_Rs == 0) && ((r5.1.f8_Ra == 0) && ((r5.1.f9_Imm == 0) && ((r5.1.f10_Shift == 0) && ((r5.1.f11_Amount == 0) && ((r5.1.f12_Pre == false) && ((r5.1.f13_Up == false) && ((r5.1.f14_Write == false) && ((r5.1.f15_List == 0) && (((r5.1.f16_Tuple_CRn == 0) && ((r5.1.f17_Tuple_Op1 == 0) && ((r5.1.f18_Tuple_CRm == 0) && ((r5.1.f19_Tuple_Op2 == 0) && true)))) && true)))))))))))))))))) else (some false)) else (bif r5.2 then (some ((r5.1.f0_Cond == (andI .i64 x2 15)) && ((r5.1.f1_Op == r2.1.f1_Op) && ((r5.1.f2_S == r2.1.f2_S) && ((r5.1.f3_Form == r2.1.f3_Form) && ((r5.1.f4_Rd == r2.1.f4_Rd) && ((r5.1.f5_Rn == r2.1.f5_Rn) && ((r5.1.f6_Rm == r2.1.f6_Rm) && ((r5.1.f7_Rs == r2.1.f7_Rs) && ((r5.1.f8_Ra == r2.1.f8_Ra) && ((r5.1.f9_Imm == r2.1.f9_Imm) && ((r5.1.f10_Shift == r2.1.f10_Shift) && ((r5.1.f11_Amount == r2.1.f11_Amount) && ((r5.1.f12_Pre == r2.1.f12_Pre) && ((r5.1.f13_Up == r2.1.f13_Up) && ((r5.1.f14_Write == r2.1.f14_Write) && ((r5.1.f15_List == r2.1.f15_List) && (((r5.1.f16_Tuple_CRn == r2.1.f16_Tuple_CRn) && ((r5.1.f17_Tuple_Op1 == r2.1.f17_Tuple_Op1) && ((r5.1.f18_Tuple_CRm == r2.1.f18_Tuple_CRm) && ((r5.1.f19_Tuple_Op2 == r2.1.f19_Tuple_Op2) && true)))) && true)))))))))))))))))) else (some false))) else (bif r5.2 then (some ((r5.1.f0_Cond == (andI .i64 x2 15)) && ((r5.1.f1_Op == r2.1.f1_Op) && ((r5.1.f2_S == r2.1.f2_S) && ((r5.1.f3_Form == r2.1.f3_Form) && ((r5.1.f4_Rd == r2.1.f4_Rd) && ((r5.1.f5_Rn == r2.1.f5_Rn) && ((r5.1.f6_Rm == r2.1.f6_Rm) && ((r5.1.f7_Rs == r2.1.f7_Rs) && ((r5.1.f8_Ra == r2.1.f8_Ra) && ((r5.1.f9_Imm == r2.1.f9_Imm) && ((r5.1.f10_Shift == r2.1.f10_Shift) && ((r5.1.f11_Amount == r2.1.f11_Amount) && ((r5.1.f12_Pre == r2.1.f12_Pre) && ((r5.1.f13_Up == r2.1.f13_Up) && ((r5.1.f14_Write == r2.1.f14_Write) && ((r5.1.f15_List == r2.1.f15_List) && (((r5.1.f16_Tuple_CRn == r2.1.f16_Tuple_CRn) && ((r5.1.f17_Tuple_Op1 == r2.1.f17_Tuple_Op1) && ((r5.1.f18_Tuple_CRm == r2.1.f18_Tuple_CRm) && ((r5.1.f19_Tuple_Op2 == r2.1.f19_Tuple_Op2) && true)))) && true)))))))))))))))))) else (some false))))))))))))
theorem atlaslaw19_IsaBits.run (k : Nat) (x0 : Int) (x1 : Int) (x2 : Int) : runF Try.prog (gamOf [(11, atlaslaw19_alive.g k), (9, isa_Decode.g k)]) noLam Try.f4 [(.val (.int .u32 x0)), (.val (.int .i64 x1)), (.val (.int .i64 x2))] some = (atlaslaw19_IsaBits.f k x0 x1 x2).bind fun r => some (.ret (.val (.bool r))) := by
  unfold atlaslaw19_IsaBits.f
  try simp only [cond_bind, elim_bind, Option.bind_some, Option.bind_none, Option.bind_assoc]
  kernel_rfl
def atlaslaw19_IsaBits.g (k : Nat) : GFun := fun β args K => match args with
  | [a0, a1, a2] => (intO .u32 a0).bind fun x0 => (intO .i64 a1).bind fun x1 => (intO .i64 a2).bind fun x2 => (atlaslaw19_IsaBits.f k x0 x1 x2).bind fun r => K (.ret (.val (.bool r)))
  | _ => none
theorem atlaslaw19_IsaBits.callable : callable Try.prog 4 = true := callable_of Try.func4 (by kernel_rfl)
theorem atlaslaw19_IsaBits.ok (k : Nat) : GOk Try.prog 4 (atlaslaw19_IsaBits.g k) := by
  intro β args K r h
  unfold atlaslaw19_IsaBits.g at h
  split at h
  · obtain ⟨x0, e0, h⟩ := Option.bind_eq_some_iff.1 h
    obtain ⟨x1, e1, h⟩ := Option.bind_eq_some_iff.1 h
    obtain ⟨x2, e2, h⟩ := Option.bind_eq_some_iff.1 h
    obtain ⟨y, hy, hK⟩ := Option.bind_eq_some_iff.1 h
    have hrun := atlaslaw19_IsaBits.run k x0 x1 x2
    rw [hy] at hrun
    obtain ⟨out, e, hs⟩ := sim_of_run Try.func4 (by kernel_rfl) mixed (gamOf_cons (atlaslaw19_alive.ok k) atlaslaw19_alive.callable (gamOf_cons (isa_Decode.ok k) isa_Decode.callable (gamOf_nil _))) (noLam_ok _ _) (args' := [(.val (.int .u32 x0)), (.val (.int .i64 x1)), (.val (.int .i64 x2))]) (RefsL.cons (Refs.of_eq (intO_eq e0)) (RefsL.cons (Refs.of_eq (intO_eq e1)) (RefsL.cons (Refs.of_eq (intO_eq e2)) RefsL.nil))) hrun
    simp only [Option.some.injEq] at e
    subst e
    exact ⟨_, hK, hs⟩
  · cases h
/-! ### atlas/isa.set: function 28 -/
def isa_set.q0.h : Head (Int × (List Int) × Int × Int) where
  k γ s F := (sizedN 19 s).bind fun _ => (intO .u16 (gt s.tm 3)).bind fun v2 => (vtO (.int .i64) (gt s.tm 6)).bind fun v4 => (intO .i64 (gt s.tm 7)).bind fun v6 => (intO .i64 (gt s.tm 8)).bind fun v8 => (distO []).bind fun _ => F (v2, v4, v6, v8)
  st x := ⟨sparseT [(3, (.val (.int .u16 x.1))), (6, (.vt (.int .i64) x.2.1)), (7, (.val (.int .i64 x.2.2.1))), (8, (.val (.int .i64 x.2.2.2)))] 19 0, []⟩
  ok γ s F r h := by
    obtain ⟨_, hz, h⟩ := Option.bind_eq_some_iff.1 h
    obtain ⟨v2, h1, h⟩ := Option.bind_eq_some_iff.1 h
    obtain ⟨v4, h3, h⟩ := Option.bind_eq_some_iff.1 h
    obtain ⟨v6, h5, h⟩ := Option.bind_eq_some_iff.1 h
    obtain ⟨v8, h7, h⟩ := Option.bind_eq_some_iff.1 h
    obtain ⟨_, h9, h⟩ := Option.bind_eq_some_iff.1 h
    exact ⟨_, h, weak_ren (l := []) (sizedN_ok hz) (distO_ok h9) (LiveR.cons (RefsR.plain (Refs.of_eq (intO_eq h1)) rfl) (LiveR.cons (RefsR.plain (vtO_refs h3) rfl) (LiveR.cons (RefsR.plain (Refs.of_eq (intO_eq h5)) rfl) (LiveR.cons (RefsR.plain (Refs.of_eq (intO_eq h7)) rfl) LiveR.nil)))) BlksR.nil⟩

def isa_set.q0.x0 : Head (Int) where
  k γ s F := (sizedN 19 s).bind fun _ => (intO .u16 (gt s.tm 3)).bind fun v2 => (distO []).bind fun _ => F (v2)
  st x := ⟨sparseT [(3, (.val (.int .u16 x)))] 19 0, []⟩
  ok γ s F r h := by
    obtain ⟨_, hz, h⟩ := Option.bind_eq_some_iff.1 h
    obtain ⟨v2, h1, h⟩ := Option.bind_eq_some_iff.1 h
    obtain ⟨_, h3, h⟩ := Option.bind_eq_some_iff.1 h
    exact ⟨_, h, weak_ren (l := []) (sizedN_ok hz) (distO_ok h3) (LiveR.cons (RefsR.plain (Refs.of_eq (intO_eq h1)) rfl) LiveR.nil) BlksR.nil⟩

def isa_set.q0.t : Tail (Int) := Tail.one (.exit 0) isa_set.q0.x0
theorem isa_set.q0.np (y : (Int)) (v : AV) : (isa_set.q0.t.out y).1 ≠ .panic v := fun h => by cases h
theorem isa_set.q0.nn (y : (Int)) : (isa_set.q0.t.out y).1 ≠ .normal := fun h => by cases h
def isa_set.q0.l (k : Nat) : Nat → (Int × (List Int) × Int × Int) → Option (Int)
  | 0, _ => none
  | n + 1, x => (bif (decide (x.2.2.2 < x.2.2.1)) then (bif (decide (0 ≤ x.2.2.2) && decide (x.2.2.2 < ((x.2.1.length : Nat) : Int))) then (bif decide ((IntKind.wrap .u64 (x.2.1.getD (x.2.2.2).toNat 0)) < 0) then none else (isa_set.q0.l k n ((orI .u16 x.1 (shlI .u16 1 (IntKind.wrap .u64 (x.2.1.getD (x.2.2.2).toNat 0)))), x.2.1, x.2.2.1, (IntKind.wrap .i64 (x.2.2.2 + 1))))) else none) else (some x.1))
theorem isa_set.q0.z (k : Nat) (x : (Int × (List Int) × Int × Int)) : isa_set.q0.l k 0 x = none := rfl
theorem isa_set.q0.at : codeAt (bodyOf Try.f28) [false, true, false, true, true] = some (.loop (loopBody (bodyOf Try.f28) [false, true, false, true, true])) := by kernel_rfl
theorem isa_set.q0.goes (k n : Nat) (x : (Int × (List Int) × Int × Int)) : E Try.prog (gamOf []) (lamOf []) (loopBody (bodyOf Try.f28) [false, true, false, true, true]) (false :: [false, true, false, true, true]) (isa_set.q0.h.st x) (contD isa_set.q0.h isa_set.q0.t (isa_set.q0.l k n) some) = isa_set.q0.l k (n + 1) x := by
  kernel_rfl
theorem isa_set.q0.ok_ (k : Nat) : PieceOk Try.prog (bodyOf Try.f28) ⟨[false, true, false, true, true], _, _, isa_set.q0.h, isa_set.q0.t, isa_set.q0.l k k⟩ :=
  piece_loop (gamOf_nil _) (lamOf_nil _ _) mixed isa_set.q0.at isa_set.q0.np isa_set.q0.nn (isa_set.q0.z k) (isa_set.q0.goes k) k
def isa_set.q0.p (k : Nat) : Piece := ⟨[false, true, false, true, true], _, _, isa_set.q0.h, isa_set.q0.t, isa_set.q0.l k k⟩
theorem isa_set.q0.ok (k : Nat) : PieceOk Try.prog (bodyOf Try.f28) (isa_set.q0.p k) := isa_set.q0.ok_ k
def isa_set.f (k : Nat) (x0 : (List Int)) : Option (Int) := ((isa_set.q0.l k k (0, x0, ((x0.length : Nat) : Int), 0)).bind fun r1 => (some r1))
theorem isa_set.run (k : Nat) (x0 : (List Int)) : runF Try.prog (gamOf []) (lamOf [isa_set.q0.p k]) Try.f28 [(.vt (.int .i64) x0)] some = (isa_set.f k x0).bind fun r => some (.ret (.val (.int .u16 r))) := by
  unfold isa_set.f
  try simp only [cond_bind, elim_bind, Option.bind_some, Option.bind_none, Option.bind_assoc]
  kernel_rfl
def isa_set.g (k : Nat) : GFun := fun β args K => match args with
  | [a0] => (vtO (.int .i64) a0).bind fun x0 => (isa_set.f k x0).bind fun r => K (.ret (.val (.int .u16 r)))
  | _ => none
theorem isa_set.callable : callable Try.prog 28 = true := callable_of Try.func28 (by kernel_rfl)
theorem isa_set.ok (k : Nat) : GOk Try.prog 28 (isa_set.g k) := by
  intro β args K r h
  unfold isa_set.g at h
  split at h
  · obtain ⟨x0, e0, h⟩ := Option.bind_eq_some_iff.1 h
    obtain ⟨y, hy, hK⟩ := Option.bind_eq_some_iff.1 h
    have hrun := isa_set.run k x0
    rw [hy] at hrun
    obtain ⟨out, e, hs⟩ := sim_of_run Try.func28 (by kernel_rfl) mixed (gamOf_nil _) (lamOf_cons (isa_set.q0.ok k) (lamOf_nil _ _)) (args' := [(.vt (.int .i64) x0)]) (RefsL.cons (vtO_refs e0) RefsL.nil) hrun
    simp only [Option.some.injEq] at e
    subst e
    exact ⟨_, hK, hs⟩
  · cases h
end Go.Va
