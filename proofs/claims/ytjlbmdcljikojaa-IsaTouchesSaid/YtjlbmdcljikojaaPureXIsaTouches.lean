/-
  Which registers any instruction reads and writes: what isa.IsaTouches computes is true.
  Conditions: none.
-/
import Derived.Test.YtjlbmdcljikojaaPureIsaRef10
set_option linter.unusedVariables false
set_option linter.unusedSimpArgs false
set_option autoImplicit false
namespace Go.Va
theorem touches_8 (j : T26) (i0 : 0 ≤ j.f9_Imm) (i1 : j.f9_Imm < 4294967296) (l0 : 0 ≤ j.f15_List) (l1 : j.f15_List < 65536) : atlaslaw19_IsaTouches.f 64 j = some true := by
  have hT : ∀ a b c d : Int, isa_Reads.f 64 j = some a → atlasref19_Reads.f 64 j = some b → isa_Writes.f 64 j = some c → atlasref19_Writes.f 64 j = some d → a = b → c = d → atlaslaw19_IsaTouches.f 64 j = some true := by
    intro a b c d h1 h2 h3 h4 h5 h6
    subst h5 h6
    unfold atlaslaw19_IsaTouches.f
    show (isa_Reads.f 64 j).bind (fun r1 => (atlasref19_Reads.f 64 j).bind fun r2 => bif r1 == r2 then ((isa_Writes.f 64 j).bind fun r3 => (atlasref19_Writes.f 64 j).bind fun r4 => some (r3 == r4)) else some false) = some true
    rw [h1, h2, h3, h4]
    simp only [Option.bind_some, beq_self_eq_true, cond_true]
  have hen := rencode_eq j i0 i1
  rcases encode_8 j with he | ⟨x, he, hd, x0, x1⟩
  · have hr : isa_Right.f 64 j = some false := by
      have e : isa_Right.f 64 j = (isa_Encode.f 64 j).bind fun r1 => (some (r1.2 == 0)) := rfl
      rw [e, he]; rfl
    have hr' : isa_Right.f 64 ⟨j.f0_Cond, j.f1_Op, j.f2_S, j.f3_Form, j.f4_Rd, j.f5_Rn, j.f6_Rm, j.f7_Rs, j.f8_Ra, j.f9_Imm, j.f10_Shift, j.f11_Amount, j.f12_Pre, j.f13_Up, j.f14_Write, j.f15_List, j.f16_Tuple_CRn, j.f17_Tuple_Op1, j.f18_Tuple_CRm, j.f19_Tuple_Op2⟩ = some false := hr
    rw [he] at hen
    have hen' : atlasref19_Encode.f 64 ⟨j.f0_Cond, j.f1_Op, j.f2_S, j.f3_Form, j.f4_Rd, j.f5_Rn, j.f6_Rm, j.f7_Rs, j.f8_Ra, j.f9_Imm, j.f10_Shift, j.f11_Amount, j.f12_Pre, j.f13_Up, j.f14_Write, j.f15_List, j.f16_Tuple_CRn, j.f17_Tuple_Op1, j.f18_Tuple_CRm, j.f19_Tuple_Op2⟩ = some (0, 190) := hen
    refine hT 0 0 0 0 ?_ ?_ ?_ ?_ rfl rfl
    · unfold isa_Reads.f; rw [hr']; rfl
    · unfold atlasref19_Reads.f; rw [hen']; rfl
    · unfold isa_Writes.f; rw [hr']; rfl
    · unfold atlasref19_Writes.f; rw [hen']; rfl
  · have hr := right_back x j he
    rw [he] at hen
    rcases both x x0 x1 with ⟨d1, _⟩ | ⟨j', k, d1, d2⟩
    · rw [d1] at hd; simp at hd
    · rw [d1] at hd
      simp only [Option.some.injEq, Prod.mk.injEq, and_true] at hd
      subst hd
      obtain ⟨m1, m2, m3⟩ := first_spec d2
      simp only at m1 m2 m3
      unfold passV at m2
      simp only [Bool.and_eq_true] at m2
      rw [← m3] at m2
      have hform : (rowD k).2.1 = j'.f3_Form := by rw [m3]; rfl
      obtain ⟨o, ho1, ho2⟩ := List.any_eq_true.1 m2.1.2
      have ho := eq_of_beq ho2
      have hok : okR (rowD k) = true := by
        have h := rows_ok
        simp only [Bool.and_eq_true] at h
        have : ∀ l : List RowT, allOk l = true → ∀ r ∈ l, okR r = true := by
          intro l
          induction l with
          | nil => intro _ r hr; cases hr
          | cons a l ih =>
            intro ha r hr
            simp only [allOk, Bool.and_eq_true] at ha
            rcases List.mem_cons.1 hr with rfl | hr
            · exact ha.1
            · exact ih ha.2 r hr
        exact this _ h.1 _ m1
      have hp := List.any_eq_true.1 (List.all_eq_true.1 (List.all_eq_true.1 pairs_all _ m1) o ho1)
      obtain ⟨t, ht1, ht2⟩ := hp
      simp only [Bool.and_eq_true, beq_iff_eq] at ht2
      have hpair : (j'.f3_Form, j'.f1_Op) ∈ pairs := by
        have : t = (j'.f3_Form, j'.f1_Op) := Prod.ext (ht2.1.trans hform) (ht2.2.trans ho)
        rw [← this]; exact ht1
      have hfl := of_decide_eq_true (List.all_eq_true.1 (List.all_eq_true.1 flagsR _ m1) o ho1)
      rw [ho, hform] at hfl
      have o12 : 1 ≤ j'.f1_Op ∧ j'.f1_Op ≤ 52 := by
        rcases decode_8 x x0 x1 with d | ⟨j, d, o1, o2, _⟩
        · rw [d] at d1; simp at d1
        · rw [d] at d1
          simp only [Option.some.injEq, Prod.mk.injEq, and_true] at d1
          subst d1; exact ⟨o1, o2⟩
      refine hT _ _ _ _ (reads_isa j' hpair hr) (reads_ref j' x k x0 hok hen d2) (writes_isa j' o12.1 o12.2 hr) (writes_ref j' x o12.1 o12.2 hen) ?_ ?_
      · have a := isaR_W j' l0 l1
        have b := refR_W (hasB (rowD k) 110) (hasB (rowD k) 109) (hasB (rowD k) 114) j' l0 l1
        unfold W at a b
        rw [a, b, hfl]
      · have a := isaW_W j' l0 l1
        have b := refW_W j' l0 l1
        unfold W at a b
        rw [a, b, flagsW j' o12.1 o12.2]
end Go.Va
namespace Go.Proofs.Ytjlbmdcljikojaa.Pure
open Go.Va
theorem XIsaTouches (a0_0 : Int) (a0_1 : Int) (a0_2 : Bool) (a0_3 : Int) (a0_4 : Int) (a0_5 : Int) (a0_6 : Int) (a0_7 : Int) (a0_8 : Int) (a0_9 : Int) (a0_10 : Int) (a0_11 : Int) (a0_12 : Bool) (a0_13 : Bool) (a0_14 : Bool) (a0_15 : Int) (a0_16 : Int) (a0_17 : Int) (a0_18 : Int) (a0_19 : Int) (w0_0 : (Lit.int .i64 a0_0).wf = true) (w0_1 : (Lit.int .i64 a0_1).wf = true) (w0_3 : (Lit.int .i64 a0_3).wf = true) (w0_4 : (Lit.int .i64 a0_4).wf = true) (w0_5 : (Lit.int .i64 a0_5).wf = true) (w0_6 : (Lit.int .i64 a0_6).wf = true) (w0_7 : (Lit.int .i64 a0_7).wf = true) (w0_8 : (Lit.int .i64 a0_8).wf = true) (w0_9 : (Lit.int .u32 a0_9).wf = true) (w0_10 : (Lit.int .i64 a0_10).wf = true) (w0_11 : (Lit.int .i64 a0_11).wf = true) (w0_15 : (Lit.int .u16 a0_15).wf = true) (w0_16 : (Lit.int .i64 a0_16).wf = true) (w0_17 : (Lit.int .i64 a0_17).wf = true) (w0_18 : (Lit.int .i64 a0_18).wf = true) (w0_19 : (Lit.int .i64 a0_19).wf = true) : ∃ k, atlaslaw19_IsaTouches.f k ⟨a0_0, a0_1, a0_2, a0_3, a0_4, a0_5, a0_6, a0_7, a0_8, a0_9, a0_10, a0_11, a0_12, a0_13, a0_14, a0_15, a0_16, a0_17, a0_18, a0_19⟩ = some true := by
  have w : 0 ≤ a0_9 ∧ a0_9 < 4294967296 := by
    simp only [Lit.wf, IntKind.min, IntKind.max, Bool.and_eq_true, decide_eq_true_eq] at w0_9
    simp [IntKind.bits, IntKind.signed] at w0_9
    omega
  have l : 0 ≤ a0_15 ∧ a0_15 < 65536 := by
    simp only [Lit.wf, IntKind.min, IntKind.max, Bool.and_eq_true, decide_eq_true_eq] at w0_15
    simp [IntKind.bits, IntKind.signed] at w0_15
    omega
  exact ⟨64, touches_8 _ w.1 w.2 l.1 l.2⟩
end Go.Proofs.Ytjlbmdcljikojaa.Pure
