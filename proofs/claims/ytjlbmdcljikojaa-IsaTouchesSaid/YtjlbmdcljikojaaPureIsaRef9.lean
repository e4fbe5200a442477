/-
  The reference's Encode answers as the program's.
  Conditions: none.
-/
import Derived.Test.YtjlbmdcljikojaaPureIsaRef8
import Derived.Test.YtjlbmdcljikojaaPureIsaLaid
set_option linter.unusedVariables false
set_option linter.unusedSimpArgs false
set_option autoImplicit false
set_option maxRecDepth 10000
namespace Go.Va
def WdR (r : Option Int) : Prop := ∃ w, r = some w ∧ 0 ≤ w ∧ w < 4294967296
theorem lay_wd' {p : ByteArray} (h : okP p = true) (L w v : Int) {F : Int → Option Int} (w0 : 0 ≤ w) (w1 : w < 4294967296) (b : 0 ≤ v ∧ v < 4294967296) (k : ∀ r, 0 ≤ r → r < 4294967296 → WdR (F r)) : WdR ((atlasref19_lay.f 64 p L w v).bind F) := by
  obtain ⟨r, h1, h2, h3, _⟩ := lay_eq h L w v w0 w1 b.1 b.2
  rw [h1, Option.bind_some]; exact k r h2 h3
theorem immO_bd (op imm : Int) (i0 : 0 ≤ imm) (i1 : imm < 4294967296) : 0 ≤ immO op imm ∧ immO op imm < 4294967296 := by
  unfold immO
  cases (op == 41) <;> cases (op == 42) <;> first | exact ⟨i0, i1⟩ | exact wrap_bd _
theorem word_tot (r : RowT) (h : okR r = true) (j : T26) (i0 : 0 ≤ j.f9_Imm) (i1 : j.f9_Imm < 4294967296) : WdR (atlasref19_word.f 64 ⟨r.1, r.2.1, r.2.2.1⟩ j) := by
  simp only [okR, Bool.and_eq_true] at h
  have hp := h.1.1
  rw [word_eq]
  refine lay_wd' hp _ _ _ (by decide) (by decide) (by decide) (fun w w0 w1 => ?_)
  refine lay_wd' hp _ _ _ w0 w1 (wrap_bd _) (fun w w0 w1 => ?_)
  refine lay_wd' hp _ _ _ w0 w1 (wrap_bd _) (fun w w0 w1 => ?_)
  refine lay_wd' hp _ _ _ w0 w1 (wrap_bd _) (fun w w0 w1 => ?_)
  refine lay_wd' hp _ _ _ w0 w1 (wrap_bd _) (fun w w0 w1 => ?_)
  refine lay_wd' hp _ _ _ w0 w1 (wrap_bd _) (fun w w0 w1 => ?_)
  refine lay_wd' hp _ _ _ w0 w1 (wrap_bd _) (fun w w0 w1 => ?_)
  refine lay_wd' hp _ _ _ w0 w1 (wrap_bd _) (fun w w0 w1 => ?_)
  refine lay_wd' hp _ _ _ w0 w1 (wrap_bd _) (fun w w0 w1 => ?_)
  refine lay_wd' hp _ _ _ w0 w1 (wrap_bd _) (fun w w0 w1 => ?_)
  refine lay_wd' hp _ _ _ w0 w1 (wrap_bd _) (fun w w0 w1 => ?_)
  refine lay_wd' hp _ _ _ w0 w1 (wrap_bd _) (fun w w0 w1 => ?_)
  refine lay_wd' hp _ _ _ w0 w1 (wrap_bd _) (fun w w0 w1 => ?_)
  refine lay_wd' hp _ _ _ w0 w1 (wrap_bd _) (fun w w0 w1 => ?_)
  refine lay_wd' hp _ _ _ w0 w1 (wrap_bd _) (fun w w0 w1 => ?_)
  refine lay_wd' hp _ _ _ w0 w1 (immO_bd _ _ i0 i1) (fun w w0 w1 => ?_)
  refine lay_wd' hp _ _ _ w0 w1 (bitI_bd _) (fun w w0 w1 => ?_)
  refine lay_wd' hp _ _ _ w0 w1 (bitI_bd _) (fun w w0 w1 => ?_)
  refine lay_wd' hp _ _ _ w0 w1 (bitI_bd _) (fun w w0 w1 => ?_)
  refine lay_wd' hp _ _ _ w0 w1 (bitI_bd _) (fun w w0 w1 => ?_)
  exact ⟨w, rfl, w0, w1⟩
theorem first_spec {x : Int} {l : List RowT} {t : RowT × T26} (h : firstV x l = some t) : t.1 ∈ l ∧ passV x t.1 = true ∧ t.2 = sayR t.1 x := by
  induction l with
  | nil => cases h
  | cons r l ih =>
    simp only [firstV] at h
    cases hp : passV x r with
    | true =>
      rw [hp, cond_true, Option.some.injEq] at h
      subst h
      exact ⟨List.mem_cons_self, hp, rfl⟩
    | false =>
      rw [hp, cond_false] at h
      obtain ⟨h1, h2⟩ := ih h
      exact ⟨List.mem_cons_of_mem _ h1, h2⟩
def EncP (i : T26) (l : List RowT) (n q : Nat) (cs : List RowT) : Prop :=
    (∃ w, atlasref19_Encode.q0.l 64 n (l, (q : Int), i.f0_Cond, i.f1_Op, i.f2_S, i.f3_Form, i.f4_Rd, i.f5_Rn, i.f6_Rm, i.f7_Rs, i.f8_Ra, i.f9_Imm, i.f10_Shift, i.f11_Amount, i.f12_Pre, i.f13_Up, i.f14_Write, i.f15_List, i.f16_Tuple_CRn, i.f17_Tuple_Op1, i.f18_Tuple_CRm, i.f19_Tuple_Op2) = some (.inl (w, 0)) ∧ isa_Decode.f 64 w = some (i, true) ∧ 0 ≤ w ∧ w < 4294967296) ∨
    (atlasref19_Encode.q0.l 64 n (l, (q : Int), i.f0_Cond, i.f1_Op, i.f2_S, i.f3_Form, i.f4_Rd, i.f5_Rn, i.f6_Rm, i.f7_Rs, i.f8_Ra, i.f9_Imm, i.f10_Shift, i.f11_Amount, i.f12_Pre, i.f13_Up, i.f14_Write, i.f15_List, i.f16_Tuple_CRn, i.f17_Tuple_Op1, i.f18_Tuple_CRm, i.f19_Tuple_Op2) = some (.inr ()) ∧ ∀ r ∈ cs, (r.1.any fun y => y == i.f1_Op) = true → r.2.1 = i.f3_Form → ∀ w, atlasref19_word.f 64 ⟨r.1, r.2.1, r.2.2.1⟩ i = some w → ¬ isa_Decode.f 64 w = some (i, true))
theorem enc_loop (i : T26) (i0 : 0 ≤ i.f9_Imm) (i1 : i.f9_Imm < 4294967296) (l : List RowT) (hl : l.length ≤ 1000) : ∀ (cs : List RowT) (n q : Nat), l.drop q = cs → cs.length < n → allOk cs = true → EncP i l n q cs := by
  intro cs
  induction cs with
  | nil =>
    intro n q hd hn _
    obtain ⟨n, rfl⟩ : ∃ m, n = m + 1 := ⟨n - 1, by simp at hn; omega⟩
    have := List.drop_eq_nil_iff.1 hd
    have c1 : decide ((q : Int) < ((l.length : Nat) : Int)) = false := by simp; omega
    refine .inr ⟨?_, fun r hr => by simp at hr⟩
    simp only [atlasref19_Encode.q0.l, c1, cond_false]
  | cons c cs ih =>
    intro n q hd hn hok
    obtain ⟨n, rfl⟩ : ∃ m, n = m + 1 := ⟨n - 1, by simp at hn; omega⟩
    have h1 : l[q]? = some c := by
      have e := List.getElem?_drop (xs := l) (i := q) (j := 0)
      rw [hd] at e
      simpa using e.symm
    have hi := (List.getElem?_eq_some_iff.1 h1).1
    have c1 : decide ((q : Int) < ((l.length : Nat) : Int)) = true := by simp; omega
    have c2 : decide ((0 : Int) ≤ (q : Int)) = true := by simp
    have e1 : IntKind.wrap .i64 ((q : Int) + 1) = ((q + 1 : Nat) : Int) := by rw [wrap_i64 _ (by omega) (by omega)]; omega
    have hg : l.getD (Int.toNat (q : Int)) ([], 0, ByteArray.empty, ()) = c := by rw [Int.toNat_natCast, List.getD_eq_getElem?_getD, h1]; rfl
    have hd' : l.drop (q + 1) = cs := by
      have e : List.drop (q + 1) l = List.drop 1 (List.drop q l) := by rw [List.drop_drop, Nat.add_comm]
      rw [e, hd]; rfl
    simp only [allOk, Bool.and_eq_true] at hok
    have hrec := ih n (q + 1) hd' (by simp at hn; omega) hok.2
    have hok2 := hok.1
    simp only [okR, Bool.and_eq_true, decide_eq_true_eq] at hok2
    have f3 := in_eq c.1 i.f1_Op hok2.2
    obtain ⟨w, hw, w0, w1⟩ := word_tot c hok.1 i i0 i1
    have hw' : atlasref19_word.f 64 ⟨c.1, c.2.1, c.2.2.1⟩ ⟨i.f0_Cond, i.f1_Op, i.f2_S, i.f3_Form, i.f4_Rd, i.f5_Rn, i.f6_Rm, i.f7_Rs, i.f8_Ra, i.f9_Imm, i.f10_Shift, i.f11_Amount, i.f12_Pre, i.f13_Up, i.f14_Write, i.f15_List, i.f16_Tuple_CRn, i.f17_Tuple_Op1, i.f18_Tuple_CRm, i.f19_Tuple_Op2⟩ = some w := hw
    have rest : (atlasref19_Encode.q0.l 64 (n + 1) (l, (q : Int), i.f0_Cond, i.f1_Op, i.f2_S, i.f3_Form, i.f4_Rd, i.f5_Rn, i.f6_Rm, i.f7_Rs, i.f8_Ra, i.f9_Imm, i.f10_Shift, i.f11_Amount, i.f12_Pre, i.f13_Up, i.f14_Write, i.f15_List, i.f16_Tuple_CRn, i.f17_Tuple_Op1, i.f18_Tuple_CRm, i.f19_Tuple_Op2) = atlasref19_Encode.q0.l 64 n (l, ((q + 1 : Nat) : Int), i.f0_Cond, i.f1_Op, i.f2_S, i.f3_Form, i.f4_Rd, i.f5_Rn, i.f6_Rm, i.f7_Rs, i.f8_Ra, i.f9_Imm, i.f10_Shift, i.f11_Amount, i.f12_Pre, i.f13_Up, i.f14_Write, i.f15_List, i.f16_Tuple_CRn, i.f17_Tuple_Op1, i.f18_Tuple_CRm, i.f19_Tuple_Op2)) → ((c.1.any fun y => y == i.f1_Op) = true → c.2.1 = i.f3_Form → ¬ isa_Decode.f 64 w = some (i, true)) → EncP i l (n + 1) q (c :: cs) := fun he hno => by
      rcases hrec with ⟨w', h2, h3⟩ | ⟨h2, h3⟩
      · exact Or.inl ⟨w', he.trans h2, h3⟩
      · refine Or.inr ⟨he.trans h2, fun r hr ha hb w' hw2 => ?_⟩
        rcases List.mem_cons.1 hr with rfl | hr
        · rw [hw] at hw2
          have := Option.some.inj hw2
          subst this
          exact hno ha hb
        · exact h3 r hr ha hb w' hw2
    cases ha : (c.1.any fun y => y == i.f1_Op) with
    | false =>
      refine rest ?_ (fun h => by rw [ha] at h; cases h)
      simp only [atlasref19_Encode.q0.l, c1, c2, Bool.and_self, cond_true, hg, e1, f3, Option.bind_some, ha, Bool.not_false]
    | true =>
      cases hb : (c.2.1 != i.f3_Form) with
      | true =>
        refine rest ?_ (fun _ h => by simp [h] at hb)
        simp only [atlasref19_Encode.q0.l, c1, c2, Bool.and_self, cond_true, hg, e1, f3, Option.bind_some, ha, Bool.not_true, cond_false, hb]
      | false =>
        rcases both w w0 w1 with ⟨d1, d2⟩ | ⟨j, k, d1, d2⟩
        · refine rest ?_ (fun _ _ h => by rw [d1] at h; simp at h)
          have rd := rdecode_eq w w0
          rw [d2] at rd
          simp only [atlasref19_Encode.q0.l, c1, c2, Bool.and_self, cond_true, hg, e1, f3, Option.bind_some, ha, Bool.not_true, cond_false, hb, hw', rd]
        · have rd := rdecode_eq w w0
          rw [d2] at rd
          by_cases hji : j = i
          · subst hji
            refine Or.inl ⟨w, ?_, d1, w0, w1⟩
            simp only [atlasref19_Encode.q0.l, c1, c2, Bool.and_self, cond_true, hg, e1, f3, Option.bind_some, ha, Bool.not_true, cond_false, hb, hw', rd, beq_self_eq_true, Bool.and_true]
          · refine rest ?_ (fun _ _ h => by rw [d1] at h; simp at h; exact hji h)
            simp only [atlasref19_Encode.q0.l, c1, c2, Bool.and_self, cond_true, hg, e1, f3, Option.bind_some, ha, Bool.not_true, cond_false, hb, hw', rd]
            rw [Bool.eq_false_iff.2 (fun hh => hji (fields_eq hh)), cond_false]

theorem rencode_eq (i : T26) (i0 : 0 ≤ i.f9_Imm) (i1 : i.f9_Imm < 4294967296) : atlasref19_Encode.f 64 i = isa_Encode.f 64 i := by
  have h := rows_ok
  simp only [Bool.and_eq_true, decide_eq_true_eq] at h
  have e := enc_loop i i0 i1 rowsV (by omega) rowsV 64 0 rfl (by omega) h.1
  have e0 : ∀ v, atlasref19_Encode.q0.l 64 64 (rowsV, ((0 : Nat) : Int), i.f0_Cond, i.f1_Op, i.f2_S, i.f3_Form, i.f4_Rd, i.f5_Rn, i.f6_Rm, i.f7_Rs, i.f8_Ra, i.f9_Imm, i.f10_Shift, i.f11_Amount, i.f12_Pre, i.f13_Up, i.f14_Write, i.f15_List, i.f16_Tuple_CRn, i.f17_Tuple_Op1, i.f18_Tuple_CRm, i.f19_Tuple_Op2) = some v → atlasref19_Encode.f 64 i = (Sum.elim (fun r6 => (some (r6.1, r6.2))) (fun r7 => (some (0, 190))) v) := fun v hv => by
    unfold atlasref19_Encode.f
    rw [rows_eq, Option.bind_some]
    have hv' : atlasref19_Encode.q0.l 64 64 (rowsV, 0, i.f0_Cond, i.f1_Op, i.f2_S, i.f3_Form, i.f4_Rd, i.f5_Rn, i.f6_Rm, i.f7_Rs, i.f8_Ra, i.f9_Imm, i.f10_Shift, i.f11_Amount, i.f12_Pre, i.f13_Up, i.f14_Write, i.f15_List, i.f16_Tuple_CRn, i.f17_Tuple_Op1, i.f18_Tuple_CRm, i.f19_Tuple_Op2) = some v := hv
    rw [hv', Option.bind_some]
  rcases e with ⟨w, h1, h2, w0, w1⟩ | ⟨h1, h2⟩
  · rw [e0 _ h1]
    rcases decode_8 w w0 w1 with d | ⟨j, d, o1, o2, hl, _, _⟩
    · rw [d] at h2; simp at h2
    · rw [d] at h2
      simp only [Option.some.injEq, Prod.mk.injEq, and_true] at h2
      subst h2
      rw [encode_back w j o1 o2 hl d]; rfl
  · rw [e0 _ h1]
    rcases encode_8 i with he | ⟨x, he, hd, x0, x1⟩
    · rw [he]; rfl
    · exfalso
      rcases both x x0 x1 with ⟨d1, _⟩ | ⟨j, k, d1, d2⟩
      · rw [d1] at hd; simp at hd
      · rw [d1] at hd
        simp only [Option.some.injEq, Prod.mk.injEq, and_true] at hd
        subst hd
        obtain ⟨m1, m2, m3⟩ := first_spec d2
        simp only at m1 m2 m3
        unfold passV at m2
        simp only [Bool.and_eq_true] at m2
        have hw := word_row (rowD k) (List.all_eq_true.1 rows_C _ m1) x x0 x1 m2.1.1 m2.1.2
        rw [← m3] at hw m2
        exact h2 (rowD k) m1 m2.1.2 (by rw [m3]; rfl) x hw d1
theorem rright_eq (i : T26) (i0 : 0 ≤ i.f9_Imm) (i1 : i.f9_Imm < 4294967296) : atlasref19_Right.f 64 i = isa_Right.f 64 i := by
  have e1 : atlasref19_Right.f 64 i = (atlasref19_Encode.f 64 i).bind fun r1 => (some (r1.2 == 0)) := rfl
  have e2 : isa_Right.f 64 i = (isa_Encode.f 64 i).bind fun r1 => (some (r1.2 == 0)) := rfl
  rw [e1, e2, rencode_eq i i0 i1]
end Go.Va
