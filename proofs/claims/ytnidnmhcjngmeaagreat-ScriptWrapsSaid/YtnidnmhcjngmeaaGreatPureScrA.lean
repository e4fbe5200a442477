/-
  Runes and names: the program's and the document's are the same (the same texts as for Elf).
  Conditions: a text of at most 140737488351232 bytes.
-/
import Derived.Test.YtnidnmhcjngmeaaGreatVf7
import Derived.Lib.Strings

set_option linter.unusedSimpArgs false
set_option linter.unusedVariables false
set_option autoImplicit false
namespace Go.Va
theorem wrap_i64e (x : Int) (h0 : -9223372036854775808 ≤ x) (h1 : x < 9223372036854775808) : IntKind.wrap .i64 x = x := by
  have w : IntKind.wrap .i64 x = if (true && decide (x % 18446744073709551616 ≥ 9223372036854775808)) = true then x % 18446744073709551616 - 18446744073709551616 else x % 18446744073709551616 := by rfl
  rw [w]
  simp only [Bool.true_and, decide_eq_true_eq]
  split <;> omega
theorem maxLen_v : maxLen = 9223372036854775807 := by decide
/-- The decoding, of four bytes and three marks. -/
def dec4 (b0 b1 b2 b3 : Nat) (c1 c2 c3 : Bool) : Nat × Nat :=
  if b0 < 0x80 then (b0, 1)
  else if b0 / 32 == 6 && c1 then
    let c := (b0 % 32) * 64 + b1 % 64
    if c ≥ 0x80 then (c, 2) else (Utf8.runeError, 1)
  else if b0 / 16 == 14 && c1 && c2 then
    let c := (b0 % 16) * 4096 + (b1 % 64) * 64 + b2 % 64
    if c ≥ 0x800 && Utf8.valid c then (c, 3) else (Utf8.runeError, 1)
  else if b0 / 8 == 30 && c1 && c2 && c3 then
    let c := (b0 % 8) * 262144 + (b1 % 64) * 4096 + (b2 % 64) * 64 + b3 % 64
    if c ≥ 0x10000 && Utf8.valid c then (c, 4) else (Utf8.runeError, 1)
  else (Utf8.runeError, 1)
theorem decode_dec4 (s : ByteArray) (p : Nat) : Utf8.decode s p = dec4 (s.get! (p + 0)).toNat (s.get! (p + 1)).toNat (s.get! (p + 2)).toNat (s.get! (p + 3)).toNat
    (p + 1 < s.size && (s.get! (p + 1)).toNat / 64 == 2) (p + 2 < s.size && (s.get! (p + 2)).toNat / 64 == 2) (p + 3 < s.size && (s.get! (p + 3)).toNat / 64 == 2) := rfl

theorem byteAt_get (s : ByteArray) (p : Nat) (h : p < s.size) : byteAt s (p : Int) = ((s.get! p).toNat : Int) := by
  have h' : p < s.data.toList.length := by simpa using h
  have e1 : s.data.toList.getD p 0 = s.get! p := by
    rw [List.getD_eq_getElem?_getD, List.getElem?_eq_getElem h', Option.getD_some]
    have h2 : p < s.data.size := h
    show s.data.toList[p] = s.data[p]!
    rw [getElem!_pos s.data p h2]
    simp
  unfold byteAt
  rw [Int.toNat_natCast, e1]

def tl (s : ByteArray) (p : Nat) : Bool := p < s.size && (s.get! p).toNat / 64 == 2
theorem tail_eq (s : ByteArray) (p : Nat) : atlasref01_tail.f s (p : Int) = some (tl s p) := by
  unfold atlasref01_tail.f tl
  have h0 : decide ((0 : Int) ≤ (p : Int)) = true := by simp
  by_cases h : p < s.size
  · have h' : decide ((p : Int) < (s.size : Int)) = true := by simp; omega
    rw [h', cond_true, h0, byteAt_get s p h, Bool.and_self, cond_true]
    have hb : (s.get! p).toNat < 256 := (s.get! p).toNat_lt
    generalize (s.get! p).toNat = b at *
    rw [decide_eq_true h, Bool.true_and]
    by_cases h1 : (b : Int) ≥ 128
    · rw [decide_eq_true h1, cond_true, cond_true]
      congr 1
      rw [Bool.eq_iff_iff]
      simp
      omega
    · rw [decide_eq_false h1, cond_false]
      congr 1
      symm
      simp
      omega
  · have h' : decide ((p : Int) < (s.size : Int)) = false := by simp; omega
    rw [h', cond_false]
    simp [h]

theorem valid_iff (c : Nat) : Utf8.valid (c : Int) = true ↔ (c < 55296 ∨ (57344 ≤ c ∧ c ≤ 1114111)) := by
  unfold Utf8.valid
  simp
  omega

/-- What a rune comes to, as these bytes go. -/
def Told (s : ByteArray) (p b0 : Nat) (D : Nat × Nat) : Prop :=
  ∃ r : Int, atlasref01_Rune.f s (p : Int) = some (r, (D.2 : Int)) ∧ (r = (D.1 : Int) ∨ (r = -1 ∧ D.1 = 65533 ∧ D.2 = 1)) ∧
      1 ≤ D.2 ∧ p + D.2 ≤ s.size ∧ (b0 < 128 → r = (b0 : Int)) ∧ (128 ≤ b0 → r = -1 ∨ 128 ≤ r)
theorem told_bad {s : ByteArray} {p b0 : Nat} {D : Nat × Nat} (hp : p + 1 ≤ s.size) (he : D = (65533, 1)) (h128 : 128 ≤ b0) (hev : atlasref01_Rune.f s (p : Int) = some ((-1 : Int), (1 : Int))) : Told s p b0 D := by
  subst he
  exact ⟨-1, hev, .inr ⟨rfl, rfl, rfl⟩, Nat.le_refl _, hp, fun h => by omega, fun _ => .inl rfl⟩
theorem told_good {s : ByteArray} {p b0 : Nat} {D : Nat × Nat} (c n : Nat) (he : D = (c, n)) (h128 : 128 ≤ b0) (hc : 128 ≤ c) (h1 : 1 ≤ n) (h2 : p + n ≤ s.size) (hev : atlasref01_Rune.f s (p : Int) = some ((c : Int), (n : Int))) : Told s p b0 D := by
  subst he
  exact ⟨c, hev, .inl rfl, h1, h2, fun h => by omega, fun _ => .inr (by omega)⟩

set_option maxRecDepth 100000 in
set_option maxHeartbeats 2000000 in
theorem rune_core (s : ByteArray) (p b0 b1 b2 b3 : Nat) (c1 c2 c3 : Bool) (D : Nat × Nat) (hd : D = dec4 b0 b1 b2 b3 c1 c2 c3) (hn : s.size ≤ 140737488351232) (hp : p < s.size) (hb0 : b0 < 256) (hb1 : b1 < 256) (hb2 : b2 < 256) (hb3 : b3 < 256)
    (t1 : atlasref01_tail.f s ((p + 1 : Nat) : Int) = some c1) (t2 : atlasref01_tail.f s ((p + 2 : Nat) : Int) = some c2) (t3 : atlasref01_tail.f s ((p + 3 : Nat) : Int) = some c3)
    (g1 : c1 = true → p + 1 < s.size ∧ 128 ≤ b1 ∧ b1 ≤ 191) (g2 : c2 = true → p + 2 < s.size ∧ 128 ≤ b2 ∧ b2 ≤ 191) (g3 : c3 = true → p + 3 < s.size ∧ 128 ≤ b3 ∧ b3 ≤ 191)
    (K0 : byteAt s (p : Int) = (b0 : Int)) (K1 : p + 1 < s.size → byteAt s ((p + 1 : Nat) : Int) = (b1 : Int)) (K2 : p + 2 < s.size → byteAt s ((p + 2 : Nat) : Int) = (b2 : Int)) (K3 : p + 3 < s.size → byteAt s ((p + 3 : Nat) : Int) = (b3 : Int)) :
    Told s p b0 D := by
  have e1 : IntKind.wrap .i64 ((p : Int) + 1) = ((p + 1 : Nat) : Int) := by rw [wrap_i64e _ (by omega) (by omega)]; omega
  have e2 : IntKind.wrap .i64 ((p : Int) + 2) = ((p + 2 : Nat) : Int) := by rw [wrap_i64e _ (by omega) (by omega)]; omega
  have e3 : IntKind.wrap .i64 ((p : Int) + 3) = ((p + 3 : Nat) : Int) := by rw [wrap_i64e _ (by omega) (by omega)]; omega
  have w0 : IntKind.wrap .i64 (b0 : Int) = b0 := wrap_i64e _ (by omega) (by omega)
  have i0 : decide ((0 : Int) ≤ (p : Int)) = true := decide_eq_true (by omega)
  have i1 : decide ((p : Int) < (s.size : Int)) = true := decide_eq_true (by omega)
  have q1 : decide ((0 : Int) ≤ ((p + 1 : Nat) : Int)) = true := decide_eq_true (by omega)
  have q2 : decide ((0 : Int) ≤ ((p + 2 : Nat) : Int)) = true := decide_eq_true (by omega)
  have q3 : decide ((0 : Int) ≤ ((p + 3 : Nat) : Int)) = true := decide_eq_true (by omega)
  have bad := fun (he : D = (65533, 1)) (h128 : 128 ≤ b0) hev => told_bad (s := s) (p := p) (b0 := b0) (D := D) hp he h128 hev
  have good := fun (c n : Nat) (he : D = (c, n)) (h128 : 128 ≤ b0) (hc : 128 ≤ c) (h1 : 1 ≤ n) (h2 : p + n ≤ s.size) hev => told_good (s := s) (p := p) (b0 := b0) (D := D) c n he h128 hc h1 h2 hev
  unfold atlasref01_Rune.f at bad good
  simp only [i0, i1, Bool.and_self, cond_true, K0, w0, e1, e2, e3, t1, t2, t3, Option.bind_some, q1, q2, q3] at bad good
  by_cases c0 : b0 < 128
  · have hdv : D = (b0, 1) := by rw [hd]; simp only [dec4, if_pos c0]
    subst hdv
    refine ⟨b0, ?_, .inl rfl, Nat.le_refl _, hp, fun _ => rfl, fun h => by omega⟩
    unfold atlasref01_Rune.f
    simp only [i0, i1, Bool.and_self, cond_true, K0, w0, decide_eq_true (show (b0 : Int) < 128 by omega)]
    rfl
  · have h128 : 128 ≤ b0 := by omega
    simp only [decide_eq_false (show ¬ (b0 : Int) < 128 by omega), cond_false] at bad good
    by_cases r2 : 194 ≤ b0 ∧ b0 ≤ 223
    · have a1 : b0 / 32 = 6 := by omega
      simp only [decide_eq_true (show (b0 : Int) ≥ 194 by omega), decide_eq_true (show (b0 : Int) ≤ 223 by omega), cond_true] at bad good
      cases c1 with
      | true =>
        obtain ⟨x1, x2, x3⟩ := g1 rfl
        have hc : b0 % 32 * 64 + b1 % 64 ≥ 128 := by omega
        refine good (b0 % 32 * 64 + b1 % 64) 2 (by rw [hd]; simp only [dec4, if_neg c0, a1, BEq.rfl, Bool.true_and, if_true, if_pos hc]) h128 (by omega) (by omega) (by omega) ?_
        have ev : (IntKind.wrap .i64 ((IntKind.wrap .i64 ((IntKind.wrap .i64 ((IntKind.wrap .i64 ((b0 : Int) - 192)) * 64)) + (IntKind.wrap .i64 (b1 : Int)))) - 128)) = ((b0 % 32 * 64 + b1 % 64 : Nat) : Int) := by
          have m0 : b0 % 32 = b0 - 192 := by omega
          have m1 : b1 % 64 = b1 - 128 := by omega
          rw [m0, m1]
          simp (disch := omega) only [wrap_i64e]
          omega
        simp only [cond_true, decide_eq_true (show (((p + 1 : Nat) : Int)) < (s.size : Int) by omega), Bool.and_self, K1 x1, ev]
        rfl
      | false =>
        refine bad (by rw [hd]; simp only [dec4, if_neg c0, a1, show ¬ b0 / 16 = 14 by omega, show ¬ b0 / 8 = 30 by omega, BEq.rfl, Bool.and_false, Bool.false_and, Bool.false_eq_true, if_false, beq_eq_false_iff_ne.2 (show b0 / 16 ≠ 14 by omega), beq_eq_false_iff_ne.2 (show b0 / 8 ≠ 30 by omega)]; rfl) h128 rfl
    · -- what the decoding says where the first byte is below 194: nothing
      have d2 : b0 / 32 = 6 → ∀ b, dec4 b0 b1 b2 b3 b (c2) (c3) = (65533, 1) := by
        intro h b
        have l : ¬ b0 % 32 * 64 + b1 % 64 ≥ 128 := by omega
        simp only [dec4, if_neg c0, h, BEq.rfl, Bool.true_and, if_neg l, beq_eq_false_iff_ne.2 (show b0 / 16 ≠ 14 by omega), beq_eq_false_iff_ne.2 (show b0 / 8 ≠ 30 by omega), Bool.false_and, Bool.false_eq_true, if_false, ite_self]
        rfl
      by_cases r3 : 224 ≤ b0 ∧ b0 ≤ 239
      · have a1 : b0 / 16 = 14 := by omega
        have a2 : (b0 / 32 == 6) = false := beq_eq_false_iff_ne.2 (by omega)
        have a3 : (b0 / 8 == 30) = false := beq_eq_false_iff_ne.2 (by omega)
        simp only [decide_eq_true (show (b0 : Int) ≥ 194 by omega), decide_eq_false (show ¬ (b0 : Int) ≤ 223 by omega), decide_eq_true (show (b0 : Int) ≥ 224 by omega), decide_eq_true (show (b0 : Int) ≤ 239 by omega), cond_true, cond_false] at bad good
        cases c1 with
        | false =>
          exact bad (by rw [hd]; simp only [dec4, if_neg c0, a1, a2, a3, BEq.rfl, Bool.true_and, Bool.false_and, Bool.and_false, Bool.false_eq_true, if_false]; rfl) h128 rfl
        | true =>
          cases c2 with
          | false =>
            exact bad (by rw [hd]; simp only [dec4, if_neg c0, a1, a2, a3, BEq.rfl, Bool.true_and, Bool.false_and, Bool.and_false, Bool.false_eq_true, if_false]; rfl) h128 rfl
          | true =>
            obtain ⟨x1, x2, x3⟩ := g1 rfl
            obtain ⟨y1, y2, y3⟩ := g2 rfl
            have ev : (IntKind.wrap .i64 ((IntKind.wrap .i64 ((IntKind.wrap .i64 ((IntKind.wrap .i64 ((IntKind.wrap .i64 ((b0 : Int) - 224)) * 4096)) + (IntKind.wrap .i64 ((IntKind.wrap .i64 ((IntKind.wrap .i64 (b1 : Int)) - 128)) * 64)))) + (IntKind.wrap .i64 (b2 : Int)))) - 128)) = ((b0 % 16 * 4096 + b1 % 64 * 64 + b2 % 64 : Nat) : Int) := by
              have m0 : b0 % 16 = b0 - 224 := by omega
              have m1 : b1 % 64 = b1 - 128 := by omega
              have m2 : b2 % 64 = b2 - 128 := by omega
              rw [m0, m1, m2]
              simp (disch := omega) only [wrap_i64e]
              omega
            generalize hC : b0 % 16 * 4096 + b1 % 64 * 64 + b2 % 64 = c at ev
            have hcv := valid_iff c
            simp only [cond_true, decide_eq_true (show (((p + 1 : Nat) : Int)) < (s.size : Int) by omega), decide_eq_true (show (((p + 2 : Nat) : Int)) < (s.size : Int) by omega), Bool.and_self, K1 x1, K2 y1, ev] at bad good
            by_cases ok : c ≥ 2048 ∧ (c < 55296 ∨ c > 57343)
            · have ok2 : (decide (c ≥ 2048) && Utf8.valid (c : Int)) = true := by rw [Bool.and_eq_true]; exact ⟨decide_eq_true ok.1, hcv.2 (by omega)⟩
              refine good c 3 (by rw [hd]; simp only [dec4, if_neg c0, a1, a2, BEq.rfl, Bool.true_and, Bool.false_and, Bool.false_eq_true, if_false, if_true, hC, ok2]) h128 (by omega) (by omega) (by omega) ?_
              simp only [decide_eq_true (show (c : Int) ≥ 2048 by omega), cond_true]
              by_cases l : (c : Int) < 55296
              · rw [decide_eq_true l, cond_true]; rfl
              · rw [decide_eq_false l, cond_false, decide_eq_true (show (c : Int) > 57343 by omega), cond_true]; rfl
            · have ok2 : (decide (c ≥ 2048) && Utf8.valid (c : Int)) = false := by
                rw [Bool.eq_false_iff]
                intro h
                rw [Bool.and_eq_true] at h
                have h1 := of_decide_eq_true h.1
                have h2 := hcv.1 h.2
                omega
              refine bad (by rw [hd]; simp only [dec4, if_neg c0, a1, a2, BEq.rfl, Bool.true_and, Bool.false_and, Bool.false_eq_true, if_false, if_true, hC, ok2]; rfl) h128 ?_
              by_cases g : (c : Int) ≥ 2048
              · simp only [decide_eq_true g, cond_true, decide_eq_false (show ¬ (c : Int) < 55296 by omega), decide_eq_false (show ¬ (c : Int) > 57343 by omega), cond_false]
              · simp only [decide_eq_false g, cond_false]
      · have a2 : (b0 / 16 == 14) = false := beq_eq_false_iff_ne.2 (by omega)
        by_cases r4 : 240 ≤ b0 ∧ b0 ≤ 244
        · have a1 : b0 / 8 = 30 := by omega
          have a3 : (b0 / 32 == 6) = false := beq_eq_false_iff_ne.2 (by omega)
          simp only [decide_eq_true (show (b0 : Int) ≥ 194 by omega), decide_eq_false (show ¬ (b0 : Int) ≤ 223 by omega), decide_eq_true (show (b0 : Int) ≥ 224 by omega), decide_eq_false (show ¬ (b0 : Int) ≤ 239 by omega), decide_eq_true (show (b0 : Int) ≥ 240 by omega), decide_eq_true (show (b0 : Int) ≤ 244 by omega), cond_true, cond_false] at bad good
          cases c1 with
          | false => exact bad (by rw [hd]; simp only [dec4, if_neg c0, a1, a2, a3, BEq.rfl, Bool.true_and, Bool.false_and, Bool.and_false, Bool.false_eq_true, if_false]; rfl) h128 rfl
          | true =>
            cases c2 with
            | false => exact bad (by rw [hd]; simp only [dec4, if_neg c0, a1, a2, a3, BEq.rfl, Bool.true_and, Bool.false_and, Bool.and_false, Bool.false_eq_true, if_false]; rfl) h128 rfl
            | true =>
              cases c3 with
              | false => exact bad (by rw [hd]; simp only [dec4, if_neg c0, a1, a2, a3, BEq.rfl, Bool.true_and, Bool.false_and, Bool.and_false, Bool.false_eq_true, if_false]; rfl) h128 rfl
              | true =>
                obtain ⟨x1, x2, x3⟩ := g1 rfl
                obtain ⟨y1, y2, y3⟩ := g2 rfl
                obtain ⟨z1, z2, z3⟩ := g3 rfl
                have ev : (IntKind.wrap .i64 ((IntKind.wrap .i64 ((IntKind.wrap .i64 ((IntKind.wrap .i64 ((IntKind.wrap .i64 ((IntKind.wrap .i64 ((b0 : Int) - 240)) * 262144)) + (IntKind.wrap .i64 ((IntKind.wrap .i64 ((IntKind.wrap .i64 (b1 : Int)) - 128)) * 4096)))) + (IntKind.wrap .i64 ((IntKind.wrap .i64 ((IntKind.wrap .i64 (b2 : Int)) - 128)) * 64)))) + (IntKind.wrap .i64 (b3 : Int)))) - 128)) = ((b0 % 8 * 262144 + b1 % 64 * 4096 + b2 % 64 * 64 + b3 % 64 : Nat) : Int) := by
                  have m0 : b0 % 8 = b0 - 240 := by omega
                  have m1 : b1 % 64 = b1 - 128 := by omega
                  have m2 : b2 % 64 = b2 - 128 := by omega
                  have m3 : b3 % 64 = b3 - 128 := by omega
                  rw [m0, m1, m2, m3]
                  simp (disch := omega) only [wrap_i64e]
                  omega
                generalize hC : b0 % 8 * 262144 + b1 % 64 * 4096 + b2 % 64 * 64 + b3 % 64 = c at ev
                have hcv := valid_iff c
                simp only [cond_true, decide_eq_true (show (((p + 1 : Nat) : Int)) < (s.size : Int) by omega), decide_eq_true (show (((p + 2 : Nat) : Int)) < (s.size : Int) by omega), decide_eq_true (show (((p + 3 : Nat) : Int)) < (s.size : Int) by omega), Bool.and_self, K1 x1, K2 y1, K3 z1, ev] at bad good
                by_cases ok : c ≥ 65536 ∧ c ≤ 1114111
                · have ok2 : (decide (c ≥ 65536) && Utf8.valid (c : Int)) = true := by rw [Bool.and_eq_true]; exact ⟨decide_eq_true ok.1, hcv.2 (by omega)⟩
                  refine good c 4 (by rw [hd]; simp only [dec4, if_neg c0, a1, a2, a3, BEq.rfl, Bool.true_and, Bool.false_and, Bool.false_eq_true, if_false, if_true, hC, ok2]) h128 (by omega) (by omega) (by omega) ?_
                  simp only [decide_eq_true (show (c : Int) ≥ 65536 by omega), decide_eq_true (show (c : Int) ≤ 1114111 by omega), cond_true]
                  rfl
                · have ok2 : (decide (c ≥ 65536) && Utf8.valid (c : Int)) = false := by
                    rw [Bool.eq_false_iff]
                    intro h
                    rw [Bool.and_eq_true] at h
                    have h1 := of_decide_eq_true h.1
                    have h2 := hcv.1 h.2
                    omega
                  refine bad (by rw [hd]; simp only [dec4, if_neg c0, a1, a2, a3, BEq.rfl, Bool.true_and, Bool.false_and, Bool.false_eq_true, if_false, if_true, hC, ok2]; rfl) h128 ?_
                  by_cases g : (c : Int) ≥ 65536
                  · simp only [decide_eq_true g, cond_true, decide_eq_false (show ¬ (c : Int) ≤ 1114111 by omega), cond_false]
                  · simp only [decide_eq_false g, cond_false]
        · refine bad ?_ h128 ?_
          · rw [hd]
            by_cases h6 : b0 / 32 = 6
            · exact d2 h6 _
            · have a3 : (b0 / 32 == 6) = false := beq_eq_false_iff_ne.2 h6
              by_cases h8 : b0 / 8 = 30
              · have hv : Utf8.valid ((b0 % 8 * 262144 + b1 % 64 * 4096 + b2 % 64 * 64 + b3 % 64 : Nat) : Int) = false := by
                  rw [Bool.eq_false_iff]
                  intro h
                  have := (valid_iff _).1 h
                  omega
                simp only [dec4, if_neg c0, a2, a3, h8, BEq.rfl, Bool.true_and, Bool.false_and, Bool.false_eq_true, if_false, hv, Bool.and_false, ite_self]
                rfl
              · simp only [dec4, if_neg c0, a2, a3, beq_eq_false_iff_ne.2 h8, Bool.false_and, Bool.false_eq_true, if_false]
                rfl
          · by_cases l1 : (b0 : Int) ≥ 194
            · simp only [decide_eq_true l1, decide_eq_false (show ¬ (b0 : Int) ≤ 223 by omega), decide_eq_true (show (b0 : Int) ≥ 224 by omega), decide_eq_false (show ¬ (b0 : Int) ≤ 239 by omega), decide_eq_true (show (b0 : Int) ≥ 240 by omega), decide_eq_false (show ¬ (b0 : Int) ≤ 244 by omega), cond_true, cond_false]
            · simp only [decide_eq_false l1, decide_eq_false (show ¬ (b0 : Int) ≥ 224 by omega), decide_eq_false (show ¬ (b0 : Int) ≥ 240 by omega), cond_true, cond_false]

theorem rune_eq (s : ByteArray) (hn : s.size ≤ 140737488351232) (p : Nat) (hp : p < s.size) :
    ∃ r : Int, atlasref01_Rune.f s (p : Int) = some (r, ((Utf8.decode s p).2 : Int)) ∧ (r = ((Utf8.decode s p).1 : Int) ∨ (r = -1 ∧ (Utf8.decode s p).1 = 65533 ∧ (Utf8.decode s p).2 = 1)) ∧
      1 ≤ (Utf8.decode s p).2 ∧ p + (Utf8.decode s p).2 ≤ s.size := by
  have g : ∀ i, tl s i = true → i < s.size ∧ 128 ≤ (s.get! i).toNat ∧ (s.get! i).toNat ≤ 191 := fun i h => by
    simp only [tl, Bool.and_eq_true, decide_eq_true_eq, beq_iff_eq] at h
    obtain ⟨h1, h2⟩ := h
    generalize (s.get! i).toNat = b at *
    exact ⟨h1, by omega, by omega⟩
  obtain ⟨r, h1, h2, h3, h4, _⟩ := rune_core s p _ _ _ _ (tl s (p + 1)) (tl s (p + 2)) (tl s (p + 3)) _ (decode_dec4 s p) hn hp (s.get! p).toNat_lt (s.get! (p + 1)).toNat_lt (s.get! (p + 2)).toNat_lt (s.get! (p + 3)).toNat_lt
    (tail_eq s (p + 1)) (tail_eq s (p + 2)) (tail_eq s (p + 3)) (g _) (g _) (g _) (byteAt_get s p hp) (byteAt_get s (p + 1)) (byteAt_get s (p + 2)) (byteAt_get s (p + 3))
  exact ⟨r, h1, h2, h3, h4⟩
theorem rune_eq2 (s : ByteArray) (hn : s.size ≤ 140737488351232) (p : Nat) (hp : p < s.size) :
    ∃ r : Int, atlasref01_Rune.f s (p : Int) = some (r, ((Utf8.decode s p).2 : Int)) ∧ (r = ((Utf8.decode s p).1 : Int) ∨ (r = -1 ∧ (Utf8.decode s p).1 = 65533 ∧ (Utf8.decode s p).2 = 1)) ∧
      1 ≤ (Utf8.decode s p).2 ∧ p + (Utf8.decode s p).2 ≤ s.size ∧ ((s.get! p).toNat < 128 → r = ((s.get! p).toNat : Int)) ∧ (128 ≤ (s.get! p).toNat → r = -1 ∨ 128 ≤ r) := by
  have g : ∀ i, tl s i = true → i < s.size ∧ 128 ≤ (s.get! i).toNat ∧ (s.get! i).toNat ≤ 191 := fun i h => by
    simp only [tl, Bool.and_eq_true, decide_eq_true_eq, beq_iff_eq] at h
    obtain ⟨h1, h2⟩ := h
    generalize (s.get! i).toNat = b at *
    exact ⟨h1, by omega, by omega⟩
  obtain ⟨r, h1, h2, h3, h4, h5⟩ := rune_core s p _ _ _ _ (tl s (p + 1)) (tl s (p + 2)) (tl s (p + 3)) _ (decode_dec4 s p) hn hp (s.get! p).toNat_lt (s.get! (p + 1)).toNat_lt (s.get! (p + 2)).toNat_lt (s.get! (p + 3)).toNat_lt
    (tail_eq s (p + 1)) (tail_eq s (p + 2)) (tail_eq s (p + 3)) (g _) (g _) (g _) (byteAt_get s p hp) (byteAt_get s (p + 1)) (byteAt_get s (p + 2)) (byteAt_get s (p + 3))
  exact ⟨r, h1, h2, h3, h4, h5⟩
theorem wrap_u64v (x : Int) : IntKind.wrap .u64 x = x % 18446744073709551616 := by
  have w : IntKind.wrap .u64 x = if (false && decide (x % 18446744073709551616 ≥ 9223372036854775808)) = true then x % 18446744073709551616 - 18446744073709551616 else x % 18446744073709551616 := by rfl
  rw [w]; simp
theorem wrap_u64e (x : Int) (h0 : 0 ≤ x) (h1 : x < 18446744073709551616) : IntKind.wrap .u64 x = x := by rw [wrap_u64v]; omega
theorem wrap_i64n (q : Nat) (h : q < 9223372036854775807) : IntKind.wrap .i64 ((q : Int) + 1) = ((q + 1 : Nat) : Int) := by rw [wrap_i64e _ (by omega) (by omega)]; omega

/-! ### Loops over a list -/
/-! ### Names -/
def ltr (r : Int) : Bool :=
  if (97 ≤ r ∧ r ≤ 122) ∨ (65 ≤ r ∧ r ≤ 90) then true else if 192 ≤ r ∧ r ≤ 591 then r != 215 && r != 247 else if 913 ≤ r ∧ r ≤ 969 then r != 930 else false
theorem letter_eq (k : Nat) (r : Int) : words_letter.f k r = some (ltr r) := by
  unfold ltr
  simp only [words_letter.f, words_letter.q0.l]
  by_cases a : r ≥ 97 <;> by_cases b : r ≤ 122 <;> by_cases c : r ≥ 65 <;> by_cases d : r ≤ 90 <;> by_cases e : r ≥ 192 <;> by_cases f : r ≤ 591 <;> by_cases g : r ≥ 913 <;> by_cases h : r ≤ 969 <;>
    first
    | omega
    | (simp [a, b, c, d, e, f, g, h]; done)
    | (simp [a, b, c, d, e, f, g, h]; cases (r != 215) <;> rfl)
theorem rletter_eq (k : Nat) (r : Int) : atlasref01_letter.f k r = some (ltr r) := by
  unfold ltr
  simp only [atlasref01_letter.f, atlasref01_letter.q0.l, atlasref01_letter.q1.l]
  by_cases a : r ≥ 97 <;> by_cases b : r ≤ 122 <;> by_cases c : r ≥ 65 <;> by_cases d : r ≤ 90 <;> by_cases e : r ≥ 192 <;> by_cases f : r ≤ 591 <;> by_cases g : r ≥ 913 <;> by_cases h : r ≤ 969 <;>
    first
    | omega
    | (simp [a, b, c, d, e, f, g, h]; done)
    | (simp [a, b, c, d, e, f, g, h]; cases (r != 215) <;> rfl)
theorem ltr_same {r : Int} {c : Nat} (h : r = (c : Int) ∨ (r = -1 ∧ c = 65533)) : ltr r = ltr (c : Int) := by
  rcases h with rfl | ⟨rfl, rfl⟩
  · rfl
  · decide
theorem name_loop (k : Nat) (s : ByteArray) (hn : s.size ≤ 140737488351232) (d : Nat) : ∀ (p n : Nat), s.size - p ≤ d → p ≤ s.size → n ≤ p →
    ∃ r, ∀ m, d < m → words_Name.q0.l k m ((n : Int), s, p) = some r ∧ atlasref01_Name.q0.l k m (s, (n : Int), (p : Int)) = some r := by
  induction d with
  | zero =>
    intro p n hd hp h1
    refine ⟨.inr (n : Int), fun m hm => ?_⟩
    obtain ⟨m, rfl⟩ : ∃ j, m = j + 1 := ⟨m - 1, by omega⟩
    simp only [words_Name.q0.l, atlasref01_Name.q0.l, decide_eq_false (show ¬ p < s.size by omega), decide_eq_false (show ¬ (p : Int) < (s.size : Int) by omega), cond_false]
    exact ⟨trivial, trivial⟩
  | succ d ih =>
    intro p n hd hp h1
    by_cases hz : p < s.size
    · obtain ⟨r, hr, hrc, w1, w2⟩ := rune_eq s hn p hz
      have e1 : IntKind.wrap .i64 ((n : Int) + 1) = ((n + 1 : Nat) : Int) := wrap_i64n n (by omega)
      have e2 : IntKind.wrap .i64 ((p : Int) + ((Utf8.decode s p).2 : Int)) = ((p + (Utf8.decode s p).2 : Nat) : Int) := by rw [wrap_i64e _ (by omega) (by omega)]; omega
      obtain ⟨q, hq⟩ := ih (p + (Utf8.decode s p).2) (n + 1) (by omega) w2 (by omega)
      have hl := ltr_same (r := r) (c := (Utf8.decode s p).1) (hrc.imp id (fun h => ⟨h.1, h.2.1⟩))
      obtain ⟨c, hc⟩ : ∃ c : Nat, (Utf8.decode s p).1 = c := ⟨_, rfl⟩
      rw [hc] at hrc hl
      have hnz : ((n : Int) == 0) = decide (n = 0) := by by_cases h : n = 0 <;> simp [h]
      have hdg : atlasref01_digit.f r = some (decide (48 ≤ r) && decide (r ≤ 57)) := by
        unfold atlasref01_digit.f
        by_cases h : r ≥ 48
        · simp [h, show (48 : Int) ≤ r from h]
        · simp [h, show ¬ (48 : Int) ≤ r from h]
      cases hlt : ltr (c : Int) with
      | true =>
        refine ⟨q, fun m hm => ?_⟩
        obtain ⟨m, rfl⟩ : ∃ j, m = j + 1 := ⟨m - 1, by omega⟩
        obtain ⟨hq1, hq2⟩ := hq m (by omega)
        simp only [words_Name.q0.l, atlasref01_Name.q0.l, decide_eq_true hz, decide_eq_true (show (p : Int) < (s.size : Int) by omega), cond_true, letter_eq, rletter_eq, hr, hc, hl, hlt, Option.bind_some, Bool.not_true, cond_false, e1, e2]
        exact ⟨hq1, hq2⟩
      | false =>
        by_cases hn0 : n = 0
        · refine ⟨.inl false, fun m hm => ?_⟩
          obtain ⟨m, rfl⟩ : ∃ j, m = j + 1 := ⟨m - 1, by omega⟩
          simp only [words_Name.q0.l, atlasref01_Name.q0.l, decide_eq_true hz, decide_eq_true (show (p : Int) < (s.size : Int) by omega), cond_true, letter_eq, rletter_eq, hr, hc, hl, hlt, Option.bind_some, Bool.not_false, hnz, decide_eq_true hn0]
          exact ⟨trivial, trivial⟩
        · by_cases h95 : c = 95
          · have hr95 : r = 95 := by rcases hrc with h | h <;> omega
            refine ⟨q, fun m hm => ?_⟩
            obtain ⟨m, rfl⟩ : ∃ j, m = j + 1 := ⟨m - 1, by omega⟩
            obtain ⟨hq1, hq2⟩ := hq m (by omega)
            have g1 : (((c : Nat) : Int) != 95) = false := by rw [h95]; rfl
            have g2 : ((r : Int) != 95) = false := by rw [hr95]; rfl
            simp only [words_Name.q0.l, atlasref01_Name.q0.l, decide_eq_true hz, decide_eq_true (show (p : Int) < (s.size : Int) by omega), cond_true, letter_eq, rletter_eq, hr, hc, hl, hlt, Option.bind_some, Bool.not_false, hnz, decide_eq_false hn0, cond_false, g1, g2, hdg, decide_eq_true (show (48 : Int) ≤ r by omega), decide_eq_false (show ¬ r ≤ 57 by omega), Bool.and_false, e1, e2]
            exact ⟨hq1, hq2⟩
          · have hr95 : r ≠ 95 := by rcases hrc with h | h <;> omega
            have g1 : (((c : Nat) : Int) != 95) = true := by rw [bne_iff_ne]; omega
            have g2 : ((r : Int) != 95) = true := by rw [bne_iff_ne]; exact hr95
            by_cases hdc : 48 ≤ c ∧ c ≤ 57
            · have hrd : 48 ≤ r ∧ r ≤ 57 := by rcases hrc with h | h <;> omega
              refine ⟨q, fun m hm => ?_⟩
              obtain ⟨m, rfl⟩ : ∃ j, m = j + 1 := ⟨m - 1, by omega⟩
              obtain ⟨hq1, hq2⟩ := hq m (by omega)
              simp only [words_Name.q0.l, atlasref01_Name.q0.l, decide_eq_true hz, decide_eq_true (show (p : Int) < (s.size : Int) by omega), cond_true, letter_eq, rletter_eq, hr, hc, hl, hlt, Option.bind_some, Bool.not_false, hnz, decide_eq_false hn0, cond_false, g1, hdg, decide_eq_true hrd.1, decide_eq_true hrd.2, Bool.and_self, Bool.not_true, decide_eq_false (show ¬ (c : Int) < 48 by omega), decide_eq_false (show ¬ (c : Int) > 57 by omega), e1, e2]
              exact ⟨hq1, hq2⟩
            · have hrd : ¬ (48 ≤ r ∧ r ≤ 57) := by rcases hrc with h | h <;> omega
              have hrd2 : (decide (48 ≤ r) && decide (r ≤ 57)) = false := by
                rw [Bool.and_eq_false_iff, decide_eq_false_iff_not, decide_eq_false_iff_not]; omega
              refine ⟨.inl false, fun m hm => ?_⟩
              obtain ⟨m, rfl⟩ : ∃ j, m = j + 1 := ⟨m - 1, by omega⟩
              simp only [words_Name.q0.l, atlasref01_Name.q0.l, decide_eq_true hz, decide_eq_true (show (p : Int) < (s.size : Int) by omega), cond_true, letter_eq, rletter_eq, hr, hc, hl, hlt, Option.bind_some, Bool.not_false, hnz, decide_eq_false hn0, cond_false, g1, g2, hdg, hrd2]
              refine ⟨?_, trivial⟩
              by_cases h48 : (c : Int) < 48
              · rw [decide_eq_true h48, cond_true]
              · rw [decide_eq_false h48, cond_false, decide_eq_true (show (c : Int) > 57 by omega), cond_true]
    · refine ⟨.inr (n : Int), fun m hm => ?_⟩
      obtain ⟨m, rfl⟩ : ∃ j, m = j + 1 := ⟨m - 1, by omega⟩
      simp only [words_Name.q0.l, atlasref01_Name.q0.l, decide_eq_false hz, decide_eq_false (show ¬ (p : Int) < (s.size : Int) by omega), cond_false]
      exact ⟨trivial, trivial⟩
/-- Is the text a name? -/
def nameB (s : ByteArray) : Bool := optD (words_Name.f (s.size + 1) s) false
theorem name_k (k k' : Nat) : ∀ (m : Nat) (x : Int × ByteArray × Nat), words_Name.q0.l k m x = words_Name.q0.l k' m x := by
  intro m
  induction m with
  | zero => intro x; rfl
  | succ m ih =>
    intro x
    simp only [words_Name.q0.l, letter_eq, ih]
theorem name_eq (s : ByteArray) (hn : s.size ≤ 140737488351232) (k : Nat) (hk : s.size < k) : words_Name.f k s = some (nameB s) ∧ atlasref01_Name.f k s = some (nameB s) := by
  obtain ⟨r, hr⟩ := name_loop k s hn s.size 0 0 (by omega) (by omega) (by omega)
  have h1 := hr k hk
  have h2 := (hr (s.size + 1) (by omega)).1
  have e1 : words_Name.q0.l k k (0, s, 0) = some r := h1.1
  have e2 : atlasref01_Name.q0.l k k (s, 0, 0) = some r := h1.2
  have e3 : words_Name.q0.l k (s.size + 1) (0, s, 0) = some r := h2
  rw [name_k k (s.size + 1)] at e3
  unfold nameB words_Name.f atlasref01_Name.f
  rw [e1, e2, e3]
  cases r with
  | inl r => exact ⟨rfl, rfl⟩
  | inr r =>
    simp only [Option.bind_some, Sum.elim_inr]
    cases decide (r ≥ 1) <;> exact ⟨rfl, rfl⟩

end Go.Va

/-
  Numbers: the program's and the document's are the same.
  Conditions: a text of at most 140737488351232 bytes.
-/
namespace Go.Va
/-- The worth of a digit, or -1. -/
def dg (b base : Int) : Int := if 48 ≤ b ∧ b ≤ 57 then b - 48 else if base = 16 ∧ 97 ≤ b ∧ b ≤ 102 then b - 87 else if base = 16 ∧ 65 ≤ b ∧ b ≤ 70 then b - 55 else -1
theorem dg_range (b base : Int) : -1 ≤ dg b base ∧ dg b base ≤ 15 := by
  unfold dg
  split
  · omega
  · split
    · omega
    · split <;> omega
theorem dg95 (base : Int) : dg 95 base = -1 := by
  unfold dg
  rw [if_neg (by omega), if_neg (by omega), if_neg (by omega)]
theorem byteAt_range (s : ByteArray) (i : Int) : 0 ≤ byteAt s i ∧ byteAt s i ≤ 255 := by
  unfold byteAt
  have := (s.data.toList.getD i.toNat 0).toNat_lt
  omega
theorem byte_fin {b : Int} (h : 0 ≤ b ∧ b ≤ 255) : ∃ n : Fin 256, b = (n.val : Int) := ⟨⟨b.toNat, by omega⟩, by simp; omega⟩
theorem digit10 : ∀ n : Fin 256, words_digit.f (n.val : Int) 10 = some (if 0 ≤ dg (n.val : Int) 10 then (dg (n.val : Int) 10, true) else (0, false)) := by decide +kernel
theorem digit16 : ∀ n : Fin 256, words_digit.f (n.val : Int) 16 = some (if 0 ≤ dg (n.val : Int) 16 then (dg (n.val : Int) 16, true) else (0, false)) := by decide +kernel
theorem worth10 : ∀ n : Fin 256, atlasref01_worth.f (n.val : Int) 10 = some (dg (n.val : Int) 10) := by decide +kernel
theorem worth16 : ∀ n : Fin 256, atlasref01_worth.f (n.val : Int) 16 = some (dg (n.val : Int) 16) := by decide +kernel
theorem digit_eq (b base : Int) (hb : 0 ≤ b ∧ b ≤ 255) (hs : base = 10 ∨ base = 16) : words_digit.f b base = some (if 0 ≤ dg b base then (dg b base, true) else (0, false)) := by
  obtain ⟨n, rfl⟩ := byte_fin hb
  rcases hs with rfl | rfl
  · exact digit10 n
  · exact digit16 n
theorem worth_eq (b base : Int) (hb : 0 ≤ b ∧ b ≤ 255) (hs : base = 10 ∨ base = 16) : atlasref01_worth.f b base = some (dg b base) := by
  obtain ⟨n, rfl⟩ := byte_fin hb
  rcases hs with rfl | rfl
  · exact worth10 n
  · exact worth16 n
def fin1 : (Int × Int) ⊕ (Int × Bool) → Int × Int
  | .inl r => r
  | .inr r => bif r.2 then (r.1, 0) else (0, 11)
def fin2 : (Int × Int) ⊕ Int → Int × Int
  | .inl r => r
  | .inr r => (r, 0)
theorem wnum_step (k m : Nat) (s : ByteArray) (base v i : Int) (ah : Bool) (hs : base = 10 ∨ base = 16) (hn : s.size ≤ 140737488351232) (h0 : 0 ≤ i) (h1 : i < (s.size : Int)) (v0 : 0 ≤ v) (v1 : v < 1099511627776) :
    words_Number.q0.l k (m + 1) (s, base, v, ah, (s.size : Int), i) = if 0 ≤ dg (byteAt s i) base then (if v * base + dg (byteAt s i) base ≥ 1099511627776 then some (.inl (0, 11)) else words_Number.q0.l k m (s, base, v * base + dg (byteAt s i) base, true, (s.size : Int), i + 1))
      else if byteAt s i = 95 ∧ ah = true then words_Number.q0.l k m (s, base, v, false, (s.size : Int), i + 1) else some (.inl (0, 11)) := by
  have hr := dg_range (byteAt s i) base
  have e1 : IntKind.wrap .i64 (i + 1) = i + 1 := by rw [wrap_i64e _ (by omega) (by omega)]
  simp only [words_Number.q0.l, decide_eq_true h0, decide_eq_true h1, Bool.and_self, cond_true, digit_eq _ _ (byteAt_range s i) hs, Option.bind_some, e1]
  by_cases hd : 0 ≤ dg (byteAt s i) base
  · have w1 : IntKind.wrap .u64 (v * base) = v * base := by rw [wrap_u64e] <;> rcases hs with rfl | rfl <;> omega
    have w2 : IntKind.wrap .u64 (v * base + dg (byteAt s i) base) = v * base + dg (byteAt s i) base := by rw [wrap_u64e] <;> rcases hs with rfl | rfl <;> omega
    simp only [if_pos hd, Bool.not_true, cond_false, w1, w2]
    by_cases hb : v * base + dg (byteAt s i) base ≥ 1099511627776
    · simp only [decide_eq_true hb, cond_true, if_pos hb]
    · simp only [decide_eq_false hb, cond_false, if_neg hb]
  · simp only [if_neg hd, Bool.not_false, cond_true]
    by_cases h95 : byteAt s i = 95
    · simp only [h95, show ((95 : Int) != 95) = false from rfl, cond_false, true_and]
      cases ah <;> simp
    · have : (byteAt s i != 95) = true := by rw [bne_iff_ne]; exact h95
      simp only [this, cond_true, h95, false_and, if_false]
theorem num_loop (k : Nat) (s : ByteArray) (base : Int) (hs : base = 10 ∨ base = 16) (hn : s.size ≤ 140737488351232) (d : Nat) : ∀ (i v : Int) (ah : Bool), 0 ≤ i → i + d = s.size → 0 ≤ v → v < 1099511627776 →
    (ah = true ↔ (0 < i ∧ 0 ≤ dg (byteAt s (i - 1)) base)) → (0 < i → ah = false → i < s.size ∧ 0 ≤ dg (byteAt s i) base) → (0 < s.size) →
    ∃ a b, (∀ m, d < m → words_Number.q0.l k m (s, base, v, ah, (s.size : Int), i) = some a ∧ atlasref01_Number.q1.l k m (s, base, v, i) = some b) ∧ fin1 a = fin2 b ∧ (0 ≤ (fin2 b).1 ∧ (fin2 b).1 < 1099511627776) ∧ ((fin2 b).2 = 0 ∨ (fin2 b).2 = 11) := by
  induction d with
  | zero =>
    intro i v ah h0 hd v0 v1 ha hb hz
    have hi : ¬ i < (s.size : Int) := by omega
    have hah : ah = true := by
      cases ah with
      | true => rfl
      | false => exact absurd (hb (by omega) rfl).1 hi
    subst hah
    refine ⟨.inr (v, true), .inr v, fun m hm => ?_, rfl, ⟨v0, v1⟩, .inl rfl⟩
    obtain ⟨m, rfl⟩ : ∃ j, m = j + 1 := ⟨m - 1, by omega⟩
    simp only [words_Number.q0.l, atlasref01_Number.q1.l, decide_eq_false hi, cond_false]
    exact ⟨trivial, trivial⟩
  | succ d ih =>
    intro i v ah h0 hd v0 v1 ha hb hz
    have hi : i < (s.size : Int) := by omega
    have hbt := byteAt_range s i
    have hdr := dg_range (byteAt s i) base
    have e1 : IntKind.wrap .i64 (i + 1) = i + 1 := by rw [wrap_i64e _ (by omega) (by omega)]
    have e2 : IntKind.wrap .i64 (i - 1) = i - 1 := by rw [wrap_i64e _ (by omega) (by omega)]
    have e3 : IntKind.wrap .i64 ((s.size : Int) - 1) = s.size - 1 := by rw [wrap_i64e _ (by omega) (by omega)]
    by_cases hdg : 0 ≤ dg (byteAt s i) base
    · have h95 : ¬ byteAt s i = 95 := by
        intro h
        rw [h, dg95] at hdg
        omega
      have h95b : (byteAt s i == 95) = false := by rw [beq_eq_false_iff_ne]; exact h95
      have w2 : IntKind.wrap .i64 ((IntKind.wrap .i64 (v * base)) + dg (byteAt s i) base) = v * base + dg (byteAt s i) base := by
        rw [wrap_i64e (v * base), wrap_i64e] <;> rcases hs with rfl | rfl <;> omega
      have hneg : decide (dg (byteAt s i) base < 0) = false := decide_eq_false (by omega)
      by_cases hbig : v * base + dg (byteAt s i) base ≥ 1099511627776
      · refine ⟨.inl (0, 11), .inl (0, 11), fun m hm => ?_, rfl, by decide, .inr rfl⟩
        obtain ⟨m, rfl⟩ : ∃ j, m = j + 1 := ⟨m - 1, by omega⟩
        refine ⟨?_, ?_⟩
        · rw [wnum_step k m s base v i ah hs hn h0 hi v0 v1, if_pos hdg, if_pos hbig]
        · simp only [atlasref01_Number.q1.l, decide_eq_true h0, decide_eq_true hi, Bool.and_self, cond_true, h95b, cond_false, worth_eq _ _ hbt hs, Option.bind_some, hneg, w2, decide_eq_true hbig]
      · obtain ⟨a, b, hr, hf⟩ := ih (i + 1) (v * base + dg (byteAt s i) base) true (by omega) (by omega) (by rcases hs with rfl | rfl <;> omega) (by omega)
          ⟨fun _ => ⟨by omega, by rw [Int.add_sub_cancel]; exact hdg⟩, fun _ => rfl⟩ (fun _ h => by cases h) hz
        refine ⟨a, b, fun m hm => ?_, hf⟩
        obtain ⟨m, rfl⟩ : ∃ j, m = j + 1 := ⟨m - 1, by omega⟩
        obtain ⟨r1, r2⟩ := hr m (by omega)
        refine ⟨?_, ?_⟩
        · rw [wnum_step k m s base v i ah hs hn h0 hi v0 v1, if_pos hdg, if_neg hbig]; exact r1
        · simp only [atlasref01_Number.q1.l, decide_eq_true h0, decide_eq_true hi, Bool.and_self, cond_true, h95b, cond_false, worth_eq _ _ hbt hs, Option.bind_some, hneg, w2, decide_eq_false hbig, e1]
          exact r2
    · by_cases h95 : byteAt s i = 95
      · have h95b : (byteAt s i == 95) = true := by rw [beq_iff_eq]; exact h95
        cases ah with
        | false =>
          have hi0 : i = 0 := by
            by_cases hz : 0 < i
            · exact absurd (hb hz rfl).2 hdg
            · omega
          refine ⟨.inl (0, 11), .inl (0, 11), fun m hm => ?_, rfl, by decide, .inr rfl⟩
          obtain ⟨m, rfl⟩ : ∃ j, m = j + 1 := ⟨m - 1, by omega⟩
          refine ⟨?_, ?_⟩
          · rw [wnum_step k m s base v i false hs hn h0 hi v0 v1, if_neg hdg, if_neg (by simp)]
          · have hib : (i == 0) = true := by rw [beq_iff_eq]; exact hi0
            simp only [atlasref01_Number.q1.l, decide_eq_true h0, decide_eq_true hi, Bool.and_self, cond_true, h95b, hib]
        | true =>
          obtain ⟨hpos, hprev⟩ := ha.1 rfl
          have hib : (i == 0) = false := by rw [beq_eq_false_iff_ne]; omega
          have hm0 : 0 ≤ i - 1 := by omega
          have hm1 : i - 1 < (s.size : Int) := by omega
          have hpn : decide (dg (byteAt s (i - 1)) base < 0) = false := decide_eq_false (by omega)
          by_cases hlast : i = (s.size : Int) - 1
          · refine ⟨.inr (v, false), .inl (0, 11), fun m hm => ?_, rfl, by decide, .inr rfl⟩
            obtain ⟨m, rfl⟩ : ∃ j, m = j + 1 + 1 := ⟨m - 2, by omega⟩
            refine ⟨?_, ?_⟩
            · rw [wnum_step k (m + 1) s base v i true hs hn h0 hi v0 v1, if_neg hdg, if_pos ⟨h95, rfl⟩]
              simp only [words_Number.q0.l, decide_eq_false (show ¬ i + 1 < (s.size : Int) by omega), cond_false]
            · have hlb : (i == (s.size : Int) - 1) = true := by rw [beq_iff_eq]; exact hlast
              simp only [atlasref01_Number.q1.l, decide_eq_true h0, decide_eq_true hi, Bool.and_self, cond_true, h95b, hib, cond_false, e3, hlb]
          · have hlb : (i == (s.size : Int) - 1) = false := by rw [beq_eq_false_iff_ne]; exact hlast
            have hn0 : 0 ≤ i + 1 := by omega
            have hn1 : i + 1 < (s.size : Int) := by omega
            by_cases hnext : 0 ≤ dg (byteAt s (i + 1)) base
            · obtain ⟨a, b, hr, hf⟩ := ih (i + 1) v false (by omega) (by omega) v0 v1
                ⟨fun h => (by cases h), fun h => absurd h.2 (by rw [Int.add_sub_cancel]; exact hdg)⟩ (fun _ _ => ⟨hn1, hnext⟩) hz
              refine ⟨a, b, fun m hm => ?_, hf⟩
              obtain ⟨m, rfl⟩ : ∃ j, m = j + 1 := ⟨m - 1, by omega⟩
              obtain ⟨r1, r2⟩ := hr m (by omega)
              refine ⟨?_, ?_⟩
              · rw [wnum_step k m s base v i true hs hn h0 hi v0 v1, if_neg hdg, if_pos ⟨h95, rfl⟩]; exact r1
              · simp only [atlasref01_Number.q1.l, decide_eq_true h0, decide_eq_true hi, Bool.and_self, cond_true, h95b, hib, cond_false, e3, hlb, e2, decide_eq_true hm0, decide_eq_true hm1, worth_eq _ _ (byteAt_range s (i - 1)) hs, Option.bind_some, hpn, e1, decide_eq_true hn0, decide_eq_true hn1,
                  worth_eq _ _ (byteAt_range s (i + 1)) hs, decide_eq_false (show ¬ dg (byteAt s (i + 1)) base < 0 by omega)]
                exact r2
            · refine ⟨.inl (0, 11), .inl (0, 11), fun m hm => ?_, rfl, by decide, .inr rfl⟩
              obtain ⟨m, rfl⟩ : ∃ j, m = j + 1 + 1 := ⟨m - 2, by omega⟩
              refine ⟨?_, ?_⟩
              · rw [wnum_step k (m + 1) s base v i true hs hn h0 hi v0 v1, if_neg hdg, if_pos ⟨h95, rfl⟩, wnum_step k m s base v (i + 1) false hs hn hn0 hn1 v0 v1, if_neg hnext, if_neg (by simp)]
              · simp only [atlasref01_Number.q1.l, decide_eq_true h0, decide_eq_true hi, Bool.and_self, cond_true, h95b, hib, cond_false, e3, hlb, e2, decide_eq_true hm0, decide_eq_true hm1, worth_eq _ _ (byteAt_range s (i - 1)) hs, Option.bind_some, hpn, e1, decide_eq_true hn0, decide_eq_true hn1,
                  worth_eq _ _ (byteAt_range s (i + 1)) hs, decide_eq_true (show dg (byteAt s (i + 1)) base < 0 by omega)]
      · have h95b : (byteAt s i == 95) = false := by rw [beq_eq_false_iff_ne]; exact h95
        refine ⟨.inl (0, 11), .inl (0, 11), fun m hm => ?_, rfl, by decide, .inr rfl⟩
        obtain ⟨m, rfl⟩ : ∃ j, m = j + 1 := ⟨m - 1, by omega⟩
        refine ⟨?_, ?_⟩
        · rw [wnum_step k m s base v i ah hs hn h0 hi v0 v1, if_neg hdg, if_neg (fun h => h95 h.1)]
        · simp only [atlasref01_Number.q1.l, decide_eq_true h0, decide_eq_true hi, Bool.and_self, cond_true, h95b, cond_false, worth_eq _ _ hbt hs, Option.bind_some, decide_eq_true (show dg (byteAt s i) base < 0 by omega)]
/-- From the cut on. -/
theorem num_rest (s : ByteArray) (base : Int) (hs : base = 10 ∨ base = 16) (hn : s.size ≤ 140737488351232) : ∃ r : Int × Int, (0 ≤ r.1 ∧ r.1 < 1099511627776) ∧ (r.2 = 0 ∨ r.2 = 11) ∧ ∀ k m, s.size < m → s.size < k →
    (words_Number.q0.l k m (s, base, 0, false, (s.size : Int), 0)).map fin1 = some r ∧ atlasref01_Number.q0.l k (s, base) = some r := by
  by_cases hz : s.size = 0
  · refine ⟨(0, 11), by decide, .inr rfl, fun k m hm hk => ?_⟩
    obtain ⟨m, rfl⟩ : ∃ j, m = j + 1 := ⟨m - 1, by omega⟩
    have hzb : ((s.size : Int) == 0) = true := by rw [hz]; rfl
    simp only [words_Number.q0.l, atlasref01_Number.q0.l, decide_eq_false (show ¬ (0 : Int) < (s.size : Int) by omega), cond_false, hzb, cond_true]
    exact ⟨rfl, trivial⟩
  · have hl := fun k => num_loop k s base hs hn s.size 0 0 false (by omega) (by omega) (by omega) (by omega) ⟨fun h => (by cases h), fun h => absurd h.1 (by omega)⟩ (fun h => absurd h (by omega)) (by omega)
    have hzb : ((s.size : Int) == 0) = false := by rw [beq_eq_false_iff_ne]; omega
    have wk : ∀ k k' m x, words_Number.q0.l k m x = words_Number.q0.l k' m x := by
      intro k k' m
      induction m with
      | zero => intro x; rfl
      | succ m ih => intro x; simp only [words_Number.q0.l, ih]
    have rk : ∀ k k' m x, atlasref01_Number.q1.l k m x = atlasref01_Number.q1.l k' m x := by
      intro k k' m
      induction m with
      | zero => intro x; rfl
      | succ m ih => intro x; simp only [atlasref01_Number.q1.l, ih]
    obtain ⟨a, b, hab, hf, hr, h2⟩ := hl 0
    refine ⟨fin2 b, hr, h2, fun k m hm hk => ?_⟩
    obtain ⟨r1, _⟩ := hab m hm
    obtain ⟨_, r2⟩ := hab k hk
    rw [wk k 0, r1]
    simp only [atlasref01_Number.q0.l, hzb, cond_false]
    rw [rk k 0, r2]
    refine ⟨congrArg some hf, ?_⟩
    cases b with
    | inl r => rfl
    | inr r =>
      simp only [Option.bind_some, Sum.elim_inr, fin2]
      have hr1 : 0 ≤ r ∧ r < 1099511627776 := hr
      rw [wrap_u64e r hr1.1 (by omega)]
theorem ahead_iff (s : ByteArray) (h : 2 ≤ s.size) : ((s.extract 0 2).toList == (⟨#[48, 120]⟩ : ByteArray).toList) = ((byteAt s 0 == 48) && (byteAt s 1 == 120)) := by
  have e : (⟨#[48, 120]⟩ : ByteArray).toList = [48, 120] := by decide +kernel
  rw [e, Lib.toList_data, Lib.extract_data]
  obtain ⟨⟨l⟩⟩ := s
  match l, h with
  | a :: b :: l, _ =>
    have e0 : byteAt ⟨⟨a :: b :: l⟩⟩ 0 = (a.toNat : Int) := rfl
    have e1 : byteAt ⟨⟨a :: b :: l⟩⟩ 1 = (b.toNat : Int) := rfl
    rw [e0, e1, Bool.eq_iff_iff]
    simp [← UInt8.toNat_inj]
    omega
  | [_], h => simp [ByteArray.size] at h
  | [], h => simp [ByteArray.size] at h
theorem extract_size_le (s : ByteArray) (a : Nat) : (s.extract a s.size).size ≤ s.size := by
  rw [ByteArray.size_extract]
  omega
theorem num_out (o : Option ((Int × Int) ⊕ (Int × Bool))) : (o.bind fun r => Sum.elim (fun r3 : Int × Int => some (r3.1, r3.2)) (fun r4 : Int × Bool => bif (!r4.2) then (some (0, 11)) else (some (r4.1, 0))) r) = o.map fin1 := by
  rcases o with _ | (r | ⟨r, b⟩)
  · rfl
  · rfl
  · cases b <;> rfl
theorem pair_out (o : Option (Int × Int)) : (o.bind fun r => some (r.1, r.2)) = o := by cases o <;> rfl
theorem number_eq (s : ByteArray) (hn : s.size ≤ 140737488351232) : ∃ r : Int × Int, (0 ≤ r.1 ∧ r.1 < 1099511627776) ∧ (r.2 = 0 ∨ r.2 = 11) ∧ ∀ k, s.size < k → words_Number.f k s = some r ∧ atlasref01_Number.f k s = some r := by
  have hsm := num_rest s 10 (.inl rfl) hn
  have hle := extract_size_le s 2
  have hlg := num_rest (s.extract 2 s.size) 16 (.inr rfl) (by omega)
  obtain ⟨rs, s1, s2, s3⟩ := hsm
  obtain ⟨rl, l1, l2, l3⟩ := hlg
  by_cases h2 : s.size ≥ 2
  · have d1 : decide ((s.size : Int) ≥ 2) = true := decide_eq_true (by omega)
    have d2 : decide ((2 : Int) ≤ (s.size : Int)) = true := decide_eq_true (by omega)
    have d3 : decide ((0 : Int) < (s.size : Int)) = true := decide_eq_true (by omega)
    have d4 : decide ((1 : Int) < (s.size : Int)) = true := decide_eq_true (by omega)
    have d5 : decide ((0 : Int) ≤ 2) = true := rfl
    have d6 : decide ((0 : Int) ≤ 0) = true := rfl
    have d7 : decide ((0 : Int) ≤ 1) = true := rfl
    have ha := ahead_iff s h2
    by_cases h48 : byteAt s 0 = 48
    · by_cases h120 : byteAt s 1 = 120
      · refine ⟨rl, l1, l2, fun k hk => ?_⟩
        obtain ⟨a1, a2⟩ := l3 k k (by omega) (by omega)
        have b1 : (byteAt s 0 == 48) = true := by rw [beq_iff_eq]; exact h48
        have b2 : (byteAt s 1 == 120) = true := by rw [beq_iff_eq]; exact h120
        unfold words_Number.f atlasref01_Number.f
        simp only [d1, d2, d3, d4, d5, d6, d7, Bool.and_self, cond_true, ha, b1, b2, num_out, pair_out]
        exact ⟨a1, a2⟩
      · refine ⟨rs, s1, s2, fun k hk => ?_⟩
        obtain ⟨a1, a2⟩ := s3 k k (by omega) (by omega)
        have b1 : (byteAt s 0 == 48) = true := by rw [beq_iff_eq]; exact h48
        have b2 : (byteAt s 1 == 120) = false := by rw [beq_eq_false_iff_ne]; exact h120
        unfold words_Number.f atlasref01_Number.f
        simp only [d1, d2, d3, d4, d5, d6, d7, Bool.and_self, Bool.and_false, cond_true, cond_false, ha, b1, b2, num_out, pair_out]
        exact ⟨a1, a2⟩
    · refine ⟨rs, s1, s2, fun k hk => ?_⟩
      obtain ⟨a1, a2⟩ := s3 k k (by omega) (by omega)
      have b1 : (byteAt s 0 == 48) = false := by rw [beq_eq_false_iff_ne]; exact h48
      unfold words_Number.f atlasref01_Number.f
      simp only [d1, d2, d3, d4, d5, d6, d7, Bool.and_self, Bool.false_and, cond_true, cond_false, ha, b1, num_out, pair_out]
      exact ⟨a1, a2⟩
  · have d1 : decide ((s.size : Int) ≥ 2) = false := decide_eq_false (by omega)
    refine ⟨rs, s1, s2, fun k hk => ?_⟩
    obtain ⟨a1, a2⟩ := s3 k k (by omega) (by omega)
    unfold words_Number.f atlasref01_Number.f
    simp only [d1, cond_false, num_out, pair_out]
    exact ⟨a1, a2⟩
end Go.Va

/-
  Sizes, rights, the words of a line: the program's and the document's are the same.
  Conditions: a text of at most 1048576 bytes.
-/
namespace Go.Va
/-! ### Sizes -/
def sizeP (s : ByteArray) : Int × Int := if s.toList = [52, 107] then (1, 0) else if s.toList = [54, 52, 107] then (2, 0) else if s.toList = [49, 109] then (3, 0) else if s.toList = [49, 54, 109] then (4, 0) else (0, 12)
theorem tl_4k : (⟨#[52, 107]⟩ : ByteArray).toList = [52, 107] := by decide +kernel
theorem tl_64k : (⟨#[54, 52, 107]⟩ : ByteArray).toList = [54, 52, 107] := by decide +kernel
theorem tl_1m : (⟨#[49, 109]⟩ : ByteArray).toList = [49, 109] := by decide +kernel
theorem tl_16m : (⟨#[49, 54, 109]⟩ : ByteArray).toList = [49, 54, 109] := by decide +kernel
theorem beq_sym (a b : List UInt8) : (a == b) = decide (b = a) := by
  by_cases h : b = a
  · subst h; simp
  · rw [decide_eq_false h, beq_eq_false_iff_ne]; exact fun e => h e.symm
theorem size_eq (s : ByteArray) (k : Nat) (hk : 5 < k) : words_Size.f k s = some (sizeP s) ∧ atlasref01_Size.f k s = some (sizeP s) := by
  obtain ⟨m, rfl⟩ : ∃ m, k = m + 1 + 1 + 1 + 1 + 1 := ⟨k - 5, by omega⟩
  have w1 : words_SizeText.f 1 = some ⟨#[52, 107]⟩ := rfl
  have w2 : words_SizeText.f 2 = some ⟨#[54, 52, 107]⟩ := rfl
  have w3 : words_SizeText.f 3 = some ⟨#[49, 109]⟩ := rfl
  have w4 : words_SizeText.f 4 = some ⟨#[49, 54, 109]⟩ := rfl
  have r1 : atlasref01_SizeText.f 1 = some ⟨#[52, 107]⟩ := rfl
  have r2 : atlasref01_SizeText.f 2 = some ⟨#[54, 52, 107]⟩ := rfl
  have r3 : atlasref01_SizeText.f 3 = some ⟨#[49, 109]⟩ := rfl
  have r4 : atlasref01_SizeText.f 4 = some ⟨#[49, 54, 109]⟩ := rfl
  have e1 : IntKind.wrap .i64 (1 + 1) = 2 := by decide
  have e2 : IntKind.wrap .i64 (2 + 1) = 3 := by decide
  have e3 : IntKind.wrap .i64 (3 + 1) = 4 := by decide
  have e4 : IntKind.wrap .i64 (4 + 1) = 5 := by decide
  unfold words_Size.f atlasref01_Size.f sizeP
  simp only [words_Size.q0.l, atlasref01_Size.q0.l, w1, w2, w3, w4, r1, r2, r3, r4, e1, e2, e3, e4, Option.bind_some, tl_4k, tl_64k, tl_1m, tl_16m, beq_sym,
    show decide ((1 : Int) ≤ 4) = true from rfl, show decide ((2 : Int) ≤ 4) = true from rfl, show decide ((3 : Int) ≤ 4) = true from rfl, show decide ((4 : Int) ≤ 4) = true from rfl, show decide ((5 : Int) ≤ 4) = false from rfl,
    show decide ((1 : Int) < 5) = true from rfl, show decide ((2 : Int) < 5) = true from rfl, show decide ((3 : Int) < 5) = true from rfl, show decide ((4 : Int) < 5) = true from rfl, show decide ((5 : Int) < 5) = false from rfl, cond_true, cond_false]
  by_cases a1 : s.toList = [52, 107]
  · simp [a1]
  by_cases a2 : s.toList = [54, 52, 107]
  · simp [a2]
  by_cases a3 : s.toList = [49, 109]
  · simp [a3]
  by_cases a4 : s.toList = [49, 54, 109]
  · simp [a4]
  simp [a1, a2, a3, a4]
/-! ### The words of a line -/
def blk (r : Int) : Bool := r == 9 || r == 13 || r == 32 || r == 160 || r == 8195 || r == 12288
theorem blank_eq (r : Int) : words_blank.f r = some (blk r) := by
  unfold words_blank.f blk
  cases r == 9 <;> cases r == 13 <;> cases r == 32 <;> cases r == 160 <;> cases r == 8195 <;> cases r == 12288 <;> rfl
theorem rblank_eq (r : Int) : atlasref01_Blank.f r = some (blk r) := blank_eq r
theorem blk_same {r : Int} {c : Nat} (h : r = (c : Int) ∨ (r = -1 ∧ c = 65533)) : blk r = blk (c : Int) := by
  rcases h with rfl | ⟨rfl, rfl⟩
  · rfl
  · decide
/-- The words so far, and the last one's beginning, behind a rune that is no #. -/
def fstep (s : ByteArray) (bl : Bool) (p : Nat) (x : Int × List ByteArray) : Int × List ByteArray := match bl with
  | true => if 0 ≤ x.1 then (-1, x.2 ++ [s.extract x.1.toNat p]) else x
  | false => if 0 ≤ x.1 then x else ((p : Int), x.2)
/-- What the loop comes to: where it ends, the last word's beginning, the words so far. -/
def floop (s : ByteArray) : Nat → Nat → Int × List ByteArray → Nat × Int × List ByteArray
  | 0, p, x => (p, x)
  | n + 1, p, x => if p < s.size then (if (Utf8.decode s p).1 = 35 then (p, x) else floop s n (p + (Utf8.decode s p).2) (fstep s (blk (((Utf8.decode s p).1 : Nat) : Int)) p x)) else (p, x)
def fend (s : ByteArray) (r : Nat × Int × List ByteArray) : List ByteArray := if 0 ≤ r.2.1 then r.2.2 ++ [s.extract r.2.1.toNat r.1] else r.2.2
/-- The words of a line. -/
def fieldsP (s : ByteArray) : List ByteArray := fend s (floop s s.size 0 (-1, []))
structure FOk (s : ByteArray) (p : Nat) (x : Int × List ByteArray) : Prop where
  hp : p ≤ s.size
  hb : x.1 = -1 ∨ (0 ≤ x.1 ∧ x.1 ≤ (p : Int))
  hl : x.2.length ≤ p
  hw : ∀ y ∈ x.2, y.size ≤ s.size
theorem FOk.step {s : ByteArray} {p q : Nat} {x : Int × List ByteArray} (h : FOk s p x) (bl : Bool) (h1 : p < q) (h2 : q ≤ s.size) : FOk s q (fstep s bl p x) := by
  obtain ⟨b, l⟩ := x
  obtain ⟨hp, hb, hl, hw⟩ := h
  simp only at hb hl hw
  cases bl with
  | true =>
    simp only [fstep]
    by_cases h0 : 0 ≤ b
    · rw [if_pos h0]
      refine ⟨h2, .inl rfl, by simp; omega, fun y hy => ?_⟩
      rcases List.mem_append.1 hy with hy | hy
      · exact hw y hy
      · rw [List.mem_singleton.1 hy, ByteArray.size_extract]; omega
    · rw [if_neg h0]; exact ⟨h2, hb.imp id (fun h => ⟨h.1, by simp only; omega⟩), by simp only; omega, hw⟩
  | false =>
    simp only [fstep]
    by_cases h0 : 0 ≤ b
    · rw [if_pos h0]; exact ⟨h2, hb.imp id (fun h => ⟨h.1, by simp only; omega⟩), by simp only; omega, hw⟩
    · rw [if_neg h0]; exact ⟨h2, .inr ⟨by simp only; omega, by simp only; omega⟩, by simp only; omega, hw⟩
theorem fields_loop (k : Nat) (s : ByteArray) (hn : s.size ≤ 1048576) (n : Nat) : ∀ (p : Nat) (x : Int × List ByteArray), s.size - p ≤ n → FOk s p x →
    FOk s (floop s n p x).1 (floop s n p x).2 ∧ ∀ m, n < m → words_Fields.q0.l k m (s, x.1, (s.size : Int), x.2, s, p) = some (s, (floop s n p x).2.1, ((floop s n p x).1 : Int), (floop s n p x).2.2) ∧
      atlasref01_Fields.q0.l k m (s, x.1, (p : Int), x.2) = some (s, (floop s n p x).2.1, ((floop s n p x).1 : Int), (floop s n p x).2.2) := by
  induction n with
  | zero =>
    intro p x hd hok
    have hp := hok.hp
    obtain rfl : p = s.size := by omega
    refine ⟨hok, fun m hm => ?_⟩
    obtain ⟨m, rfl⟩ : ∃ j, m = j + 1 := ⟨m - 1, by omega⟩
    simp only [words_Fields.q0.l, atlasref01_Fields.q0.l, floop, decide_eq_false (show ¬ s.size < s.size by omega), decide_eq_false (show ¬ (s.size : Int) < (s.size : Int) by omega), cond_false]
    exact ⟨trivial, trivial⟩
  | succ n ih =>
    intro p x hd hok
    by_cases hz : p < s.size
    · obtain ⟨r, hr, hrc, w1, w2, hlo, hhi⟩ := rune_eq2 s (by omega) p hz
      have e2 : IntKind.wrap .i64 ((p : Int) + ((Utf8.decode s p).2 : Int)) = ((p + (Utf8.decode s p).2 : Nat) : Int) := by rw [wrap_i64e _ (by omega) (by omega)]; omega
      have hbk := blk_same (r := r) (c := (Utf8.decode s p).1) (hrc.imp id (fun h => ⟨h.1, h.2.1⟩))
      have hbt := byteAt_get s p hz
      have h35 : (Utf8.decode s p).1 = 35 ↔ (s.get! p).toNat = 35 := by
        constructor
        · intro h
          by_cases h8 : (s.get! p).toNat < 128
          · have := hlo h8
            omega
          · have := hhi (by omega)
            omega
        · intro h
          have := hlo (by omega)
          omega
      have hfl : floop s (n + 1) p x = if (Utf8.decode s p).1 = 35 then (p, x) else floop s n (p + (Utf8.decode s p).2) (fstep s (blk (((Utf8.decode s p).1 : Nat) : Int)) p x) := by
        simp only [floop, if_pos hz]
      rw [hfl]
      have d1 : decide (p < s.size) = true := decide_eq_true hz
      have d2 : decide ((p : Int) < (s.size : Int)) = true := decide_eq_true (by omega)
      have d3 : decide (0 ≤ (p : Int)) = true := decide_eq_true (by omega)
      by_cases hh : (Utf8.decode s p).1 = 35
      · rw [if_pos hh]
        refine ⟨hok, fun m hm => ?_⟩
        obtain ⟨m, rfl⟩ : ∃ j, m = j + 1 := ⟨m - 1, by omega⟩
        have g1 : ((((Utf8.decode s p).1 : Nat) : Int) == 35) = true := by rw [hh]; rfl
        have g2 : (byteAt s (p : Int) != 35) = false := by rw [hbt, h35.1 hh]; rfl
        simp only [words_Fields.q0.l, atlasref01_Fields.q0.l, d1, d2, d3, Bool.and_self, cond_true, g1, g2, cond_false]
        exact ⟨trivial, trivial⟩
      · rw [if_neg hh]
        have g1 : ((((Utf8.decode s p).1 : Nat) : Int) == 35) = false := by rw [beq_eq_false_iff_ne]; omega
        have g2 : (byteAt s (p : Int) != 35) = true := by
          rw [hbt, bne_iff_ne]
          intro h
          exact hh (h35.2 (by omega))
        generalize hbl : blk (((Utf8.decode s p).1 : Nat) : Int) = bl at *
        have hok2 := hok.step (q := p + (Utf8.decode s p).2) bl (by omega) w2
        obtain ⟨k1, k2⟩ := ih (p + (Utf8.decode s p).2) (fstep s bl p x) (by omega) hok2
        refine ⟨k1, fun m hm => ?_⟩
        obtain ⟨m, rfl⟩ : ∃ j, m = j + 1 := ⟨m - 1, by omega⟩
        obtain ⟨k3, k4⟩ := k2 m (by omega)
        obtain ⟨b, l⟩ := x
        have hb := hok.hb
        have hl := hok.hl
        simp only at hb hl k3 k4
        have mx := maxLen_v
        have f1 : decide ((l ++ [s.extract b.toNat p]).length ≤ maxLen) = true := decide_eq_true (by rw [mx]; simp; omega)
        have f2 : decide ((l ++ [s.extract b.toNat p]).length * 16 ≤ 211106232532992) = true := decide_eq_true (by simp; omega)
        have f3 : decide ((p : Int) ≤ (s.size : Int)) = true := decide_eq_true (by omega)
        have ht : ((p : Int)).toNat = p := rfl
        cases bl with
        | true =>
          rcases hb with rfl | ⟨h0, h1⟩
          · have e4 : fstep s true p (-1, l) = (-1, l) := rfl
            rw [e4] at k3 k4
            simp only [words_Fields.q0.l, atlasref01_Fields.q0.l, d1, d2, d3, Bool.and_self, cond_true, g1, g2, cond_false, blank_eq, rblank_eq, hbl, hbk, hr, Option.bind_some, e2, show decide ((-1 : Int) ≥ 0) = false from rfl, Bool.not_true, e4]
            exact ⟨k3, k4⟩
          · have e4 : fstep s true p (b, l) = (-1, l ++ [s.extract b.toNat p]) := by simp only [fstep]; rw [if_pos h0]
            rw [e4] at k3 k4
            simp only [words_Fields.q0.l, atlasref01_Fields.q0.l, d1, d2, d3, Bool.and_self, cond_true, g1, g2, cond_false, blank_eq, rblank_eq, hbl, hbk, hr, Option.bind_some, e2, decide_eq_true (show b ≥ 0 from h0), decide_eq_true h0, f3, ht, decide_eq_true h1, f1, f2, e4]
            exact ⟨k3, k4⟩
        | false =>
          rcases hb with rfl | ⟨h0, h1⟩
          · have e4 : fstep s false p (-1, l) = ((p : Int), l) := rfl
            rw [e4] at k3 k4
            simp only [words_Fields.q0.l, atlasref01_Fields.q0.l, d1, d2, d3, Bool.and_self, cond_true, g1, g2, cond_false, blank_eq, rblank_eq, hbl, hbk, hr, Option.bind_some, e2, show decide ((-1 : Int) < 0) = true from rfl, Bool.not_false, e4]
            exact ⟨k3, k4⟩
          · have e4 : fstep s false p (b, l) = (b, l) := by simp only [fstep]; rw [if_pos h0]
            rw [e4] at k3 k4
            simp only [words_Fields.q0.l, atlasref01_Fields.q0.l, d1, d2, d3, Bool.and_self, cond_true, g1, g2, cond_false, blank_eq, rblank_eq, hbl, hbk, hr, Option.bind_some, e2, decide_eq_false (show ¬ b < 0 by omega), Bool.not_false, e4]
            exact ⟨k3, k4⟩
    · refine ⟨?_, fun m hm => ?_⟩
      · simp only [floop, if_neg hz]; exact hok
      obtain rfl : p = s.size := by have := hok.hp; omega
      obtain ⟨m, rfl⟩ : ∃ j, m = j + 1 := ⟨m - 1, by omega⟩
      simp only [words_Fields.q0.l, atlasref01_Fields.q0.l, floop, if_neg hz, decide_eq_false hz, decide_eq_false (show ¬ (s.size : Int) < (s.size : Int) by omega), cond_false]
      exact ⟨trivial, trivial⟩
theorem fields_eq (s : ByteArray) (hn : s.size ≤ 1048576) (k : Nat) (hk : s.size < k) : words_Fields.f k s = some (fieldsP s) ∧ atlasref01_Fields.f k s = some (fieldsP s) ∧ (fieldsP s).length ≤ s.size + 1 ∧ ∀ y ∈ fieldsP s, y.size ≤ s.size := by
  obtain ⟨h1, h2⟩ := fields_loop k s hn s.size 0 (-1, []) (by omega) ⟨by omega, .inl rfl, Nat.le_refl _, fun y h => by cases h⟩
  obtain ⟨h3, h4⟩ := h2 k hk
  obtain ⟨hp, hb, hl, hw⟩ := h1
  unfold words_Fields.f atlasref01_Fields.f
  rw [h3]
  have h4' : atlasref01_Fields.q0.l k k (s, -1, 0, []) = _ := h4
  rw [h4']
  unfold fieldsP
  generalize floop s s.size 0 (-1, []) = r at *
  obtain ⟨p, b, l⟩ := r
  simp only at hp hb hl hw
  simp only [Option.bind_some, fend]
  have mx := maxLen_v
  have f1 : decide ((l ++ [s.extract b.toNat p]).length ≤ maxLen) = true := decide_eq_true (by rw [mx]; simp; omega)
  have f2 : decide ((l ++ [s.extract b.toNat p]).length * 16 ≤ 211106232532992) = true := decide_eq_true (by simp; omega)
  have f3 : decide ((p : Int) ≤ (s.size : Int)) = true := decide_eq_true (by omega)
  have f4 : decide (0 ≤ (p : Int)) = true := decide_eq_true (by omega)
  have ht : ((p : Int)).toNat = p := rfl
  rcases hb with rfl | ⟨h0, h1⟩
  · simp only [show decide ((-1 : Int) ≥ 0) = false from rfl, cond_false, if_neg (show ¬ (0 : Int) ≤ -1 by omega)]
    exact ⟨trivial, trivial, by omega, hw⟩
  · simp only [decide_eq_true (show b ≥ 0 from h0), decide_eq_true h0, f3, f4, ht, decide_eq_true h1, f1, f2, Bool.and_self, cond_true, if_pos h0]
    refine ⟨trivial, trivial, by simp; omega, fun y hy => ?_⟩
    rcases List.mem_append.1 hy with hy | hy
    · exact hw y hy
    · rw [List.mem_singleton.1 hy, ByteArray.size_extract]; omega
end Go.Va
