/-
  A rune that the document's answer puts together byte by byte is the rune that a range over the text tells, with the same width; a bad byte is told as -1 by the one and as the replacement rune by the other.
  Conditions: a text of at most 140737488351232 bytes, a place within it.
-/
import Derived.Test.YtmphkmoakamepaaPureElfImg
set_option linter.unusedSimpArgs false
set_option linter.unusedVariables false
set_option autoImplicit false
namespace Go.Va
/-- The decoding, of four bytes and three marks. -/
def dec4 (b0 b1 b2 b3 : Nat) (c1 c2 c3 : Bool) : Nat × Nat :=
  if b0 < 0x80 then (b0, 1)
  else if b0 / 32 == 6 && c1 then
    let c := (b0 % 32) * 64 + b1 % 64
    if c ≥ 0x80 then (c, 2) else (Utf8.runeError, 1)
  else if b0 / 16 == 14 && c1 && c2 then
    let c := (b0 % 16) * 4096 + (b1 % 64) * 64 + b2 % 64
    if c ≥ 0x800 && Utf8.valid c then (c, 3) else (Utf8.runeError, 1)
  else if b0 / 8 == 30 && c1 && c2 && c3 then
    let c := (b0 % 8) * 262144 + (b1 % 64) * 4096 + (b2 % 64) * 64 + b3 % 64
    if c ≥ 0x10000 && Utf8.valid c then (c, 4) else (Utf8.runeError, 1)
  else (Utf8.runeError, 1)
theorem decode_dec4 (s : ByteArray) (p : Nat) : Utf8.decode s p = dec4 (s.get! (p + 0)).toNat (s.get! (p + 1)).toNat (s.get! (p + 2)).toNat (s.get! (p + 3)).toNat
    (p + 1 < s.size && (s.get! (p + 1)).toNat / 64 == 2) (p + 2 < s.size && (s.get! (p + 2)).toNat / 64 == 2) (p + 3 < s.size && (s.get! (p + 3)).toNat / 64 == 2) := rfl

theorem byteAt_get (s : ByteArray) (p : Nat) (h : p < s.size) : byteAt s (p : Int) = ((s.get! p).toNat : Int) := by
  have h' : p < s.data.toList.length := by simpa using h
  have e1 : s.data.toList.getD p 0 = s.get! p := by
    rw [List.getD_eq_getElem?_getD, List.getElem?_eq_getElem h', Option.getD_some]
    have h2 : p < s.data.size := h
    show s.data.toList[p] = s.data[p]!
    rw [getElem!_pos s.data p h2]
    simp
  unfold byteAt
  rw [Int.toNat_natCast, e1]

def tl (s : ByteArray) (p : Nat) : Bool := p < s.size && (s.get! p).toNat / 64 == 2
theorem tail_eq (s : ByteArray) (p : Nat) : atlasref01_tail.f s (p : Int) = some (tl s p) := by
  unfold atlasref01_tail.f tl
  have h0 : decide ((0 : Int) ≤ (p : Int)) = true := by simp
  by_cases h : p < s.size
  · have h' : decide ((p : Int) < (s.size : Int)) = true := by simp; omega
    rw [h', cond_true, h0, byteAt_get s p h, Bool.and_self, cond_true]
    have hb : (s.get! p).toNat < 256 := (s.get! p).toNat_lt
    generalize (s.get! p).toNat = b at *
    rw [decide_eq_true h, Bool.true_and]
    by_cases h1 : (b : Int) ≥ 128
    · rw [decide_eq_true h1, cond_true, cond_true]
      congr 1
      rw [Bool.eq_iff_iff]
      simp
      omega
    · rw [decide_eq_false h1, cond_false]
      congr 1
      symm
      simp
      omega
  · have h' : decide ((p : Int) < (s.size : Int)) = false := by simp; omega
    rw [h', cond_false]
    simp [h]

theorem valid_iff (c : Nat) : Utf8.valid (c : Int) = true ↔ (c < 55296 ∨ (57344 ≤ c ∧ c ≤ 1114111)) := by
  unfold Utf8.valid
  simp
  omega

/-- What a rune comes to, as these bytes go. -/
def Told (s : ByteArray) (p b0 : Nat) (D : Nat × Nat) : Prop :=
  ∃ r : Int, atlasref01_Rune.f s (p : Int) = some (r, (D.2 : Int)) ∧ (r = (D.1 : Int) ∨ (r = -1 ∧ D.1 = 65533 ∧ D.2 = 1)) ∧
      1 ≤ D.2 ∧ p + D.2 ≤ s.size ∧ (b0 < 128 → r = (b0 : Int)) ∧ (128 ≤ b0 → r = -1 ∨ 128 ≤ r)
theorem told_bad {s : ByteArray} {p b0 : Nat} {D : Nat × Nat} (hp : p + 1 ≤ s.size) (he : D = (65533, 1)) (h128 : 128 ≤ b0) (hev : atlasref01_Rune.f s (p : Int) = some ((-1 : Int), (1 : Int))) : Told s p b0 D := by
  subst he
  exact ⟨-1, hev, .inr ⟨rfl, rfl, rfl⟩, Nat.le_refl _, hp, fun h => by omega, fun _ => .inl rfl⟩
theorem told_good {s : ByteArray} {p b0 : Nat} {D : Nat × Nat} (c n : Nat) (he : D = (c, n)) (h128 : 128 ≤ b0) (hc : 128 ≤ c) (h1 : 1 ≤ n) (h2 : p + n ≤ s.size) (hev : atlasref01_Rune.f s (p : Int) = some ((c : Int), (n : Int))) : Told s p b0 D := by
  subst he
  exact ⟨c, hev, .inl rfl, h1, h2, fun h => by omega, fun _ => .inr (by omega)⟩

set_option maxRecDepth 100000 in
set_option maxHeartbeats 2000000 in
theorem rune_core (s : ByteArray) (p b0 b1 b2 b3 : Nat) (c1 c2 c3 : Bool) (D : Nat × Nat) (hd : D = dec4 b0 b1 b2 b3 c1 c2 c3) (hn : s.size ≤ 140737488351232) (hp : p < s.size) (hb0 : b0 < 256) (hb1 : b1 < 256) (hb2 : b2 < 256) (hb3 : b3 < 256)
    (t1 : atlasref01_tail.f s ((p + 1 : Nat) : Int) = some c1) (t2 : atlasref01_tail.f s ((p + 2 : Nat) : Int) = some c2) (t3 : atlasref01_tail.f s ((p + 3 : Nat) : Int) = some c3)
    (g1 : c1 = true → p + 1 < s.size ∧ 128 ≤ b1 ∧ b1 ≤ 191) (g2 : c2 = true → p + 2 < s.size ∧ 128 ≤ b2 ∧ b2 ≤ 191) (g3 : c3 = true → p + 3 < s.size ∧ 128 ≤ b3 ∧ b3 ≤ 191)
    (K0 : byteAt s (p : Int) = (b0 : Int)) (K1 : p + 1 < s.size → byteAt s ((p + 1 : Nat) : Int) = (b1 : Int)) (K2 : p + 2 < s.size → byteAt s ((p + 2 : Nat) : Int) = (b2 : Int)) (K3 : p + 3 < s.size → byteAt s ((p + 3 : Nat) : Int) = (b3 : Int)) :
    Told s p b0 D := by
  have e1 : IntKind.wrap .i64 ((p : Int) + 1) = ((p + 1 : Nat) : Int) := by rw [wrap_i64e _ (by omega) (by omega)]; omega
  have e2 : IntKind.wrap .i64 ((p : Int) + 2) = ((p + 2 : Nat) : Int) := by rw [wrap_i64e _ (by omega) (by omega)]; omega
  have e3 : IntKind.wrap .i64 ((p : Int) + 3) = ((p + 3 : Nat) : Int) := by rw [wrap_i64e _ (by omega) (by omega)]; omega
  have w0 : IntKind.wrap .i64 (b0 : Int) = b0 := wrap_i64e _ (by omega) (by omega)
  have i0 : decide ((0 : Int) ≤ (p : Int)) = true := decide_eq_true (by omega)
  have i1 : decide ((p : Int) < (s.size : Int)) = true := decide_eq_true (by omega)
  have q1 : decide ((0 : Int) ≤ ((p + 1 : Nat) : Int)) = true := decide_eq_true (by omega)
  have q2 : decide ((0 : Int) ≤ ((p + 2 : Nat) : Int)) = true := decide_eq_true (by omega)
  have q3 : decide ((0 : Int) ≤ ((p + 3 : Nat) : Int)) = true := decide_eq_true (by omega)
  have bad := fun (he : D = (65533, 1)) (h128 : 128 ≤ b0) hev => told_bad (s := s) (p := p) (b0 := b0) (D := D) hp he h128 hev
  have good := fun (c n : Nat) (he : D = (c, n)) (h128 : 128 ≤ b0) (hc : 128 ≤ c) (h1 : 1 ≤ n) (h2 : p + n ≤ s.size) hev => told_good (s := s) (p := p) (b0 := b0) (D := D) c n he h128 hc h1 h2 hev
  unfold atlasref01_Rune.f at bad good
  simp only [i0, i1, Bool.and_self, cond_true, K0, w0, e1, e2, e3, t1, t2, t3, Option.bind_some, q1, q2, q3] at bad good
  by_cases c0 : b0 < 128
  · have hdv : D = (b0, 1) := by rw [hd]; simp only [dec4, if_pos c0]
    subst hdv
    refine ⟨b0, ?_, .inl rfl, Nat.le_refl _, hp, fun _ => rfl, fun h => by omega⟩
    unfold atlasref01_Rune.f
    simp only [i0, i1, Bool.and_self, cond_true, K0, w0, decide_eq_true (show (b0 : Int) < 128 by omega)]
    rfl
  · have h128 : 128 ≤ b0 := by omega
    simp only [decide_eq_false (show ¬ (b0 : Int) < 128 by omega), cond_false] at bad good
    by_cases r2 : 194 ≤ b0 ∧ b0 ≤ 223
    · have a1 : b0 / 32 = 6 := by omega
      simp only [decide_eq_true (show (b0 : Int) ≥ 194 by omega), decide_eq_true (show (b0 : Int) ≤ 223 by omega), cond_true] at bad good
      cases c1 with
      | true =>
        obtain ⟨x1, x2, x3⟩ := g1 rfl
        have hc : b0 % 32 * 64 + b1 % 64 ≥ 128 := by omega
        refine good (b0 % 32 * 64 + b1 % 64) 2 (by rw [hd]; simp only [dec4, if_neg c0, a1, BEq.rfl, Bool.true_and, if_true, if_pos hc]) h128 (by omega) (by omega) (by omega) ?_
        have ev : (IntKind.wrap .i64 ((IntKind.wrap .i64 ((IntKind.wrap .i64 ((IntKind.wrap .i64 ((b0 : Int) - 192)) * 64)) + (IntKind.wrap .i64 (b1 : Int)))) - 128)) = ((b0 % 32 * 64 + b1 % 64 : Nat) : Int) := by
          have m0 : b0 % 32 = b0 - 192 := by omega
          have m1 : b1 % 64 = b1 - 128 := by omega
          rw [m0, m1]
          simp (disch := omega) only [wrap_i64e]
          omega
        simp only [cond_true, decide_eq_true (show (((p + 1 : Nat) : Int)) < (s.size : Int) by omega), Bool.and_self, K1 x1, ev]
        rfl
      | false =>
        refine bad (by rw [hd]; simp only [dec4, if_neg c0, a1, show ¬ b0 / 16 = 14 by omega, show ¬ b0 / 8 = 30 by omega, BEq.rfl, Bool.and_false, Bool.false_and, Bool.false_eq_true, if_false, beq_eq_false_iff_ne.2 (show b0 / 16 ≠ 14 by omega), beq_eq_false_iff_ne.2 (show b0 / 8 ≠ 30 by omega)]; rfl) h128 rfl
    · -- what the decoding says where the first byte is below 194: nothing
      have d2 : b0 / 32 = 6 → ∀ b, dec4 b0 b1 b2 b3 b (c2) (c3) = (65533, 1) := by
        intro h b
        have l : ¬ b0 % 32 * 64 + b1 % 64 ≥ 128 := by omega
        simp only [dec4, if_neg c0, h, BEq.rfl, Bool.true_and, if_neg l, beq_eq_false_iff_ne.2 (show b0 / 16 ≠ 14 by omega), beq_eq_false_iff_ne.2 (show b0 / 8 ≠ 30 by omega), Bool.false_and, Bool.false_eq_true, if_false, ite_self]
        rfl
      by_cases r3 : 224 ≤ b0 ∧ b0 ≤ 239
      · have a1 : b0 / 16 = 14 := by omega
        have a2 : (b0 / 32 == 6) = false := beq_eq_false_iff_ne.2 (by omega)
        have a3 : (b0 / 8 == 30) = false := beq_eq_false_iff_ne.2 (by omega)
        simp only [decide_eq_true (show (b0 : Int) ≥ 194 by omega), decide_eq_false (show ¬ (b0 : Int) ≤ 223 by omega), decide_eq_true (show (b0 : Int) ≥ 224 by omega), decide_eq_true (show (b0 : Int) ≤ 239 by omega), cond_true, cond_false] at bad good
        cases c1 with
        | false =>
          exact bad (by rw [hd]; simp only [dec4, if_neg c0, a1, a2, a3, BEq.rfl, Bool.true_and, Bool.false_and, Bool.and_false, Bool.false_eq_true, if_false]; rfl) h128 rfl
        | true =>
          cases c2 with
          | false =>
            exact bad (by rw [hd]; simp only [dec4, if_neg c0, a1, a2, a3, BEq.rfl, Bool.true_and, Bool.false_and, Bool.and_false, Bool.false_eq_true, if_false]; rfl) h128 rfl
          | true =>
            obtain ⟨x1, x2, x3⟩ := g1 rfl
            obtain ⟨y1, y2, y3⟩ := g2 rfl
            have ev : (IntKind.wrap .i64 ((IntKind.wrap .i64 ((IntKind.wrap .i64 ((IntKind.wrap .i64 ((IntKind.wrap .i64 ((b0 : Int) - 224)) * 4096)) + (IntKind.wrap .i64 ((IntKind.wrap .i64 ((IntKind.wrap .i64 (b1 : Int)) - 128)) * 64)))) + (IntKind.wrap .i64 (b2 : Int)))) - 128)) = ((b0 % 16 * 4096 + b1 % 64 * 64 + b2 % 64 : Nat) : Int) := by
              have m0 : b0 % 16 = b0 - 224 := by omega
              have m1 : b1 % 64 = b1 - 128 := by omega
              have m2 : b2 % 64 = b2 - 128 := by omega
              rw [m0, m1, m2]
              simp (disch := omega) only [wrap_i64e]
              omega
            generalize hC : b0 % 16 * 4096 + b1 % 64 * 64 + b2 % 64 = c at ev
            have hcv := valid_iff c
            simp only [cond_true, decide_eq_true (show (((p + 1 : Nat) : Int)) < (s.size : Int) by omega), decide_eq_true (show (((p + 2 : Nat) : Int)) < (s.size : Int) by omega), Bool.and_self, K1 x1, K2 y1, ev] at bad good
            by_cases ok : c ≥ 2048 ∧ (c < 55296 ∨ c > 57343)
            · have ok2 : (decide (c ≥ 2048) && Utf8.valid (c : Int)) = true := by rw [Bool.and_eq_true]; exact ⟨decide_eq_true ok.1, hcv.2 (by omega)⟩
              refine good c 3 (by rw [hd]; simp only [dec4, if_neg c0, a1, a2, BEq.rfl, Bool.true_and, Bool.false_and, Bool.false_eq_true, if_false, if_true, hC, ok2]) h128 (by omega) (by omega) (by omega) ?_
              simp only [decide_eq_true (show (c : Int) ≥ 2048 by omega), cond_true]
              by_cases l : (c : Int) < 55296
              · rw [decide_eq_true l, cond_true]; rfl
              · rw [decide_eq_false l, cond_false, decide_eq_true (show (c : Int) > 57343 by omega), cond_true]; rfl
            · have ok2 : (decide (c ≥ 2048) && Utf8.valid (c : Int)) = false := by
                rw [Bool.eq_false_iff]
                intro h
                rw [Bool.and_eq_true] at h
                have h1 := of_decide_eq_true h.1
                have h2 := hcv.1 h.2
                omega
              refine bad (by rw [hd]; simp only [dec4, if_neg c0, a1, a2, BEq.rfl, Bool.true_and, Bool.false_and, Bool.false_eq_true, if_false, if_true, hC, ok2]; rfl) h128 ?_
              by_cases g : (c : Int) ≥ 2048
              · simp only [decide_eq_true g, cond_true, decide_eq_false (show ¬ (c : Int) < 55296 by omega), decide_eq_false (show ¬ (c : Int) > 57343 by omega), cond_false]
              · simp only [decide_eq_false g, cond_false]
      · have a2 : (b0 / 16 == 14) = false := beq_eq_false_iff_ne.2 (by omega)
        by_cases r4 : 240 ≤ b0 ∧ b0 ≤ 244
        · have a1 : b0 / 8 = 30 := by omega
          have a3 : (b0 / 32 == 6) = false := beq_eq_false_iff_ne.2 (by omega)
          simp only [decide_eq_true (show (b0 : Int) ≥ 194 by omega), decide_eq_false (show ¬ (b0 : Int) ≤ 223 by omega), decide_eq_true (show (b0 : Int) ≥ 224 by omega), decide_eq_false (show ¬ (b0 : Int) ≤ 239 by omega), decide_eq_true (show (b0 : Int) ≥ 240 by omega), decide_eq_true (show (b0 : Int) ≤ 244 by omega), cond_true, cond_false] at bad good
          cases c1 with
          | false => exact bad (by rw [hd]; simp only [dec4, if_neg c0, a1, a2, a3, BEq.rfl, Bool.true_and, Bool.false_and, Bool.and_false, Bool.false_eq_true, if_false]; rfl) h128 rfl
          | true =>
            cases c2 with
            | false => exact bad (by rw [hd]; simp only [dec4, if_neg c0, a1, a2, a3, BEq.rfl, Bool.true_and, Bool.false_and, Bool.and_false, Bool.false_eq_true, if_false]; rfl) h128 rfl
            | true =>
              cases c3 with
              | false => exact bad (by rw [hd]; simp only [dec4, if_neg c0, a1, a2, a3, BEq.rfl, Bool.true_and, Bool.false_and, Bool.and_false, Bool.false_eq_true, if_false]; rfl) h128 rfl
              | true =>
                obtain ⟨x1, x2, x3⟩ := g1 rfl
                obtain ⟨y1, y2, y3⟩ := g2 rfl
                obtain ⟨z1, z2, z3⟩ := g3 rfl
                have ev : (IntKind.wrap .i64 ((IntKind.wrap .i64 ((IntKind.wrap .i64 ((IntKind.wrap .i64 ((IntKind.wrap .i64 ((IntKind.wrap .i64 ((b0 : Int) - 240)) * 262144)) + (IntKind.wrap .i64 ((IntKind.wrap .i64 ((IntKind.wrap .i64 (b1 : Int)) - 128)) * 4096)))) + (IntKind.wrap .i64 ((IntKind.wrap .i64 ((IntKind.wrap .i64 (b2 : Int)) - 128)) * 64)))) + (IntKind.wrap .i64 (b3 : Int)))) - 128)) = ((b0 % 8 * 262144 + b1 % 64 * 4096 + b2 % 64 * 64 + b3 % 64 : Nat) : Int) := by
                  have m0 : b0 % 8 = b0 - 240 := by omega
                  have m1 : b1 % 64 = b1 - 128 := by omega
                  have m2 : b2 % 64 = b2 - 128 := by omega
                  have m3 : b3 % 64 = b3 - 128 := by omega
                  rw [m0, m1, m2, m3]
                  simp (disch := omega) only [wrap_i64e]
                  omega
                generalize hC : b0 % 8 * 262144 + b1 % 64 * 4096 + b2 % 64 * 64 + b3 % 64 = c at ev
                have hcv := valid_iff c
                simp only [cond_true, decide_eq_true (show (((p + 1 : Nat) : Int)) < (s.size : Int) by omega), decide_eq_true (show (((p + 2 : Nat) : Int)) < (s.size : Int) by omega), decide_eq_true (show (((p + 3 : Nat) : Int)) < (s.size : Int) by omega), Bool.and_self, K1 x1, K2 y1, K3 z1, ev] at bad good
                by_cases ok : c ≥ 65536 ∧ c ≤ 1114111
                · have ok2 : (decide (c ≥ 65536) && Utf8.valid (c : Int)) = true := by rw [Bool.and_eq_true]; exact ⟨decide_eq_true ok.1, hcv.2 (by omega)⟩
                  refine good c 4 (by rw [hd]; simp only [dec4, if_neg c0, a1, a2, a3, BEq.rfl, Bool.true_and, Bool.false_and, Bool.false_eq_true, if_false, if_true, hC, ok2]) h128 (by omega) (by omega) (by omega) ?_
                  simp only [decide_eq_true (show (c : Int) ≥ 65536 by omega), decide_eq_true (show (c : Int) ≤ 1114111 by omega), cond_true]
                  rfl
                · have ok2 : (decide (c ≥ 65536) && Utf8.valid (c : Int)) = false := by
                    rw [Bool.eq_false_iff]
                    intro h
                    rw [Bool.and_eq_true] at h
                    have h1 := of_decide_eq_true h.1
                    have h2 := hcv.1 h.2
                    omega
                  refine bad (by rw [hd]; simp only [dec4, if_neg c0, a1, a2, a3, BEq.rfl, Bool.true_and, Bool.false_and, Bool.false_eq_true, if_false, if_true, hC, ok2]; rfl) h128 ?_
                  by_cases g : (c : Int) ≥ 65536
                  · simp only [decide_eq_true g, cond_true, decide_eq_false (show ¬ (c : Int) ≤ 1114111 by omega), cond_false]
                  · simp only [decide_eq_false g, cond_false]
        · refine bad ?_ h128 ?_
          · rw [hd]
            by_cases h6 : b0 / 32 = 6
            · exact d2 h6 _
            · have a3 : (b0 / 32 == 6) = false := beq_eq_false_iff_ne.2 h6
              by_cases h8 : b0 / 8 = 30
              · have hv : Utf8.valid ((b0 % 8 * 262144 + b1 % 64 * 4096 + b2 % 64 * 64 + b3 % 64 : Nat) : Int) = false := by
                  rw [Bool.eq_false_iff]
                  intro h
                  have := (valid_iff _).1 h
                  omega
                simp only [dec4, if_neg c0, a2, a3, h8, BEq.rfl, Bool.true_and, Bool.false_and, Bool.false_eq_true, if_false, hv, Bool.and_false, ite_self]
                rfl
              · simp only [dec4, if_neg c0, a2, a3, beq_eq_false_iff_ne.2 h8, Bool.false_and, Bool.false_eq_true, if_false]
                rfl
          · by_cases l1 : (b0 : Int) ≥ 194
            · simp only [decide_eq_true l1, decide_eq_false (show ¬ (b0 : Int) ≤ 223 by omega), decide_eq_true (show (b0 : Int) ≥ 224 by omega), decide_eq_false (show ¬ (b0 : Int) ≤ 239 by omega), decide_eq_true (show (b0 : Int) ≥ 240 by omega), decide_eq_false (show ¬ (b0 : Int) ≤ 244 by omega), cond_true, cond_false]
            · simp only [decide_eq_false l1, decide_eq_false (show ¬ (b0 : Int) ≥ 224 by omega), decide_eq_false (show ¬ (b0 : Int) ≥ 240 by omega), cond_true, cond_false]

theorem rune_eq (s : ByteArray) (hn : s.size ≤ 140737488351232) (p : Nat) (hp : p < s.size) :
    ∃ r : Int, atlasref01_Rune.f s (p : Int) = some (r, ((Utf8.decode s p).2 : Int)) ∧ (r = ((Utf8.decode s p).1 : Int) ∨ (r = -1 ∧ (Utf8.decode s p).1 = 65533 ∧ (Utf8.decode s p).2 = 1)) ∧
      1 ≤ (Utf8.decode s p).2 ∧ p + (Utf8.decode s p).2 ≤ s.size := by
  have g : ∀ i, tl s i = true → i < s.size ∧ 128 ≤ (s.get! i).toNat ∧ (s.get! i).toNat ≤ 191 := fun i h => by
    simp only [tl, Bool.and_eq_true, decide_eq_true_eq, beq_iff_eq] at h
    obtain ⟨h1, h2⟩ := h
    generalize (s.get! i).toNat = b at *
    exact ⟨h1, by omega, by omega⟩
  obtain ⟨r, h1, h2, h3, h4, _⟩ := rune_core s p _ _ _ _ (tl s (p + 1)) (tl s (p + 2)) (tl s (p + 3)) _ (decode_dec4 s p) hn hp (s.get! p).toNat_lt (s.get! (p + 1)).toNat_lt (s.get! (p + 2)).toNat_lt (s.get! (p + 3)).toNat_lt
    (tail_eq s (p + 1)) (tail_eq s (p + 2)) (tail_eq s (p + 3)) (g _) (g _) (g _) (byteAt_get s p hp) (byteAt_get s (p + 1)) (byteAt_get s (p + 2)) (byteAt_get s (p + 3))
  exact ⟨r, h1, h2, h3, h4⟩
end Go.Va
