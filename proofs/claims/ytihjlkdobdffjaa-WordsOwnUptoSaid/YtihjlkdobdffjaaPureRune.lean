/-
  A rune that the document's answer puts together byte by byte is the rune that a range over the text tells, with the same width; a bad byte is told as -1 by the one and as the replacement rune by the other.
  Conditions: a text of at most 140737488351232 bytes, a place within it.
-/
import Derived.Test.YtihjlkdobdffjaaS2
import Derived.Lib.OthersKept
set_option linter.unusedSimpArgs false
set_option linter.unusedVariables false
namespace Go.Proofs.Ytihjlkdobdffjaa.Pure
open Go.RowKit Go.Proofs.Ytihjlkdobdffjaa.S Go.Proofs.YtihjlkdobdffjaaW.PrintWords Go.Proofs.YtihjlkdobdffjaaW.PrintLast

/-- The decoding, of four bytes and three marks. -/
def dec (b0 b1 b2 b3 : Nat) (c1 c2 c3 : Bool) : Nat × Nat :=
  if b0 < 0x80 then (b0, 1)
  else if b0 / 32 == 6 && c1 then
    let c := (b0 % 32) * 64 + b1 % 64
    if c ≥ 0x80 then (c, 2) else (Utf8.runeError, 1)
  else if b0 / 16 == 14 && c1 && c2 then
    let c := (b0 % 16) * 4096 + (b1 % 64) * 64 + b2 % 64
    if c ≥ 0x800 && Utf8.valid c then (c, 3) else (Utf8.runeError, 1)
  else if b0 / 8 == 30 && c1 && c2 && c3 then
    let c := (b0 % 8) * 262144 + (b1 % 64) * 4096 + (b2 % 64) * 64 + b3 % 64
    if c ≥ 0x10000 && Utf8.valid c then (c, 4) else (Utf8.runeError, 1)
  else (Utf8.runeError, 1)
theorem decode_dec (s : ByteArray) (p : Nat) : Utf8.decode s p = dec (s.get! (p + 0)).toNat (s.get! (p + 1)).toNat (s.get! (p + 2)).toNat (s.get! (p + 3)).toNat
    (p + 1 < s.size && (s.get! (p + 1)).toNat / 64 == 2) (p + 2 < s.size && (s.get! (p + 2)).toNat / 64 == 2) (p + 3 < s.size && (s.get! (p + 3)).toNat / 64 == 2) := rfl

theorem bt_get (s : ByteArray) (p : Nat) (h : p < s.size) : bt s (p : Int) = ((s.get! p).toNat : Int) := by
  have e : s.get! p = s[p]'h := get_at s p h
  rw [e]
  simp [bt, h]

/-- Does the byte go on in a rune? -/
def tl (s : ByteArray) (p : Nat) : Bool := p < s.size && (s.get! p).toNat / 64 == 2
theorem tail_eq (s : ByteArray) (p : Nat) : atlasref01_tail.f s (p : Int) = some (tl s p) := by
  unfold atlasref01_tail.f tl
  by_cases h : p < s.size
  · have h' : (p : Int) < (s.size : Int) := by omega
    have h0 : (0 : Int) ≤ (p : Int) := by omega
    rw [if_pos h', if_pos h0, bt_get s p h]
    have hb : (s.get! p).toNat < 256 := (s.get! p).toNat_lt
    by_cases h1 : ((s.get! p).toNat : Int) ≥ 128
    · rw [if_pos h1]
      simp only [h, decide_true, Bool.true_and, Option.some.injEq]
      rw [Bool.eq_iff_iff]
      simp
      omega
    · rw [if_neg h1]
      simp only [h, decide_true, Bool.true_and, Option.some.injEq]
      symm
      simp
      omega
  · have h' : ¬ (p : Int) < (s.size : Int) := by omega
    rw [if_neg h']
    simp [h]

theorem valid_iff (c : Nat) : Utf8.valid (c : Int) = true ↔ (c < 55296 ∨ (57344 ≤ c ∧ c ≤ 1114111)) := by
  unfold Utf8.valid
  simp
  omega

/-- What a rune comes to, as these bytes go. -/
def Told (s : ByteArray) (p b0 : Nat) (D : Nat × Nat) : Prop :=
  ∃ r : Int, Ev (fun k => atlasref01_Rune.f k s (p : Int)) (r, (D.2 : Int)) ∧ (r = (D.1 : Int) ∨ (r = -1 ∧ D.1 = 65533 ∧ D.2 = 1)) ∧
      1 ≤ D.2 ∧ p + D.2 ≤ s.size ∧ (b0 < 128 → r = (b0 : Int)) ∧ (128 ≤ b0 → r = -1 ∨ 128 ≤ r)

theorem told_bad {s : ByteArray} {p b0 : Nat} {D : Nat × Nat} (hp : p + 1 ≤ s.size) (he : D = (65533, 1)) (h128 : 128 ≤ b0) (hev : Ev (fun k => atlasref01_Rune.f k s (p : Int)) ((-1 : Int), (1 : Int))) : Told s p b0 D := by
  subst he
  exact ⟨-1, hev, .inr ⟨rfl, rfl, rfl⟩, Nat.le_refl _, hp, fun h => by omega, fun _ => .inl rfl⟩
theorem told_good {s : ByteArray} {p b0 : Nat} {D : Nat × Nat} (c n : Nat) (he : D = (c, n)) (h128 : 128 ≤ b0) (hc : 128 ≤ c) (h1 : 1 ≤ n) (h2 : p + n ≤ s.size) (hev : Ev (fun k => atlasref01_Rune.f k s (p : Int)) ((c : Int), (n : Int))) : Told s p b0 D := by
  subst he
  exact ⟨c, hev, .inl rfl, h1, h2, fun h => by omega, fun _ => .inr (by omega)⟩

set_option maxHeartbeats 1000000 in
theorem rune_core (s : ByteArray) (p b0 b1 b2 b3 : Nat) (c1 c2 c3 : Bool) (D : Nat × Nat) (hd : D = dec b0 b1 b2 b3 c1 c2 c3) (hn : s.size ≤ 140737488351232) (hp : p < s.size) (hb0 : b0 < 256) (hb1 : b1 < 256) (hb2 : b2 < 256) (hb3 : b3 < 256)
    (t1 : atlasref01_tail.f s ((p + 1 : Nat) : Int) = some c1) (t2 : atlasref01_tail.f s ((p + 2 : Nat) : Int) = some c2) (t3 : atlasref01_tail.f s ((p + 3 : Nat) : Int) = some c3)
    (g1 : c1 = true → p + 1 < s.size ∧ 128 ≤ b1 ∧ b1 ≤ 191) (g2 : c2 = true → p + 2 < s.size ∧ 128 ≤ b2 ∧ b2 ≤ 191) (g3 : c3 = true → p + 3 < s.size ∧ 128 ≤ b3 ∧ b3 ≤ 191)
    (K0 : Aside0 (bt s (p : Int) = (b0 : Int))) (K1 : Aside0 (p + 1 < s.size → bt s ((p + 1 : Nat) : Int) = (b1 : Int))) (K2 : Aside0 (p + 2 < s.size → bt s ((p + 2 : Nat) : Int) = (b2 : Int))) (K3 : Aside0 (p + 3 < s.size → bt s ((p + 3 : Nat) : Int) = (b3 : Int))) :
    Told s p b0 D := by
  have e1 : wrap64 ((p : Int) + 1) = ((p + 1 : Nat) : Int) := by unfold wrap64; omega
  have e2 : wrap64 ((p : Int) + 2) = ((p + 2 : Nat) : Int) := by unfold wrap64; omega
  have e3 : wrap64 ((p : Int) + 3) = ((p + 3 : Nat) : Int) := by unfold wrap64; omega
  have w0 : wrap64 (b0 : Int) = b0 := by unfold wrap64; omega
  have i0 : (0 : Int) ≤ (p : Int) := by omega
  have i1 : (p : Int) < (s.size : Int) := by omega
  have q1 : (0 : Int) ≤ ((p + 1 : Nat) : Int) := by omega
  have q2 : (0 : Int) ≤ ((p + 2 : Nat) : Int) := by omega
  have q3 : (0 : Int) ≤ ((p + 3 : Nat) : Int) := by omega
  have bad := fun (he : D = (65533, 1)) (h128 : 128 ≤ b0) hev => told_bad (s := s) (p := p) (b0 := b0) (D := D) hp he h128 hev
  have good := fun (c n : Nat) (he : D = (c, n)) (h128 : 128 ≤ b0) (hc : 128 ≤ c) (h1 : 1 ≤ n) (h2 : p + n ≤ s.size) hev => told_good (s := s) (p := p) (b0 := b0) (D := D) c n he h128 hc h1 h2 hev
  by_cases c0 : b0 < 128
  · have hdv : D = (b0, 1) := by rw [hd]; simp only [dec, if_pos c0]
    subst hdv
    refine ⟨b0, ?_, .inl rfl, Nat.le_refl _, hp, fun _ => rfl, fun h => by omega⟩
    refine ⟨0, fun k _ => ?_⟩
    simp only [atlasref01_Rune.f, if_pos i0, if_pos i1, K0.out, w0, if_pos (show (b0 : Int) < 128 by omega)]
    rfl
  · have h128 : 128 ≤ b0 := by omega
    have u0 : ¬ (b0 : Int) < 128 := by omega
    -- unfold the start
    have start : ∀ v, Ev (fun k => atlasref01_Rune.j0 k s p b0 (decide ((b0 : Int) ≥ 194) && decide ((b0 : Int) ≤ 223))) v → Ev (fun k => atlasref01_Rune.f k s (p : Int)) v := by
      intro v hv
      simp only [atlasref01_Rune.f, if_pos i0, if_pos i1, K0.out, w0, if_neg u0]
      by_cases c : (b0 : Int) ≥ 194
      · simp only [if_pos c]
        simpa only [c, decide_true, Bool.true_and] using hv
      · simp only [if_neg c]
        simpa only [c, decide_false, Bool.false_and] using hv
    by_cases r2 : 194 ≤ b0 ∧ b0 ≤ 223
    · have a1 : b0 / 32 = 6 := by omega
      have s2 : ∀ v, Ev (fun k => atlasref01_Rune.j0 k s p b0 true) v → Ev (fun k => atlasref01_Rune.f k s (p : Int)) v := fun v hv =>
        start v (by simpa only [show (b0 : Int) ≥ 194 by omega, show (b0 : Int) ≤ 223 by omega, decide_true, Bool.true_and] using hv)
      cases c1 with
      | true =>
        obtain ⟨x1, x2, x3⟩ := g1 rfl
        have hc : b0 % 32 * 64 + b1 % 64 ≥ 128 := by omega
        refine good (b0 % 32 * 64 + b1 % 64) 2 (by rw [hd]; simp only [dec, if_neg c0, a1, BEq.rfl, Bool.true_and, if_true, if_pos hc]) h128 (by omega) (by omega) (by omega) (s2 _ ?_)
        refine Ev.step (fun k => rfl) ?_
        simp only [atlasref01_Rune.j0, if_true, e1, t1, Option.bind_some, if_pos q1, if_pos (show (((p + 1 : Nat) : Int)) < (s.size : Int) by omega), K1.out x1]
        have : (wrap64 ((wrap64 ((wrap64 ((wrap64 ((b0 : Int) - 192)) * 64)) + (wrap64 (b1 : Int)))) - 128)) = ((b0 % 32 * 64 + b1 % 64 : Nat) : Int) := by
          have m0 : b0 % 32 = b0 - 192 := by omega
          have m1 : b1 % 64 = b1 - 128 := by omega
          rw [m0, m1]
          simp (disch := omega) only [IntWalk.wrap64_in]
          omega
        rw [this]
        exact Ev.now _
      | false =>
        refine bad (by rw [hd]; simp only [dec, if_neg c0, a1, show ¬ b0 / 16 = 14 by omega, show ¬ b0 / 8 = 30 by omega, BEq.rfl, Bool.and_false, Bool.false_and, Bool.false_eq_true, if_false, beq_eq_false_iff_ne.2 (show b0 / 16 ≠ 14 by omega), beq_eq_false_iff_ne.2 (show b0 / 8 ≠ 30 by omega)]; rfl) h128 (s2 _ ?_)
        refine Ev.step (fun k => rfl) ?_
        simp only [atlasref01_Rune.j0, if_true, e1, t1, Option.bind_some, Bool.false_eq_true, if_false]
        exact Ev.now _
    · have n2 : (decide ((b0 : Int) ≥ 194) && decide ((b0 : Int) ≤ 223)) = false := by
        rw [Bool.and_eq_false_iff, decide_eq_false_iff_not, decide_eq_false_iff_not]
        omega
      rw [n2] at start
      have s3 : ∀ v, Ev (fun k => atlasref01_Rune.j1 k s p b0 (decide ((b0 : Int) ≥ 224) && decide ((b0 : Int) ≤ 239))) v → Ev (fun k => atlasref01_Rune.f k s (p : Int)) v := by
        intro v hv
        refine start v (Ev.step (fun k => rfl) ?_)
        simp only [atlasref01_Rune.j0, Bool.false_eq_true, if_false]
        by_cases c : (b0 : Int) ≥ 224
        · simp only [if_pos c]
          simpa only [c, decide_true, Bool.true_and] using hv
        · simp only [if_neg c]
          simpa only [c, decide_false, Bool.false_and] using hv
      -- what the decoding says where the first byte is below 194: nothing
      have d2 : b0 / 32 = 6 → ∀ b, dec b0 b1 b2 b3 b (c2) (c3) = (65533, 1) := by
        intro h b
        have l : ¬ b0 % 32 * 64 + b1 % 64 ≥ 128 := by omega
        simp only [dec, if_neg c0, h, BEq.rfl, Bool.true_and, if_neg l, beq_eq_false_iff_ne.2 (show b0 / 16 ≠ 14 by omega), beq_eq_false_iff_ne.2 (show b0 / 8 ≠ 30 by omega), Bool.false_and, Bool.false_eq_true, if_false, ite_self]
        rfl
      by_cases r3 : 224 ≤ b0 ∧ b0 ≤ 239
      · have a1 : b0 / 16 = 14 := by omega
        have a2 : (b0 / 32 == 6) = false := beq_eq_false_iff_ne.2 (by omega)
        have a3 : (b0 / 8 == 30) = false := beq_eq_false_iff_ne.2 (by omega)
        have s4 : ∀ v, Ev (fun k => atlasref01_Rune.j2 k s p b0 (c1 && c2)) v → Ev (fun k => atlasref01_Rune.f k s (p : Int)) v := by
          intro v hv
          refine s3 v ?_
          simp only [show (b0 : Int) ≥ 224 by omega, show (b0 : Int) ≤ 239 by omega, decide_true, Bool.true_and]
          refine Ev.step (fun k => rfl) ?_
          simp only [atlasref01_Rune.j1, if_true, e1, e2, t1, t2, Option.bind_some]
          cases c1 with
          | true => simpa only [if_true, Bool.true_and] using hv
          | false => simpa only [Bool.false_eq_true, if_false, Bool.false_and] using hv
        by_cases c12 : c1 = true ∧ c2 = true
        · obtain ⟨rfl, rfl⟩ := c12
          obtain ⟨x1, x2, x3⟩ := g1 rfl
          obtain ⟨y1, y2, y3⟩ := g2 rfl
          rw [Bool.and_self] at s4
          have ev : (wrap64 ((wrap64 ((wrap64 ((wrap64 ((wrap64 ((b0 : Int) - 224)) * 4096)) + (wrap64 ((wrap64 ((wrap64 (b1 : Int)) - 128)) * 64)))) + (wrap64 (b2 : Int)))) - 128)) = ((b0 % 16 * 4096 + b1 % 64 * 64 + b2 % 64 : Nat) : Int) := by
            have m0 : b0 % 16 = b0 - 224 := by omega
            have m1 : b1 % 64 = b1 - 128 := by omega
            have m2 : b2 % 64 = b2 - 128 := by omega
            rw [m0, m1, m2]
            simp (disch := omega) only [IntWalk.wrap64_in]
            omega
          generalize hC : b0 % 16 * 4096 + b1 % 64 * 64 + b2 % 64 = c at ev
          have hcv := valid_iff c
          by_cases ok : c ≥ 2048 ∧ (c < 55296 ∨ c > 57343)
          · have ok2 : (decide (c ≥ 2048) && Utf8.valid (c : Int)) = true := by rw [Bool.and_eq_true]; exact ⟨decide_eq_true ok.1, hcv.2 (by omega)⟩
            refine good c 3 (by rw [hd]; simp only [dec, if_neg c0, a1, a2, BEq.rfl, Bool.true_and, Bool.false_and, Bool.false_eq_true, if_false, if_true, hC, ok2]) h128 (by omega) (by omega) (by omega) (s4 _ ?_)
            refine Ev.step (fun k => rfl) ?_
            simp only [atlasref01_Rune.j2, Bool.and_self, if_true, e1, e2, if_pos q1, if_pos q2, if_pos (show (((p + 1 : Nat) : Int)) < (s.size : Int) by omega), if_pos (show (((p + 2 : Nat) : Int)) < (s.size : Int) by omega), K1.out x1, K2.out y1, ev, if_pos (show (c : Int) ≥ 2048 by omega)]
            by_cases l : (c : Int) < 55296
            · simp only [if_pos l]; exact Ev.now _
            · simp only [if_neg l, if_pos (show (c : Int) > 57343 by omega)]; exact Ev.now _
          · have ok2 : (decide (c ≥ 2048) && Utf8.valid (c : Int)) = false := by
              rw [Bool.eq_false_iff]
              intro h
              rw [Bool.and_eq_true] at h
              have h1 := of_decide_eq_true h.1
              have h2 := hcv.1 h.2
              omega
            refine bad (by rw [hd]; simp only [dec, if_neg c0, a1, a2, BEq.rfl, Bool.true_and, Bool.false_and, Bool.false_eq_true, if_false, if_true, hC, ok2]; rfl) h128 (s4 _ ?_)
            refine Ev.step (fun k => rfl) ?_
            simp only [atlasref01_Rune.j2, Bool.and_self, if_true, e1, e2, if_pos q1, if_pos q2, if_pos (show (((p + 1 : Nat) : Int)) < (s.size : Int) by omega), if_pos (show (((p + 2 : Nat) : Int)) < (s.size : Int) by omega), K1.out x1, K2.out y1, ev]
            by_cases g : (c : Int) ≥ 2048
            · simp only [if_pos g, if_neg (show ¬ (c : Int) < 55296 by omega), if_neg (show ¬ (c : Int) > 57343 by omega)]; exact Ev.now _
            · simp only [if_neg g]; exact Ev.now _
        · have nb : (c1 && c2) = false := by
            rw [Bool.eq_false_iff]
            intro h
            rw [Bool.and_eq_true] at h
            exact c12 h
          rw [nb] at s4
          refine bad (by rw [hd]; simp only [dec, if_neg c0, a1, a2, a3, BEq.rfl, Bool.true_and, Bool.false_and, Bool.false_eq_true, if_false, nb]; rfl) h128 (s4 _ ?_)
          refine Ev.step (fun k => rfl) ?_
          simp only [atlasref01_Rune.j2, Bool.false_eq_true, if_false]
          exact Ev.now _
      · have n3 : (decide ((b0 : Int) ≥ 224) && decide ((b0 : Int) ≤ 239)) = false := by
          rw [Bool.and_eq_false_iff, decide_eq_false_iff_not, decide_eq_false_iff_not]
          omega
        rw [n3] at s3
        have s5 : ∀ v, Ev (fun k => atlasref01_Rune.j3 k s p b0 (decide ((b0 : Int) ≥ 240) && decide ((b0 : Int) ≤ 244))) v → Ev (fun k => atlasref01_Rune.f k s (p : Int)) v := by
          intro v hv
          refine s3 v (Ev.step (fun k => rfl) ?_)
          simp only [atlasref01_Rune.j1, Bool.false_eq_true, if_false]
          by_cases c : (b0 : Int) ≥ 240
          · simp only [if_pos c]
            simpa only [c, decide_true, Bool.true_and] using hv
          · simp only [if_neg c]
            simpa only [c, decide_false, Bool.false_and] using hv
        have a2 : (b0 / 16 == 14) = false := beq_eq_false_iff_ne.2 (by omega)
        by_cases r4 : 240 ≤ b0 ∧ b0 ≤ 244
        · have a1 : b0 / 8 = 30 := by omega
          have a3 : (b0 / 32 == 6) = false := beq_eq_false_iff_ne.2 (by omega)
          have s6 : ∀ v, Ev (fun k => atlasref01_Rune.j4 k s p b0 (c1 && c2 && c3)) v → Ev (fun k => atlasref01_Rune.f k s (p : Int)) v := by
            intro v hv
            refine s5 v ?_
            simp only [show (b0 : Int) ≥ 240 by omega, show (b0 : Int) ≤ 244 by omega, decide_true, Bool.true_and]
            refine Ev.step (fun k => rfl) ?_
            simp only [atlasref01_Rune.j3, if_true, e1, e2, e3, t1, t2, t3, Option.bind_some]
            cases c1 with
            | true =>
              cases c2 with
              | true => simpa only [if_true, Bool.true_and] using hv
              | false => simpa only [if_true, Bool.true_and, Bool.false_eq_true, if_false, Bool.false_and] using hv
            | false => simpa only [Bool.false_eq_true, if_false, Bool.false_and] using hv
          by_cases c123 : c1 = true ∧ c2 = true ∧ c3 = true
          · obtain ⟨rfl, rfl, rfl⟩ := c123
            obtain ⟨x1, x2, x3⟩ := g1 rfl
            obtain ⟨y1, y2, y3⟩ := g2 rfl
            obtain ⟨z1, z2, z3⟩ := g3 rfl
            rw [Bool.and_self, Bool.and_self] at s6
            have ev : (wrap64 ((wrap64 ((wrap64 ((wrap64 ((wrap64 ((wrap64 ((b0 : Int) - 240)) * 262144)) + (wrap64 ((wrap64 ((wrap64 (b1 : Int)) - 128)) * 4096)))) + (wrap64 ((wrap64 ((wrap64 (b2 : Int)) - 128)) * 64)))) + (wrap64 (b3 : Int)))) - 128)) = ((b0 % 8 * 262144 + b1 % 64 * 4096 + b2 % 64 * 64 + b3 % 64 : Nat) : Int) := by
              have m0 : b0 % 8 = b0 - 240 := by omega
              have m1 : b1 % 64 = b1 - 128 := by omega
              have m2 : b2 % 64 = b2 - 128 := by omega
              have m3 : b3 % 64 = b3 - 128 := by omega
              rw [m0, m1, m2, m3]
              simp (disch := omega) only [IntWalk.wrap64_in]
              omega
            generalize hC : b0 % 8 * 262144 + b1 % 64 * 4096 + b2 % 64 * 64 + b3 % 64 = c at ev
            have hcv := valid_iff c
            by_cases ok : c ≥ 65536 ∧ c ≤ 1114111
            · have ok2 : (decide (c ≥ 65536) && Utf8.valid (c : Int)) = true := by rw [Bool.and_eq_true]; exact ⟨decide_eq_true ok.1, hcv.2 (by omega)⟩
              refine good c 4 (by rw [hd]; simp only [dec, if_neg c0, a1, a2, a3, BEq.rfl, Bool.true_and, Bool.false_and, Bool.false_eq_true, if_false, if_true, hC, ok2]) h128 (by omega) (by omega) (by omega) (s6 _ ?_)
              refine Ev.step (fun k => rfl) ?_
              simp only [atlasref01_Rune.j4, Bool.and_self, if_true, e1, e2, e3, if_pos q1, if_pos q2, if_pos q3, if_pos (show (((p + 1 : Nat) : Int)) < (s.size : Int) by omega), if_pos (show (((p + 2 : Nat) : Int)) < (s.size : Int) by omega), if_pos (show (((p + 3 : Nat) : Int)) < (s.size : Int) by omega), K1.out x1, K2.out y1, K3.out z1, ev, if_pos (show (c : Int) ≥ 65536 by omega), if_pos (show (c : Int) ≤ 1114111 by omega)]
              exact Ev.now _
            · have ok2 : (decide (c ≥ 65536) && Utf8.valid (c : Int)) = false := by
                rw [Bool.eq_false_iff]
                intro h
                rw [Bool.and_eq_true] at h
                have h1 := of_decide_eq_true h.1
                have h2 := hcv.1 h.2
                omega
              refine bad (by rw [hd]; simp only [dec, if_neg c0, a1, a2, a3, BEq.rfl, Bool.true_and, Bool.false_and, Bool.false_eq_true, if_false, if_true, hC, ok2]; rfl) h128 (s6 _ ?_)
              refine Ev.step (fun k => rfl) ?_
              simp only [atlasref01_Rune.j4, Bool.and_self, if_true, e1, e2, e3, if_pos q1, if_pos q2, if_pos q3, if_pos (show (((p + 1 : Nat) : Int)) < (s.size : Int) by omega), if_pos (show (((p + 2 : Nat) : Int)) < (s.size : Int) by omega), if_pos (show (((p + 3 : Nat) : Int)) < (s.size : Int) by omega), K1.out x1, K2.out y1, K3.out z1, ev]
              by_cases g : (c : Int) ≥ 65536
              · simp only [if_pos g, if_neg (show ¬ (c : Int) ≤ 1114111 by omega)]; exact Ev.now _
              · simp only [if_neg g]; exact Ev.now _
          · have nb : (c1 && c2 && c3) = false := by
              rw [Bool.eq_false_iff]
              intro h
              rw [Bool.and_eq_true, Bool.and_eq_true] at h
              exact c123 ⟨h.1.1, h.1.2, h.2⟩
            rw [nb] at s6
            refine bad (by rw [hd]; simp only [dec, if_neg c0, a1, a2, a3, BEq.rfl, Bool.true_and, Bool.false_and, Bool.false_eq_true, if_false, nb]; rfl) h128 (s6 _ ?_)
            refine Ev.step (fun k => rfl) ?_
            simp only [atlasref01_Rune.j4, Bool.false_eq_true, if_false]
            exact Ev.now _
        · have n4 : (decide ((b0 : Int) ≥ 240) && decide ((b0 : Int) ≤ 244)) = false := by
            rw [Bool.and_eq_false_iff, decide_eq_false_iff_not, decide_eq_false_iff_not]
            omega
          rw [n4] at s5
          refine bad ?_ h128 (s5 _ ?_)
          · rw [hd]
            by_cases h6 : b0 / 32 = 6
            · exact d2 h6 _
            · have a3 : (b0 / 32 == 6) = false := beq_eq_false_iff_ne.2 h6
              by_cases h8 : b0 / 8 = 30
              · have hv : Utf8.valid ((b0 % 8 * 262144 + b1 % 64 * 4096 + b2 % 64 * 64 + b3 % 64 : Nat) : Int) = false := by
                  rw [Bool.eq_false_iff]
                  intro h
                  have := (valid_iff _).1 h
                  omega
                simp only [dec, if_neg c0, a2, a3, h8, BEq.rfl, Bool.true_and, Bool.false_and, Bool.false_eq_true, if_false, hv, Bool.and_false, ite_self]
                rfl
              · simp only [dec, if_neg c0, a2, a3, beq_eq_false_iff_ne.2 h8, Bool.false_and, Bool.false_eq_true, if_false]
                rfl
          · refine Ev.step (fun k => rfl) ?_
            simp only [atlasref01_Rune.j3, Bool.false_eq_true, if_false]
            exact Ev.now _


theorem rune_ev (s : ByteArray) (hn : s.size ≤ 140737488351232) (p : Nat) (hp : p < s.size) :
    ∃ r : Int, Ev (fun k => atlasref01_Rune.f k s (p : Int)) (r, ((Utf8.decode s p).2 : Int)) ∧ (r = ((Utf8.decode s p).1 : Int) ∨ (r = -1 ∧ (Utf8.decode s p).1 = 65533 ∧ (Utf8.decode s p).2 = 1)) ∧
      1 ≤ (Utf8.decode s p).2 ∧ p + (Utf8.decode s p).2 ≤ s.size ∧ ((s.get! p).toNat < 128 → r = ((s.get! p).toNat : Int)) ∧ (128 ≤ (s.get! p).toNat → r = -1 ∨ 128 ≤ r) := by
  have g : ∀ i, tl s i = true → i < s.size ∧ 128 ≤ (s.get! i).toNat ∧ (s.get! i).toNat ≤ 191 := fun i h => by
    simp only [tl, Bool.and_eq_true, decide_eq_true_eq, beq_iff_eq] at h
    obtain ⟨h1, h2⟩ := h
    generalize (s.get! i).toNat = b at *
    exact ⟨h1, by omega, by omega⟩
  exact rune_core s p _ _ _ _ (tl s (p + 1)) (tl s (p + 2)) (tl s (p + 3)) _ (decode_dec s p) hn hp (s.get! p).toNat_lt (s.get! (p + 1)).toNat_lt (s.get! (p + 2)).toNat_lt (s.get! (p + 3)).toNat_lt
    (tail_eq s (p + 1)) (tail_eq s (p + 2)) (tail_eq s (p + 3)) (g _) (g _) (g _) ⟨bt_get s p hp⟩ ⟨bt_get s (p + 1)⟩ ⟨bt_get s (p + 2)⟩ ⟨bt_get s (p + 3)⟩

end Go.Proofs.Ytihjlkdobdffjaa.Pure
