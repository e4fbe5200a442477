/-
  What the law's copy of an image is: the image.
  Conditions: none.
-/
import Derived.Test.YtmphkmoakamepaaVaOpen
import Derived.Test.YtmphkmoakamepaaVl
import Derived.MapKept

set_option linter.unusedVariables false
set_option linter.unusedSimpArgs false
set_option autoImplicit false
namespace Go.Va
abbrev SegC : CT := .pair (.int .u32) (.pair (.int .u32) (.pair (.pair .bool (.pair .bool (.pair .bool .unit))) (.pair (.vec (.int .u8)) .unit)))
abbrev SymC : CT := .pair .str (.pair (.int .u32) .unit)
abbrev ImgC : CT := .pair (.int .u32) (.pair (.vec SegC) (.pair (.vec SymC) .unit))
abbrev SegT : Type := Int × Int × (Bool × Bool × Bool × Unit) × (List Int) × Unit
abbrev SymT : Type := ByteArray × Int × Unit
theorem wrap_i64e (x : Int) (h0 : -9223372036854775808 ≤ x) (h1 : x < 9223372036854775808) : IntKind.wrap .i64 x = x := by
  have w : IntKind.wrap .i64 x = if (true && decide (x % 18446744073709551616 ≥ 9223372036854775808)) = true then x % 18446744073709551616 - 18446744073709551616 else x % 18446744073709551616 := by rfl
  rw [w]
  simp only [Bool.true_and, decide_eq_true_eq]
  split <;> omega
theorem maxLen_v : maxLen = 9223372036854775807 := by decide
theorem reach_v : reachBytes = 140737488351232 := by decide
/-- An image as any may be handed in. -/
structure ImgOk (x : T25) : Prop where
  sl : x.f1_Segments.length * 40 ≤ reachBytes
  sd : ∀ s ∈ x.f1_Segments, List.length s.2.2.2.1 ≤ reachBytes
  yl : x.f2_Symbols.length * 24 ≤ reachBytes
  yn : ∀ s ∈ x.f2_Symbols, s.1.size ≤ reachBytes
  e0 : 0 ≤ x.f0_Entry ∧ x.f0_Entry < 4294967296
  su : ∀ s ∈ x.f1_Segments, (0 ≤ s.1 ∧ s.1 < 4294967296) ∧ (0 ≤ s.2.1 ∧ s.2.1 < 4294967296) ∧ ∀ b ∈ s.2.2.2.1, (0 : Int) ≤ b ∧ b < 256
  yu : ∀ s ∈ x.f2_Symbols, 0 ≤ s.2.1 ∧ s.2.1 < 4294967296
theorem u32_wf {x : Int} (h : (Lit.int .u32 x).wf = true) : 0 ≤ x ∧ x < 4294967296 := by
  simp only [Lit.wf, IntKind.min, IntKind.max, Bool.and_eq_true, decide_eq_true_eq] at h
  simp [IntKind.bits, IntKind.signed] at h
  omega
theorem u8_wf {x : Int} (h : (Lit.int .u8 x).wf = true) : 0 ≤ x ∧ x < 256 := by
  simp only [Lit.wf, IntKind.min, IntKind.max, Bool.and_eq_true, decide_eq_true_eq] at h
  simp [IntKind.bits, IntKind.signed] at h
  omega
theorem img_ok {y : ImgC.D} (h : ImgC.wf y) : ImgOk ⟨y.1, y.2.1, y.2.2.1⟩ := by
  have h1 : (Lit.int .u32 y.1).wf = true := h.1
  have h2 : List.length y.2.1 ≤ maxLen ∧ List.length y.2.1 * SegC.bytes ≤ reachBytes ∧ ∀ s ∈ y.2.1, SegC.wf s := h.2.1
  have h3 : List.length y.2.2.1 ≤ maxLen ∧ List.length y.2.2.1 * SymC.bytes ≤ reachBytes ∧ ∀ s ∈ y.2.2.1, SymC.wf s := h.2.2.1
  have b1 : SegC.bytes = 40 := by decide
  have b2 : SymC.bytes = 24 := by decide
  rw [b1] at h2
  rw [b2] at h3
  refine ⟨h2.2.1, fun s hs => ?_, h3.2.1, fun s hs => ?_, u32_wf h1, fun s hs => ?_, fun s hs => ?_⟩
  · have h4 : List.length s.2.2.2.1 ≤ maxLen ∧ List.length s.2.2.2.1 * (CT.int .u8).bytes ≤ reachBytes ∧ ∀ b ∈ s.2.2.2.1, (CT.int .u8).wf b := (h2.2.2 s hs).2.2.2.1
    have b3 : (CT.int .u8).bytes = 1 := by decide
    rw [b3] at h4
    have := h4.2.1
    simpa using this
  · have h4 : ByteArray.size s.1 ≤ maxLen ∧ ByteArray.size s.1 ≤ reachBytes := (h3.2.2 s hs).1
    exact h4.2
  · have h4 : (Lit.int .u32 s.1).wf = true := (h2.2.2 s hs).1
    have h5 : (Lit.int .u32 s.2.1).wf = true := (h2.2.2 s hs).2.1
    have h6 : List.length s.2.2.2.1 ≤ maxLen ∧ List.length s.2.2.2.1 * (CT.int .u8).bytes ≤ reachBytes ∧ ∀ b ∈ s.2.2.2.1, (CT.int .u8).wf b := (h2.2.2 s hs).2.2.2.1
    exact ⟨u32_wf h4, u32_wf h5, fun b hb => u8_wf (h6.2.2 b hb)⟩
  · have h4 : (Lit.int .u32 s.2.1).wf = true := (h3.2.2 s hs).2.1
    exact u32_wf h4
theorem getD_drop {α : Type} {l : List α} {q : Nat} {c : α} {cs : List α} (h : l.drop q = c :: cs) (d : α) : l.getD q d = c ∧ q < l.length ∧ l.drop (q + 1) = cs := by
  have h1 : l[q]? = some c := by
    have e := List.getElem?_drop (xs := l) (i := q) (j := 0)
    rw [h] at e
    simpa using e.symm
  refine ⟨by rw [List.getD_eq_getElem?_getD, h1]; rfl, (List.getElem?_eq_some_iff.1 h1).1, ?_⟩
  have e : List.drop (q + 1) l = List.drop 1 (List.drop q l) := by rw [List.drop_drop, Nat.add_comm]
  rw [e, h]; rfl
end Go.Va

/-
  What the law's copy of an image is: the image.
  Conditions: none.
-/
namespace Go.Va
theorem own_loop (k : Nat) (E r e : Int) (S : List SegT) (Y : List SymT) (xs : List SegT) (ys zs : List SymT) (h40 : S.length * 40 ≤ reachBytes) (hd : ∀ s ∈ S, List.length s.2.2.2.1 ≤ reachBytes) :
    ∀ (cs : List SegT) (n q : Nat), S.drop q = cs → cs.length < n → atlaslaw23_own.q0.l k n ((q : Int), E, S, Y, r, e, xs, ys, S.take q, zs) = some (E, S, Y, r, e, xs, ys, S, zs) := by
  have hr := reach_v
  have hm := maxLen_v
  intro cs
  induction cs with
  | nil =>
    intro n q hq hn
    obtain ⟨n, rfl⟩ : ∃ m, n = m + 1 := ⟨n - 1, by simp at hn; omega⟩
    have h1 := List.drop_eq_nil_iff.1 hq
    have c1 : decide ((q : Int) < ((S.length : Nat) : Int)) = false := by simp; omega
    simp only [atlaslaw23_own.q0.l, c1, cond_false]
    rw [List.take_of_length_le h1]
  | cons c cs ih =>
    intro n q hq hn
    obtain ⟨n, rfl⟩ : ∃ m, n = m + 1 := ⟨n - 1, by simp at hn; omega⟩
    obtain ⟨hg, hlt, hq'⟩ := getD_drop hq (0, 0, (false, false, false, ()), [], ())
    have hmem : c ∈ S := by
      have : c ∈ S.drop q := by rw [hq]; exact List.mem_cons_self
      exact List.mem_of_mem_drop this
    have hdc := hd c hmem
    have htk : S.take (q + 1) = S.take q ++ [c] := by
      rw [List.take_add_one]
      have h1 : S[q]? = some c := by
        have e := List.getElem?_drop (xs := S) (i := q) (j := 0)
        rw [hq] at e
        simpa using e.symm
      rw [h1]; rfl
    obtain ⟨va, sz, ⟨f1, f2, f3, u1⟩, dat, u2⟩ := c
    simp only at hdc
    have c1 : decide ((q : Int) < ((S.length : Nat) : Int)) = true := by simp; omega
    have c2 : decide ((0 : Int) ≤ (q : Int)) = true := by simp
    have e1 : IntKind.wrap .i64 ((q : Int) + 1) = ((q + 1 : Nat) : Int) := by rw [wrap_i64e _ (by omega) (by omega)]; omega
    have c3 : decide (dat.length ≤ maxLen) = true := by simp; omega
    have c4 : decide (dat.length * 1 ≤ 211106232532992) = true := by simp; omega
    have hl : (S.take q ++ [((va, sz, (f1, f2, f3, ()), dat, ()) : SegT)]).length = q + 1 := by simp; omega
    have c5 : decide (q + 1 ≤ maxLen) = true := by simp; omega
    have c6 : decide ((q + 1) * 40 ≤ 211106232532992) = true := by simp; omega
    have hrec := ih n (q + 1) hq' (by simp at hn; omega)
    rw [htk] at hrec
    have hrec' : atlaslaw23_own.q0.l k n (((q + 1 : Nat) : Int), E, S, Y, r, e, xs, ys, S.take q ++ [((va, sz, (f1, f2, f3, ()), dat, ()) : SegT)], zs) = some (E, S, Y, r, e, xs, ys, S, zs) := hrec
    simp only [atlaslaw23_own.q0.l, c1, c2, Bool.and_self, cond_true, Int.toNat_natCast, hg, List.nil_append, c3, c4, hl, c5, c6, e1]
    exact hrec'
theorem own_eq (x : T25) (h : ImgOk x) (k : Nat) (hk : x.f1_Segments.length < k) : atlaslaw23_own.f k x = some x := by
  have hr := reach_v
  have hm := maxLen_v
  have h1 := own_loop k x.f0_Entry 0 x.f0_Entry x.f1_Segments x.f2_Symbols [] [] [] h.sl h.sd x.f1_Segments k 0 rfl hk
  have h2 := h.yl
  unfold atlaslaw23_own.f
  have h1' : atlaslaw23_own.q0.l k k (0, x.f0_Entry, x.f1_Segments, x.f2_Symbols, 0, x.f0_Entry, [], [], [], []) = _ := h1
  have c1 : (decide (x.f2_Symbols.length ≤ maxLen) && decide (x.f2_Symbols.length * 24 ≤ 211106232532992)) = true := by simp; omega
  rw [h1', Option.bind_some]
  simp only [List.nil_append]
  rw [c1, cond_true]
end Go.Va

/-
  A rune that the document's answer puts together byte by byte is the rune that a range over the text tells, with the same width; a bad byte is told as -1 by the one and as the replacement rune by the other.
  Conditions: a text of at most 140737488351232 bytes, a place within it.
-/
namespace Go.Va
/-- The decoding, of four bytes and three marks. -/
def dec4 (b0 b1 b2 b3 : Nat) (c1 c2 c3 : Bool) : Nat × Nat :=
  if b0 < 0x80 then (b0, 1)
  else if b0 / 32 == 6 && c1 then
    let c := (b0 % 32) * 64 + b1 % 64
    if c ≥ 0x80 then (c, 2) else (Utf8.runeError, 1)
  else if b0 / 16 == 14 && c1 && c2 then
    let c := (b0 % 16) * 4096 + (b1 % 64) * 64 + b2 % 64
    if c ≥ 0x800 && Utf8.valid c then (c, 3) else (Utf8.runeError, 1)
  else if b0 / 8 == 30 && c1 && c2 && c3 then
    let c := (b0 % 8) * 262144 + (b1 % 64) * 4096 + (b2 % 64) * 64 + b3 % 64
    if c ≥ 0x10000 && Utf8.valid c then (c, 4) else (Utf8.runeError, 1)
  else (Utf8.runeError, 1)
theorem decode_dec4 (s : ByteArray) (p : Nat) : Utf8.decode s p = dec4 (s.get! (p + 0)).toNat (s.get! (p + 1)).toNat (s.get! (p + 2)).toNat (s.get! (p + 3)).toNat
    (p + 1 < s.size && (s.get! (p + 1)).toNat / 64 == 2) (p + 2 < s.size && (s.get! (p + 2)).toNat / 64 == 2) (p + 3 < s.size && (s.get! (p + 3)).toNat / 64 == 2) := rfl

theorem byteAt_get (s : ByteArray) (p : Nat) (h : p < s.size) : byteAt s (p : Int) = ((s.get! p).toNat : Int) := by
  have h' : p < s.data.toList.length := by simpa using h
  have e1 : s.data.toList.getD p 0 = s.get! p := by
    rw [List.getD_eq_getElem?_getD, List.getElem?_eq_getElem h', Option.getD_some]
    have h2 : p < s.data.size := h
    show s.data.toList[p] = s.data[p]!
    rw [getElem!_pos s.data p h2]
    simp
  unfold byteAt
  rw [Int.toNat_natCast, e1]

def tl (s : ByteArray) (p : Nat) : Bool := p < s.size && (s.get! p).toNat / 64 == 2
theorem tail_eq (s : ByteArray) (p : Nat) : atlasref01_tail.f s (p : Int) = some (tl s p) := by
  unfold atlasref01_tail.f tl
  have h0 : decide ((0 : Int) ≤ (p : Int)) = true := by simp
  by_cases h : p < s.size
  · have h' : decide ((p : Int) < (s.size : Int)) = true := by simp; omega
    rw [h', cond_true, h0, byteAt_get s p h, Bool.and_self, cond_true]
    have hb : (s.get! p).toNat < 256 := (s.get! p).toNat_lt
    generalize (s.get! p).toNat = b at *
    rw [decide_eq_true h, Bool.true_and]
    by_cases h1 : (b : Int) ≥ 128
    · rw [decide_eq_true h1, cond_true, cond_true]
      congr 1
      rw [Bool.eq_iff_iff]
      simp
      omega
    · rw [decide_eq_false h1, cond_false]
      congr 1
      symm
      simp
      omega
  · have h' : decide ((p : Int) < (s.size : Int)) = false := by simp; omega
    rw [h', cond_false]
    simp [h]

theorem valid_iff (c : Nat) : Utf8.valid (c : Int) = true ↔ (c < 55296 ∨ (57344 ≤ c ∧ c ≤ 1114111)) := by
  unfold Utf8.valid
  simp
  omega

/-- What a rune comes to, as these bytes go. -/
def Told (s : ByteArray) (p b0 : Nat) (D : Nat × Nat) : Prop :=
  ∃ r : Int, atlasref01_Rune.f s (p : Int) = some (r, (D.2 : Int)) ∧ (r = (D.1 : Int) ∨ (r = -1 ∧ D.1 = 65533 ∧ D.2 = 1)) ∧
      1 ≤ D.2 ∧ p + D.2 ≤ s.size ∧ (b0 < 128 → r = (b0 : Int)) ∧ (128 ≤ b0 → r = -1 ∨ 128 ≤ r)
theorem told_bad {s : ByteArray} {p b0 : Nat} {D : Nat × Nat} (hp : p + 1 ≤ s.size) (he : D = (65533, 1)) (h128 : 128 ≤ b0) (hev : atlasref01_Rune.f s (p : Int) = some ((-1 : Int), (1 : Int))) : Told s p b0 D := by
  subst he
  exact ⟨-1, hev, .inr ⟨rfl, rfl, rfl⟩, Nat.le_refl _, hp, fun h => by omega, fun _ => .inl rfl⟩
theorem told_good {s : ByteArray} {p b0 : Nat} {D : Nat × Nat} (c n : Nat) (he : D = (c, n)) (h128 : 128 ≤ b0) (hc : 128 ≤ c) (h1 : 1 ≤ n) (h2 : p + n ≤ s.size) (hev : atlasref01_Rune.f s (p : Int) = some ((c : Int), (n : Int))) : Told s p b0 D := by
  subst he
  exact ⟨c, hev, .inl rfl, h1, h2, fun h => by omega, fun _ => .inr (by omega)⟩

set_option maxRecDepth 100000 in
set_option maxHeartbeats 2000000 in
theorem rune_core (s : ByteArray) (p b0 b1 b2 b3 : Nat) (c1 c2 c3 : Bool) (D : Nat × Nat) (hd : D = dec4 b0 b1 b2 b3 c1 c2 c3) (hn : s.size ≤ 140737488351232) (hp : p < s.size) (hb0 : b0 < 256) (hb1 : b1 < 256) (hb2 : b2 < 256) (hb3 : b3 < 256)
    (t1 : atlasref01_tail.f s ((p + 1 : Nat) : Int) = some c1) (t2 : atlasref01_tail.f s ((p + 2 : Nat) : Int) = some c2) (t3 : atlasref01_tail.f s ((p + 3 : Nat) : Int) = some c3)
    (g1 : c1 = true → p + 1 < s.size ∧ 128 ≤ b1 ∧ b1 ≤ 191) (g2 : c2 = true → p + 2 < s.size ∧ 128 ≤ b2 ∧ b2 ≤ 191) (g3 : c3 = true → p + 3 < s.size ∧ 128 ≤ b3 ∧ b3 ≤ 191)
    (K0 : byteAt s (p : Int) = (b0 : Int)) (K1 : p + 1 < s.size → byteAt s ((p + 1 : Nat) : Int) = (b1 : Int)) (K2 : p + 2 < s.size → byteAt s ((p + 2 : Nat) : Int) = (b2 : Int)) (K3 : p + 3 < s.size → byteAt s ((p + 3 : Nat) : Int) = (b3 : Int)) :
    Told s p b0 D := by
  have e1 : IntKind.wrap .i64 ((p : Int) + 1) = ((p + 1 : Nat) : Int) := by rw [wrap_i64e _ (by omega) (by omega)]; omega
  have e2 : IntKind.wrap .i64 ((p : Int) + 2) = ((p + 2 : Nat) : Int) := by rw [wrap_i64e _ (by omega) (by omega)]; omega
  have e3 : IntKind.wrap .i64 ((p : Int) + 3) = ((p + 3 : Nat) : Int) := by rw [wrap_i64e _ (by omega) (by omega)]; omega
  have w0 : IntKind.wrap .i64 (b0 : Int) = b0 := wrap_i64e _ (by omega) (by omega)
  have i0 : decide ((0 : Int) ≤ (p : Int)) = true := decide_eq_true (by omega)
  have i1 : decide ((p : Int) < (s.size : Int)) = true := decide_eq_true (by omega)
  have q1 : decide ((0 : Int) ≤ ((p + 1 : Nat) : Int)) = true := decide_eq_true (by omega)
  have q2 : decide ((0 : Int) ≤ ((p + 2 : Nat) : Int)) = true := decide_eq_true (by omega)
  have q3 : decide ((0 : Int) ≤ ((p + 3 : Nat) : Int)) = true := decide_eq_true (by omega)
  have bad := fun (he : D = (65533, 1)) (h128 : 128 ≤ b0) hev => told_bad (s := s) (p := p) (b0 := b0) (D := D) hp he h128 hev
  have good := fun (c n : Nat) (he : D = (c, n)) (h128 : 128 ≤ b0) (hc : 128 ≤ c) (h1 : 1 ≤ n) (h2 : p + n ≤ s.size) hev => told_good (s := s) (p := p) (b0 := b0) (D := D) c n he h128 hc h1 h2 hev
  unfold atlasref01_Rune.f at bad good
  simp only [i0, i1, Bool.and_self, cond_true, K0, w0, e1, e2, e3, t1, t2, t3, Option.bind_some, q1, q2, q3] at bad good
  by_cases c0 : b0 < 128
  · have hdv : D = (b0, 1) := by rw [hd]; simp only [dec4, if_pos c0]
    subst hdv
    refine ⟨b0, ?_, .inl rfl, Nat.le_refl _, hp, fun _ => rfl, fun h => by omega⟩
    unfold atlasref01_Rune.f
    simp only [i0, i1, Bool.and_self, cond_true, K0, w0, decide_eq_true (show (b0 : Int) < 128 by omega)]
    rfl
  · have h128 : 128 ≤ b0 := by omega
    simp only [decide_eq_false (show ¬ (b0 : Int) < 128 by omega), cond_false] at bad good
    by_cases r2 : 194 ≤ b0 ∧ b0 ≤ 223
    · have a1 : b0 / 32 = 6 := by omega
      simp only [decide_eq_true (show (b0 : Int) ≥ 194 by omega), decide_eq_true (show (b0 : Int) ≤ 223 by omega), cond_true] at bad good
      cases c1 with
      | true =>
        obtain ⟨x1, x2, x3⟩ := g1 rfl
        have hc : b0 % 32 * 64 + b1 % 64 ≥ 128 := by omega
        refine good (b0 % 32 * 64 + b1 % 64) 2 (by rw [hd]; simp only [dec4, if_neg c0, a1, BEq.rfl, Bool.true_and, if_true, if_pos hc]) h128 (by omega) (by omega) (by omega) ?_
        have ev : (IntKind.wrap .i64 ((IntKind.wrap .i64 ((IntKind.wrap .i64 ((IntKind.wrap .i64 ((b0 : Int) - 192)) * 64)) + (IntKind.wrap .i64 (b1 : Int)))) - 128)) = ((b0 % 32 * 64 + b1 % 64 : Nat) : Int) := by
          have m0 : b0 % 32 = b0 - 192 := by omega
          have m1 : b1 % 64 = b1 - 128 := by omega
          rw [m0, m1]
          simp (disch := omega) only [wrap_i64e]
          omega
        simp only [cond_true, decide_eq_true (show (((p + 1 : Nat) : Int)) < (s.size : Int) by omega), Bool.and_self, K1 x1, ev]
        rfl
      | false =>
        refine bad (by rw [hd]; simp only [dec4, if_neg c0, a1, show ¬ b0 / 16 = 14 by omega, show ¬ b0 / 8 = 30 by omega, BEq.rfl, Bool.and_false, Bool.false_and, Bool.false_eq_true, if_false, beq_eq_false_iff_ne.2 (show b0 / 16 ≠ 14 by omega), beq_eq_false_iff_ne.2 (show b0 / 8 ≠ 30 by omega)]; rfl) h128 rfl
    · -- what the decoding says where the first byte is below 194: nothing
      have d2 : b0 / 32 = 6 → ∀ b, dec4 b0 b1 b2 b3 b (c2) (c3) = (65533, 1) := by
        intro h b
        have l : ¬ b0 % 32 * 64 + b1 % 64 ≥ 128 := by omega
        simp only [dec4, if_neg c0, h, BEq.rfl, Bool.true_and, if_neg l, beq_eq_false_iff_ne.2 (show b0 / 16 ≠ 14 by omega), beq_eq_false_iff_ne.2 (show b0 / 8 ≠ 30 by omega), Bool.false_and, Bool.false_eq_true, if_false, ite_self]
        rfl
      by_cases r3 : 224 ≤ b0 ∧ b0 ≤ 239
      · have a1 : b0 / 16 = 14 := by omega
        have a2 : (b0 / 32 == 6) = false := beq_eq_false_iff_ne.2 (by omega)
        have a3 : (b0 / 8 == 30) = false := beq_eq_false_iff_ne.2 (by omega)
        simp only [decide_eq_true (show (b0 : Int) ≥ 194 by omega), decide_eq_false (show ¬ (b0 : Int) ≤ 223 by omega), decide_eq_true (show (b0 : Int) ≥ 224 by omega), decide_eq_true (show (b0 : Int) ≤ 239 by omega), cond_true, cond_false] at bad good
        cases c1 with
        | false =>
          exact bad (by rw [hd]; simp only [dec4, if_neg c0, a1, a2, a3, BEq.rfl, Bool.true_and, Bool.false_and, Bool.and_false, Bool.false_eq_true, if_false]; rfl) h128 rfl
        | true =>
          cases c2 with
          | false =>
            exact bad (by rw [hd]; simp only [dec4, if_neg c0, a1, a2, a3, BEq.rfl, Bool.true_and, Bool.false_and, Bool.and_false, Bool.false_eq_true, if_false]; rfl) h128 rfl
          | true =>
            obtain ⟨x1, x2, x3⟩ := g1 rfl
            obtain ⟨y1, y2, y3⟩ := g2 rfl
            have ev : (IntKind.wrap .i64 ((IntKind.wrap .i64 ((IntKind.wrap .i64 ((IntKind.wrap .i64 ((IntKind.wrap .i64 ((b0 : Int) - 224)) * 4096)) + (IntKind.wrap .i64 ((IntKind.wrap .i64 ((IntKind.wrap .i64 (b1 : Int)) - 128)) * 64)))) + (IntKind.wrap .i64 (b2 : Int)))) - 128)) = ((b0 % 16 * 4096 + b1 % 64 * 64 + b2 % 64 : Nat) : Int) := by
              have m0 : b0 % 16 = b0 - 224 := by omega
              have m1 : b1 % 64 = b1 - 128 := by omega
              have m2 : b2 % 64 = b2 - 128 := by omega
              rw [m0, m1, m2]
              simp (disch := omega) only [wrap_i64e]
              omega
            generalize hC : b0 % 16 * 4096 + b1 % 64 * 64 + b2 % 64 = c at ev
            have hcv := valid_iff c
            simp only [cond_true, decide_eq_true (show (((p + 1 : Nat) : Int)) < (s.size : Int) by omega), decide_eq_true (show (((p + 2 : Nat) : Int)) < (s.size : Int) by omega), Bool.and_self, K1 x1, K2 y1, ev] at bad good
            by_cases ok : c ≥ 2048 ∧ (c < 55296 ∨ c > 57343)
            · have ok2 : (decide (c ≥ 2048) && Utf8.valid (c : Int)) = true := by rw [Bool.and_eq_true]; exact ⟨decide_eq_true ok.1, hcv.2 (by omega)⟩
              refine good c 3 (by rw [hd]; simp only [dec4, if_neg c0, a1, a2, BEq.rfl, Bool.true_and, Bool.false_and, Bool.false_eq_true, if_false, if_true, hC, ok2]) h128 (by omega) (by omega) (by omega) ?_
              simp only [decide_eq_true (show (c : Int) ≥ 2048 by omega), cond_true]
              by_cases l : (c : Int) < 55296
              · rw [decide_eq_true l, cond_true]; rfl
              · rw [decide_eq_false l, cond_false, decide_eq_true (show (c : Int) > 57343 by omega), cond_true]; rfl
            · have ok2 : (decide (c ≥ 2048) && Utf8.valid (c : Int)) = false := by
                rw [Bool.eq_false_iff]
                intro h
                rw [Bool.and_eq_true] at h
                have h1 := of_decide_eq_true h.1
                have h2 := hcv.1 h.2
                omega
              refine bad (by rw [hd]; simp only [dec4, if_neg c0, a1, a2, BEq.rfl, Bool.true_and, Bool.false_and, Bool.false_eq_true, if_false, if_true, hC, ok2]; rfl) h128 ?_
              by_cases g : (c : Int) ≥ 2048
              · simp only [decide_eq_true g, cond_true, decide_eq_false (show ¬ (c : Int) < 55296 by omega), decide_eq_false (show ¬ (c : Int) > 57343 by omega), cond_false]
              · simp only [decide_eq_false g, cond_false]
      · have a2 : (b0 / 16 == 14) = false := beq_eq_false_iff_ne.2 (by omega)
        by_cases r4 : 240 ≤ b0 ∧ b0 ≤ 244
        · have a1 : b0 / 8 = 30 := by omega
          have a3 : (b0 / 32 == 6) = false := beq_eq_false_iff_ne.2 (by omega)
          simp only [decide_eq_true (show (b0 : Int) ≥ 194 by omega), decide_eq_false (show ¬ (b0 : Int) ≤ 223 by omega), decide_eq_true (show (b0 : Int) ≥ 224 by omega), decide_eq_false (show ¬ (b0 : Int) ≤ 239 by omega), decide_eq_true (show (b0 : Int) ≥ 240 by omega), decide_eq_true (show (b0 : Int) ≤ 244 by omega), cond_true, cond_false] at bad good
          cases c1 with
          | false => exact bad (by rw [hd]; simp only [dec4, if_neg c0, a1, a2, a3, BEq.rfl, Bool.true_and, Bool.false_and, Bool.and_false, Bool.false_eq_true, if_false]; rfl) h128 rfl
          | true =>
            cases c2 with
            | false => exact bad (by rw [hd]; simp only [dec4, if_neg c0, a1, a2, a3, BEq.rfl, Bool.true_and, Bool.false_and, Bool.and_false, Bool.false_eq_true, if_false]; rfl) h128 rfl
            | true =>
              cases c3 with
              | false => exact bad (by rw [hd]; simp only [dec4, if_neg c0, a1, a2, a3, BEq.rfl, Bool.true_and, Bool.false_and, Bool.and_false, Bool.false_eq_true, if_false]; rfl) h128 rfl
              | true =>
                obtain ⟨x1, x2, x3⟩ := g1 rfl
                obtain ⟨y1, y2, y3⟩ := g2 rfl
                obtain ⟨z1, z2, z3⟩ := g3 rfl
                have ev : (IntKind.wrap .i64 ((IntKind.wrap .i64 ((IntKind.wrap .i64 ((IntKind.wrap .i64 ((IntKind.wrap .i64 ((IntKind.wrap .i64 ((b0 : Int) - 240)) * 262144)) + (IntKind.wrap .i64 ((IntKind.wrap .i64 ((IntKind.wrap .i64 (b1 : Int)) - 128)) * 4096)))) + (IntKind.wrap .i64 ((IntKind.wrap .i64 ((IntKind.wrap .i64 (b2 : Int)) - 128)) * 64)))) + (IntKind.wrap .i64 (b3 : Int)))) - 128)) = ((b0 % 8 * 262144 + b1 % 64 * 4096 + b2 % 64 * 64 + b3 % 64 : Nat) : Int) := by
                  have m0 : b0 % 8 = b0 - 240 := by omega
                  have m1 : b1 % 64 = b1 - 128 := by omega
                  have m2 : b2 % 64 = b2 - 128 := by omega
                  have m3 : b3 % 64 = b3 - 128 := by omega
                  rw [m0, m1, m2, m3]
                  simp (disch := omega) only [wrap_i64e]
                  omega
                generalize hC : b0 % 8 * 262144 + b1 % 64 * 4096 + b2 % 64 * 64 + b3 % 64 = c at ev
                have hcv := valid_iff c
                simp only [cond_true, decide_eq_true (show (((p + 1 : Nat) : Int)) < (s.size : Int) by omega), decide_eq_true (show (((p + 2 : Nat) : Int)) < (s.size : Int) by omega), decide_eq_true (show (((p + 3 : Nat) : Int)) < (s.size : Int) by omega), Bool.and_self, K1 x1, K2 y1, K3 z1, ev] at bad good
                by_cases ok : c ≥ 65536 ∧ c ≤ 1114111
                · have ok2 : (decide (c ≥ 65536) && Utf8.valid (c : Int)) = true := by rw [Bool.and_eq_true]; exact ⟨decide_eq_true ok.1, hcv.2 (by omega)⟩
                  refine good c 4 (by rw [hd]; simp only [dec4, if_neg c0, a1, a2, a3, BEq.rfl, Bool.true_and, Bool.false_and, Bool.false_eq_true, if_false, if_true, hC, ok2]) h128 (by omega) (by omega) (by omega) ?_
                  simp only [decide_eq_true (show (c : Int) ≥ 65536 by omega), decide_eq_true (show (c : Int) ≤ 1114111 by omega), cond_true]
                  rfl
                · have ok2 : (decide (c ≥ 65536) && Utf8.valid (c : Int)) = false := by
                    rw [Bool.eq_false_iff]
                    intro h
                    rw [Bool.and_eq_true] at h
                    have h1 := of_decide_eq_true h.1
                    have h2 := hcv.1 h.2
                    omega
                  refine bad (by rw [hd]; simp only [dec4, if_neg c0, a1, a2, a3, BEq.rfl, Bool.true_and, Bool.false_and, Bool.false_eq_true, if_false, if_true, hC, ok2]; rfl) h128 ?_
                  by_cases g : (c : Int) ≥ 65536
                  · simp only [decide_eq_true g, cond_true, decide_eq_false (show ¬ (c : Int) ≤ 1114111 by omega), cond_false]
                  · simp only [decide_eq_false g, cond_false]
        · refine bad ?_ h128 ?_
          · rw [hd]
            by_cases h6 : b0 / 32 = 6
            · exact d2 h6 _
            · have a3 : (b0 / 32 == 6) = false := beq_eq_false_iff_ne.2 h6
              by_cases h8 : b0 / 8 = 30
              · have hv : Utf8.valid ((b0 % 8 * 262144 + b1 % 64 * 4096 + b2 % 64 * 64 + b3 % 64 : Nat) : Int) = false := by
                  rw [Bool.eq_false_iff]
                  intro h
                  have := (valid_iff _).1 h
                  omega
                simp only [dec4, if_neg c0, a2, a3, h8, BEq.rfl, Bool.true_and, Bool.false_and, Bool.false_eq_true, if_false, hv, Bool.and_false, ite_self]
                rfl
              · simp only [dec4, if_neg c0, a2, a3, beq_eq_false_iff_ne.2 h8, Bool.false_and, Bool.false_eq_true, if_false]
                rfl
          · by_cases l1 : (b0 : Int) ≥ 194
            · simp only [decide_eq_true l1, decide_eq_false (show ¬ (b0 : Int) ≤ 223 by omega), decide_eq_true (show (b0 : Int) ≥ 224 by omega), decide_eq_false (show ¬ (b0 : Int) ≤ 239 by omega), decide_eq_true (show (b0 : Int) ≥ 240 by omega), decide_eq_false (show ¬ (b0 : Int) ≤ 244 by omega), cond_true, cond_false]
            · simp only [decide_eq_false l1, decide_eq_false (show ¬ (b0 : Int) ≥ 224 by omega), decide_eq_false (show ¬ (b0 : Int) ≥ 240 by omega), cond_true, cond_false]

theorem rune_eq (s : ByteArray) (hn : s.size ≤ 140737488351232) (p : Nat) (hp : p < s.size) :
    ∃ r : Int, atlasref01_Rune.f s (p : Int) = some (r, ((Utf8.decode s p).2 : Int)) ∧ (r = ((Utf8.decode s p).1 : Int) ∨ (r = -1 ∧ (Utf8.decode s p).1 = 65533 ∧ (Utf8.decode s p).2 = 1)) ∧
      1 ≤ (Utf8.decode s p).2 ∧ p + (Utf8.decode s p).2 ≤ s.size := by
  have g : ∀ i, tl s i = true → i < s.size ∧ 128 ≤ (s.get! i).toNat ∧ (s.get! i).toNat ≤ 191 := fun i h => by
    simp only [tl, Bool.and_eq_true, decide_eq_true_eq, beq_iff_eq] at h
    obtain ⟨h1, h2⟩ := h
    generalize (s.get! i).toNat = b at *
    exact ⟨h1, by omega, by omega⟩
  obtain ⟨r, h1, h2, h3, h4, _⟩ := rune_core s p _ _ _ _ (tl s (p + 1)) (tl s (p + 2)) (tl s (p + 3)) _ (decode_dec4 s p) hn hp (s.get! p).toNat_lt (s.get! (p + 1)).toNat_lt (s.get! (p + 2)).toNat_lt (s.get! (p + 3)).toNat_lt
    (tail_eq s (p + 1)) (tail_eq s (p + 2)) (tail_eq s (p + 3)) (g _) (g _) (g _) (byteAt_get s p hp) (byteAt_get s (p + 1)) (byteAt_get s (p + 2)) (byteAt_get s (p + 3))
  exact ⟨r, h1, h2, h3, h4⟩
end Go.Va

/-
  Which images are right: elf.Right and the document's answer, by one plain sentence.
  Conditions: an image as any may be handed in.
-/
namespace Go.Va
theorem wrap_u64v (x : Int) : IntKind.wrap .u64 x = x % 18446744073709551616 := by
  have w : IntKind.wrap .u64 x = if (false && decide (x % 18446744073709551616 ≥ 9223372036854775808)) = true then x % 18446744073709551616 - 18446744073709551616 else x % 18446744073709551616 := by rfl
  rw [w]; simp
theorem wrap_u64e (x : Int) (h0 : 0 ≤ x) (h1 : x < 18446744073709551616) : IntKind.wrap .u64 x = x := by rw [wrap_u64v]; omega
theorem wrap_i64n (q : Nat) (h : q < 9223372036854775807) : IntKind.wrap .i64 ((q : Int) + 1) = ((q + 1 : Nat) : Int) := by rw [wrap_i64e _ (by omega) (by omega)]; omega

/-! ### Loops over a list -/
def runS {α σ ρ : Type} (f : σ → α → σ ⊕ ρ) (e : σ → ρ) : List α → σ → ρ
  | [], x => e x
  | c :: cs, x => match f x c with
    | .inl y => runS f e cs y
    | .inr r => r
theorem drop_cons {α : Type} {l : List α} {q : Nat} {c : α} {cs : List α} (h : l.drop q = c :: cs) : l[q]? = some c ∧ q < l.length ∧ l.drop (q + 1) = cs := by
  obtain ⟨_, h2, h3⟩ := getD_drop h c
  refine ⟨?_, h2, h3⟩
  have e := List.getElem?_drop (xs := l) (i := q) (j := 0)
  rw [h] at e
  simpa using e.symm
theorem loop_run {α σ ρ : Type} (S : List α) (I : Nat → σ → Prop) (f : σ → α → σ ⊕ ρ) (e : σ → ρ) (l : Nat → Nat → σ → Option ρ)
    (he : ∀ n x, I S.length x → l (n + 1) S.length x = some (e x))
    (hs : ∀ n q c x, S[q]? = some c → q < S.length → I q x → (∀ y, f x c = .inl y → I (q + 1) y ∧ l (n + 1) q x = l n (q + 1) y) ∧ (∀ r, f x c = .inr r → l (n + 1) q x = some r)) :
    ∀ (cs : List α) (n q : Nat) (x : σ), S.drop q = cs → q ≤ S.length → cs.length < n → I q x → l n q x = some (runS f e cs x) := by
  intro cs
  induction cs with
  | nil =>
    intro n q x hq hle hn hI
    obtain ⟨n, rfl⟩ : ∃ m, n = m + 1 := ⟨n - 1, by simp at hn; omega⟩
    have h1 := List.drop_eq_nil_iff.1 hq
    have e1 : q = S.length := by omega
    subst e1
    exact he n x hI
  | cons c cs ih =>
    intro n q x hq hle hn hI
    obtain ⟨n, rfl⟩ : ∃ m, n = m + 1 := ⟨n - 1, by simp at hn; omega⟩
    obtain ⟨h1, h2, h3⟩ := drop_cons hq
    obtain ⟨h4, h5⟩ := hs n q c x h1 h2 hI
    simp only [runS]
    cases hf : f x c with
    | inl y =>
      obtain ⟨h6, h7⟩ := h4 y hf
      rw [h7]
      exact ih n (q + 1) y h3 (by omega) (by simp at hn; omega) h6
    | inr r => exact h5 r hf
theorem getD_of {α : Type} {l : List α} {q : Nat} {c : α} (h : l[q]? = some c) (d : α) : l.getD q d = c := by rw [List.getD_eq_getElem?_getD, h]; rfl

/-! ### Names -/
def ltr (r : Int) : Bool :=
  if (97 ≤ r ∧ r ≤ 122) ∨ (65 ≤ r ∧ r ≤ 90) then true else if 192 ≤ r ∧ r ≤ 591 then r != 215 && r != 247 else if 913 ≤ r ∧ r ≤ 969 then r != 930 else false
theorem letter_eq (k : Nat) (r : Int) : words_letter.f k r = some (ltr r) := by
  unfold ltr
  simp only [words_letter.f, words_letter.q0.l]
  by_cases a : r ≥ 97 <;> by_cases b : r ≤ 122 <;> by_cases c : r ≥ 65 <;> by_cases d : r ≤ 90 <;> by_cases e : r ≥ 192 <;> by_cases f : r ≤ 591 <;> by_cases g : r ≥ 913 <;> by_cases h : r ≤ 969 <;>
    first
    | omega
    | (simp [a, b, c, d, e, f, g, h]; done)
    | (simp [a, b, c, d, e, f, g, h]; cases (r != 215) <;> rfl)
theorem rletter_eq (k : Nat) (r : Int) : atlasref01_letter.f k r = some (ltr r) := by
  unfold ltr
  simp only [atlasref01_letter.f, atlasref01_letter.q0.l, atlasref01_letter.q1.l]
  by_cases a : r ≥ 97 <;> by_cases b : r ≤ 122 <;> by_cases c : r ≥ 65 <;> by_cases d : r ≤ 90 <;> by_cases e : r ≥ 192 <;> by_cases f : r ≤ 591 <;> by_cases g : r ≥ 913 <;> by_cases h : r ≤ 969 <;>
    first
    | omega
    | (simp [a, b, c, d, e, f, g, h]; done)
    | (simp [a, b, c, d, e, f, g, h]; cases (r != 215) <;> rfl)
theorem ltr_same {r : Int} {c : Nat} (h : r = (c : Int) ∨ (r = -1 ∧ c = 65533)) : ltr r = ltr (c : Int) := by
  rcases h with rfl | ⟨rfl, rfl⟩
  · rfl
  · decide
theorem name_loop (k : Nat) (s : ByteArray) (hn : s.size ≤ 140737488351232) (d : Nat) : ∀ (p n : Nat), s.size - p ≤ d → p ≤ s.size → n ≤ p →
    ∃ r, ∀ m, d < m → words_Name.q0.l k m ((n : Int), s, p) = some r ∧ atlasref01_Name.q0.l k m (s, (n : Int), (p : Int)) = some r := by
  induction d with
  | zero =>
    intro p n hd hp h1
    refine ⟨.inr (n : Int), fun m hm => ?_⟩
    obtain ⟨m, rfl⟩ : ∃ j, m = j + 1 := ⟨m - 1, by omega⟩
    simp only [words_Name.q0.l, atlasref01_Name.q0.l, decide_eq_false (show ¬ p < s.size by omega), decide_eq_false (show ¬ (p : Int) < (s.size : Int) by omega), cond_false]
    exact ⟨trivial, trivial⟩
  | succ d ih =>
    intro p n hd hp h1
    by_cases hz : p < s.size
    · obtain ⟨r, hr, hrc, w1, w2⟩ := rune_eq s hn p hz
      have e1 : IntKind.wrap .i64 ((n : Int) + 1) = ((n + 1 : Nat) : Int) := wrap_i64n n (by omega)
      have e2 : IntKind.wrap .i64 ((p : Int) + ((Utf8.decode s p).2 : Int)) = ((p + (Utf8.decode s p).2 : Nat) : Int) := by rw [wrap_i64e _ (by omega) (by omega)]; omega
      obtain ⟨q, hq⟩ := ih (p + (Utf8.decode s p).2) (n + 1) (by omega) w2 (by omega)
      have hl := ltr_same (r := r) (c := (Utf8.decode s p).1) (hrc.imp id (fun h => ⟨h.1, h.2.1⟩))
      obtain ⟨c, hc⟩ : ∃ c : Nat, (Utf8.decode s p).1 = c := ⟨_, rfl⟩
      rw [hc] at hrc hl
      have hnz : ((n : Int) == 0) = decide (n = 0) := by by_cases h : n = 0 <;> simp [h]
      have hdg : atlasref01_digit.f r = some (decide (48 ≤ r) && decide (r ≤ 57)) := by
        unfold atlasref01_digit.f
        by_cases h : r ≥ 48
        · simp [h, show (48 : Int) ≤ r from h]
        · simp [h, show ¬ (48 : Int) ≤ r from h]
      cases hlt : ltr (c : Int) with
      | true =>
        refine ⟨q, fun m hm => ?_⟩
        obtain ⟨m, rfl⟩ : ∃ j, m = j + 1 := ⟨m - 1, by omega⟩
        obtain ⟨hq1, hq2⟩ := hq m (by omega)
        simp only [words_Name.q0.l, atlasref01_Name.q0.l, decide_eq_true hz, decide_eq_true (show (p : Int) < (s.size : Int) by omega), cond_true, letter_eq, rletter_eq, hr, hc, hl, hlt, Option.bind_some, Bool.not_true, cond_false, e1, e2]
        exact ⟨hq1, hq2⟩
      | false =>
        by_cases hn0 : n = 0
        · refine ⟨.inl false, fun m hm => ?_⟩
          obtain ⟨m, rfl⟩ : ∃ j, m = j + 1 := ⟨m - 1, by omega⟩
          simp only [words_Name.q0.l, atlasref01_Name.q0.l, decide_eq_true hz, decide_eq_true (show (p : Int) < (s.size : Int) by omega), cond_true, letter_eq, rletter_eq, hr, hc, hl, hlt, Option.bind_some, Bool.not_false, hnz, decide_eq_true hn0]
          exact ⟨trivial, trivial⟩
        · by_cases h95 : c = 95
          · have hr95 : r = 95 := by rcases hrc with h | h <;> omega
            refine ⟨q, fun m hm => ?_⟩
            obtain ⟨m, rfl⟩ : ∃ j, m = j + 1 := ⟨m - 1, by omega⟩
            obtain ⟨hq1, hq2⟩ := hq m (by omega)
            have g1 : (((c : Nat) : Int) != 95) = false := by rw [h95]; rfl
            have g2 : ((r : Int) != 95) = false := by rw [hr95]; rfl
            simp only [words_Name.q0.l, atlasref01_Name.q0.l, decide_eq_true hz, decide_eq_true (show (p : Int) < (s.size : Int) by omega), cond_true, letter_eq, rletter_eq, hr, hc, hl, hlt, Option.bind_some, Bool.not_false, hnz, decide_eq_false hn0, cond_false, g1, g2, hdg, decide_eq_true (show (48 : Int) ≤ r by omega), decide_eq_false (show ¬ r ≤ 57 by omega), Bool.and_false, e1, e2]
            exact ⟨hq1, hq2⟩
          · have hr95 : r ≠ 95 := by rcases hrc with h | h <;> omega
            have g1 : (((c : Nat) : Int) != 95) = true := by rw [bne_iff_ne]; omega
            have g2 : ((r : Int) != 95) = true := by rw [bne_iff_ne]; exact hr95
            by_cases hdc : 48 ≤ c ∧ c ≤ 57
            · have hrd : 48 ≤ r ∧ r ≤ 57 := by rcases hrc with h | h <;> omega
              refine ⟨q, fun m hm => ?_⟩
              obtain ⟨m, rfl⟩ : ∃ j, m = j + 1 := ⟨m - 1, by omega⟩
              obtain ⟨hq1, hq2⟩ := hq m (by omega)
              simp only [words_Name.q0.l, atlasref01_Name.q0.l, decide_eq_true hz, decide_eq_true (show (p : Int) < (s.size : Int) by omega), cond_true, letter_eq, rletter_eq, hr, hc, hl, hlt, Option.bind_some, Bool.not_false, hnz, decide_eq_false hn0, cond_false, g1, hdg, decide_eq_true hrd.1, decide_eq_true hrd.2, Bool.and_self, Bool.not_true, decide_eq_false (show ¬ (c : Int) < 48 by omega), decide_eq_false (show ¬ (c : Int) > 57 by omega), e1, e2]
              exact ⟨hq1, hq2⟩
            · have hrd : ¬ (48 ≤ r ∧ r ≤ 57) := by rcases hrc with h | h <;> omega
              have hrd2 : (decide (48 ≤ r) && decide (r ≤ 57)) = false := by
                rw [Bool.and_eq_false_iff, decide_eq_false_iff_not, decide_eq_false_iff_not]; omega
              refine ⟨.inl false, fun m hm => ?_⟩
              obtain ⟨m, rfl⟩ : ∃ j, m = j + 1 := ⟨m - 1, by omega⟩
              simp only [words_Name.q0.l, atlasref01_Name.q0.l, decide_eq_true hz, decide_eq_true (show (p : Int) < (s.size : Int) by omega), cond_true, letter_eq, rletter_eq, hr, hc, hl, hlt, Option.bind_some, Bool.not_false, hnz, decide_eq_false hn0, cond_false, g1, g2, hdg, hrd2]
              refine ⟨?_, trivial⟩
              by_cases h48 : (c : Int) < 48
              · rw [decide_eq_true h48, cond_true]
              · rw [decide_eq_false h48, cond_false, decide_eq_true (show (c : Int) > 57 by omega), cond_true]
    · refine ⟨.inr (n : Int), fun m hm => ?_⟩
      obtain ⟨m, rfl⟩ : ∃ j, m = j + 1 := ⟨m - 1, by omega⟩
      simp only [words_Name.q0.l, atlasref01_Name.q0.l, decide_eq_false hz, decide_eq_false (show ¬ (p : Int) < (s.size : Int) by omega), cond_false]
      exact ⟨trivial, trivial⟩
/-- Is the text a name? -/
def nameB (s : ByteArray) : Bool := optD (words_Name.f (s.size + 1) s) false
theorem name_k (k k' : Nat) : ∀ (m : Nat) (x : Int × ByteArray × Nat), words_Name.q0.l k m x = words_Name.q0.l k' m x := by
  intro m
  induction m with
  | zero => intro x; rfl
  | succ m ih =>
    intro x
    simp only [words_Name.q0.l, letter_eq, ih]
theorem name_eq (s : ByteArray) (hn : s.size ≤ 140737488351232) (k : Nat) (hk : s.size < k) : words_Name.f k s = some (nameB s) ∧ atlasref01_Name.f k s = some (nameB s) := by
  obtain ⟨r, hr⟩ := name_loop k s hn s.size 0 0 (by omega) (by omega) (by omega)
  have h1 := hr k hk
  have h2 := (hr (s.size + 1) (by omega)).1
  have e1 : words_Name.q0.l k k (0, s, 0) = some r := h1.1
  have e2 : atlasref01_Name.q0.l k k (s, 0, 0) = some r := h1.2
  have e3 : words_Name.q0.l k (s.size + 1) (0, s, 0) = some r := h2
  rw [name_k k (s.size + 1)] at e3
  unfold nameB words_Name.f atlasref01_Name.f
  rw [e1, e2, e3]
  cases r with
  | inl r => exact ⟨rfl, rfl⟩
  | inr r =>
    simp only [Option.bind_some, Sum.elim_inr]
    cases decide (r ≥ 1) <;> exact ⟨rfl, rfl⟩

/-! ### Segments -/
abbrev segT (c : SegT) : T45 := ⟨c.1, c.2.1, c.2.2.1.1, c.2.2.1.2.1, c.2.2.1.2.2.1, c.2.2.2.1⟩
def endB (c : SegT) : Int := c.1 + c.2.1
def segB (c : SegT) : Bool := c.1 % 4096 == 0 && decide (1 ≤ c.2.1) && decide (c.2.1 ≤ 16777216) && decide (endB c ≤ 4294967296) && decide ((c.2.2.2.1.length : Int) ≤ c.2.1) && c.2.2.1.1
def SegOk (c : SegT) : Prop := (0 ≤ c.1 ∧ c.1 < 4294967296) ∧ (0 ≤ c.2.1 ∧ c.2.1 < 4294967296) ∧ List.length c.2.2.2.1 ≤ reachBytes
theorem end_eq (c : SegT) (h : SegOk c) (d : List Int) (a b e : Bool) : elf_end.f ⟨c.1, c.2.1, a, b, e, d⟩ = some (endB c) := by
  obtain ⟨h1, h2, h3⟩ := h
  unfold elf_end.f endB
  simp (disch := omega) only [wrap_u64e]
theorem seg_eq (c : SegT) (h : SegOk c) : elf_segment.f (segT c) = some (segB c) := by
  have he := end_eq c h
  obtain ⟨⟨h1, h1'⟩, ⟨h2, h2'⟩, h3⟩ := h
  have hr := reach_v
  unfold elf_segment.f segB
  have e1 : Int.tmod c.1 4096 = c.1 % 4096 := Int.tmod_eq_emod_of_nonneg h1
  have w1 : IntKind.wrap .u64 (((c.2.2.2.1).length : Nat) : Int) = (((c.2.2.2.1).length : Nat) : Int) := wrap_u64e _ (by omega) (by omega)
  have w2 : IntKind.wrap .u64 c.2.1 = c.2.1 := wrap_u64e _ (by omega) (by omega)
  simp only [he, e1, Option.bind_some, w1, w2, ge_iff_le]
  cases (c.1 % 4096 == 0) <;> cases (decide (1 ≤ c.2.1)) <;> cases (decide (c.2.1 ≤ 16777216)) <;> cases (decide (endB c ≤ 4294967296)) <;> cases (decide ((c.2.2.2.1.length : Int) ≤ c.2.1)) <;> rfl
theorem rseg_eq (k : Nat) (c : SegT) (h : SegOk c) : atlasref23_segment.f k (segT c) = some (segB c) := by
  obtain ⟨⟨h1, h1'⟩, ⟨h2, h2'⟩, h3⟩ := h
  have hr := reach_v
  unfold atlasref23_segment.f segB endB
  have e1 : Int.tmod c.1 4096 = c.1 % 4096 := Int.tmod_eq_emod_of_nonneg h1
  have w1 : IntKind.wrap .u64 (((c.2.2.2.1).length : Nat) : Int) = (((c.2.2.2.1).length : Nat) : Int) := wrap_u64e _ (by omega) (by omega)
  have w2 : IntKind.wrap .u64 c.2.1 = c.2.1 := wrap_u64e _ (by omega) (by omega)
  have w3 : IntKind.wrap .u64 c.1 = c.1 := wrap_u64e _ (by omega) (by omega)
  have w4 : IntKind.wrap .u64 (c.1 + c.2.1) = c.1 + c.2.1 := wrap_u64e _ (by omega) (by omega)
  simp only [atlasref23_segment.q0.l, e1, Option.bind_some, w1, w2, w3, w4, ge_iff_le]
  cases (c.1 % 4096 == 0) <;> cases (decide (1 ≤ c.2.1)) <;> cases (decide (c.2.1 ≤ 16777216)) <;> cases (decide (c.1 + c.2.1 ≤ 4294967296)) <;> cases (decide ((c.2.2.2.1.length : Int) ≤ c.2.1)) <;> rfl

theorem ImgOk.seg {x : T25} (h : ImgOk x) {c : SegT} (hc : c ∈ x.f1_Segments) : SegOk c := ⟨(h.su c hc).1, (h.su c hc).2.1, h.sd c hc⟩
theorem mem_at {α : Type} {l : List α} {q : Nat} {c : α} (h : l[q]? = some c) : c ∈ l := List.mem_of_getElem? h

theorem up_eq (a n : Int) (ha : 0 ≤ a) (hn : 0 < n) (hl : a + n < 18446744073709551616) : elf_up.f a n = some ((a + n - 1) / n * n) := by
  unfold elf_up.f
  have h0 : 0 ≤ (a + n - 1) / n := Int.ediv_nonneg (by omega) (by omega)
  have h1 : (a + n - 1) / n * n ≤ a + n - 1 := Int.ediv_mul_le _ (by omega)
  have h2 : 0 ≤ (a + n - 1) / n * n := Int.mul_nonneg h0 (by omega)
  have h3 : (a + n - 1) / n ≤ a + n - 1 := Int.ediv_le_self _ (by omega)
  rw [wrap_u64e (a + n) (by omega) (by omega), wrap_u64e (a + n - 1) (by omega) (by omega), Int.tdiv_eq_ediv_of_nonneg (by omega), wrap_u64e ((a + n - 1) / n) h0 (by omega), wrap_u64e _ h2 (by omega), decide_eq_false (show ¬ n = 0 by omega)]
  rfl
def upB (c : SegT) : Int := (endB c + 4096 - 1) / 4096 * 4096
theorem upc_eq (c : SegT) (h : SegOk c) : elf_up.f (endB c) 4096 = some (upB c) := by
  obtain ⟨h1, h2, h3⟩ := h
  exact up_eq _ _ (by unfold endB; omega) (by omega) (by unfold endB; omega)
theorem rend_eq (c : SegT) (h : SegOk c) : atlasref23_end.f (segT c) = some (upB c) := by
  obtain ⟨h1, h2, h3⟩ := h
  have e := up_eq (endB c) 4096 (by unfold endB; omega) (by omega) (by unfold endB; omega)
  unfold upB
  rw [← e]
  unfold atlasref23_end.f elf_up.f
  rw [wrap_u64e c.1 (by omega) (by omega), wrap_u64e c.2.1 (by omega) (by omega), wrap_u64e (c.1 + c.2.1) (by omega) (by omega)]
  rfl
def rsF (x c : SegT) : SegT ⊕ (Bool ⊕ Unit) := bif decide (c.1 < upB x) then .inr (.inl false) else .inl c
def riseB (S : List SegT) : Bool := match S with
  | [] => true
  | s :: cs => Sum.elim id (fun _ => true) (runS rsF (fun _ => .inr ()) cs s)
theorem rise_loop (k : Nat) (S : List SegT) (hS : ∀ c ∈ S, SegOk c) (hl : S.length < 4611686018427387904) (s : SegT) (cs : List SegT) (hs : S = s :: cs) (n : Nat) (hn : cs.length < n) :
    elf_rising.q0.l k n (S, 1) = some (runS rsF (fun _ => .inr ()) cs s) ∧ atlasref23_rise.q0.l k n (S, 1) = some (runS rsF (fun _ => .inr ()) cs s) := by
  have key : ∀ (l : Nat → Nat → Option (Bool ⊕ Unit)), (∀ n, l (n + 1) S.length = some (.inr ())) → (∀ n q b c, S[q - 1]? = some b → S[q]? = some c → 1 ≤ q → q < S.length → l (n + 1) q = bif decide (c.1 < upB b) then some (.inl false) else l n (q + 1)) → l n 1 = some (runS rsF (fun _ => .inr ()) cs s) := by
    intro l h1 h2
    refine loop_run S (fun q x => 1 ≤ q ∧ S[q - 1]? = some x) rsF (fun _ => .inr ()) (fun n q _ => l n q) (fun n x _ => h1 n) (fun n q c x hc hq hI => ?_) cs n 1 s (by rw [hs]; rfl) (by rw [hs]; simp) hn ⟨by omega, by rw [hs]; rfl⟩
    have h3 := h2 n q x c hI.2 hc hI.1 hq
    unfold rsF
    refine ⟨fun y hy => ?_, fun r hr => ?_⟩
    · cases hd : decide (c.1 < upB x) with
      | true => rw [hd] at hy; cases hy
      | false =>
        rw [hd] at hy h3
        cases hy
        exact ⟨⟨by omega, by simpa using hc⟩, h3⟩
    · cases hd : decide (c.1 < upB x) with
      | true => rw [hd] at hr h3; cases hr; exact h3
      | false => rw [hd] at hr; cases hr
  have pos : ∀ q, 1 ≤ q → q < S.length → IntKind.wrap .i64 ((q : Int) - 1) = ((q - 1 : Nat) : Int) := fun q h1 h2 => by rw [wrap_i64e _ (by omega) (by omega)]; omega
  refine ⟨?_, ?_⟩
  · refine key (fun n q => elf_rising.q0.l k n (S, (q : Int))) (fun n => ?_) (fun n q b c hb hc h1 h2 => ?_)
    · simp only [elf_rising.q0.l, decide_eq_false (show ¬ (S.length : Int) < ((S.length : Nat) : Int) by omega), cond_false]
    · have ob := hS b (mem_at hb)
      have oc := hS c (mem_at hc)
      simp only [elf_rising.q0.l, decide_eq_true (show (q : Int) < ((S.length : Nat) : Int) by omega), decide_eq_true (show (0 : Int) ≤ (q : Int) by omega), Bool.and_self, cond_true, pos q h1 h2, decide_eq_true (show ((q - 1 : Nat) : Int) < ((S.length : Nat) : Int) by omega), decide_eq_true (show (0 : Int) ≤ ((q - 1 : Nat) : Int) by omega), Int.toNat_natCast, getD_of hb, getD_of hc, end_eq b ob, Option.bind_some, upc_eq b ob, wrap_u64e c.1 oc.1.1 (by have := oc.1.2; omega), wrap_i64n q (by omega)]
  · refine key (fun n q => atlasref23_rise.q0.l k n (S, (q : Int))) (fun n => ?_) (fun n q b c hb hc h1 h2 => ?_)
    · simp only [atlasref23_rise.q0.l, decide_eq_false (show ¬ (S.length : Int) < ((S.length : Nat) : Int) by omega), cond_false]
    · have ob := hS b (mem_at hb)
      have oc := hS c (mem_at hc)
      simp only [atlasref23_rise.q0.l, decide_eq_true (show (q : Int) < ((S.length : Nat) : Int) by omega), decide_eq_true (show (0 : Int) ≤ (q : Int) by omega), Bool.and_self, cond_true, pos q h1 h2, decide_eq_true (show ((q - 1 : Nat) : Int) < ((S.length : Nat) : Int) by omega), decide_eq_true (show (0 : Int) ≤ ((q - 1 : Nat) : Int) by omega), Int.toNat_natCast, getD_of hb, getD_of hc, rend_eq b ob, Option.bind_some, wrap_u64e c.1 oc.1.1 (by have := oc.1.2; omega), wrap_i64n q (by omega)]
theorem rise_eq (k : Nat) (S : List SegT) (hS : ∀ c ∈ S, SegOk c) (hl : S.length < 4611686018427387904) (hk : S.length < k) : elf_rising.f k S = some (riseB S) ∧ atlasref23_rise.f k S = some (riseB S) := by
  cases S with
  | nil =>
    obtain ⟨k, rfl⟩ : ∃ j, k = j + 1 := ⟨k - 1, by simp at hk; omega⟩
    exact ⟨rfl, rfl⟩
  | cons s cs =>
    obtain ⟨h1, h2⟩ := rise_loop k (s :: cs) hS hl s cs rfl k (by simp at hk; omega)
    unfold elf_rising.f atlasref23_rise.f riseB
    rw [h1, h2]
    simp only [Option.bind_some]
    cases runS rsF (fun _ => .inr ()) cs s <;> exact ⟨rfl, rfl⟩

/-! ### Where it may begin -/
def stB (e : Int) (c : SegT) : Bool := c.2.2.1.2.2.1 && decide (c.1 ≤ e) && decide (e + 4 ≤ endB c)
def startB (S : List SegT) (e : Int) : Bool := e % 4 == 0 && S.any (stB e)
theorem st_eq1 (c : SegT) (h : SegOk c) (e : Int) (he : 0 ≤ e ∧ e < 4294967296) : elf_starts_1.f (segT c) e = some (stB e c) := by
  have hen := end_eq c h
  obtain ⟨h1, h2, h3⟩ := h
  unfold elf_starts_1.f stB
  simp only [hen, Option.bind_some, wrap_u64e e he.1 (by omega), wrap_u64e (e + 4) (by omega) (by omega), ge_iff_le]
  cases c.2.2.1.2.2.1 <;> cases decide (c.1 ≤ e) <;> rfl
def ixF (e : Int) (q : Nat) (c : SegT) : Nat ⊕ (Int ⊕ Unit) := bif stB e c then .inr (.inl (q : Int)) else .inl (q + 1)
theorem ix_any (e : Int) : ∀ (cs : List SegT) (q : Nat), (cs.any (stB e) = true ∧ ∃ i : Nat, runS (ixF e) (fun _ => .inr ()) cs q = .inl (i : Int)) ∨ (cs.any (stB e) = false ∧ runS (ixF e) (fun _ => .inr ()) cs q = .inr ())
  | [], q => .inr ⟨rfl, rfl⟩
  | c :: cs, q => by
    simp only [List.any_cons, runS]
    cases h : stB e c with
    | true =>
      have : ixF e q c = .inr (.inl (q : Int)) := by simp only [ixF, h, cond_true]
      rw [this]; exact .inl ⟨rfl, q, rfl⟩
    | false =>
      have : ixF e q c = .inl (q + 1) := by simp only [ixF, h, cond_false]
      rw [this]; simpa using ix_any e cs (q + 1)
def anF (e : Int) (_ : Unit) (c : SegT) : Unit ⊕ (Bool ⊕ Unit) := bif stB e c then .inr (.inl true) else .inl ()
theorem an_any (e : Int) : ∀ (cs : List SegT), (cs.any (stB e) = true ∧ runS (anF e) (fun _ => .inr ()) cs () = .inl true) ∨ (cs.any (stB e) = false ∧ runS (anF e) (fun _ => .inr ()) cs () = .inr ())
  | [] => .inr ⟨rfl, rfl⟩
  | c :: cs => by
    simp only [List.any_cons, runS]
    cases h : stB e c with
    | true =>
      have : anF e () c = .inr (.inl true) := by simp only [anF, h, cond_true]
      rw [this]; exact .inl ⟨rfl, rfl⟩
    | false =>
      have : anF e () c = .inl () := by simp only [anF, h, cond_false]
      rw [this]; simpa using an_any e cs
theorem start_eq (k : Nat) (S : List SegT) (hS : ∀ c ∈ S, SegOk c) (hl : S.length < 4611686018427387904) (hk : S.length < k) (e : Int) (he : 0 ≤ e ∧ e < 4294967296) : elf_starts.f k S e = some (startB S e) ∧ atlasref23_start.f k S e = some (startB S e) := by
  have e4 : Int.tmod e 4 = e % 4 := Int.tmod_eq_emod_of_nonneg he.1
  have c0 : ∀ q : Nat, q < S.length → decide ((q : Int) < ((S.length : Nat) : Int)) = true := fun q h => decide_eq_true (by omega)
  have c1 : ∀ q : Nat, decide ((0 : Int) ≤ (q : Int)) = true := fun q => decide_eq_true (by omega)
  have h1 : api_Segment.q0.l k k (S, e, ((S.length : Nat) : Int), ((0 : Nat) : Int)) = some (runS (ixF e) (fun _ => .inr ()) S 0) := by
    refine loop_run S (fun q x => x = q) (ixF e) (fun _ => .inr ()) (fun n q _ => api_Segment.q0.l k n (S, e, ((S.length : Nat) : Int), (q : Int))) (fun n x _ => ?_) (fun n q c x hc hq hI => ?_) S k 0 0 rfl (by omega) hk rfl
    · simp only [api_Segment.q0.l, decide_eq_false (show ¬ (S.length : Int) < ((S.length : Nat) : Int) by omega), cond_false]
    · subst hI
      have hstep : api_Segment.q0.l k (n + 1) (S, e, ((S.length : Nat) : Int), (x : Int)) = bif stB e c then some (.inl (x : Int)) else api_Segment.q0.l k n (S, e, ((S.length : Nat) : Int), ((x + 1 : Nat) : Int)) := by
        simp only [api_Segment.q0.l, c0 x hq, c1, Bool.and_self, cond_true, Int.toNat_natCast, getD_of hc, st_eq1 c (hS c (mem_at hc)) e he, Option.bind_some, wrap_i64n x (by omega)]
      unfold ixF
      refine ⟨fun y hy => ?_, fun r hr => ?_⟩
      · cases hd : stB e c with
        | true => rw [hd] at hy; cases hy
        | false => rw [hd] at hy hstep; cases hy; exact ⟨rfl, hstep⟩
      · cases hd : stB e c with
        | true => rw [hd] at hr hstep; cases hr; exact hstep
        | false => rw [hd] at hr; cases hr
  have h2 : atlasref23_start.q0.l k k (S, e, ((0 : Nat) : Int)) = some (runS (anF e) (fun _ => .inr ()) S ()) := by
    refine loop_run S (fun q x => True) (anF e) (fun _ => .inr ()) (fun n q _ => atlasref23_start.q0.l k n (S, e, (q : Int))) (fun n x _ => ?_) (fun n q c x hc hq hI => ?_) S k 0 () rfl (by omega) hk trivial
    · simp only [atlasref23_start.q0.l, decide_eq_false (show ¬ (S.length : Int) < ((S.length : Nat) : Int) by omega), cond_false]
    · obtain ⟨g1, g2, g3⟩ := hS c (mem_at hc)
      have hstep : atlasref23_start.q0.l k (n + 1) (S, e, (q : Int)) = bif stB e c then some (.inl true) else atlasref23_start.q0.l k n (S, e, ((q + 1 : Nat) : Int)) := by
        simp only [atlasref23_start.q0.l, c0 q hq, c1, Bool.and_self, cond_true, Int.toNat_natCast, getD_of hc, wrap_i64n q (by omega), wrap_u64e e he.1 (by omega), wrap_u64e (e + 4) (by omega) (by omega), wrap_u64e c.1 g1.1 (by omega), wrap_u64e c.2.1 g2.1 (by omega), wrap_u64e (c.1 + c.2.1) (by omega) (by omega), ge_iff_le]
        unfold stB endB
        cases c.2.2.1.2.2.1 <;> cases decide (c.1 ≤ e) <;> cases decide (e + 4 ≤ c.1 + c.2.1) <;> rfl
      unfold anF
      refine ⟨fun y hy => ?_, fun r hr => ?_⟩
      · cases hd : stB e c with
        | true => rw [hd] at hy; cases hy
        | false => rw [hd] at hstep; exact ⟨trivial, hstep⟩
      · cases hd : stB e c with
        | true => rw [hd] at hr hstep; cases hr; exact hstep
        | false => rw [hd] at hr; cases hr
  have h1 : api_Segment.q0.l k k (S, e, ((S.length : Nat) : Int), 0) = some (runS (ixF e) (fun _ => .inr ()) S 0) := h1
  have h2 : atlasref23_start.q0.l k k (S, e, 0) = some (runS (anF e) (fun _ => .inr ()) S ()) := h2
  unfold elf_starts.f atlasref23_start.f startB api_Segment_57.f api_Segment.f
  simp only [e4, h1, h2, Option.bind_some]
  have hb : (e % 4 != 0) = !(e % 4 == 0) := rfl
  rw [hb]
  cases (e % 4 == 0) with
  | false => exact ⟨rfl, rfl⟩
  | true =>
    refine ⟨?_, ?_⟩
    · rcases ix_any e S 0 with ⟨h3, i, h4⟩ | ⟨h3, h4⟩
      · rw [h4, h3]
        simp only [cond_true, Sum.elim_inl, Option.bind_some, Bool.true_and, decide_eq_true (show (i : Int) ≥ 0 by omega)]
      · rw [h4, h3]; rfl
    · rcases an_any e S with ⟨h3, h4⟩ | ⟨h3, h4⟩
      · rw [h4, h3]; rfl
      · rw [h4, h3]; rfl

/-! ### Symbols -/
theorem toList_beq (a b : ByteArray) : (a.toList == b.toList) = (a == b) := by
  rw [Bool.eq_iff_iff, MapKept.bytes_beq, beq_iff_eq, ByteArray.toList_eq, ByteArray.toList_eq]
  exact ⟨fun h => ByteArray.ext (Array.toList_inj.1 h), fun h => by rw [h]⟩
theorem beq_symm' (a b : ByteArray) : (a == b) = (b == a) := by
  rw [Bool.eq_iff_iff, MapKept.bytes_beq, MapKept.bytes_beq]; exact eq_comm
def has (Y : List SymT) (nm : ByteArray) : Bool := Y.any fun s => s.1 == nm
def fdF (nm : ByteArray) (_ : Unit) (c : SymT) : Unit ⊕ ((Int × Bool) ⊕ Unit) := bif c.1 == nm then .inr (.inl (c.2.1, true)) else .inl ()
theorem fd_any (nm : ByteArray) : ∀ (cs : List SymT), (has cs nm = true ∧ ∃ v, runS (fdF nm) (fun _ => .inr ()) cs () = .inl (v, true)) ∨ (has cs nm = false ∧ runS (fdF nm) (fun _ => .inr ()) cs () = .inr ())
  | [] => .inr ⟨rfl, rfl⟩
  | c :: cs => by
    simp only [has, List.any_cons, runS]
    cases h : (c.1 == nm) with
    | true =>
      have : fdF nm () c = .inr (.inl (c.2.1, true)) := by simp only [fdF, h, cond_true]
      rw [this]; exact .inl ⟨rfl, _, rfl⟩
    | false =>
      have : fdF nm () c = .inl () := by simp only [fdF, h, cond_false]
      rw [this]; simpa [has] using fd_any nm cs
theorem rfind_eq (k : Nat) (x : T25) (nm : ByteArray) (hl : x.f2_Symbols.length < 4611686018427387904) (hk : x.f2_Symbols.length < k) : ∃ v, atlasref23_Find.f k x nm = some (v, has x.f2_Symbols nm) := by
  have h1 : atlasref23_Find.q0.l k k (nm, ((0 : Nat) : Int), x.f0_Entry, x.f1_Segments, x.f2_Symbols) = some (runS (fdF nm) (fun _ => .inr ()) x.f2_Symbols ()) := by
    refine loop_run x.f2_Symbols (fun q x => True) (fdF nm) (fun _ => .inr ()) (fun n q _ => atlasref23_Find.q0.l k n (nm, (q : Int), x.f0_Entry, x.f1_Segments, x.f2_Symbols)) (fun n y _ => ?_) (fun n q c y hc hq hI => ?_) x.f2_Symbols k 0 () rfl (by omega) hk trivial
    · simp only [atlasref23_Find.q0.l, decide_eq_false (show ¬ (x.f2_Symbols.length : Int) < ((x.f2_Symbols.length : Nat) : Int) by omega), cond_false]
    · have hstep : atlasref23_Find.q0.l k (n + 1) (nm, (q : Int), x.f0_Entry, x.f1_Segments, x.f2_Symbols) = bif c.1 == nm then some (.inl (c.2.1, true)) else atlasref23_Find.q0.l k n (nm, ((q + 1 : Nat) : Int), x.f0_Entry, x.f1_Segments, x.f2_Symbols) := by
        simp only [atlasref23_Find.q0.l, decide_eq_true (show (q : Int) < ((x.f2_Symbols.length : Nat) : Int) by omega), decide_eq_true (show (0 : Int) ≤ (q : Int) by omega), Bool.and_self, cond_true, Int.toNat_natCast, getD_of hc, wrap_i64n q (by omega), toList_beq]
      unfold fdF
      refine ⟨fun z hz => ?_, fun r hr => ?_⟩
      · cases hd : (c.1 == nm) with
        | true => rw [hd] at hz; cases hz
        | false => rw [hd] at hstep; exact ⟨trivial, hstep⟩
      · cases hd : (c.1 == nm) with
        | true => rw [hd] at hr hstep; cases hr; exact hstep
        | false => rw [hd] at hr; cases hr
  have h1 : atlasref23_Find.q0.l k k (nm, 0, x.f0_Entry, x.f1_Segments, x.f2_Symbols) = some (runS (fdF nm) (fun _ => .inr ()) x.f2_Symbols ()) := h1
  unfold atlasref23_Find.f
  rw [h1]
  rcases fd_any nm x.f2_Symbols with ⟨h2, v, h3⟩ | ⟨h2, h3⟩
  · exact ⟨v, by rw [h2, h3]; rfl⟩
  · exact ⟨0, by rw [h2, h3]; rfl⟩
theorem mp_put (M : List (ByteArray × Int)) (x : ByteArray) (z : Int) (y : ByteArray) : mpGet .str (.int .i64) (mpPut .str (.int .i64) M x z) y = bif x == y then some z else mpGet .str (.int .i64) M y := by
  induction M with
  | nil =>
    show (bif (y == x) then some z else none) = _
    rw [beq_symm' y x]; rfl
  | cons p M ih =>
    have e1 : mpPut .str (.int .i64) (p :: M) x z = bif x == p.1 then (x, z) :: M else p :: mpPut .str (.int .i64) M x z := rfl
    have e2 : mpGet .str (.int .i64) (p :: M) y = bif y == p.1 then some p.2 else mpGet .str (.int .i64) M y := rfl
    rw [e1, e2]
    cases h : (x == p.1) with
    | true =>
      have hx : x = p.1 := (MapKept.bytes_beq _ _).1 h
      rw [cond_true]
      show (bif (y == x) then some z else mpGet .str (.int .i64) M y) = _
      rw [beq_symm' y x, ← hx, beq_symm' y x]
      cases (x == y) <;> rfl
    | false =>
      rw [cond_false]
      show (bif (y == p.1) then some p.2 else mpGet .str (.int .i64) (mpPut .str (.int .i64) M x z) y) = _
      rw [ih]
      cases hy : (x == y) with
      | false => rfl
      | true =>
        have hx : x = y := (MapKept.bytes_beq _ _).1 hy
        rw [← hx, h]; rfl
/-- The names met so far, as the program keeps them. -/
def seenM (Y : List SymT) : List (ByteArray × Int) := Y.foldl (fun M c => mpPut .str (.int .i64) M c.1 1) []
theorem seen_get (nm : ByteArray) : ∀ (l : List SymT) (M : List (ByteArray × Int)), mpGet .str (.int .i64) (l.foldl (fun M c => mpPut .str (.int .i64) M c.1 1) M) nm = bif has l nm then some 1 else mpGet .str (.int .i64) M nm
  | [], M => rfl
  | c :: l, M => by
    rw [List.foldl_cons, seen_get nm l, mp_put]
    have e : has (c :: l) nm = (c.1 == nm || has l nm) := rfl
    rw [e]
    cases has l nm <;> cases (c.1 == nm) <;> rfl
theorem seen_take {Y : List SymT} {q : Nat} {c : SymT} (h : Y[q]? = some c) : seenM (Y.take (q + 1)) = mpPut .str (.int .i64) (seenM (Y.take q)) c.1 1 := by
  unfold seenM
  rw [List.take_add_one, h, List.foldl_append]; rfl
def syF {ρ : Type} (Y : List SymT) (q : Nat) (c : SymT) : Nat ⊕ (Bool ⊕ ρ) := bif has (Y.take q) c.1 then .inr (.inl false) else bif nameB c.1 then .inl (q + 1) else .inr (.inl false)
def symB (Y : List SymT) : Bool := match runS (syF (ρ := Unit) Y) (fun _ => .inr ()) Y 0 with
  | .inl b => b
  | .inr _ => true
theorem sy_res {ρ : Type} (Y : List SymT) (r : ρ) : ∀ (cs : List SymT) (q : Nat), (runS (syF (ρ := Unit) Y) (fun _ => .inr ()) cs q = .inr () ∧ runS (syF Y) (fun _ => .inr r) cs q = .inr r) ∨ (runS (syF (ρ := Unit) Y) (fun _ => .inr ()) cs q = .inl false ∧ runS (syF Y) (fun _ => .inr r) cs q = .inl false)
  | [], q => .inl ⟨rfl, rfl⟩
  | c :: cs, q => by
    simp only [runS, syF]
    cases has (Y.take q) c.1 with
    | true => exact .inr ⟨rfl, rfl⟩
    | false =>
      cases nameB c.1 with
      | true => exact sy_res Y r cs (q + 1)
      | false => exact .inr ⟨rfl, rfl⟩
theorem fold_loop {α σ ρ : Type} (S : List α) (I : Nat → σ → Prop) (g : σ → α → σ) (e : σ → ρ) (l : Nat → Nat → σ → Option ρ)
    (he : ∀ n x, I S.length x → l (n + 1) S.length x = some (e x))
    (hs : ∀ n q c x, S[q]? = some c → q < S.length → I q x → I (q + 1) (g x c) ∧ l (n + 1) q x = l n (q + 1) (g x c)) :
    ∀ (cs : List α) (n q : Nat) (x : σ), S.drop q = cs → q ≤ S.length → cs.length < n → I q x → l n q x = some (e (cs.foldl g x)) ∧ I S.length (cs.foldl g x) := by
  intro cs
  induction cs with
  | nil =>
    intro n q x hq hle hn hI
    obtain ⟨n, rfl⟩ : ∃ m, n = m + 1 := ⟨n - 1, by simp at hn; omega⟩
    have h1 := List.drop_eq_nil_iff.1 hq
    have e1 : q = S.length := by omega
    subst e1
    exact ⟨he n x hI, hI⟩
  | cons c cs ih =>
    intro n q x hq hle hn hI
    obtain ⟨n, rfl⟩ : ∃ m, n = m + 1 := ⟨n - 1, by simp at hn; omega⟩
    obtain ⟨h1, h2, h3⟩ := drop_cons hq
    obtain ⟨h4, h5⟩ := hs n q c x h1 h2 hI
    rw [h5, List.foldl_cons]
    exact ih n (q + 1) (g x c) h3 (by omega) (by simp at hn; omega) h4
theorem wrap_u32v (x : Int) : IntKind.wrap .u32 x = x % 4294967296 := by
  have w : IntKind.wrap .u32 x = if (false && decide (x % 4294967296 ≥ 2147483648)) = true then x % 4294967296 - 4294967296 else x % 4294967296 := by rfl
  rw [w]; simp
end Go.Va

/-
  An image is the same as itself.
  Conditions: none.
-/
set_option maxRecDepth 100000
namespace Go.Va
def Bys (l : List Int) : Prop := ∀ b ∈ l, 0 ≤ b ∧ b < 256
theorem Bys.all {l : List Int} (h : Bys l) : l.all (fun b => decide (0 ≤ b) && decide (b < 256)) = true := List.all_eq_true.2 fun b hb => by
  have := h b hb
  simp; omega
/-! ### An image is the same as itself -/
theorem same_eq (x : T25) (h : ImgOk x) (k : Nat) (hk : reachBytes < k) : atlaslaw23_same.f k x x = some true := by
  have hr := reach_v
  obtain ⟨E, S, Y⟩ := x
  have sl : S.length * 40 ≤ reachBytes := h.sl
  have yl : Y.length * 24 ≤ reachBytes := h.yl
  have hS : ∀ c ∈ S, Bys c.2.2.2.1 := fun c hc => (h.su c hc).2.2
  have c1 : ∀ q : Nat, decide ((0 : Int) ≤ (q : Int)) = true := fun q => decide_eq_true (by omega)
  have A := (fold_loop S (fun q (x : Unit) => True) (fun x c => x) (fun x : Unit => (Sum.inr (E, S, Y, E, S, Y) : Bool ⊕ (Int × List SegT × List SymT × Int × List SegT × List SymT))) (fun n q x => atlaslaw23_same.q0.l k n ((q : Int), E, S, Y, E, S, Y)) (fun n x _ => ?_) (fun n q c x hc hq hI => ?_) S k 0 () rfl (by omega) (by omega) trivial).1
  · have B := (fold_loop Y (fun q (x : Unit) => True) (fun x c => x) (fun x : Unit => (Sum.inr () : Bool ⊕ Unit)) (fun n q x => atlaslaw23_same.q1.l k n ((q : Int), E, S, Y, E, S, Y)) (fun n x _ => ?_) (fun n q c x hc hq hI => ?_) Y k 0 () rfl (by omega) (by omega) trivial).1
    · have A : atlaslaw23_same.q0.l k k (0, E, S, Y, E, S, Y) = some (.inr (E, S, Y, E, S, Y)) := A
      have B : atlaslaw23_same.q1.l k k (0, E, S, Y, E, S, Y) = some (.inr ()) := B
      unfold atlaslaw23_same.f
      simp only [bne_self_eq_false, cond_false, A, Option.bind_some, Sum.elim_inr, B]
    · simp only [atlaslaw23_same.q1.l, decide_eq_false (show ¬ (Y.length : Int) < ((Y.length : Nat) : Int) by omega), cond_false]
    · refine ⟨trivial, ?_⟩
      simp only [atlaslaw23_same.q1.l, decide_eq_true (show (q : Int) < ((Y.length : Nat) : Int) by omega), c1, Bool.and_self, cond_true, Int.toNat_natCast, getD_of hc, beq_self_eq_true, Bool.not_true, cond_false, wrap_i64n q (by omega)]
  · simp only [atlaslaw23_same.q0.l, decide_eq_false (show ¬ (S.length : Int) < ((S.length : Nat) : Int) by omega), cond_false]
  · refine ⟨trivial, ?_⟩
    have hb := (hS c (mem_at hc)).all
    simp only [atlaslaw23_same.q0.l, decide_eq_true (show (q : Int) < ((S.length : Nat) : Int) by omega), c1, Bool.and_self, cond_true, Int.toNat_natCast, getD_of hc, bne_self_eq_false, beq_self_eq_true, Bool.not_true, cond_false, hb, wrap_i64n q (by omega)]

end Go.Va
