/-
  The loops of the reference over a pattern, as functions of its letters.
  Conditions: none.
-/
import Derived.Test.YtjlbmdcljikojaaPureIsaWord
set_option linter.unusedVariables false
set_option linter.unusedSimpArgs false
set_option autoImplicit false
set_option maxRecDepth 10000
namespace Go.Va
/-- How many letters are no blanks. -/
def nbl : List UInt8 → Nat
  | [] => 0
  | c :: cs => bif c == 32 then nbl cs else nbl cs + 1
def fitsL : List UInt8 → Nat → Int → Bool
  | [], _, _ => true
  | c :: cs, a, w => bif c == 32 then fitsL cs a w else (bif (c == 48 && w / 2 ^ (a - 1) % 2 != 0) || (c == 49 && w / 2 ^ (a - 1) % 2 != 1) then false else fitsL cs (a - 1) w)
def fieldL (L : Int) : List UInt8 → Nat → Int → Int → Nat → Int × Int
  | [], _, _, v, n => (v, (n : Int))
  | c :: cs, a, w, v, n => bif c == 32 then fieldL L cs a w v n else (bif ((c.toNat : Nat) : Int) == L then fieldL L cs (a - 1) w (2 * v + w / 2 ^ (a - 1) % 2) (n + 1) else fieldL L cs (a - 1) w v n)

theorem byteAt_drop {p : ByteArray} {i : Nat} {c : UInt8} {cs : List UInt8} (h : p.data.toList.drop i = c :: cs) : byteAt p (i : Int) = ((c.toNat : Nat) : Int) ∧ i < p.size ∧ p.data.toList.drop (i + 1) = cs := by
  have h1 : p.data.toList[i]? = some c := by
    have e := List.getElem?_drop (xs := p.data.toList) (i := i) (j := 0)
    rw [h] at e
    simpa using e.symm
  have h2 := (List.getElem?_eq_some_iff.1 h1).1
  refine ⟨?_, by simpa using h2, ?_⟩
  · unfold byteAt
    rw [List.getD_eq_getElem?_getD, Int.toNat_natCast, h1]; rfl
  · have e : List.drop (i + 1) p.data.toList = List.drop 1 (List.drop i p.data.toList) := by rw [List.drop_drop, Nat.add_comm]
    rw [e, h]; rfl
theorem drop_nil_size {p : ByteArray} {i : Nat} (h : p.data.toList.drop i = []) : p.size ≤ i := by
  have := List.drop_eq_nil_iff.1 h
  simpa using this
theorem u8_beq (c : UInt8) (n : Nat) (hn : n < 256) : (((c.toNat : Nat) : Int) == ((n : Nat) : Int)) = (c == UInt8.ofNat n) := by
  have h : (c == UInt8.ofNat n) = decide (c.toNat = n) := by
    rw [Bool.eq_iff_iff]
    simp only [beq_iff_eq, decide_eq_true_eq]
    constructor
    · intro e; rw [e]; simp; omega
    · intro e; apply UInt8.toNat_inj.1; rw [e]; simp; omega
  rw [h, Bool.eq_iff_iff]
  simp only [beq_iff_eq, decide_eq_true_eq]
  omega
theorem pow_pos' (a : Nat) : (0 : Int) < 2 ^ a := Int.pow_pos (by decide)
theorem at_eq (a : Nat) (h : a < 64) : IntKind.wrap .u64 (IntKind.wrap .i64 (((a + 1 : Nat) : Int) - 1)) = (a : Int) := by
  rw [wrap_i64 _ (by omega) (by omega), wrap_u64 _ (by omega) (by omega)]; omega
theorem bit_tmod (w : Int) (w0 : 0 ≤ w) (a : Nat) (h : a < 32) : Int.tmod (shrI .u32 w (a : Int)) 2 = w / 2 ^ a % 2 := by
  rw [shr_u32 w a (by omega) (by omega), Int.toNat_natCast, Int.tmod_eq_emod_of_nonneg (Int.ediv_nonneg w0 (by have := pow_pos' a; omega))]

theorem fits_loop (k : Nat) (p : ByteArray) (w : Int) (w0 : 0 ≤ w) (hp : p.size ≤ 64) : ∀ (cs : List UInt8) (n i a : Nat), p.data.toList.drop i = cs → cs.length < n → nbl cs = a → a ≤ 32 →
    atlasref19_fits.q0.l k n (p, w, (a : Int), (i : Int)) = some (bif fitsL cs a w then .inr () else .inl false) := by
  intro cs
  induction cs with
  | nil =>
    intro n i a hd hn ha h32
    obtain ⟨n, rfl⟩ : ∃ m, n = m + 1 := ⟨n - 1, by simp at hn; omega⟩
    have := drop_nil_size hd
    have c1 : decide ((i : Int) < ((p.size : Nat) : Int)) = false := by simp; omega
    simp only [atlasref19_fits.q0.l, c1, cond_false, fitsL, cond_true]
  | cons c cs ih =>
    intro n i a hd hn ha h32
    obtain ⟨n, rfl⟩ : ∃ m, n = m + 1 := ⟨n - 1, by simp at hn; omega⟩
    obtain ⟨hb, hi, hd'⟩ := byteAt_drop hd
    have c1 : decide ((i : Int) < ((p.size : Nat) : Int)) = true := by simp; omega
    have c2 : decide ((0 : Int) ≤ (i : Int)) = true := by simp
    have e1 : IntKind.wrap .i64 ((i : Int) + 1) = ((i + 1 : Nat) : Int) := by rw [wrap_i64 _ (by omega) (by omega)]; omega
    have k32 := u8_beq c 32 (by decide)
    have k48 := u8_beq c 48 (by decide)
    have k49 := u8_beq c 49 (by decide)
    have hl : cs.length < n := by simp at hn; omega
    simp only [atlasref19_fits.q0.l, c1, c2, Bool.and_self, cond_true, hb, e1]
    have k32' : (((c.toNat : Nat) : Int) == 32) = (c == 32) := k32
    have k48' : (((c.toNat : Nat) : Int) == 48) = (c == 48) := k48
    have k49' : (((c.toNat : Nat) : Int) == 49) = (c == 49) := k49
    rw [k32', k48', k49']
    cases h1 : (c == 32) with
    | true =>
      rw [cond_true]
      simp only [nbl, h1, cond_true] at ha
      rw [ih n (i + 1) a hd' hl ha h32]
      simp only [fitsL, h1, cond_true]
    | false =>
      rw [cond_false]
      simp only [nbl, h1, cond_false] at ha
      obtain ⟨b, rfl⟩ : ∃ b, a = b + 1 := ⟨nbl cs, ha.symm⟩
      have hb' : nbl cs = b := by omega
      have e2 := at_eq b (by omega)
      have e3 : IntKind.wrap .i64 (((b + 1 : Nat) : Int) - 1) = (b : Int) := by rw [wrap_i64 _ (by omega) (by omega)]; omega
      have c3 : decide ((b : Int) < 0) = false := by simp
      have e4 := bit_tmod w w0 b (by omega)
      rw [e2, c3, cond_false, e3, e4]
      have hrec := ih n (i + 1) b hd' hl hb' (by omega)
      rw [hrec]
      simp only [fitsL, h1, cond_false, Nat.add_sub_cancel]
      cases (c == 48) <;> cases (c == 49) <;> cases (w / 2 ^ b % 2 != 0) <;> cases (w / 2 ^ b % 2 != 1) <;> rfl

theorem field_loop (k : Nat) (p : ByteArray) (L w : Int) (w0 : 0 ≤ w) (hp : p.size ≤ 64) : ∀ (cs : List UInt8) (m i a n : Nat) (v : Int), p.data.toList.drop i = cs → cs.length < m → nbl cs = a → a + n ≤ 32 → 0 ≤ v → v < 2 ^ n →
    atlasref19_field.q0.l k m (p, L, w, v, (n : Int), (a : Int), (i : Int)) = some (fieldL L cs a w v n) := by
  intro cs
  induction cs with
  | nil =>
    intro m i a n v hd hm ha h32 v0 v1
    obtain ⟨m, rfl⟩ : ∃ q, m = q + 1 := ⟨m - 1, by simp at hm; omega⟩
    have := drop_nil_size hd
    have c1 : decide ((i : Int) < ((p.size : Nat) : Int)) = false := by simp; omega
    simp only [atlasref19_field.q0.l, c1, cond_false, fieldL]
  | cons c cs ih =>
    intro m i a n v hd hm ha h32 v0 v1
    obtain ⟨m, rfl⟩ : ∃ q, m = q + 1 := ⟨m - 1, by simp at hm; omega⟩
    obtain ⟨hb, hi, hd'⟩ := byteAt_drop hd
    have c1 : decide ((i : Int) < ((p.size : Nat) : Int)) = true := by simp; omega
    have c2 : decide ((0 : Int) ≤ (i : Int)) = true := by simp
    have e1 : IntKind.wrap .i64 ((i : Int) + 1) = ((i + 1 : Nat) : Int) := by rw [wrap_i64 _ (by omega) (by omega)]; omega
    have k32 : (((c.toNat : Nat) : Int) == 32) = (c == 32) := u8_beq c 32 (by decide)
    have hl : cs.length < m := by simp at hm; omega
    simp only [atlasref19_field.q0.l, c1, c2, Bool.and_self, cond_true, hb, e1]
    rw [k32]
    cases h1 : (c == 32) with
    | true =>
      rw [cond_true]
      simp only [nbl, h1, cond_true] at ha
      rw [ih m (i + 1) a n v hd' hl ha h32 v0 v1]
      simp only [fieldL, h1, cond_true]
    | false =>
      rw [cond_false]
      simp only [nbl, h1, cond_false] at ha
      obtain ⟨b, rfl⟩ : ∃ b, a = b + 1 := ⟨nbl cs, ha.symm⟩
      have hb' : nbl cs = b := by omega
      have e2 := at_eq b (by omega)
      have e3 : IntKind.wrap .i64 (((b + 1 : Nat) : Int) - 1) = (b : Int) := by rw [wrap_i64 _ (by omega) (by omega)]; omega
      have c3 : decide ((b : Int) < 0) = false := by simp
      have e4 := bit_tmod w w0 b (by omega)
      have hbit : 0 ≤ w / 2 ^ b % 2 ∧ w / 2 ^ b % 2 < 2 := by omega
      have hpow : (2 : Int) ^ (n + 1) = 2 * 2 ^ n := by rw [Int.pow_succ]; omega
      have hle : (2 : Int) ^ (n + 1) ≤ 2 ^ 32 := by exact_mod_cast Nat.pow_le_pow_right (by decide) (by omega)
      have h32' : (2 : Int) ^ 32 = 4294967296 := by decide
      have e5 : IntKind.wrap .u32 (IntKind.wrap .u32 (2 * v) + w / 2 ^ b % 2) = 2 * v + w / 2 ^ b % 2 := by
        rw [wrap_u32 (2 * v) (by omega) (by omega), wrap_u32 _ (by omega) (by omega)]
      have e6 : IntKind.wrap .i64 ((n : Int) + 1) = ((n + 1 : Nat) : Int) := by rw [wrap_i64 _ (by omega) (by omega)]; omega
      rw [e2, c3, cond_false, e3, e4, e5, e6]
      simp only [fieldL, h1, cond_false, Nat.add_sub_cancel]
      cases (((c.toNat : Nat) : Int) == L) with
      | true =>
        rw [cond_true, cond_true]
        exact ih m (i + 1) b (n + 1) _ hd' hl hb' (by omega) (by omega) (by rw [hpow]; omega)
      | false =>
        rw [cond_false, cond_false]
        exact ih m (i + 1) b n v hd' hl hb' (by omega) v0 v1

/-- A pattern: 32 letters, blanks between. -/
def okP (p : ByteArray) : Bool := decide (p.size ≤ 60) && nbl p.data.toList == 32
theorem fits_eq {p : ByteArray} (h : okP p = true) (w : Int) (w0 : 0 ≤ w) : atlasref19_fits.f 64 p w = some (fitsL p.data.toList 32 w) := by
  simp only [okP, Bool.and_eq_true, decide_eq_true_eq, beq_iff_eq] at h
  have hl : p.data.toList.length = p.size := by simp
  have e := fits_loop 64 p w w0 (by omega) p.data.toList 64 0 32 rfl (by omega) h.2 (by omega)
  unfold atlasref19_fits.f
  have e' : atlasref19_fits.q0.l 64 64 (p, w, 32, 0) = _ := e
  rw [e', Option.bind_some]
  cases fitsL p.data.toList 32 w <;> rfl
theorem field_eq {p : ByteArray} (h : okP p = true) (L w : Int) (w0 : 0 ≤ w) : atlasref19_field.f 64 p L w = some (fieldL L p.data.toList 32 w 0 0) := by
  simp only [okP, Bool.and_eq_true, decide_eq_true_eq, beq_iff_eq] at h
  have hl : p.data.toList.length = p.size := by simp
  have e := field_loop 64 p L w w0 (by omega) p.data.toList 64 0 32 0 0 rfl (by omega) h.2 (by omega) (by decide) (by decide)
  unfold atlasref19_field.f
  have e' : atlasref19_field.q0.l 64 64 (p, L, w, 0, 0, 32, 0) = _ := e
  rw [e', Option.bind_some]

/-! ### Fields as runs -/
def fT (lo n : Nat) (w : Int) : Int := match lo with
  | 0 => w % 2 ^ n
  | lo + 1 => w / 2 ^ (lo + 1) % 2 ^ n
theorem fT_eq (lo n : Nat) (w : Int) : fT lo n w = w / 2 ^ lo % 2 ^ n := by cases lo <;> simp [fT]
/-- The runs of a letter, the last one first. -/
def runsL (L : Int) : List UInt8 → Nat → List (Nat × Nat) → List (Nat × Nat)
  | [], _, r => r
  | c :: cs, a, r => bif c == 32 then runsL L cs a r else (bif ((c.toNat : Nat) : Int) == L then (match r with
    | (lo, n) :: r' => bif lo == a then runsL L cs (a - 1) ((a - 1, n + 1) :: r') else runsL L cs (a - 1) ((a - 1, 1) :: (lo, n) :: r')
    | [] => runsL L cs (a - 1) [(a - 1, 1)]) else runsL L cs (a - 1) r)
def valR : List (Nat × Nat) → Int → Int
  | [], _ => 0
  | [(lo, n)], w => fT lo n w
  | (lo, n) :: r, w => valR r w * 2 ^ n + fT lo n w
def cntR (r : List (Nat × Nat)) : Nat := (r.map (·.2)).sum

theorem valR_cons (lo n : Nat) (r : List (Nat × Nat)) (w : Int) : valR ((lo, n) :: r) w = valR r w * 2 ^ n + w / 2 ^ lo % 2 ^ n := by
  cases r with
  | nil => simp [valR, fT_eq]
  | cons x r => simp only [valR, fT_eq]
theorem bit_run (w : Int) (w0 : 0 ≤ w) (lo n : Nat) : 2 * (w / 2 ^ (lo + 1) % 2 ^ n) + w / 2 ^ lo % 2 = w / 2 ^ lo % 2 ^ (n + 1) := by
  have e1 : w / 2 ^ (lo + 1) = w / 2 ^ lo / 2 := by rw [Int.pow_succ, Int.ediv_ediv_of_nonneg (by have := pow_pos' lo; omega)]
  rw [e1]
  obtain ⟨y, hy⟩ : ∃ y, y = w / 2 ^ lo := ⟨_, rfl⟩
  rw [← hy]
  have e2 : (2 : Int) ^ (n + 1) = 2 * 2 ^ n := by rw [Int.pow_succ]; omega
  obtain ⟨m, hm⟩ : ∃ m, m = (2 : Int) ^ n := ⟨_, rfl⟩
  have hm0 := pow_pos' n
  rw [e2, ← hm]
  rw [← hm] at hm0
  have h1 := Int.emod_add_mul_ediv (y / 2) m
  have h2 := Int.emod_nonneg (y / 2) (show m ≠ 0 by omega)
  have h3 := Int.emod_lt_of_pos (y / 2) hm0
  have h4 : y = (2 * (y / 2 % m) + y % 2) + (2 * m) * (y / 2 / m) := by
    rw [Int.mul_assoc]; omega
  have h5 : ((2 * (y / 2 % m) + y % 2) + (2 * m) * (y / 2 / m)) % (2 * m) = 2 * (y / 2 % m) + y % 2 := by
    rw [Int.add_mul_emod_self_left]
    exact Int.emod_eq_of_lt (by omega) (by omega)
  rw [← h4] at h5
  exact h5.symm
end Go.Va
