/-
  How the reference lays a word: letter by letter.
  Conditions: none.
-/
import Derived.Test.YtjlbmdcljikojaaPureIsaRef6
set_option linter.unusedVariables false
set_option linter.unusedSimpArgs false
set_option autoImplicit false
set_option maxRecDepth 10000
namespace Go.Va
/-- What a letter's places add to a word (the places from the lowest on). -/
def layS (L : Int) : List UInt8 → Nat → Int → Int
  | [], _, _ => 0
  | c :: cs, a, v => bif c == 32 then layS L cs a v else (bif ((c.toNat : Nat) : Int) == L then v % 2 * 2 ^ a + layS L cs (a + 1) (v / 2) else layS L cs (a + 1) v)
theorem layS_nonneg (L : Int) : ∀ (cs : List UInt8) (a : Nat) (v : Int), 0 ≤ layS L cs a v := by
  intro cs
  induction cs with
  | nil => intro a v; exact Int.le_refl _
  | cons c cs ih =>
    intro a v
    simp only [layS]
    cases (c == 32) with
    | true => exact ih _ _
    | false =>
      cases (((c.toNat : Nat) : Int) == L) with
      | true => exact Int.add_nonneg (Int.mul_nonneg (by omega) (by have := pow_pos' a; omega)) (ih _ _)
      | false => exact ih _ _
theorem take_rev {l : List UInt8} {c : UInt8} {rs : List UInt8} (h : (l.take (rs.length + 1)).reverse = c :: rs) (hl : rs.length + 1 ≤ l.length) : l[rs.length]? = some c ∧ (l.take rs.length).reverse = rs := by
  rw [List.take_add_one] at h
  have h1 : rs.length < l.length := by omega
  rw [List.getElem?_eq_getElem h1] at h
  simp only [Option.toList_some, List.reverse_append, List.reverse_cons, List.reverse_nil, List.nil_append, List.singleton_append, List.cons.injEq] at h
  exact ⟨by rw [List.getElem?_eq_getElem h1, h.1], h.2⟩
theorem byteAt_get {p : ByteArray} {i : Nat} {c : UInt8} (h : p.data.toList[i]? = some c) : byteAt p (i : Int) = ((c.toNat : Nat) : Int) := by
  unfold byteAt
  rw [List.getD_eq_getElem?_getD, Int.toNat_natCast, h]; rfl
theorem shl_bit (b : Int) (a : Nat) (b0 : 0 ≤ b) (b1 : b < 2) (ha : a < 32) : shlI .u32 b (IntKind.wrap .u64 (a : Int)) = b * 2 ^ a := by
  rw [wrap_u64 _ (by omega) (by omega)]
  unfold shlI
  have : min (a : Int).toNat (IntKind.u32.bits) = a := by have : IntKind.u32.bits = 32 := rfl; omega
  rw [this]
  have h := pow_pos' a
  have hle : (2 : Int) ^ a ≤ 2 ^ 31 := by exact_mod_cast Nat.pow_le_pow_right (by decide) (by omega)
  have h31 : (2 : Int) ^ 31 = 2147483648 := by decide
  have : b = 0 ∨ b = 1 := by omega
  rcases this with rfl | rfl
  · simp; exact wrap_u32 0 (by decide) (by decide)
  · rw [Int.one_mul]; exact wrap_u32 _ (by omega) (by omega)

theorem lay_loop (k : Nat) (p : ByteArray) (L : Int) (hp : p.size ≤ 64) : ∀ (rs : List UInt8) (n a : Nat) (w v : Int), (p.data.toList.take rs.length).reverse = rs → rs.length ≤ p.size → rs.length < n → a + nbl rs ≤ 32 → 0 ≤ w → w < 4294967296 → 0 ≤ v → v < 4294967296 →
    ∃ r, atlasref19_lay.q0.l k n (p, L, w, v, (a : Int), (rs.length : Int) - 1) = some r ∧ 0 ≤ r ∧ r < 4294967296 ∧ (w + layS L rs a v < 4294967296 → r = w + layS L rs a v) := by
  intro rs
  induction rs with
  | nil =>
    intro n a w v _ _ hn _ w0 w1 v0 v1
    obtain ⟨n, rfl⟩ : ∃ m, n = m + 1 := ⟨n - 1, by simp at hn; omega⟩
    have c1 : decide (((([] : List UInt8).length : Nat) : Int) - 1 ≥ 0) = false := by simp
    refine ⟨w, ?_, w0, w1, fun _ => by simp [layS]⟩
    simp only [atlasref19_lay.q0.l, c1, cond_false]
  | cons c rs ih =>
    intro n a w v ht hl hn ha w0 w1 v0 v1
    obtain ⟨n, rfl⟩ : ∃ m, n = m + 1 := ⟨n - 1, by simp at hn; omega⟩
    simp only [List.length_cons] at ht hl hn
    have hsz : p.data.toList.length = p.size := by simp
    obtain ⟨hg, ht'⟩ := take_rev ht (by omega)
    have hb := byteAt_get hg
    have e0 : (((c :: rs).length : Nat) : Int) - 1 = (rs.length : Int) := by simp
    rw [e0]
    have c1 : decide ((rs.length : Int) ≥ 0) = true := by simp
    have c2 : decide ((0 : Int) ≤ (rs.length : Int)) = true := by simp
    have c3 : decide ((rs.length : Int) < ((p.size : Nat) : Int)) = true := by simp; omega
    have e1 : IntKind.wrap .i64 ((rs.length : Int) - 1) = (rs.length : Int) - 1 := wrap_i64 _ (by omega) (by omega)
    have k32 : (((c.toNat : Nat) : Int) == 32) = (c == 32) := u8_beq c 32 (by decide)
    simp only [atlasref19_lay.q0.l, c1, c2, c3, Bool.and_self, cond_true, hb, e1]
    rw [k32]
    cases h1 : (c == 32) with
    | true =>
      rw [cond_true]
      simp only [nbl, h1, cond_true] at ha
      simp only [layS, h1, cond_true]
      exact ih n a w v ht' (by omega) (by omega) ha w0 w1 v0 v1
    | false =>
      rw [cond_false]
      simp only [nbl, h1, cond_false] at ha
      simp only [layS, h1, cond_false]
      have e2 : IntKind.wrap .i64 ((a : Int) + 1) = ((a + 1 : Nat) : Int) := by rw [wrap_i64 _ (by omega) (by omega)]; omega
      rw [e2]
      cases (((c.toNat : Nat) : Int) == L) with
      | false =>
        simp only [cond_false]
        exact ih n (a + 1) w v ht' (by omega) (by omega) (by omega) w0 w1 v0 v1
      | true =>
        simp only [cond_true]
        have c4 : decide (IntKind.wrap .u64 (a : Int) < 0) = false := rn_low _
        have e3 : Int.tmod v 2 = v % 2 := Int.tmod_eq_emod_of_nonneg v0
        have e4 : IntKind.wrap .u32 (Int.tdiv v 2) = v / 2 := by rw [Int.tdiv_eq_ediv_of_nonneg v0]; exact wrap_u32 _ (by omega) (by omega)
        have e5 := shl_bit (v % 2) a (by omega) (by omega) (by omega)
        rw [c4, cond_false, e3, e4, e5]
        have wr : 0 ≤ IntKind.wrap .u32 (w + v % 2 * 2 ^ a) ∧ IntKind.wrap .u32 (w + v % 2 * 2 ^ a) < 4294967296 := by
          have e : IntKind.wrap .u32 (w + v % 2 * 2 ^ a) = (w + v % 2 * 2 ^ a) % 4294967296 := by rfl
          rw [e]; omega
        obtain ⟨r, h2, h3, h4, h5⟩ := ih n (a + 1) (IntKind.wrap .u32 (w + v % 2 * 2 ^ a)) (v / 2) ht' (by omega) (by omega) (by omega) wr.1 wr.2 (by omega) (by omega)
        refine ⟨r, h2, h3, h4, fun hs => ?_⟩
        have n1 := layS_nonneg L rs (a + 1) (v / 2)
        have n2 : 0 ≤ v % 2 * 2 ^ a := Int.mul_nonneg (by omega) (by have := pow_pos' a; omega)
        rw [wrap_u32 _ (by omega) (by omega)] at h5
        rw [h5 (by omega)]; omega

/-- What a letter adds to a word by a pattern. -/
def layV (p : ByteArray) (L v : Int) : Int := layS L p.data.toList.reverse 0 v
theorem lay_eq {p : ByteArray} (h : okP p = true) (L w v : Int) (w0 : 0 ≤ w) (w1 : w < 4294967296) (v0 : 0 ≤ v) (v1 : v < 4294967296) :
    ∃ r, atlasref19_lay.f 64 p L w v = some r ∧ 0 ≤ r ∧ r < 4294967296 ∧ (w + layV p L v < 4294967296 → r = w + layV p L v) := by
  simp only [okP, Bool.and_eq_true, decide_eq_true_eq, beq_iff_eq] at h
  have hl : p.data.toList.length = p.size := by simp
  have hn : ∀ l : List UInt8, nbl l.reverse = nbl l := by
    have app : ∀ l m : List UInt8, nbl (l ++ m) = nbl l + nbl m := by
      intro l m
      induction l with
      | nil => simp [nbl]
      | cons c l ih => simp only [List.cons_append, nbl]; cases (c == 32) <;> simp only [cond_true, cond_false, ih] <;> omega
    intro l
    induction l with
    | nil => rfl
    | cons c l ih => rw [List.reverse_cons, app, ih]; simp only [nbl]; cases (c == 32) <;> simp only [cond_true, cond_false] <;> omega
  obtain ⟨r, h1, h2, h3, h4⟩ := lay_loop 64 p L (by omega) p.data.toList.reverse 64 0 w v (by rw [List.length_reverse, List.take_length]) (by simp) (by simp; omega) (by rw [hn]; omega) w0 w1 v0 v1
  refine ⟨r, ?_, h2, h3, h4⟩
  unfold atlasref19_lay.f
  have e1 : IntKind.wrap .i64 (((p.size : Nat) : Int) - 1) = ((p.data.toList.reverse.length : Nat) : Int) - 1 := by rw [wrap_i64 _ (by omega) (by omega)]; simp
  rw [e1]
  have h1' : atlasref19_lay.q0.l 64 64 (p, L, w, v, 0, ((p.data.toList.reverse.length : Nat) : Int) - 1) = some r := h1
  rw [h1', Option.bind_some]

/-! ### As runs -/
def lT (lo n s : Nat) (v : Int) : Int := (match s with
  | 0 => v % 2 ^ n
  | s + 1 => v / 2 ^ (s + 1) % 2 ^ n) * 2 ^ lo
theorem lT_eq (lo n s : Nat) (v : Int) : lT lo n s v = v / 2 ^ s % 2 ^ n * 2 ^ lo := by cases s <;> simp [lT]
def sumR : List (Nat × Nat × Nat) → Int → Int
  | [], _ => 0
  | [(lo, n, s)], v => lT lo n s v
  | (lo, n, s) :: r, v => sumR r v + lT lo n s v
theorem sumR_cons (lo n s : Nat) (r : List (Nat × Nat × Nat)) (v : Int) : sumR ((lo, n, s) :: r) v = sumR r v + v / 2 ^ s % 2 ^ n * 2 ^ lo := by
  cases r with
  | nil => simp [sumR, lT_eq]
  | cons x r => simp only [sumR, lT_eq]
def runsLow (L : Int) : List UInt8 → Nat → Nat → List (Nat × Nat × Nat) → List (Nat × Nat × Nat)
  | [], _, _, r => r
  | c :: cs, a, s, r => bif c == 32 then runsLow L cs a s r else (bif ((c.toNat : Nat) : Int) == L then (match r with
    | (lo, n, s') :: r' => bif lo + n == a && s' + n == s then runsLow L cs (a + 1) (s + 1) ((lo, n + 1, s') :: r') else runsLow L cs (a + 1) (s + 1) ((a, 1, s) :: (lo, n, s') :: r')
    | [] => runsLow L cs (a + 1) (s + 1) [(a, 1, s)]) else runsLow L cs (a + 1) s r)
theorem layS_runs (L v : Int) (v0 : 0 ≤ v) : ∀ (cs : List UInt8) (a s : Nat) (r : List (Nat × Nat × Nat)), sumR r v + layS L cs a (v / 2 ^ s) = sumR (runsLow L cs a s r) v := by
  intro cs
  induction cs with
  | nil => intro a s r; simp [layS, runsLow]
  | cons c cs ih =>
    intro a s r
    simp only [layS, runsLow]
    cases (c == 32) with
    | true => exact ih a s r
    | false =>
      simp only [cond_false]
      cases (((c.toNat : Nat) : Int) == L) with
      | false => exact ih (a + 1) s r
      | true =>
        simp only [cond_true]
        have e1 : v / 2 ^ s / 2 = v / 2 ^ (s + 1) := by rw [Int.pow_succ, Int.ediv_ediv_of_nonneg (by have := pow_pos' s; omega)]
        rw [e1, ← Int.add_assoc]
        have push : ∀ r : List (Nat × Nat × Nat), sumR r v + v / 2 ^ s % 2 * 2 ^ a = sumR ((a, 1, s) :: r) v := fun r => by
          rw [sumR_cons]
          have e : (2 : Int) ^ 1 = 2 := by decide
          rw [e]
        cases r with
        | nil => rw [push]; exact ih (a + 1) (s + 1) _
        | cons x r =>
          obtain ⟨lo, n, s'⟩ := x
          simp only
          cases h : (lo + n == a && s' + n == s) with
          | false => rw [push]; exact ih (a + 1) (s + 1) _
          | true =>
            simp only [Bool.and_eq_true, beq_iff_eq] at h
            obtain ⟨rfl, rfl⟩ := h
            have e2 : sumR ((lo, n, s') :: r) v + v / 2 ^ (s' + n) % 2 * 2 ^ (lo + n) = sumR ((lo, n + 1, s') :: r) v := by
              rw [sumR_cons, sumR_cons]
              have e3 : v / 2 ^ (s' + n) = v / 2 ^ s' / 2 ^ n := by rw [Int.pow_add, Int.ediv_ediv_of_nonneg (by have := pow_pos' s'; omega)]
              have e4 : (2 : Int) ^ (lo + n) = 2 ^ n * 2 ^ lo := by rw [Int.pow_add, Int.mul_comm]
              rw [e3, e4]
              obtain ⟨y, hy⟩ : ∃ y, y = v / 2 ^ s' := ⟨_, rfl⟩
              have y0 : 0 ≤ y := by rw [hy]; exact Int.ediv_nonneg v0 (by have := pow_pos' s'; omega)
              rw [← hy]
              have e5 : y % 2 ^ (n + 1) = y % 2 ^ n + y / 2 ^ n % 2 * 2 ^ n := by
                obtain ⟨Y, rfl⟩ := Int.eq_ofNat_of_zero_le y0
                have := Nat.mod_pow_succ (b := 2) (k := n) (x := Y)
                have e6 : Y % 2 ^ (n + 1) = Y % 2 ^ n + Y / 2 ^ n % 2 * 2 ^ n := by rw [this, Nat.mul_comm (2 ^ n)]
                exact_mod_cast e6
              rw [e5, Int.add_mul, Int.add_assoc, Int.mul_assoc]
            rw [e2]; exact ih _ _ _
theorem layV_runs (p : ByteArray) (L v : Int) (v0 : 0 ≤ v) : layV p L v = sumR (runsLow L p.data.toList.reverse 0 0 []) v := by
  have := layS_runs L v v0 p.data.toList.reverse 0 0 []
  have e : v / 2 ^ 0 = v := by simp
  rw [e] at this
  unfold layV
  rw [← this]; simp [sumR]
def immO (op imm : Int) : Int := bif op == 41 then IntKind.wrap .u32 (Int.tdiv imm 4) else (bif op == 42 then IntKind.wrap .u32 (Int.tdiv imm 4) else imm)
def bitI (b : Bool) : Int := bif b then 1 else 0
theorem bit_eqI (b : Bool) : atlasref19_bit.f b = some (bitI b) := by cases b <;> rfl
def letB : ByteArray := (⟨#[99, 111, 100, 110, 109, 114, 97, 116, 107, 120, 121, 122, 118, 108, 105, 115, 112, 117, 119]⟩ : ByteArray)
def wordC (p : ByteArray) : List (Int × Int) → Int → Option Int
  | [], w => some w
  | t :: r, w => (atlasref19_lay.f 64 p t.1 w t.2).bind fun w => wordC p r w
theorem word_loop (p : ByteArray) (ps : List (Int × Int)) (vs : List Int) (h1 : letB.size = ps.length) (h2 : vs.length = ps.length) (h3 : ∀ i, i < ps.length → byteAt letB (i : Int) = (ps.getD i (0, 0)).1 ∧ vs.getD i 0 = (ps.getD i (0, 0)).2) (hs : ps.length < 1000) :
    ∀ (r : List (Int × Int)) (n i : Nat) (w : Int), ps.drop i = r → r.length < n → atlasref19_word.q0.l 64 n (p, w, letB, (i : Int), vs) = wordC p r w := by
  intro r
  induction r with
  | nil =>
    intro n i w hd hn
    obtain ⟨n, rfl⟩ : ∃ m, n = m + 1 := ⟨n - 1, by simp at hn; omega⟩
    have := List.drop_eq_nil_iff.1 hd
    have c1 : decide ((i : Int) < ((vs.length : Nat) : Int)) = false := by simp; omega
    simp only [atlasref19_word.q0.l, c1, cond_false, wordC]
  | cons t r ih =>
    intro n i w hd hn
    obtain ⟨n, rfl⟩ : ∃ m, n = m + 1 := ⟨n - 1, by simp at hn; omega⟩
    have e := List.getElem?_drop (xs := ps) (i := i) (j := 0)
    rw [hd] at e
    have e : ps[i]? = some t := by simpa using e.symm
    have hi := (List.getElem?_eq_some_iff.1 e).1
    have c1 : decide ((i : Int) < ((vs.length : Nat) : Int)) = true := by simp; omega
    have c2 : decide ((0 : Int) ≤ (i : Int)) = true := by simp
    have c3 : decide ((i : Int) < ((letB.size : Nat) : Int)) = true := by simp; omega
    have c4 : decide (Int.toNat (i : Int) < vs.length) = true := by simp; omega
    have e1 : IntKind.wrap .i64 ((i : Int) + 1) = ((i + 1 : Nat) : Int) := by rw [wrap_i64 _ (by omega) (by omega)]; omega
    have hg : ps.getD i (0, 0) = t := by rw [List.getD_eq_getElem?_getD, e]; rfl
    have h := h3 i hi
    rw [hg] at h
    have hd' : ps.drop (i + 1) = r := by
      have e : List.drop (i + 1) ps = List.drop 1 (List.drop i ps) := by rw [List.drop_drop, Nat.add_comm]
      rw [e, hd]; rfl
    have h5 : vs.getD (Int.toNat (i : Int)) 0 = t.2 := by rw [Int.toNat_natCast]; exact h.2
    simp only [atlasref19_word.q0.l, c1, c2, c3, c4, Bool.and_self, cond_true, h.1, h5, e1, wordC]
    cases atlasref19_lay.f 64 p t.1 w t.2 with
    | none => rfl
    | some w' => exact ih n (i + 1) w' hd' (by simp at hn; omega)
theorem word_unroll (p : ByteArray) (w v0 v1 v2 v3 v4 v5 v6 v7 v8 v9 v10 v11 v12 v13 v14 v15 v16 v17 v18 : Int) : atlasref19_word.q0.l 64 64 (p, w, (⟨#[99, 111, 100, 110, 109, 114, 97, 116, 107, 120, 121, 122, 118, 108, 105, 115, 112, 117, 119]⟩ : ByteArray), 0, [v0, v1, v2, v3, v4, v5, v6, v7, v8, v9, v10, v11, v12, v13, v14, v15, v16, v17, v18]) = wordC p [(99, v0), (111, v1), (100, v2), (110, v3), (109, v4), (114, v5), (97, v6), (116, v7), (107, v8), (120, v9), (121, v10), (122, v11), (118, v12), (108, v13), (105, v14), (115, v15), (112, v16), (117, v17), (119, v18)] w := by
  refine word_loop p [(99, v0), (111, v1), (100, v2), (110, v3), (109, v4), (114, v5), (97, v6), (116, v7), (107, v8), (120, v9), (121, v10), (122, v11), (118, v12), (108, v13), (105, v14), (115, v15), (112, v16), (117, v17), (119, v18)] [v0, v1, v2, v3, v4, v5, v6, v7, v8, v9, v10, v11, v12, v13, v14, v15, v16, v17, v18] (by kernel_rfl) rfl (fun i hi => ?_) (by show 19 < 1000; decide) _ 64 0 w rfl (by show 19 < 64; decide)
  match i, hi with
  | 0, _ => exact ⟨by kernel_rfl, rfl⟩
  | 1, _ => exact ⟨by kernel_rfl, rfl⟩
  | 2, _ => exact ⟨by kernel_rfl, rfl⟩
  | 3, _ => exact ⟨by kernel_rfl, rfl⟩
  | 4, _ => exact ⟨by kernel_rfl, rfl⟩
  | 5, _ => exact ⟨by kernel_rfl, rfl⟩
  | 6, _ => exact ⟨by kernel_rfl, rfl⟩
  | 7, _ => exact ⟨by kernel_rfl, rfl⟩
  | 8, _ => exact ⟨by kernel_rfl, rfl⟩
  | 9, _ => exact ⟨by kernel_rfl, rfl⟩
  | 10, _ => exact ⟨by kernel_rfl, rfl⟩
  | 11, _ => exact ⟨by kernel_rfl, rfl⟩
  | 12, _ => exact ⟨by kernel_rfl, rfl⟩
  | 13, _ => exact ⟨by kernel_rfl, rfl⟩
  | 14, _ => exact ⟨by kernel_rfl, rfl⟩
  | 15, _ => exact ⟨by kernel_rfl, rfl⟩
  | 16, _ => exact ⟨by kernel_rfl, rfl⟩
  | 17, _ => exact ⟨by kernel_rfl, rfl⟩
  | 18, _ => exact ⟨by kernel_rfl, rfl⟩
  | n + 19, h => exact absurd h (by show ¬ (n + 19 < 19); omega)
theorem word_tail (p : ByteArray) (r1 v0 v1 v2 v3 v4 v5 v6 v7 v8 v9 v10 v11 v12 v13 v14 : Int) (b0 b1 b2 b3 : Bool) : ((atlasref19_bit.f b0).bind fun r2 => (atlasref19_bit.f b1).bind fun r3 => (atlasref19_bit.f b2).bind fun r4 => (atlasref19_bit.f b3).bind fun r5 => (atlasref19_word.q0.l 64 64 (p, r1, (⟨#[99, 111, 100, 110, 109, 114, 97, 116, 107, 120, 121, 122, 118, 108, 105, 115, 112, 117, 119]⟩ : ByteArray), 0, ([v0, v1, v2, v3, v4, v5, v6, v7, v8, v9, v10, v11, v12, v13, v14, r2, r3, r4, r5] : List Int))).bind fun r7 => (some r7)) = wordC p [(99, v0), (111, v1), (100, v2), (110, v3), (109, v4), (114, v5), (97, v6), (116, v7), (107, v8), (120, v9), (121, v10), (122, v11), (118, v12), (108, v13), (105, v14), (115, bitI b0), (112, bitI b1), (117, bitI b2), (119, bitI b3)] r1 := by
  rw [bit_eqI b0, Option.bind_some, bit_eqI b1, Option.bind_some, bit_eqI b2, Option.bind_some, bit_eqI b3, Option.bind_some, word_unroll]
  exact Option.bind_fun_some _
def valsO (j : T26) : List (Int × Int) := [(99, IntKind.wrap .u32 j.f0_Cond), (111, IntKind.wrap .u32 (IntKind.wrap .i64 (j.f1_Op - 1))), (100, IntKind.wrap .u32 j.f4_Rd), (110, IntKind.wrap .u32 j.f5_Rn), (109, IntKind.wrap .u32 j.f6_Rm), (114, IntKind.wrap .u32 j.f7_Rs), (97, IntKind.wrap .u32 j.f8_Ra), (116, IntKind.wrap .u32 j.f10_Shift), (107, IntKind.wrap .u32 j.f11_Amount), (120, IntKind.wrap .u32 j.f16_Tuple_CRn), (121, IntKind.wrap .u32 j.f17_Tuple_Op1), (122, IntKind.wrap .u32 j.f18_Tuple_CRm), (118, IntKind.wrap .u32 j.f19_Tuple_Op2), (108, IntKind.wrap .u32 j.f15_List), (105, immO j.f1_Op j.f9_Imm), (115, bitI j.f2_S), (112, bitI j.f12_Pre), (117, bitI j.f13_Up), (119, bitI j.f14_Write)]
theorem word_eq (ops : List Int) (form : Int) (p : ByteArray) (j : T26) : atlasref19_word.f 64 ⟨ops, form, p⟩ j = (atlasref19_lay.f 64 p 49 0 4294967295).bind fun w => wordC p (valsO j) w := by
  unfold atlasref19_word.f valsO immO
  congr 1
  funext w
  cases (j.f1_Op == 41) with
  | true => rw [cond_true, cond_true]; exact word_tail p w _ _ _ _ _ _ _ _ _ _ _ _ _ _ _ _ _ _ _
  | false =>
    rw [cond_false, cond_false]
    cases (j.f1_Op == 42) with
    | true => rw [cond_true, cond_true]; exact word_tail p w _ _ _ _ _ _ _ _ _ _ _ _ _ _ _ _ _ _ _
    | false => rw [cond_false, cond_false]; exact word_tail p w _ _ _ _ _ _ _ _ _ _ _ _ _ _ _ _ _ _ _
end Go.Va
