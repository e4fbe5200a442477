/-
  Which rows of the table are left, by what is known of a word.
  Conditions: none.
-/
import Derived.Test.YtjlbmdcljikojaaPureIsaRef2
set_option linter.unusedVariables false
set_option linter.unusedSimpArgs false
set_option autoImplicit false
set_option maxRecDepth 10000
namespace Go.Va
def bitB (w : Int) (i : Nat) : Bool := w / 2 ^ i % 2 == 1
/-- The places of a pattern's 0s and 1s. -/
def constsL : List UInt8 → Nat → List (Nat × Bool)
  | [], _ => []
  | c :: cs, a => bif c == 32 then constsL cs a else (bif c == 48 then (a - 1, false) :: constsL cs (a - 1) else (bif c == 49 then (a - 1, true) :: constsL cs (a - 1) else constsL cs (a - 1)))
theorem fitsL_consts (w : Int) : ∀ (cs : List UInt8) (a : Nat), fitsL cs a w = (constsL cs a).all fun t => bitB w t.1 == t.2 := by
  intro cs
  induction cs with
  | nil => intro a; rfl
  | cons c cs ih =>
    intro a
    simp only [fitsL, constsL]
    have hb : (w / 2 ^ (a - 1) % 2 != 0) = bitB w (a - 1) ∧ (w / 2 ^ (a - 1) % 2 != 1) = !bitB w (a - 1) := by
      have : w / 2 ^ (a - 1) % 2 = 0 ∨ w / 2 ^ (a - 1) % 2 = 1 := by omega
      unfold bitB
      rcases this with h | h <;> rw [h] <;> decide
    rw [hb.1, hb.2]
    cases h1 : (c == 32) with
    | true => simp only [cond_true]; exact ih a
    | false =>
      simp only [cond_false]
      cases h2 : (c == 48) with
      | true =>
        have h3 : (c == 49) = false := by rw [beq_iff_eq.1 h2]; decide
        simp only [h3, cond_true, Bool.true_and, Bool.false_and, Bool.or_false, List.all_cons]
        cases bitB w (a - 1)
        · simp only [cond_false]; rw [ih]; rfl
        · rfl
      | false =>
        cases h3 : (c == 49) with
        | true =>
          simp only [cond_true, cond_false, Bool.true_and, Bool.false_and, Bool.false_or, List.all_cons]
          cases bitB w (a - 1)
          · rfl
          · simp only [Bool.not_true, cond_false]; rw [ih]; rfl
        | false =>
          simp only [cond_false, Bool.false_and, Bool.or_false]
          exact ih _

def consts (r : RowT) : List (Nat × Bool) := constsL r.2.2.1.data.toList 32
theorem fits_bits {w : Int} {r : RowT} (h : fitsL r.2.2.1.data.toList 32 w = true) {t : Nat × Bool} (ht : t ∈ consts r) : bitB w t.1 = t.2 := by
  rw [fitsL_consts] at h
  exact beq_iff_eq.1 (List.all_eq_true.1 h t ht)

/-- Fields that are known. -/
def Known (w : Int) : List (Nat × Nat × Nat) → Prop
  | [] => True
  | (lo, n, c) :: l => w / 2 ^ lo % 2 ^ n = (c : Int) ∧ Known w l
/-- Fields that are known not to be so. -/
def KnownN (w : Int) : List (Nat × Nat × Nat) → Prop
  | [] => True
  | (lo, n, c) :: l => ¬ (w / 2 ^ lo % 2 ^ n = (c : Int)) ∧ KnownN w l
/-- Masks that are known not to fit. -/
def KnownM (w : Int) : List (Nat × Nat) → Prop
  | [] => True
  | (m, c) :: l => ¬ (andI .u32 w (m : Int) = (c : Int)) ∧ KnownM w l

def fieldBits (t : Nat × Nat × Nat) : List (Nat × Bool) := (List.range t.2.1).map fun i => (t.1 + i, t.2.2.testBit i)
def bitsOf (l : List (Nat × Nat × Nat)) : List (Nat × Bool) := l.flatMap fieldBits

theorem bit_field (w : Int) (w0 : 0 ≤ w) (lo n c i : Nat) (hi : i < n) (h : w / 2 ^ lo % 2 ^ n = (c : Int)) : bitB w (lo + i) = c.testBit i := by
  obtain ⟨W, rfl⟩ := Int.eq_ofNat_of_zero_le w0
  have h' : W / 2 ^ lo % 2 ^ n = c := by exact_mod_cast h
  have e : bitB (W : Int) (lo + i) = W.testBit (lo + i) := by
    unfold bitB
    rw [Nat.testBit_eq_decide_div_mod_eq]
    have : ((W : Int) / 2 ^ (lo + i) % 2) = ((W / 2 ^ (lo + i) % 2 : Nat) : Int) := by simp
    rw [this, Bool.eq_iff_iff]
    simp only [beq_iff_eq, decide_eq_true_eq]
    omega
  rw [e, ← h', Nat.testBit_mod_two_pow, Nat.testBit_div_two_pow]
  simp [hi, Nat.add_comm]

theorem known_bit {w : Int} (w0 : 0 ≤ w) {l : List (Nat × Nat × Nat)} (h : Known w l) {t : Nat × Bool} (ht : t ∈ bitsOf l) : bitB w t.1 = t.2 := by
  induction l with
  | nil => simp [bitsOf] at ht
  | cons x l ih =>
    simp only [bitsOf, List.flatMap_cons, List.mem_append] at ht
    rcases ht with ht | ht
    · obtain ⟨i, hi, rfl⟩ := List.mem_map.1 ht
      exact bit_field w w0 x.1 x.2.1 x.2.2 i (by simpa using hi) h.1
    · exact ih h.2 ht

theorem bitB_test (W i : Nat) : bitB (W : Int) i = W.testBit i := by
  have := bit_field (W : Int) (by omega) i 1 (W / 2 ^ i % 2) 0 (by decide) (by simp)
  rw [Nat.add_zero] at this
  rw [this, Nat.testBit_eq_decide_div_mod_eq, Nat.testBit_eq_decide_div_mod_eq]
  simp
theorem field_of_bits (w : Int) (w0 : 0 ≤ w) (lo n c : Nat) (hc : c < 2 ^ n) (h : ∀ i, i < n → bitB w (lo + i) = c.testBit i) : w / 2 ^ lo % 2 ^ n = (c : Int) := by
  obtain ⟨W, rfl⟩ := Int.eq_ofNat_of_zero_le w0
  have : W / 2 ^ lo % 2 ^ n = c := by
    apply Nat.eq_of_testBit_eq
    intro i
    rw [Nat.testBit_mod_two_pow, Nat.testBit_div_two_pow]
    by_cases hi : i < n
    · have := h i hi
      rw [bitB_test] at this
      simp [hi, Nat.add_comm, this]
    · have : c.testBit i = false := Nat.testBit_lt_two_pow (Nat.lt_of_lt_of_le hc (Nat.pow_le_pow_right (by decide) (by omega)))
      simp [hi, this]
  exact_mod_cast this
theorem mask_of_bits (w : Int) (w0 : 0 ≤ w) (w1 : w < 4294967296) (m c : Nat) (hm : m < 4294967296) (hc : c &&& m = c) (h : ∀ i, i < 32 → m.testBit i = true → bitB w i = c.testBit i) : andI .u32 w (m : Int) = (c : Int) := by
  obtain ⟨W, rfl⟩ := Int.eq_ofNat_of_zero_le w0
  have hb : IntKind.u32.bits = 32 := rfl
  have e : W &&& m = c := by
    apply Nat.eq_of_testBit_eq
    intro i
    rw [← hc, Nat.testBit_and, Nat.testBit_and]
    by_cases hi : i < 32
    · cases hmi : m.testBit i with
      | false => simp
      | true =>
        have := h i hi hmi
        rw [bitB_test] at this
        rw [this]
    · have : m.testBit i = false := Nat.testBit_lt_two_pow (Nat.lt_of_lt_of_le hm (by have : (4294967296 : Nat) = 2 ^ 32 := by decide
                                                                                      rw [this]; exact Nat.pow_le_pow_right (by decide) (by omega)))
      rw [this, Bool.and_false, Bool.and_false]
  unfold andI
  rw [hb, BitVec.toNat_and, ofInt_toNat _ (by omega) w1, ofInt_toNat _ (by omega) (by omega), Int.toNat_natCast, Int.toNat_natCast, e]
  have : c ≤ m := by rw [← hc]; exact Nat.and_le_right
  exact wrap_u32 _ (by omega) (by omega)

/-- Is a row out of the question? -/
def outR (FL NL : List (Nat × Nat × Nat)) (NM : List (Nat × Nat)) (op : Option Nat) (r : RowT) : Bool :=
  ((consts r).any (fun t => (bitsOf FL).contains (t.1, !t.2)) || NL.any (fun t => decide (t.2.2 < 2 ^ t.2.1) && (fieldBits t).all fun b => (consts r).contains b)) ||
  (NM.any (fun t => (decide (t.1 < 4294967296) && t.2 &&& t.1 == t.2) && (List.range 32).all fun i => !t.1.testBit i || (consts r).contains (i, t.2.testBit i)) ||
  (match op with
    | some v => runsL 111 r.2.2.1.data.toList 32 [] == [(21, 4)] && !(r.1.any fun y => y == (v : Int) + 1)
    | none => false))
def OpIs (w : Int) (op : Option Nat) : Prop := match op with
  | some v => w / 2097152 % 16 = (v : Int)
  | none => True

theorem out_pass {w : Int} (w0 : 0 ≤ w) (w1 : w < 4294967296) {FL NL : List (Nat × Nat × Nat)} {NM : List (Nat × Nat)} {op : Option Nat} (h1 : Known w FL) (h2 : KnownN w NL) (h3 : KnownM w NM) (h4 : OpIs w op) {r : RowT} (h : outR FL NL NM op r = true) : passV w r = false := by
  have fit : (∃ (P : Prop), P ∧ (fitsL r.2.2.1.data.toList 32 w = true → ¬ P)) → passV w r = false := fun ⟨P, hP, hn⟩ => by
    have : fitsL r.2.2.1.data.toList 32 w = false := by
      cases hf : fitsL r.2.2.1.data.toList 32 w with
      | false => rfl
      | true => exact absurd hP (hn hf)
    unfold passV; rw [this]; rfl
  unfold outR at h
  simp only [Bool.or_eq_true] at h
  rcases h with (h | h) | (h | h)
  · obtain ⟨t, ht, hc⟩ := List.any_eq_true.1 h
    refine fit ⟨True, trivial, fun hf _ => ?_⟩
    have e1 := fits_bits hf ht
    have e2 := known_bit w0 h1 (t := (t.1, !t.2)) (by simpa using hc)
    rw [e1] at e2
    cases ht2 : t.2 <;> rw [ht2] at e2 <;> cases e2
  · obtain ⟨t, ht, hc⟩ := List.any_eq_true.1 h
    simp only [Bool.and_eq_true, decide_eq_true_eq] at hc
    have hne : ∀ l : List (Nat × Nat × Nat), KnownN w l → t ∈ l → ¬ (w / 2 ^ t.1 % 2 ^ t.2.1 = (t.2.2 : Int)) := by
      intro l
      induction l with
      | nil => intro _ h; simp at h
      | cons x l ih => intro hl hm; rcases List.mem_cons.1 hm with e | e
                       · rw [e]; exact hl.1
                       · exact ih hl.2 e
    refine fit ⟨_, hne NL h2 ht, fun hf hn => hn ?_⟩
    refine field_of_bits w w0 _ _ _ hc.1 (fun i hi => ?_)
    have := List.all_eq_true.1 hc.2 (t.1 + i, t.2.2.testBit i) (List.mem_map.2 ⟨i, by simpa using hi, rfl⟩)
    exact fits_bits hf (by simpa using this)
  · obtain ⟨t, ht, hc⟩ := List.any_eq_true.1 h
    simp only [Bool.and_eq_true, decide_eq_true_eq, beq_iff_eq] at hc
    have hne : ∀ l : List (Nat × Nat), KnownM w l → t ∈ l → ¬ (andI .u32 w (t.1 : Int) = (t.2 : Int)) := by
      intro l
      induction l with
      | nil => intro _ h; simp at h
      | cons x l ih => intro hl hm; rcases List.mem_cons.1 hm with e | e
                       · rw [e]; exact hl.1
                       · exact ih hl.2 e
    refine fit ⟨_, hne NM h3 ht, fun hf hn => hn ?_⟩
    refine mask_of_bits w w0 w1 _ _ hc.1.1 hc.1.2 (fun i hi hmi => ?_)
    have := List.all_eq_true.1 hc.2 i (by simpa using hi)
    rw [hmi] at this
    exact fits_bits hf (t := (i, t.2.testBit i)) (by simpa using this)
  · cases op with
    | none => cases h
    | some v =>
      simp only [Bool.and_eq_true, Bool.not_eq_true', beq_iff_eq] at h
      have e1 : sayOp r.1 r.2.2.1 w = (v : Int) + 1 := by
        unfold sayOp CN FV
        rw [h.1]
        have : valR [(21, 4)] w = w / 2097152 % 16 := by rfl
        rw [this, h4]; rfl
      have e2 : (sayR r w).f1_Op = (v : Int) + 1 := e1
      unfold passV
      rw [e2, h.2, Bool.and_false, Bool.false_and]

theorem first_out {w : Int} {l : List RowT} {f : RowT → Bool} (h : ∀ r, f r = true → passV w r = false) : firstV w l = firstV w (l.filter fun r => !f r) := by
  induction l with
  | nil => rfl
  | cons r l ih =>
    cases hf : f r with
    | true => simp only [firstV, h r hf, cond_false, List.filter_cons, hf, Bool.not_true, Bool.false_eq_true, if_false]; exact ih
    | false => simp only [firstV, List.filter_cons, hf, Bool.not_false, if_true]; rw [ih]

def keepR (FL NL : List (Nat × Nat × Nat)) (NM : List (Nat × Nat)) (op : Option Nat) : List RowT := rowsV.filter fun r => !outR FL NL NM op r
def rowD (k : Nat) : RowT := rowsV.getD k ([], 0, ByteArray.empty, ())

/-- What the program's first look answers, and what the reference finds. -/
def Same (w : Int) (r : Option T26) : Prop := ∃ j, r = some j ∧ ((j = T26.z ∧ firstV w rowsV = none) ∨ (1 ≤ j.f1_Op ∧ ∃ k, isa_may.f 64 j = atlasref19_may.f 64 ⟨(rowD k).1, (rowD k).2.1, (rowD k).2.2.1⟩ j ∧ okR (rowD k) = true ∧ firstV w rowsV = bif mayV (rowD k) j then some (rowD k, j) else none))

theorem Same.bif {x : Int} {b : Bool} {p q : Option T26} (h1 : b = true → Same x p) (h2 : b = false → Same x q) : Same x (bif b then p else q) := by cases b; exact h2 rfl; exact h1 rfl
theorem Same.eta {x : Int} {r : Option T26} (h : Same x r) : Same x (r.bind fun r3 => (some (⟨r3.f0_Cond, r3.f1_Op, r3.f2_S, r3.f3_Form, r3.f4_Rd, r3.f5_Rn, r3.f6_Rm, r3.f7_Rs, r3.f8_Ra, r3.f9_Imm, r3.f10_Shift, r3.f11_Amount, r3.f12_Pre, r3.f13_Up, r3.f14_Write, r3.f15_List, r3.f16_Tuple_CRn, r3.f17_Tuple_Op1, r3.f18_Tuple_CRm, r3.f19_Tuple_Op2⟩ : T26))) := by cases r <;> exact h
theorem Same.none {w : Int} (w0 : 0 ≤ w) (w1 : w < 4294967296) (FL NL : List (Nat × Nat × Nat)) (NM : List (Nat × Nat)) (op : Option Nat) (h1 : Known w FL) (h2 : KnownN w NL) (h3 : KnownM w NM) (h4 : OpIs w op)
    (hk : (keepR FL NL NM op).isEmpty = true) : Same w (some ⟨0, 0, false, 0, 0, 0, 0, 0, 0, 0, 0, 0, false, false, false, 0, 0, 0, 0, 0⟩) := by
  refine ⟨_, rfl, .inl ⟨rfl, ?_⟩⟩
  rw [first_out (l := rowsV) (fun r hr => out_pass w0 w1 h1 h2 h3 h4 hr)]
  have : keepR FL NL NM op = [] := List.isEmpty_iff.1 hk
  unfold keepR at this
  rw [this]; rfl
theorem Same.is {w : Int} {j : T26} (w0 : 0 ≤ w) (w1 : w < 4294967296) (k : Nat) (FL NL : List (Nat × Nat × Nat)) (NM : List (Nat × Nat)) (op : Option Nat) (h1 : Known w FL) (h2 : KnownN w NL) (h3 : KnownM w NM) (h4 : OpIs w op)
    (hk : keepR FL NL NM op = [rowD k]) (hc : ((consts (rowD k)).all fun t => (bitsOf FL).contains t) = true) (hok : okR (rowD k) = true) (o1 : 1 ≤ j.f1_Op) (hin : ((rowD k).1.any fun y => y == j.f1_Op) = true) (hs : sayR (rowD k) w = j)
    (hm : isa_may.f 64 j = atlasref19_may.f 64 ⟨(rowD k).1, (rowD k).2.1, (rowD k).2.2.1⟩ j) : Same w (some j) := by
  refine ⟨j, rfl, .inr ⟨o1, k, hm, hok, ?_⟩⟩
  rw [first_out (l := rowsV) (fun r hr => out_pass w0 w1 h1 h2 h3 h4 hr)]
  unfold keepR at hk
  rw [hk]
  have hf : fitsL (rowD k).2.2.1.data.toList 32 w = true := by
    rw [fitsL_consts]
    refine List.all_eq_true.2 (fun t ht => ?_)
    have := List.all_eq_true.1 hc t ht
    exact beq_iff_eq.2 (known_bit w0 h1 (by simpa using this))
  simp only [firstV, passV, hf, hs, hin, Bool.true_and]
end Go.Va
