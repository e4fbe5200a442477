/-
  The word that the reference lays of what a row says of a word is that word.
  Conditions: none.
-/
import Derived.Test.YtjlbmdcljikojaaPureIsaRef7
set_option linter.unusedVariables false
set_option linter.unusedSimpArgs false
set_option autoImplicit false
set_option maxRecDepth 10000
namespace Go.Va
theorem wrap_bd (v : Int) : 0 ≤ IntKind.wrap .u32 v ∧ IntKind.wrap .u32 v < 4294967296 := by
  have e : IntKind.wrap .u32 v = v % 4294967296 := by rfl
  rw [e]; omega
theorem bitI_bd (b : Bool) : 0 ≤ bitI b ∧ bitI b < 4294967296 := by cases b <;> decide
theorem cut (x : Int) (a n : Nat) : x % 2 ^ (a + n) = x / 2 ^ a % 2 ^ n * 2 ^ a + x % 2 ^ a := by
  have p : (0 : Int) < 2 ^ a := by have := pow_pos' a; omega
  have p2 : (0 : Int) < 2 ^ n := by have := pow_pos' n; omega
  have e1 := Int.emod_add_mul_ediv x (2 ^ (a + n))
  have e2 := Int.emod_add_mul_ediv x (2 ^ a)
  have e3 := Int.emod_add_mul_ediv (x / 2 ^ a) (2 ^ n)
  rw [Int.ediv_ediv_of_nonneg (by omega), ← Int.pow_add] at e3
  have e4 : (2 : Int) ^ (a + n) * (x / 2 ^ (a + n)) = 2 ^ a * (2 ^ n * (x / 2 ^ (a + n))) := by rw [Int.pow_add, Int.mul_assoc]
  have e5 : 2 ^ a * (x / 2 ^ a) = 2 ^ a * (x / 2 ^ a % 2 ^ n) + 2 ^ a * (2 ^ n * (x / 2 ^ (a + n))) := by rw [← Int.mul_add, e3]
  rw [Int.mul_comm (x / 2 ^ a % 2 ^ n)]
  omega
theorem imm_back (d : Int) (d0 : 0 ≤ d) (d1 : d < 16777216) : IntKind.wrap .u32 (Int.tdiv (bif decide (IntKind.wrap .u32 (d * 4) ≥ 33554432) then IntKind.wrap .u32 (IntKind.wrap .u32 (d * 4) - 67108864) else IntKind.wrap .u32 (d * 4)) 4) % 16777216 = d := by
  have e : ∀ z : Int, IntKind.wrap .u32 z = z % 4294967296 := fun z => by rfl
  simp only [e]
  cases hc : decide (d * 4 % 4294967296 ≥ 33554432) with
  | true =>
    have := of_decide_eq_true hc
    rw [cond_true, Int.tdiv_eq_ediv_of_nonneg (by omega)]; omega
  | false => rw [cond_false, Int.tdiv_eq_ediv_of_nonneg (by omega)]; omega

/-- How often a letter stands in a pattern. -/
def cntL (L : Int) : List UInt8 → Nat
  | [] => 0
  | c :: cs => bif c == 32 then cntL L cs else (bif ((c.toNat : Nat) : Int) == L then cntL L cs + 1 else cntL L cs)
theorem fieldL_cnt (L w : Int) : ∀ (cs : List UInt8) (a n : Nat) (v : Int), fieldL L cs a w v n = (v * 2 ^ cntL L cs + (fieldL L cs a w 0 0).1, ((n + cntL L cs : Nat) : Int)) := by
  intro cs
  induction cs with
  | nil => intro a n v; simp [fieldL, cntL]
  | cons c cs ih =>
    intro a n v
    simp only [fieldL, cntL]
    cases (c == 32) with
    | true => exact ih a n v
    | false =>
      simp only [cond_false]
      cases (((c.toNat : Nat) : Int) == L) with
      | false => exact ih _ n v
      | true =>
        simp only [cond_true]
        rw [ih (a - 1) (n + 1) (2 * v + w / 2 ^ (a - 1) % 2), ih (a - 1) (0 + 1) (2 * 0 + w / 2 ^ (a - 1) % 2)]
        have e : (2 : Int) ^ (cntL L cs + 1) = 2 * 2 ^ cntL L cs := by rw [Int.pow_succ, Int.mul_comm]
        rw [e]
        refine Prod.ext ?_ ?_
        · simp only [Int.add_mul, Int.mul_zero, Int.zero_add]
          have e2 : v * (2 * 2 ^ cntL L cs) = 2 * v * 2 ^ cntL L cs := by rw [← Int.mul_assoc, Int.mul_comm v 2]
          rw [e2, Int.add_assoc]
        · simp only; omega
def flL (L : Int) (cs : List UInt8) (a : Nat) (w : Int) : Int := (fieldL L cs a w 0 0).1
theorem flL_cons (L w : Int) (c : UInt8) (cs : List UInt8) (a : Nat) : flL L (c :: cs) a w = bif c == 32 then flL L cs a w else (bif ((c.toNat : Nat) : Int) == L then w / 2 ^ (a - 1) % 2 * 2 ^ cntL L cs + flL L cs (a - 1) w else flL L cs (a - 1) w) := by
  unfold flL
  simp only [fieldL]
  cases (c == 32) with
  | true => rfl
  | false =>
    simp only [cond_false]
    cases (((c.toNat : Nat) : Int) == L) with
    | false => rfl
    | true =>
      simp only [cond_true]
      rw [fieldL_cnt, Int.mul_zero, Int.zero_add]
theorem flL_bd (L w : Int) : ∀ (cs : List UInt8) (a : Nat), 0 ≤ flL L cs a w ∧ flL L cs a w < 2 ^ cntL L cs := by
  intro cs
  induction cs with
  | nil => intro a; exact ⟨Int.le_refl _, by show (0 : Int) < 1; decide⟩
  | cons c cs ih =>
    intro a
    rw [flL_cons]
    simp only [cntL]
    cases (c == 32) with
    | true => exact ih a
    | false =>
      simp only [cond_false]
      cases (((c.toNat : Nat) : Int) == L) with
      | false => exact ih _
      | true =>
        simp only [cond_true]
        have h := ih (a - 1)
        have e : (2 : Int) ^ (cntL L cs + 1) = 2 * 2 ^ cntL L cs := by rw [Int.pow_succ, Int.mul_comm]
        rw [e]
        have hb : w / 2 ^ (a - 1) % 2 = 0 ∨ w / 2 ^ (a - 1) % 2 = 1 := by omega
        rcases hb with hb | hb <;> rw [hb] <;> omega
theorem FV_fl {p : ByteArray} (h : okP p = true) (L w : Int) (w0 : 0 ≤ w) : FV p L w = flL L p.data.toList 32 w ∧ CN p L = cntL L p.data.toList := by
  have e := (field_eq h L w w0).symm.trans (field_FV h L w w0)
  have e2 := Option.some.inj e
  rw [fieldL_cnt] at e2
  have e3 := congrArg Prod.fst e2
  have e4 := congrArg Prod.snd e2
  simp only [Int.zero_mul, Int.zero_add] at e3 e4
  exact ⟨e3.symm, by omega⟩
theorem nbl_app (l m : List UInt8) : nbl (l ++ m) = nbl l + nbl m := by
  induction l with
  | nil => simp [nbl]
  | cons c l ih => simp only [List.cons_append, nbl]; cases (c == 32) <;> simp only [cond_true, cond_false, ih] <;> omega
theorem cnt_app (L : Int) (l m : List UInt8) : cntL L (l ++ m) = cntL L l + cntL L m := by
  induction l with
  | nil => simp [cntL]
  | cons c l ih => simp only [List.cons_append, cntL]; cases (c == 32) <;> cases (((c.toNat : Nat) : Int) == L) <;> simp only [cond_true, cond_false, ih] <;> omega
theorem nbl_rev (l : List UInt8) : nbl l.reverse = nbl l := by
  induction l with
  | nil => rfl
  | cons c l ih => rw [List.reverse_cons, nbl_app, ih]; simp only [nbl]; cases (c == 32) <;> simp only [cond_true, cond_false] <;> omega
theorem cnt_rev (L : Int) (l : List UInt8) : cntL L l.reverse = cntL L l := by
  induction l with
  | nil => rfl
  | cons c l ih => rw [List.reverse_cons, cnt_app, ih]; simp only [cntL]; cases (c == 32) <;> cases (((c.toNat : Nat) : Int) == L) <;> simp only [cond_true, cond_false] <;> omega
theorem layS_snoc (L : Int) (c : UInt8) : ∀ (l : List UInt8) (a : Nat) (v : Int), layS L (l ++ [c]) a v = layS L l a v + bif c == 32 then 0 else (bif ((c.toNat : Nat) : Int) == L then v / 2 ^ cntL L l % 2 * 2 ^ (a + nbl l) else 0) := by
  intro l
  induction l with
  | nil =>
    intro a v
    simp only [List.nil_append, layS, cntL, nbl, Int.pow_zero, Int.ediv_one, Int.zero_add, Nat.add_zero, Int.add_zero]
  | cons d l ih =>
    intro a v
    simp only [List.cons_append, layS, cntL, nbl]
    cases (d == 32) with
    | true => exact ih a v
    | false =>
      simp only [cond_false]
      have e1 : a + (nbl l + 1) = a + 1 + nbl l := by omega
      cases (((d.toNat : Nat) : Int) == L) with
      | false => simp only [cond_false]; rw [ih, e1]
      | true =>
        simp only [cond_true]
        rw [ih, e1, Int.add_assoc]
        have e2 : v / 2 ^ (cntL L l + 1) = v / 2 / 2 ^ cntL L l := by rw [Int.pow_succ, Int.mul_comm, Int.ediv_ediv_of_nonneg (by decide)]
        rw [e2]
theorem layS_low (L t : Int) : ∀ (l : List UInt8) (a : Nat) (v : Int), layS L l a (v + 2 ^ cntL L l * t) = layS L l a v := by
  intro l
  induction l with
  | nil => intro a v; rfl
  | cons d l ih =>
    intro a v
    simp only [layS, cntL]
    cases (d == 32) with
    | true => exact ih a v
    | false =>
      simp only [cond_false]
      cases (((d.toNat : Nat) : Int) == L) with
      | false => exact ih _ v
      | true =>
        simp only [cond_true]
        have e : (2 : Int) ^ (cntL L l + 1) * t = 2 * (2 ^ cntL L l * t) := by rw [Int.pow_succ, Int.mul_comm (2 ^ cntL L l) 2, Int.mul_assoc]
        rw [e]
        obtain ⟨y, hy⟩ : ∃ y, y = 2 ^ cntL L l * t := ⟨_, rfl⟩
        have h := ih (a + 1) (v / 2)
        rw [← hy] at h ⊢
        have e1 : (v + 2 * y) % 2 = v % 2 := by omega
        have e2 : (v + 2 * y) / 2 = v / 2 + y := by omega
        rw [e1, e2, h]
/-- The bits of a word at a letter's places. -/
def bitsG (L : Int) : List UInt8 → Nat → Int → Int
  | [], _, _ => 0
  | c :: cs, a, w => bif c == 32 then bitsG L cs a w else (bif ((c.toNat : Nat) : Int) == L then w / 2 ^ (a - 1) % 2 * 2 ^ (a - 1) + bitsG L cs (a - 1) w else bitsG L cs (a - 1) w)
theorem lay_bits (L w : Int) : ∀ (cs : List UInt8) (a : Nat), nbl cs = a → layS L cs.reverse 0 (flL L cs a w) = bitsG L cs a w := by
  intro cs
  induction cs with
  | nil => intro a _; rfl
  | cons c cs ih =>
    intro a ha
    rw [List.reverse_cons, layS_snoc, flL_cons, cnt_rev, nbl_rev]
    simp only [bitsG]
    simp only [nbl] at ha
    cases h1 : (c == 32) with
    | true => rw [h1] at ha; simp only [cond_true, Int.add_zero]; exact ih a ha
    | false =>
      rw [h1] at ha
      simp only [cond_false] at ha ⊢
      have hb := ih (a - 1) (by omega)
      cases h2 : (((c.toNat : Nat) : Int) == L) with
      | false => simp only [cond_false, Int.add_zero]; exact hb
      | true =>
        simp only [cond_true]
        have hf := flL_bd L w cs (a - 1)
        have hz : 0 + nbl cs = a - 1 := by omega
        rw [hz]
        obtain ⟨q, hq⟩ : ∃ q, q = (2 : Int) ^ (a - 1) := ⟨_, rfl⟩
        obtain ⟨b, hb2⟩ : ∃ b, b = w / 2 ^ (a - 1) % 2 := ⟨_, rfl⟩
        have b0 : b = 0 ∨ b = 1 := by omega
        have e1 : layS L cs.reverse 0 (b * 2 ^ cntL L cs + flL L cs (a - 1) w) = bitsG L cs (a - 1) w := by
          have := layS_low L b cs.reverse 0 (flL L cs (a - 1) w)
          rw [cnt_rev] at this
          rw [Int.add_comm, Int.mul_comm, this]; exact hb
        have e2 : (b * 2 ^ cntL L cs + flL L cs (a - 1) w) / 2 ^ cntL L cs % 2 = b := by
          have hp := pow_pos' (cntL L cs)
          have e3 : (b * 2 ^ cntL L cs + flL L cs (a - 1) w) / 2 ^ cntL L cs = b := by
            rw [Int.add_comm, Int.add_mul_ediv_right _ _ (by omega), Int.ediv_eq_zero_of_lt hf.1 hf.2, Int.zero_add]
          rw [e3]; omega
        rw [← hb2, e1, e2, Int.add_comm]
theorem ones_fl (w : Int) : ∀ (cs : List UInt8) (a : Nat), fitsL cs a w = true → flL 49 cs a w = 2 ^ cntL 49 cs - 1 := by
  intro cs
  induction cs with
  | nil => intro a _; rfl
  | cons c cs ih =>
    intro a hf
    rw [flL_cons]
    simp only [cntL]
    simp only [fitsL] at hf
    have k49 : (((c.toNat : Nat) : Int) == 49) = (c == 49) := u8_beq c 49 (by decide)
    rw [k49]
    cases h1 : (c == 32) with
    | true => rw [h1, cond_true] at hf; exact ih a hf
    | false =>
      rw [h1, cond_false] at hf
      simp only [cond_false]
      cases h3 : ((c == 48 && w / 2 ^ (a - 1) % 2 != 0) || (c == 49 && w / 2 ^ (a - 1) % 2 != 1)) with
      | true => rw [h3, cond_true] at hf; cases hf
      | false =>
        rw [h3, cond_false] at hf
        cases h2 : (c == 49) with
        | false => exact ih _ hf
        | true =>
          rw [h2] at h3
          simp only [cond_true]
          have hb : w / 2 ^ (a - 1) % 2 = 1 := by
            have := (Bool.or_eq_false_iff.1 h3).2
            simpa using this
          have e : (2 : Int) ^ (cntL 49 cs + 1) = 2 * 2 ^ cntL 49 cs := by rw [Int.pow_succ, Int.mul_comm]
          rw [hb, ih _ hf, e]; omega
theorem sum_count (x b : Int) (g : Int → Int) (LS : List Int) : (LS.map fun L => bif x == L then b + g L else g L).sum = (LS.count x : Nat) * b + (LS.map g).sum := by
  induction LS with
  | nil => simp
  | cons L LS ih =>
    simp only [List.map_cons, List.sum_cons, ih, List.count_cons]
    have e : (L == x) = (x == L) := by rw [Bool.eq_iff_iff]; simp only [beq_iff_eq]; exact eq_comm
    rw [e]
    cases (x == L) with
    | true => simp only [cond_true, if_true]; rw [Int.natCast_add, Int.add_mul]; have e1 : ((1 : Nat) : Int) = 1 := rfl; rw [e1, Int.one_mul]; omega
    | false => simp only [cond_false, Bool.false_eq_true, if_false, Nat.add_zero]; omega
/-- Each letter of a pattern is a digit or one of these letters, that stands once among them. -/
def lettersOk (LS : List Int) (cs : List UInt8) : Bool := cs.all fun c => c == 32 || c == 48 && LS.count 48 == 0 || c == 49 && LS.count 49 == 0 || !(c == 49) && LS.count ((c.toNat : Nat) : Int) == 1
theorem bits_sum (LS : List Int) (w : Int) : ∀ (cs : List UInt8) (a : Nat), nbl cs = a → fitsL cs a w = true → lettersOk LS cs = true → bitsG 49 cs a w + (LS.map fun L => bitsG L cs a w).sum = w % 2 ^ a := by
  intro cs
  induction cs with
  | nil =>
    intro a ha _ _
    simp only [nbl] at ha
    subst ha
    have : ∀ M : List Int, (M.map fun L => bitsG L [] 0 w).sum = 0 := by
      intro M
      induction M with
      | nil => rfl
      | cons L M ih => rw [List.map_cons, List.sum_cons, ih]; rfl
    rw [this LS]
    simp only [bitsG, Int.pow_zero]; omega
  | cons c cs ih =>
    intro a ha hf hl
    simp only [nbl] at ha
    simp only [fitsL] at hf
    unfold lettersOk at hl
    rw [List.all_cons, Bool.and_eq_true] at hl
    simp only [bitsG]
    cases h1 : (c == 32) with
    | true => rw [h1] at ha hf; simp only [cond_true] at ha hf ⊢; exact ih a ha hf hl.2
    | false =>
      rw [h1] at ha hf
      simp only [cond_false] at ha hf ⊢
      have hl1 := hl.1
      rw [h1, Bool.false_or] at hl1
      cases h3 : ((c == 48 && w / 2 ^ (a - 1) % 2 != 0) || (c == 49 && w / 2 ^ (a - 1) % 2 != 1)) with
      | true => rw [h3, cond_true] at hf; cases hf
      | false =>
        rw [h3, cond_false] at hf
        have hr := ih (a - 1) (by omega) hf hl.2
        have hc := cut w (a - 1) 1
        have ea : a - 1 + 1 = a := by omega
        have e1 : (2 : Int) ^ 1 = 2 := by decide
        rw [ea, e1] at hc
        rw [sum_count, hc, ← hr]
        have k49 : (((c.toNat : Nat) : Int) == 49) = (c == 49) := u8_beq c 49 (by decide)
        rw [k49]
        obtain ⟨b, hb⟩ : ∃ b, b = w / 2 ^ (a - 1) % 2 := ⟨_, rfl⟩
        obtain ⟨S, hS⟩ : ∃ S, S = (LS.map fun L => bitsG L cs (a - 1) w).sum := ⟨_, rfl⟩
        rw [← hb] at h3 ⊢
        rw [← hS]
        cases h2 : (c == 49) with
        | true =>
          have hc := eq_of_beq h2
          rw [hc] at hl1 ⊢
          have hl2 : LS.count 49 = 0 := by
            have e48 : ((49 : UInt8) == 48) = false := by decide
            have e49 : ((49 : UInt8) == 49) = true := by decide
            simp only [e48, e49, Bool.false_and, Bool.true_and, Bool.false_or, Bool.not_true, Bool.or_false, beq_iff_eq] at hl1
            exact hl1
          have e4 : (((49 : UInt8).toNat : Nat) : Int) = 49 := by decide
          rw [e4, hl2]
          simp only [cond_true, Int.natCast_zero, Int.zero_mul]; omega
        | false =>
          simp only [cond_false]
          rw [h2] at hl1
          cases h4 : (c == 48) with
          | true =>
            rw [h4] at h3
            have hb0 : b = 0 := by
              have := (Bool.or_eq_false_iff.1 h3).1
              simpa using this
            rw [hb0]; simp only [Int.zero_mul, Int.mul_zero]; omega
          | false =>
            rw [h4] at hl1
            simp only [Bool.false_and, Bool.false_or, Bool.not_false, Bool.true_and, beq_iff_eq] at hl1
            rw [hl1]
            have e1 : ((1 : Nat) : Int) = 1 := rfl
            rw [e1, Int.one_mul]; omega

theorem layV_fl {p : ByteArray} (h : okP p = true) (L w : Int) (w0 : 0 ≤ w) : layV p L (FV p L w) = bitsG L p.data.toList 32 w := by
  have hn := h
  simp only [okP, Bool.and_eq_true, beq_iff_eq] at hn
  rw [(FV_fl h L w w0).1]
  exact lay_bits L w _ 32 hn.2
theorem layV_cong {p : ByteArray} {L v u : Int} (t : Int) (h : v = u + 2 ^ cntL L p.data.toList * t) : layV p L v = layV p L u := by
  have := layS_low L t p.data.toList.reverse 0 u
  rw [cnt_rev] at this
  rw [h]; exact this
theorem layV_zero {p : ByteArray} {L : Int} (h : cntL L p.data.toList = 0) (v u : Int) : layV p L v = layV p L u := layV_cong (v - u) (by rw [h]; simp only [Int.pow_zero, Int.one_mul]; omega)
theorem FV_cnt {p : ByteArray} (h : okP p = true) (L w : Int) (w0 : 0 ≤ w) : 0 ≤ FV p L w ∧ FV p L w < 2 ^ cntL L p.data.toList := by
  rw [(FV_fl h L w w0).1]; exact flL_bd L w _ 32
theorem wordC_sum {p : ByteArray} (h : okP p = true) : ∀ (ps : List (Int × Int)) (w : Int), (∀ t ∈ ps, 0 ≤ t.2 ∧ t.2 < 4294967296) → 0 ≤ w → w + (ps.map fun t => layV p t.1 t.2).sum < 4294967296 → wordC p ps w = some (w + (ps.map fun t => layV p t.1 t.2).sum) := by
  intro ps
  induction ps with
  | nil => intro w _ _ _; simp [wordC]
  | cons t ps ih =>
    intro w hb w0 hs
    simp only [List.map_cons, List.sum_cons] at hs ⊢
    have b := hb t List.mem_cons_self
    have n1 : 0 ≤ layV p t.1 t.2 := layS_nonneg _ _ _ _
    have n2 : ∀ qs : List (Int × Int), 0 ≤ (qs.map fun t => layV p t.1 t.2).sum := by
      intro qs
      induction qs with
      | nil => exact Int.le_refl _
      | cons q qs ih => simp only [List.map_cons, List.sum_cons]; have : 0 ≤ layV p q.1 q.2 := layS_nonneg _ _ _ _; omega
    have n3 := n2 ps
    simp only [wordC]
    obtain ⟨r, h1, _, _, h4⟩ := lay_eq h t.1 w t.2 w0 (by omega) b.1 b.2
    rw [h1, Option.bind_some, h4 (by omega), ih (w + layV p t.1 t.2) (fun q hq => hb q (List.mem_cons_of_mem _ hq)) (by omega) (by omega), Int.add_assoc]

def lets : List Int := [99, 111, 100, 110, 109, 114, 97, 116, 107, 120, 121, 122, 118, 108, 105, 115, 112, 117, 119]
def rowC (r : RowT) : Bool := okP r.2.2.1 && lettersOk lets r.2.2.1.data.toList && (r.1.all (fun y => !(y == 41 || y == 42)) || cntL 105 r.2.2.1.data.toList == 24) && (cntL 115 r.2.2.1.data.toList == 0 || cntL 115 r.2.2.1.data.toList == 1 && r.1.all (fun y => !([9, 10, 11, 12].any fun z => z == y))) && decide (cntL 112 r.2.2.1.data.toList ≤ 1) && decide (cntL 117 r.2.2.1.data.toList ≤ 1) && decide (cntL 119 r.2.2.1.data.toList ≤ 1) && decide (cntL 108 r.2.2.1.data.toList ≤ 16)
theorem rows_C : (rowsV.all rowC) = true := by kernel_rfl
theorem bitI_one {v : Int} (h0 : 0 ≤ v) (h1 : v < 2) : bitI (v == 1) = v := by
  have : v = 0 ∨ v = 1 := by omega
  rcases this with rfl | rfl <;> rfl
theorem word_row (r : RowT) (hr : rowC r = true) (x : Int) (h0 : 0 ≤ x) (h1 : x < 4294967296) (hf : fitsL r.2.2.1.data.toList 32 x = true) (hin : (r.1.any fun y => y == (sayR r x).f1_Op) = true) : atlasref19_word.f 64 ⟨r.1, r.2.1, r.2.2.1⟩ (sayR r x) = some x := by
  obtain ⟨ops, form, p, u⟩ := r
  simp only [rowC, Bool.and_eq_true, decide_eq_true_eq] at hr
  simp only at hf hin ⊢
  obtain ⟨⟨⟨⟨⟨⟨⟨K, hlet⟩, himm⟩, hs⟩, hp⟩, hu⟩, hw⟩, hl⟩ := hr
  have hn := K
  simp only [okP, Bool.and_eq_true, beq_iff_eq] at hn
  have hop : ∃ op, op = sayOp ops p x := ⟨_, rfl⟩
  obtain ⟨op, hop⟩ := hop
  have hj : sayR (ops, form, p, u) x = sayV ops form p x := rfl
  rw [hj] at hin ⊢
  have hj2 : sayV ops form p x = ⟨FV p 99 x, op, (([9, 10, 11, 12].any fun y => y == op) || FV p 115 x == 1), form, FV p 100 x, FV p 110 x, FV p 109 x, FV p 114 x, FV p 97 x, sayImm op p x, FV p 116 x, FV p 107 x, FV p 112 x == 1, FV p 117 x == 1, FV p 119 x == 1, IntKind.wrap .u16 (FV p 108 x), FV p 120 x, FV p 121 x, FV p 122 x, FV p 118 x⟩ := by rw [hop]; rfl
  rw [hj2] at hin ⊢
  simp only at hin
  obtain ⟨y, hy1, hy2⟩ := List.any_eq_true.1 hin
  have hy3 := eq_of_beq hy2
  subst hy3
  have F : ∀ L, layV p L (IntKind.wrap .u32 (FV p L x)) = bitsG L p.data.toList 32 x := fun L => by
    have b := FV_bd K L x h0
    rw [wrap_u32 _ b.1 b.2]; exact layV_fl K L x h0
  have bit1 : ∀ L, cntL L p.data.toList ≤ 1 → layV p L (bitI (FV p L x == 1)) = bitsG L p.data.toList 32 x := fun L hc => by
    have b := FV_cnt K L x h0
    have hc2 : cntL L p.data.toList = 0 ∨ cntL L p.data.toList = 1 := by omega
    have e2 : (2 : Int) ^ 1 = 2 := by decide
    have e1 : (2 : Int) ^ 0 = 1 := by decide
    rcases hc2 with hc2 | hc2 <;> rw [hc2] at b
    · rw [layV_zero hc2 _ (FV p L x)]; exact layV_fl K L x h0
    · rw [bitI_one b.1 (by omega)]; exact layV_fl K L x h0
  have fop : layV p 111 (IntKind.wrap .u32 (IntKind.wrap .i64 (y - 1))) = bitsG 111 p.data.toList 32 x := by
    have c := (FV_fl K 111 x h0).2
    have b := FV_bd K 111 x h0
    unfold sayOp at hop
    cases hc : decide (((CN p 111 : Nat) : Int) > 0) with
    | true =>
      rw [hc, cond_true] at hop
      have e : y - 1 = FV p 111 x := by omega
      rw [e, wrap_i64 _ (by omega) (by omega)]; exact F 111
    | false =>
      have hz : cntL 111 p.data.toList = 0 := by have := of_decide_eq_false hc; omega
      rw [layV_zero hz _ (FV p 111 x)]; exact layV_fl K 111 x h0
  have fs : layV p 115 (bitI (([9, 10, 11, 12].any fun z => z == y) || FV p 115 x == 1)) = bitsG 115 p.data.toList 32 x := by
    rcases Bool.or_eq_true_iff.1 hs with hz | hz
    · rw [layV_zero (eq_of_beq hz) _ (FV p 115 x)]; exact layV_fl K 115 x h0
    · simp only [Bool.and_eq_true, beq_iff_eq] at hz
      have := List.all_eq_true.1 hz.2 y hy1
      rw [Bool.not_eq_true'] at this
      rw [this, Bool.false_or]
      exact bit1 115 (by omega)
  have fl : layV p 108 (IntKind.wrap .u32 (IntKind.wrap .u16 (FV p 108 x))) = bitsG 108 p.data.toList 32 x := by
    have b := FV_cnt K 108 x h0
    have hle : (2 : Int) ^ cntL 108 p.data.toList ≤ 2 ^ 16 := by exact_mod_cast Nat.pow_le_pow_right (by decide) hl
    have e16 : (2 : Int) ^ 16 = 65536 := by decide
    have e : IntKind.wrap .u16 (FV p 108 x) = FV p 108 x := by
      have f : ∀ z : Int, IntKind.wrap .u16 z = z % 65536 := fun z => by rfl
      rw [f]; omega
    rw [e]; exact F 108
  have fi : layV p 105 (immO y (sayImm y p x)) = bitsG 105 p.data.toList 32 x ∧ 0 ≤ immO y (sayImm y p x) ∧ immO y (sayImm y p x) < 4294967296 := by
    have b := FV_bd K 105 x h0
    have g := layV_fl K 105 x h0
    unfold immO sayImm
    cases hc : (y == 41 || y == 42) with
    | false =>
      have hc2 := Bool.or_eq_false_iff.1 hc
      rw [hc2.1, hc2.2, cond_false, cond_false, cond_false]
      exact ⟨g, b⟩
    | true =>
      have h24 : cntL 105 p.data.toList = 24 := by
        rcases Bool.or_eq_true_iff.1 himm with hz | hz
        · have := List.all_eq_true.1 hz y hy1
          rw [hc] at this; cases this
        · exact eq_of_beq hz
      have b2 := FV_cnt K 105 x h0
      rw [h24] at b2
      have e24 : (2 : Int) ^ 24 = 16777216 := by decide
      rw [e24] at b2
      have ib := imm_back (FV p 105 x) b2.1 b2.2
      rw [cond_true]
      generalize (bif decide (IntKind.wrap .u32 (FV p 105 x * 4) ≥ 33554432) then IntKind.wrap .u32 (IntKind.wrap .u32 (FV p 105 x * 4) - 67108864) else IntKind.wrap .u32 (FV p 105 x * 4)) = z at ib
      have e : (bif y == 41 then IntKind.wrap .u32 (Int.tdiv z 4) else (bif y == 42 then IntKind.wrap .u32 (Int.tdiv z 4) else z)) = IntKind.wrap .u32 (Int.tdiv z 4) := by
        rcases Bool.or_eq_true_iff.1 hc with hz | hz
        · rw [hz, cond_true]
        · rw [hz, cond_true]; cases (y == 41) <;> rfl
      rw [e]
      refine ⟨?_, wrap_bd _⟩
      rw [← g]
      generalize IntKind.wrap .u32 (Int.tdiv z 4) = V at ib
      exact layV_cong (V / 16777216) (by rw [h24, e24]; omega)
  rw [word_eq]
  have e1 : (atlasref19_lay.f 64 p 49 0 4294967295).bind (fun w => wordC p (valsO ⟨FV p 99 x, y, (([9, 10, 11, 12].any fun z => z == y) || FV p 115 x == 1), form, FV p 100 x, FV p 110 x, FV p 109 x, FV p 114 x, FV p 97 x, sayImm y p x, FV p 116 x, FV p 107 x, FV p 112 x == 1, FV p 117 x == 1, FV p 119 x == 1, IntKind.wrap .u16 (FV p 108 x), FV p 120 x, FV p 121 x, FV p 122 x, FV p 118 x⟩) w) = wordC p ((49, 4294967295) :: valsO ⟨FV p 99 x, y, (([9, 10, 11, 12].any fun z => z == y) || FV p 115 x == 1), form, FV p 100 x, FV p 110 x, FV p 109 x, FV p 114 x, FV p 97 x, sayImm y p x, FV p 116 x, FV p 107 x, FV p 112 x == 1, FV p 117 x == 1, FV p 119 x == 1, IntKind.wrap .u16 (FV p 108 x), FV p 120 x, FV p 121 x, FV p 122 x, FV p 118 x⟩) 0 := rfl
  rw [e1]
  have f1 : layV p 49 4294967295 = bitsG 49 p.data.toList 32 x := by
    rw [← layV_fl K 49 x h0, (FV_fl K 49 x h0).1, ones_fl x _ 32 hf]
    have hc : cntL 49 p.data.toList ≤ 32 := by
      have : ∀ l : List UInt8, cntL 49 l ≤ nbl l := by
        intro l
        induction l with
        | nil => exact Nat.le_refl _
        | cons c l ih => simp only [cntL, nbl]; cases (c == 32) <;> cases (((c.toNat : Nat) : Int) == 49) <;> simp only [cond_true, cond_false] <;> omega
      have := this p.data.toList
      omega
    have e : (4294967295 : Int) = 2 ^ cntL 49 p.data.toList - 1 + 2 ^ cntL 49 p.data.toList * (2 ^ (32 - cntL 49 p.data.toList) - 1) := by
      rw [Int.mul_sub, ← Int.pow_add, Int.mul_one]
      have e3 : cntL 49 p.data.toList + (32 - cntL 49 p.data.toList) = 32 := by omega
      have e4 : (2 : Int) ^ 32 = 4294967296 := by decide
      rw [e3, e4]; omega
    exact layV_cong _ e
  have hsum := bits_sum lets x p.data.toList 32 hn.2 hf hlet
  have e32 : (2 : Int) ^ 32 = 4294967296 := by decide
  rw [e32, Int.emod_eq_of_lt h0 h1] at hsum
  have hS : (((49, 4294967295) :: valsO ⟨FV p 99 x, y, (([9, 10, 11, 12].any fun z => z == y) || FV p 115 x == 1), form, FV p 100 x, FV p 110 x, FV p 109 x, FV p 114 x, FV p 97 x, sayImm y p x, FV p 116 x, FV p 107 x, FV p 112 x == 1, FV p 117 x == 1, FV p 119 x == 1, IntKind.wrap .u16 (FV p 108 x), FV p 120 x, FV p 121 x, FV p 122 x, FV p 118 x⟩).map fun t => layV p t.1 t.2).sum = x := by
    refine Eq.trans ?_ hsum
    simp only [valsO, lets, List.map_cons, List.map_nil, List.sum_cons, F, fop, fs, fl, fi.1, f1, bit1 112 hp, bit1 117 hu, bit1 119 hw]
  have hB : ∀ t ∈ ((49, 4294967295) :: valsO ⟨FV p 99 x, y, (([9, 10, 11, 12].any fun z => z == y) || FV p 115 x == 1), form, FV p 100 x, FV p 110 x, FV p 109 x, FV p 114 x, FV p 97 x, sayImm y p x, FV p 116 x, FV p 107 x, FV p 112 x == 1, FV p 117 x == 1, FV p 119 x == 1, IntKind.wrap .u16 (FV p 108 x), FV p 120 x, FV p 121 x, FV p 122 x, FV p 118 x⟩ : List (Int × Int)), 0 ≤ t.2 ∧ t.2 < 4294967296 := by
    intro t ht
    simp only [valsO, List.mem_cons, List.not_mem_nil, or_false] at ht
    rcases ht with rfl | rfl | rfl | rfl | rfl | rfl | rfl | rfl | rfl | rfl | rfl | rfl | rfl | rfl | rfl | rfl | rfl | rfl | rfl | rfl <;> first | exact wrap_bd _ | exact bitI_bd _ | exact fi.2 | (constructor <;> decide)
  have hW := wordC_sum K _ 0 hB (by decide) (by rw [hS]; omega)
  rw [hW, hS, Int.zero_add]
end Go.Va
