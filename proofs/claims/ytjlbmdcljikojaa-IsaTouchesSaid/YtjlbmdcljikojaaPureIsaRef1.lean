/-
  What the reference says of a word by a row of its table.
  Conditions: none.
-/
import Derived.Test.YtjlbmdcljikojaaPureIsaRef0
set_option linter.unusedVariables false
set_option linter.unusedSimpArgs false
set_option autoImplicit false
set_option maxRecDepth 10000
namespace Go.Va
theorem fieldL_runs (L w : Int) (w0 : 0 ≤ w) : ∀ (cs : List UInt8) (a : Nat) (r : List (Nat × Nat)), nbl cs = a → fieldL L cs a w (valR r w) (cntR r) = (valR (runsL L cs a r) w, ((cntR (runsL L cs a r) : Nat) : Int)) := by
  intro cs
  induction cs with
  | nil => intro a r _; rfl
  | cons c cs ih =>
    intro a r ha
    cases h1 : (c == 32) with
    | true =>
      simp only [nbl, h1, cond_true] at ha
      simp only [fieldL, runsL, h1, cond_true]
      exact ih a r ha
    | false =>
      simp only [nbl, h1, cond_false] at ha
      obtain ⟨b, rfl⟩ : ∃ b, a = b + 1 := ⟨nbl cs, ha.symm⟩
      have hb : nbl cs = b := by omega
      simp only [fieldL, runsL, h1, cond_false, Nat.add_sub_cancel]
      cases h2 : (((c.toNat : Nat) : Int) == L) with
      | false => exact ih b r hb
      | true =>
        simp only [cond_true]
        have push : ∀ r : List (Nat × Nat), 2 * valR r w + w / 2 ^ b % 2 = valR ((b, 1) :: r) w ∧ cntR r + 1 = cntR ((b, 1) :: r) := fun r => by
          rw [valR_cons]
          have e : (2 : Int) ^ 1 = 2 := by decide
          exact ⟨by rw [e]; omega, by simp [cntR]; omega⟩
        cases r with
        | nil =>
          have e := push []
          rw [e.1, e.2]; exact ih b _ hb
        | cons x r =>
          obtain ⟨lo, n⟩ := x
          simp only
          cases h3 : (lo == b + 1) with
          | false =>
            have e := push ((lo, n) :: r)
            rw [e.1, e.2]; exact ih b _ hb
          | true =>
            have h3 := beq_iff_eq.1 h3
            subst h3
            have e1 : 2 * valR ((b + 1, n) :: r) w + w / 2 ^ b % 2 = valR ((b, n + 1) :: r) w := by
              rw [valR_cons, valR_cons, ← bit_run w w0 b n]
              have e2 : (2 : Int) ^ (n + 1) = 2 * 2 ^ n := by rw [Int.pow_succ]; omega
              have e3 : valR r w * (2 * 2 ^ n) = 2 * (valR r w * 2 ^ n) := by rw [← Int.mul_assoc, Int.mul_comm (valR r w) 2, Int.mul_assoc]
              rw [e2, e3]; omega
            have e2 : cntR ((b + 1, n) :: r) + 1 = cntR ((b, n + 1) :: r) := by simp [cntR]; omega
            rw [e1, e2]; exact ih b _ hb

theorem fieldL_bd (L w : Int) (w0 : 0 ≤ w) : ∀ (cs : List UInt8) (a n : Nat) (v : Int), nbl cs = a → 0 ≤ v → v < 2 ^ n → 0 ≤ (fieldL L cs a w v n).1 ∧ (fieldL L cs a w v n).1 < 2 ^ (n + a) := by
  intro cs
  induction cs with
  | nil => intro a n v ha v0 v1; simp only [nbl] at ha; subst ha; exact ⟨v0, v1⟩
  | cons c cs ih =>
    intro a n v ha v0 v1
    cases h1 : (c == 32) with
    | true =>
      simp only [nbl, h1, cond_true] at ha
      simp only [fieldL, h1, cond_true]
      exact ih a n v ha v0 v1
    | false =>
      simp only [nbl, h1, cond_false] at ha
      obtain ⟨b, rfl⟩ : ∃ b, a = b + 1 := ⟨nbl cs, ha.symm⟩
      have hb : nbl cs = b := by omega
      simp only [fieldL, h1, cond_false, Nat.add_sub_cancel]
      have hpow : (2 : Int) ^ (n + 1) = 2 * 2 ^ n := by rw [Int.pow_succ]; omega
      have hbit : 0 ≤ w / 2 ^ b % 2 ∧ w / 2 ^ b % 2 < 2 := by omega
      cases h2 : (((c.toNat : Nat) : Int) == L) with
      | true =>
        have := ih b (n + 1) (2 * v + w / 2 ^ b % 2) hb (by omega) (by rw [hpow]; omega)
        rw [show n + 1 + b = n + (b + 1) by omega] at this
        exact this
      | false =>
        have h3 := ih b n v hb v0 v1
        refine ⟨h3.1, Int.lt_of_lt_of_le h3.2 ?_⟩
        exact_mod_cast Nat.pow_le_pow_right (by decide) (by omega)

/-- A letter's field of a word. -/
def FV (p : ByteArray) (L w : Int) : Int := valR (runsL L p.data.toList 32 []) w
def CN (p : ByteArray) (L : Int) : Nat := cntR (runsL L p.data.toList 32 [])

theorem field_FV {p : ByteArray} (h : okP p = true) (L w : Int) (w0 : 0 ≤ w) : atlasref19_field.f 64 p L w = some (FV p L w, ((CN p L : Nat) : Int)) := by
  rw [field_eq h L w w0]
  simp only [okP, Bool.and_eq_true, decide_eq_true_eq, beq_iff_eq] at h
  have e := fieldL_runs L w w0 p.data.toList 32 [] h.2
  have e' : fieldL L p.data.toList 32 w 0 0 = _ := e
  rw [e']; rfl
theorem FV_bd {p : ByteArray} (h : okP p = true) (L w : Int) (w0 : 0 ≤ w) : 0 ≤ FV p L w ∧ FV p L w < 4294967296 := by
  simp only [okP, Bool.and_eq_true, decide_eq_true_eq, beq_iff_eq] at h
  have e := fieldL_runs L w w0 p.data.toList 32 [] h.2
  have b := fieldL_bd L w w0 p.data.toList 32 0 0 h.2 (by decide) (by decide)
  have e' : fieldL L p.data.toList 32 w 0 0 = _ := e
  rw [e'] at b
  exact b
theorem num_FV {p : ByteArray} (h : okP p = true) (L w : Int) (w0 : 0 ≤ w) : atlasref19_num.f 64 p L w = some (FV p L w) := by
  have b := FV_bd h L w w0
  unfold atlasref19_num.f
  rw [field_FV h L w w0, Option.bind_some]
  rw [wrap_i64 _ (by omega) (by omega)]
theorem has_FV (ops : List Int) (form : Int) {p : ByteArray} (h : okP p = true) (L : Int) : atlasref19_Has.f 64 ⟨ops, form, p⟩ L = some (decide (((CN p L : Nat) : Int) > 0)) := by
  unfold atlasref19_Has.f
  rw [field_FV h L 0 (by decide)]; rfl

theorem in_loop (k : Nat) (l : List Int) (x : Int) (hl : l.length ≤ 1000) : ∀ (cs : List Int) (n i : Nat), l.drop i = cs → cs.length < n → atlasref19_in.q0.l k n (l, x, (i : Int)) = some (bif cs.any (fun y => y == x) then .inl true else .inr ()) := by
  intro cs
  induction cs with
  | nil =>
    intro n i hd hn
    obtain ⟨n, rfl⟩ : ∃ m, n = m + 1 := ⟨n - 1, by simp at hn; omega⟩
    have := List.drop_eq_nil_iff.1 hd
    have c1 : decide ((i : Int) < ((l.length : Nat) : Int)) = false := by simp; omega
    simp only [atlasref19_in.q0.l, c1, cond_false, List.any_nil]
  | cons c cs ih =>
    intro n i hd hn
    obtain ⟨n, rfl⟩ : ∃ m, n = m + 1 := ⟨n - 1, by simp at hn; omega⟩
    have h1 : l[i]? = some c := by
      have e := List.getElem?_drop (xs := l) (i := i) (j := 0)
      rw [hd] at e
      simpa using e.symm
    have hi := (List.getElem?_eq_some_iff.1 h1).1
    have c1 : decide ((i : Int) < ((l.length : Nat) : Int)) = true := by simp; omega
    have c2 : decide ((0 : Int) ≤ (i : Int)) = true := by simp
    have e1 : IntKind.wrap .i64 ((i : Int) + 1) = ((i + 1 : Nat) : Int) := by rw [wrap_i64 _ (by omega) (by omega)]; omega
    have hg : l.getD (Int.toNat (i : Int)) 0 = c := by rw [Int.toNat_natCast, List.getD_eq_getElem?_getD, h1]; rfl
    have hd' : l.drop (i + 1) = cs := by
      have e : List.drop (i + 1) l = List.drop 1 (List.drop i l) := by rw [List.drop_drop, Nat.add_comm]
      rw [e, hd]; rfl
    have hrec := ih n (i + 1) hd' (by simp at hn; omega)
    simp only [atlasref19_in.q0.l, c1, c2, Bool.and_self, cond_true, hg, e1, List.any_cons]
    rw [hrec]
    cases (c == x) <;> rfl
theorem in_eq (l : List Int) (x : Int) (hl : l.length ≤ 60) : atlasref19_in.f 64 l x = some (l.any fun y => y == x) := by
  unfold atlasref19_in.f
  have e := in_loop 64 l x (by omega) l 64 0 rfl (by omega)
  have e' : atlasref19_in.q0.l 64 64 (l, x, 0) = _ := e
  rw [e', Option.bind_some]
  cases l.any (fun y => y == x) <;> rfl

def sayOp (ops : List Int) (p : ByteArray) (x : Int) : Int := bif decide (((CN p 111 : Nat) : Int) > 0) then FV p 111 x + 1 else ops.getD 0 0
def sayImm (op : Int) (p : ByteArray) (x : Int) : Int := bif op == 41 || op == 42 then (bif decide (IntKind.wrap .u32 (FV p 105 x * 4) ≥ 33554432) then IntKind.wrap .u32 (IntKind.wrap .u32 (FV p 105 x * 4) - 67108864) else IntKind.wrap .u32 (FV p 105 x * 4)) else FV p 105 x
/-- What a row says of a word. -/
def sayV (ops : List Int) (form : Int) (p : ByteArray) (x : Int) : T26 :=
  ⟨FV p 99 x, sayOp ops p x, (([9, 10, 11, 12].any fun y => y == sayOp ops p x) || FV p 115 x == 1), form, FV p 100 x, FV p 110 x, FV p 109 x, FV p 114 x, FV p 97 x, sayImm (sayOp ops p x) p x, FV p 116 x, FV p 107 x, FV p 112 x == 1, FV p 117 x == 1, FV p 119 x == 1, IntKind.wrap .u16 (FV p 108 x), FV p 120 x, FV p 121 x, FV p 122 x, FV p 118 x⟩

theorem say_eq (ops : List Int) (form : Int) {p : ByteArray} (h : okP p = true) (ho : 0 < ops.length) (x : Int) (x0 : 0 ≤ x) : atlasref19_say.f 64 ⟨ops, form, p⟩ x = some (sayV ops form p x) := by
  have c1 : decide ((0 : Int) < ((ops.length : Nat) : Int)) = true := by simp; omega
  have c2 : decide ((0 : Int) ≤ 0) = true := by decide
  have n := fun L => num_FV h L x x0
  have f := fun L => field_FV h L x x0
  have b := FV_bd h 111 x x0
  have e1 : IntKind.wrap .i64 (FV p 111 x + 1) = FV p 111 x + 1 := wrap_i64 _ (by omega) (by omega)
  have i9 := fun y => in_eq [9, 10, 11, 12] y (by decide)
  unfold atlasref19_say.f atlasref19_say.q0.l sayV sayImm
  have e3 : ∀ op, sayOp ops p x = op → atlasref19_say.f 64 ⟨ops, form, p⟩ x = atlasref19_say.f 64 ⟨ops, form, p⟩ x := fun _ _ => rfl
  simp only [n, f, i9, c1, c2, Bool.and_self, cond_true, Option.bind_some, e1, Int.toNat_zero]
  have so : sayOp ops p x = bif decide (((CN p 111 : Nat) : Int) > 0) then FV p 111 x + 1 else ops.getD 0 0 := rfl
  cases hc : decide (((CN p 111 : Nat) : Int) > 0) with
  | true =>
    rw [hc, cond_true] at so
    rw [so]
    generalize FV p 111 x + 1 = op
    cases ([9, 10, 11, 12].any fun y => y == op) <;> cases (FV p 115 x == 1) <;> cases (op == 41) <;> cases (op == 42) <;> cases (decide (IntKind.wrap .u32 (FV p 105 x * 4) ≥ 33554432)) <;> rfl
  | false =>
    rw [hc, cond_false] at so
    rw [so]
    generalize ops.getD 0 0 = op
    cases ([9, 10, 11, 12].any fun y => y == op) <;> cases (FV p 115 x == 1) <;> cases (op == 41) <;> cases (op == 42) <;> cases (decide (IntKind.wrap .u32 (FV p 105 x * 4) ≥ 33554432)) <;> rfl
end Go.Va
