/-
  A program header read.
  Conditions: none.
-/
import Derived.Test.YtmphkmoakamepaaPureElfNum
set_option linter.unusedVariables false
set_option linter.unusedSimpArgs false
set_option autoImplicit false
set_option maxRecDepth 100000
namespace Go.Va
def dataF (b : List Int) (place size : Int) : List Int := if size > 0 then (b.drop place.toNat).take size.toNat else []
def rtsF (f : Int) : Bool × Bool × Bool × Unit := (f / 4 % 2 == 1, f / 2 % 2 == 1, f % 2 == 1, ())
def loadF (b : List Int) (a : Int) : Option SegT :=
  bif (word b (a + 12) == word b (a + 8) && decide (word b (a + 16) ≤ word b (a + 20))) && ((word b (a + 16) == 0 || decide (word b (a + 4) + word b (a + 16) ≤ (b.length : Int))) && (decide (word b (a + 24) < 8) && (word b (a + 28) == 4096 && segB (word b (a + 8), word b (a + 20), rtsF (word b (a + 24)), [], ())))) then
    some (word b (a + 8), word b (a + 20), rtsF (word b (a + 24)), dataF b (word b (a + 4)) (word b (a + 16)), ())
  else none
theorem dataF_len (b : List Int) (p s : Int) (hs : 0 ≤ s) (hp : 0 ≤ p) (h : s = 0 ∨ p + s ≤ (b.length : Int)) : ((dataF b p s).length : Int) = s := by
  unfold dataF
  split
  · rw [List.length_take, List.length_drop]
    omega
  · have : s = 0 := by omega
    rw [this]; rfl
theorem rts_elf (f : Int) (h0 : 0 ≤ f) (h1 : f < 8) : ((andI .u32 f 4) != 0, (andI .u32 f 2) != 0, (andI .u32 f 1) != 0, ()) = rtsF f := by
  have : f = 0 ∨ f = 1 ∨ f = 2 ∨ f = 3 ∨ f = 4 ∨ f = 5 ∨ f = 6 ∨ f = 7 := by omega
  rcases this with rfl | rfl | rfl | rfl | rfl | rfl | rfl | rfl <;> decide
theorem segB_data (v z : Int) (r : Bool × Bool × Bool × Unit) (d : List Int) (h : (d.length : Int) ≤ z) : segB (v, z, r, d, ()) = segB (v, z, r, [], ()) := by
  unfold segB endB
  have e1 : decide ((d.length : Int) ≤ z) = true := decide_eq_true h
  have e2 : decide ((([] : List Int).length : Int) ≤ z) = true := decide_eq_true (by simp; omega)
  simp only [e1, e2]
theorem clone_eq (l : List Int) (h : 0 < l.length) (hl : l.length ≤ 140737488351232) : slices_Clone_byte_byte.f l = some l := by
  unfold slices_Clone_byte_byte.f
  have e : l.isEmpty = false := by cases l with
    | nil => simp at h
    | cons x l => rfl
  have hm := maxLen_v
  rw [e, cond_false, List.nil_append, decide_eq_true (show l.length ≤ maxLen by omega), decide_eq_true (show l.length * 1 ≤ 140737488355328 by omega)]
  rfl
theorem eseg_q0 (k : Nat) (b : List Int) (hl : b.length ≤ 140737488351232) (p s v z : Int) (r : Bool × Bool × Bool × Unit) (hp : 0 ≤ p) (hp2 : p < 4294967296) (hs : 0 ≤ s) (hv : 0 ≤ v ∧ v < 4294967296) (hz : 0 ≤ z ∧ z < 4294967296) (hsz : s ≤ z) (h : s = 0 ∨ p + s ≤ (b.length : Int)) :
    elf_reader_segment.q0.l k (p, s, b, 0, 0, false, false, false, [], v, z, r.1, r.2.1, r.2.2.1, []) = some (bif segB (v, z, r, [], ()) then .inr (v, z, r.1, r.2.1, r.2.2.1, dataF b p s) else .inl (⟨235⟩, ())) := by
  have hd := dataF_len b p s hs hp h
  have hr := reach_v
  have hsg : elf_segment.f ⟨v, z, r.1, r.2.1, r.2.2.1, dataF b p s⟩ = some (segB (v, z, r, [], ())) := by
    have h1 := seg_eq (v, z, r, dataF b p s, ()) ⟨hv, hz, by show List.length (dataF b p s) ≤ reachBytes; omega⟩
    rw [← segB_data v z r (dataF b p s) (by omega)]
    exact h1
  simp only [elf_reader_segment.q0.l, must_bind]
  by_cases h0 : s > 0
  · have hps : p + s ≤ (b.length : Int) := by omega
    have e : dataF b p s = (b.drop p.toNat).take ((p + s).toNat - p.toNat) := by
      unfold dataF; rw [if_pos h0]; congr 1; omega
    have hc : slices_Clone_byte_byte.f ((b.drop p.toNat).take ((p + s).toNat - p.toNat)) = some (dataF b p s) := by
      rw [← e]; exact clone_eq _ (by omega) (by omega)
    have a1 : decide (0 ≤ p + s) = true := decide_eq_true (by omega)
    have a2 : decide (p + s ≤ ((b.length : Nat) : Int)) = true := decide_eq_true hps
    have a3 : decide (0 ≤ p) = true := decide_eq_true hp
    have a4 : decide (p ≤ (((p + s).toNat : Nat) : Int)) = true := decide_eq_true (by omega)
    simp only [decide_eq_true h0, cond_true, wrap_u64e (p + s) (by omega) (by omega), a1, a2, a3, a4, Bool.and_self, hc, Option.bind_some, hsg]
    cases segB (v, z, r, [], ()) <;> rfl
  · have e : dataF b p s = [] := by unfold dataF; rw [if_neg h0]
    rw [e] at hsg ⊢
    simp only [decide_eq_false h0, cond_false, hsg, Option.bind_some]
    cases segB (v, z, r, [], ()) <;> rfl
theorem eseg_eq (k : Nat) (hk : 5 ≤ k) (b : List Int) (hb : ByB b) (hl : b.length ≤ 140737488351232) (a : Int) (h0 : 0 ≤ a) (ha : a + 32 ≤ (b.length : Int)) :
    elf_reader_segment.f k ⟨b⟩ a = some (match loadF b a with
      | some s => .inr (segT s)
      | none => .inl ⟨235⟩) := by
  have w : ∀ j : Int, 0 ≤ j → j ≤ 28 → IntKind.wrap .u64 (a + j) = a + j := fun j h1 h2 => wrap_u64e _ (by omega) (by omega)
  have e : ∀ j : Int, 0 ≤ j → j ≤ 28 → elf_reader_word.f k ⟨b⟩ (a + j) = some (word b (a + j)) := fun j h1 h2 => word_e k hk b hb hl _ (by omega) (by omega)
  have rg : ∀ j : Int, 0 ≤ word b (a + j) ∧ word b (a + j) < 4294967296 := fun j => word_range hb _
  have wu : ∀ j : Int, IntKind.wrap .u64 (word b (a + j)) = word b (a + j) := fun j => wrap_u64e _ (rg j).1 (by have := (rg j).2; omega)
  unfold elf_reader_segment.f loadF
  simp only [w 4 (by omega) (by omega), w 16 (by omega) (by omega), w 24 (by omega) (by omega), w 8 (by omega) (by omega), w 20 (by omega) (by omega), w 12 (by omega) (by omega), w 28 (by omega) (by omega),
    e 4 (by omega) (by omega), e 16 (by omega) (by omega), e 24 (by omega) (by omega), e 8 (by omega) (by omega), e 20 (by omega) (by omega), e 12 (by omega) (by omega), e 28 (by omega) (by omega), Option.bind_some, must_bind, cond_true, cond_false, wu,
    holds_e b (word b (a + 4)) (word b (a + 16)) (rg 4).1 (rg 16).1 (by have := (rg 4).2; have := (rg 16).2; omega) hl]
  have r4 := rg 4; have r16 := rg 16; have r24 := rg 24; have r8 := rg 8; have r20 := rg 20
  generalize word b (a + 4) = p at *
  generalize word b (a + 16) = s at *
  generalize word b (a + 24) = f at *
  generalize word b (a + 8) = v at *
  generalize word b (a + 20) = z at *
  generalize word b (a + 12) = v2 at *
  generalize word b (a + 28) = pg at *
  cases c1 : (v2 == v) with
  | false => rfl
  | true =>
    simp only [cond_true, Bool.true_and]
    cases c2 : decide (s ≤ z) with
    | false => rfl
    | true =>
      have c2 := of_decide_eq_true c2
      simp only [cond_true, Bool.true_and]
      cases c4 : decide (f < 8) with
      | false =>
        simp only [cond_false, Bool.false_and, Bool.and_false]
        cases (s == 0) with
        | true => rfl
        | false => cases decide (p + s ≤ (b.length : Int)) <;> rfl
      | true =>
        have c4 := of_decide_eq_true c4
        simp only [cond_true, Bool.true_and]
        have hr := rts_elf f r24.1 c4
        have q1 := eseg_q0 k b hl p s v z (rtsF f) r4.1 r4.2 r16.1 r8 r20 c2
        rw [← hr] at q1 ⊢
        cases c3 : (s == 0) with
        | true =>
          have c3 := beq_iff_eq.1 c3
          simp only [cond_true, Bool.true_or, Bool.true_and]
          cases c5 : (pg == 4096) with
          | false => rfl
          | true =>
            rw [cond_true, q1 (.inl c3)]
            simp only [Option.bind_some, Bool.true_and]
            cases segB (v, z, _, [], ()) <;> rfl
        | false =>
          simp only [cond_false, Bool.false_or]
          cases c6 : decide (p + s ≤ (b.length : Int)) with
          | false => rfl
          | true =>
            have c6 := of_decide_eq_true c6
            simp only [cond_true, Bool.true_and]
            cases c5 : (pg == 4096) with
            | false => rfl
            | true =>
              rw [cond_true, q1 (.inr c6)]
              simp only [Option.bind_some, Bool.true_and]
              cases segB (v, z, _, [], ()) <;> rfl
theorem rts_ref (f : Int) (h0 : 0 ≤ f) (h1 : f < 4294967296) : (Int.tmod (IntKind.wrap .u64 (Int.tdiv f 4)) 2 == 1, Int.tmod (IntKind.wrap .u64 (Int.tdiv f 2)) 2 == 1, Int.tmod f 2 == 1, ()) = rtsF f := by
  have e4 : Int.tdiv f 4 = f / 4 := Int.tdiv_eq_ediv_of_nonneg h0
  have e2 : Int.tdiv f 2 = f / 2 := Int.tdiv_eq_ediv_of_nonneg h0
  rw [e4, e2, wrap_u64e (f / 4) (by omega) (by omega), wrap_u64e (f / 2) (by omega) (by omega), Int.tmod_eq_emod_of_nonneg (by omega), Int.tmod_eq_emod_of_nonneg (by omega), Int.tmod_eq_emod_of_nonneg h0]
  rfl
theorem wrap_u32e (x : Int) (h0 : 0 ≤ x) (h1 : x < 4294967296) : IntKind.wrap .u32 x = x := by rw [wrap_u32v]; omega
theorem rload_eq (k : Nat) (hk : 5 ≤ k) (b : List Int) (hb : ByB b) (hl : b.length ≤ 140737488351232) (a : Int) (h0 : 0 ≤ a) (ha : a + 32 ≤ (b.length : Int)) :
    ∃ x, atlasref23_load.f k b a = some x ∧ (match loadF b a with
      | some s => x = (segT s, true)
      | none => x.2 = false) := by
  have e : ∀ j : Int, 0 ≤ j → j ≤ 7 → atlasref23_word.f k b a j = some (word b (a + 4 * j)) := fun j h1 h2 => word_r k hk b hb hl a j h0 h1 (by omega)
  have rg : ∀ j : Int, 0 ≤ word b (a + j) ∧ word b (a + j) < 4294967296 := fun j => word_range hb _
  have w3 : ∀ j : Int, IntKind.wrap .u32 (word b (a + j)) = word b (a + j) := fun j => wrap_u32e _ (rg j).1 (rg j).2
  have wu : ∀ j : Int, IntKind.wrap .u64 (word b (a + j)) = word b (a + j) := fun j => wrap_u64e _ (rg j).1 (by have := (rg j).2; omega)
  have f1 := e 1 (by omega) (by omega)
  have f2 := e 2 (by omega) (by omega)
  have f3 := e 3 (by omega) (by omega)
  have f4 := e 4 (by omega) (by omega)
  have f5 := e 5 (by omega) (by omega)
  have f6 := e 6 (by omega) (by omega)
  have f7 := e 7 (by omega) (by omega)
  rw [show (4 : Int) * 1 = 4 from rfl] at f1
  rw [show (4 : Int) * 2 = 8 from rfl] at f2
  rw [show (4 : Int) * 3 = 12 from rfl] at f3
  rw [show (4 : Int) * 4 = 16 from rfl] at f4
  rw [show (4 : Int) * 5 = 20 from rfl] at f5
  rw [show (4 : Int) * 6 = 24 from rfl] at f6
  rw [show (4 : Int) * 7 = 28 from rfl] at f7
  unfold atlasref23_load.f loadF
  have hrt := rts_ref (word b (a + 24)) (rg 24).1 (rg 24).2
  obtain ⟨g1, g2, g3, -⟩ : (Int.tmod (IntKind.wrap .u64 (Int.tdiv (word b (a + 24)) 4)) 2 == 1) = (rtsF (word b (a + 24))).1 ∧ (Int.tmod (IntKind.wrap .u64 (Int.tdiv (word b (a + 24)) 2)) 2 == 1) = (rtsF (word b (a + 24))).2.1 ∧ (Int.tmod (word b (a + 24)) 2 == 1) = (rtsF (word b (a + 24))).2.2.1 ∧ True := by
    rw [← hrt]; exact ⟨rfl, rfl, rfl, trivial⟩
  simp only [f1, f2, f3, f4, f5, f6, f7, Option.bind_some, w3, wu, g1, g2, g3, wrap_u64e (word b (a + 4) + word b (a + 16)) (by have := rg 4; have := rg 16; omega) (by have := rg 4; have := rg 16; omega), wrap_u64e ((b.length : Nat) : Int) (by omega) (by omega)]
  have r4 := rg 4; have r16 := rg 16; have r24 := rg 24; have r8 := rg 8; have r20 := rg 20
  have hr := reach_v
  have hm := maxLen_v
  have hsg : atlasref23_segment.f k ⟨word b (a + 8), word b (a + 20), (rtsF (word b (a + 24))).1, (rtsF (word b (a + 24))).2.1, (rtsF (word b (a + 24))).2.2.1, []⟩ = some (segB (word b (a + 8), word b (a + 20), rtsF (word b (a + 24)), [], ())) :=
    rseg_eq k (word b (a + 8), word b (a + 20), rtsF (word b (a + 24)), [], ()) ⟨r8, r20, by show List.length ([] : List Int) ≤ reachBytes; simp⟩
  simp only [hsg, Option.bind_some]
  generalize word b (a + 4) = p at *
  generalize word b (a + 16) = s at *
  generalize word b (a + 24) = f at *
  generalize word b (a + 8) = v at *
  generalize word b (a + 20) = z at *
  generalize word b (a + 12) = v2 at *
  generalize word b (a + 28) = pg at *
  have q1 : (v != v2) = !(v2 == v) := by
    show (!(v == v2)) = _
    congr 1
    by_cases h : v = v2
    · rw [h]
    · rw [beq_eq_false_iff_ne.2 h, beq_eq_false_iff_ne.2 (Ne.symm h)]
  have q2 : decide (s > z) = !decide (s ≤ z) := by
    by_cases h : s ≤ z
    · rw [decide_eq_true h, decide_eq_false (by omega)]; rfl
    · rw [decide_eq_false h, decide_eq_true (by omega)]; rfl
  have q3 : decide (f > 7) = !decide (f < 8) := by
    by_cases h : f < 8
    · rw [decide_eq_true h, decide_eq_false (by omega)]; rfl
    · rw [decide_eq_false h, decide_eq_true (by omega)]; rfl
  have q4 : (pg != 4096) = !(pg == 4096) := rfl
  have q5 : decide (p + s > ((b.length : Nat) : Int)) = !decide (p + s ≤ (b.length : Int)) := by
    by_cases h : p + s ≤ (b.length : Int)
    · rw [decide_eq_true h, decide_eq_false (by omega)]; rfl
    · rw [decide_eq_false h, decide_eq_true (by omega)]; rfl
  have q6 : (s == 0) = !decide (s > 0) := by
    by_cases h : s > 0
    · rw [decide_eq_true h]; simp; omega
    · rw [decide_eq_false h]; simp; omega
  simp only [q1, q2, q3, q4, q5, q6]
  cases c1 : (v2 == v) with
  | false => exact ⟨_, rfl, rfl⟩
  | true =>
    cases c2 : decide (s ≤ z) with
    | false => exact ⟨_, rfl, rfl⟩
    | true =>
      cases c3 : decide (s > 0) with
      | false =>
        have e : dataF b p s = [] := by unfold dataF; rw [if_neg (of_decide_eq_false c3)]
        rw [e]
        cases c4 : decide (f < 8) with
        | false => exact ⟨_, rfl, rfl⟩
        | true =>
          cases c5 : (pg == 4096) with
          | false => exact ⟨_, rfl, rfl⟩
          | true =>
            cases segB (v, z, rtsF f, [], ()) with
            | false => exact ⟨_, rfl, rfl⟩
            | true => exact ⟨_, rfl, rfl⟩
      | true =>
        cases c6 : decide (p + s ≤ (b.length : Int)) with
        | false => exact ⟨_, rfl, rfl⟩
        | true =>
          have c6 := of_decide_eq_true c6
          have c3 := of_decide_eq_true c3
          have e : dataF b p s = (b.drop p.toNat).take ((p + s).toNat - p.toNat) := by
            unfold dataF; rw [if_pos c3]; congr 1; omega
          have hd := dataF_len b p s r16.1 r4.1 (.inr c6)
          cases c4 : decide (f < 8) with
          | false => exact ⟨_, rfl, rfl⟩
          | true =>
            cases c5 : (pg == 4096) with
            | false => exact ⟨_, rfl, rfl⟩
            | true =>
              cases segB (v, z, rtsF f, [], ()) with
              | false => exact ⟨_, rfl, rfl⟩
              | true =>
                rw [← e]
                have a1 : decide (0 ≤ p + s) = true := decide_eq_true (by omega)
                have a2 : decide (p + s ≤ ((b.length : Nat) : Int)) = true := decide_eq_true c6
                have a3 : decide (0 ≤ p) = true := decide_eq_true r4.1
                have a4 : decide (p ≤ (((p + s).toNat : Nat) : Int)) = true := decide_eq_true (by omega)
                have a5 : decide (([] ++ dataF b p s).length ≤ maxLen) = true := decide_eq_true (by rw [List.nil_append]; omega)
                have a6 : decide (([] ++ dataF b p s).length * 1 ≤ 140737488355328) = true := decide_eq_true (by rw [List.nil_append]; omega)
                rw [List.nil_append] at a5 a6
                simp only [a1, a2, a3, a4, a5, a6, Bool.and_self, cond_true, cond_false, Bool.not_true, List.nil_append]
                exact ⟨_, rfl, rfl⟩
end Go.Va
