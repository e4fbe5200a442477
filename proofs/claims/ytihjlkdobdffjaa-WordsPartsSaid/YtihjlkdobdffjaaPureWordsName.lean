/-
  Which texts are names is the same by the program and by the document's answer, for every text.
  Conditions: none beyond the row's own.
-/
import Derived.Test.YtihjlkdobdffjaaS2
import Derived.Test.YtihjlkdobdffjaaS7
import Derived.Test.YtihjlkdobdffjaaS8
import Derived.Test.YtihjlkdobdffjaaPureRune
set_option linter.unusedSimpArgs false
namespace Go.Proofs.Ytihjlkdobdffjaa.Pure
open Go.RowKit Go.Proofs.Ytihjlkdobdffjaa.S Go.Proofs.YtihjlkdobdffjaaW.PrintWords Go.Proofs.YtihjlkdobdffjaaW.PrintLast

/-- Is the rune a letter? -/
def ltr (r : Int) : Bool :=
  if (97 ≤ r ∧ r ≤ 122) ∨ (65 ≤ r ∧ r ≤ 90) then true else if 192 ≤ r ∧ r ≤ 591 then r != 215 && r != 247 else if 913 ≤ r ∧ r ≤ 969 then r != 930 else false

theorem letter_ev (r : Int) : Ev (fun k => words_letter.f k r) (ltr r) := by
  refine ⟨3, fun k hk => ?_⟩
  obtain ⟨k, rfl⟩ : ∃ m, k = m + 3 := ⟨k - 3, by omega⟩
  unfold ltr
  simp only [words_letter.f, words_letter.j0, words_letter.j1, words_letter.j2]
  by_cases a : r ≥ 97 <;> by_cases b : r ≤ 122 <;> by_cases c : r ≥ 65 <;> by_cases d : r ≤ 90 <;> by_cases e : r ≥ 192 <;> by_cases f : r ≤ 591 <;> by_cases g : r ≥ 913 <;> by_cases h : r ≤ 969 <;>
    first
    | omega
    | (simp [a, b, c, d, e, f, g, h]; done)
    | (by_cases z : r = 215 <;> simp [a, b, c, d, e, f, g, h, z] <;> omega)

theorem rletter_ev (r : Int) : Ev (fun k => atlasref01_letter.f k r) (ltr r) := by
  refine ⟨3, fun k hk => ?_⟩
  obtain ⟨k, rfl⟩ : ∃ m, k = m + 3 := ⟨k - 3, by omega⟩
  unfold ltr
  simp only [atlasref01_letter.f, atlasref01_letter.j0, atlasref01_letter.j1]
  by_cases a : r ≥ 97 <;> by_cases b : r ≤ 122 <;> by_cases c : r ≥ 65 <;> by_cases d : r ≤ 90 <;> by_cases e : r ≥ 192 <;> by_cases f : r ≤ 591 <;> by_cases g : r ≥ 913 <;> by_cases h : r ≤ 969 <;>
    first
    | omega
    | (simp [a, b, c, d, e, f, g, h]; done)
    | (by_cases z : r = 215 <;> simp [a, b, c, d, e, f, g, h, z] <;> omega)

/-- Of a rune as the one and as the other tells it. -/
theorem ltr_same {r : Int} {c : Nat} (h : r = (c : Int) ∨ (r = -1 ∧ c = 65533)) : ltr r = ltr (c : Int) := by
  rcases h with rfl | ⟨rfl, rfl⟩
  · rfl
  · decide

theorem name_loop (s : ByteArray) (hn : s.size ≤ 140737488351232) (d : Nat) : ∀ (p : Nat) (n : Int), s.size - p ≤ d → p ≤ s.size → 0 ≤ n → n ≤ p →
    ∃ r, Ev (fun k => words_Name.l0 k s p n) r ∧ Ev (fun k => atlasref01_Name.l0 k s n (p : Int)) r := by
  induction d with
  | zero =>
    intro p n hd hp h0 h1
    have hz : ¬ p < s.size := by omega
    refine ⟨decide (1 ≤ n) && decide (n ≤ 16), ?_, ?_⟩
    · refine Ev.step (fun k => rfl) ?_
      simp only [words_Name.l0, if_neg hz]
      exact Ev.now _
    · refine Ev.step (fun k => rfl) ?_
      simp only [atlasref01_Name.l0, if_neg (show ¬ (p : Int) < (s.size : Int) by omega)]
      by_cases h : n ≥ 1
      · simp only [if_pos h, show (1 ≤ n) from h, decide_true, Bool.true_and]
        exact Ev.now _
      · simp only [if_neg h, show ¬ (1 ≤ n) from h, decide_false, Bool.false_and]
        exact Ev.now _
  | succ d ih =>
    intro p n hd hp h0 h1
    by_cases hz : p < s.size
    · obtain ⟨r, hr, hrc, w1, w2, _⟩ := rune_ev s hn p hz
      have e1 : wrap64 (n + 1) = n + 1 := by unfold wrap64; omega
      have e2 : wrap64 ((p : Int) + ((Utf8.decode s p).2 : Int)) = ((p + (Utf8.decode s p).2 : Nat) : Int) := by unfold wrap64; omega
      obtain ⟨q, q1, q2⟩ := ih (p + (Utf8.decode s p).2) (n + 1) (by omega) w2 (by omega) (by omega)
      have hl := ltr_same (r := r) (c := (Utf8.decode s p).1) (hrc.imp id (fun h => ⟨h.1, h.2.1⟩))
      obtain ⟨c, hc⟩ : ∃ c : Nat, (Utf8.decode s p).1 = c := ⟨_, rfl⟩
      rw [hc] at hrc hl
      by_cases hb : words_Name.bad (ltr (c : Int)) n (c : Int) = true
      · refine ⟨false, ?_, ?_⟩
        · refine Ev.step (fun k => rfl) ?_
          simp only [words_Name.l0, if_pos hz, hc]
          refine Ev.bind (letter_ev _) ?_
          simp only [if_pos hb]
          exact Ev.now _
        · refine Ev.step (fun k => rfl) ?_
          simp only [atlasref01_Name.l0, if_pos (show (p : Int) < (s.size : Int) by omega)]
          refine Ev.bind hr ?_
          refine Ev.bind (rletter_ev _) ?_
          simp only [words_Name.bad, Bool.and_eq_true, Bool.not_eq_true', Bool.or_eq_true, beq_iff_eq, bne_iff_ne, decide_eq_true_eq] at hb
          simp only [hl, hb.1, Bool.false_eq_true, if_false]
          by_cases hn0 : n = 0
          · simp only [if_pos hn0]
            exact Ev.now _
          · simp only [if_neg hn0]
            have hx : ¬ (48 ≤ r ∧ r ≤ 57) ∧ r ≠ 95 := by rcases hrc with h | h <;> omega
            have hdg : atlasref01_digit.f r = some false := by
              unfold atlasref01_digit.f
              split
              · simp; omega
              · rfl
            simp only [hdg, Option.bind_some, Bool.false_eq_true, if_false, if_neg hx.2]
            exact Ev.now _
      · refine ⟨q, ?_, ?_⟩
        · refine Ev.step (fun k => rfl) ?_
          simp only [words_Name.l0, if_pos hz, hc]
          refine Ev.bind (letter_ev _) ?_
          simp only [if_neg hb, e1]
          exact q1
        · refine Ev.step (fun k => rfl) ?_
          simp only [atlasref01_Name.l0, if_pos (show (p : Int) < (s.size : Int) by omega)]
          refine Ev.bind hr ?_
          refine Ev.bind (rletter_ev _) ?_
          simp only [words_Name.bad, Bool.and_eq_true, Bool.not_eq_true', Bool.or_eq_true, beq_iff_eq, bne_iff_ne, decide_eq_true_eq, ne_eq] at hb
          simp only [hl, e1, e2]
          cases hlt : ltr (c : Int) with
          | true =>
            simp only [if_true]
            exact q2
          | false =>
            simp only [hlt, true_and] at hb
            simp only [Bool.false_eq_true, if_false]
            have hn0 : ¬ n = 0 := fun h => hb (.inl h)
            simp only [if_neg hn0]
            by_cases hdc : 48 ≤ r ∧ r ≤ 57
            · have hdg : atlasref01_digit.f r = some true := by
                unfold atlasref01_digit.f
                rw [if_pos (show r ≥ 48 from hdc.1)]
                simp [hdc.2]
              simp only [hdg, Option.bind_some, if_true]
              exact q2
            · have hdg : atlasref01_digit.f r = some false := by
                unfold atlasref01_digit.f
                split
                · simp; omega
                · rfl
              have h95 : r = 95 := by
                rcases hrc with h | h
                · by_cases h9 : (c : Int) = 95
                  · omega
                  · exact absurd (Or.inr ⟨h9, by omega⟩) hb
                · exact absurd (Or.inr ⟨by omega, by omega⟩) hb
              simp only [hdg, Option.bind_some, Bool.false_eq_true, if_false, if_pos h95]
              exact q2
    · refine ⟨decide (1 ≤ n) && decide (n ≤ 16), ?_, ?_⟩
      · refine Ev.step (fun k => rfl) ?_
        simp only [words_Name.l0, if_neg hz]
        exact Ev.now _
      · refine Ev.step (fun k => rfl) ?_
        simp only [atlasref01_Name.l0, if_neg (show ¬ (p : Int) < (s.size : Int) by omega)]
        by_cases h : n ≥ 1
        · simp only [if_pos h, show (1 ≤ n) from h, decide_true, Bool.true_and]
          exact Ev.now _
        · simp only [if_neg h, show ¬ (1 ≤ n) from h, decide_false, Bool.false_and]
          exact Ev.now _

theorem name_both (s : ByteArray) (hn : s.size ≤ 140737488351232) : ∃ r, Ev (fun k => words_Name.f k s) r ∧ Ev (fun k => atlasref01_Name.f k s) r :=
  name_loop s hn s.size 0 0 (by omega) (by omega) (by omega) (by omega)

theorem WordsName : atlaslaw01_WordsName.Pure := by
  intro s hn
  obtain ⟨r, h1, h2⟩ := name_both s hn
  refine Ev.rounds (r := true) ?_
  unfold atlaslaw01_WordsName.f
  refine Ev.bind h1 ?_
  refine Ev.bind h2 ?_
  simp only [beq_self_eq_true]
  exact Ev.now _

end Go.Proofs.Ytihjlkdobdffjaa.Pure
