/-
  How many runes a text has is the same by the program and by the document's answer, for every text.
  Conditions: none beyond the row's own.
-/
import Derived.Test.YtihjlkdobdffjaaS8
import Derived.Test.YtihjlkdobdffjaaS9
import Derived.Test.YtihjlkdobdffjaaPureRune
set_option linter.unusedSimpArgs false
namespace Go.Proofs.Ytihjlkdobdffjaa.Pure
open Go.RowKit Go.Proofs.Ytihjlkdobdffjaa.S Go.Proofs.YtihjlkdobdffjaaW.PrintWords Go.Proofs.YtihjlkdobdffjaaW.PrintLast

theorem width_loop (s : ByteArray) (hn : s.size ≤ 140737488351232) (d : Nat) : ∀ (p : Nat) (n : Int), s.size - p ≤ d → p ≤ s.size → 0 ≤ n → n ≤ p →
    ∃ r, Ev (fun k => words_Width.l0 k s p n) r ∧ Ev (fun k => atlasref01_Width.l0 k s n (p : Int)) r := by
  induction d with
  | zero =>
    intro p n hd hp h0 h1
    have hz : ¬ p < s.size := by omega
    refine ⟨n, ?_, ?_⟩
    · refine Ev.step (fun k => rfl) ?_
      simp only [words_Width.l0, if_neg hz]
      exact Ev.now _
    · refine Ev.step (fun k => rfl) ?_
      simp only [atlasref01_Width.l0, if_neg (show ¬ (p : Int) < (s.size : Int) by omega)]
      exact Ev.now _
  | succ d ih =>
    intro p n hd hp h0 h1
    by_cases hz : p < s.size
    · obtain ⟨r, hr, _, w1, w2, _⟩ := rune_ev s hn p hz
      have e1 : wrap64 (n + 1) = n + 1 := by unfold wrap64; omega
      have e2 : wrap64 ((p : Int) + ((Utf8.decode s p).2 : Int)) = ((p + (Utf8.decode s p).2 : Nat) : Int) := by unfold wrap64; omega
      obtain ⟨q, q1, q2⟩ := ih (p + (Utf8.decode s p).2) (n + 1) (by omega) w2 (by omega) (by omega)
      refine ⟨q, ?_, ?_⟩
      · refine Ev.step (fun k => rfl) ?_
        simp only [words_Width.l0, if_pos hz, e1]
        exact q1
      · refine Ev.step (fun k => rfl) ?_
        simp only [atlasref01_Width.l0, if_pos (show (p : Int) < (s.size : Int) by omega)]
        refine Ev.bind hr ?_
        simp only [e1, e2]
        exact q2
    · refine ⟨n, ?_, ?_⟩
      · refine Ev.step (fun k => rfl) ?_
        simp only [words_Width.l0, if_neg hz]
        exact Ev.now _
      · refine Ev.step (fun k => rfl) ?_
        simp only [atlasref01_Width.l0, if_neg (show ¬ (p : Int) < (s.size : Int) by omega)]
        exact Ev.now _

theorem width_both (s : ByteArray) (hn : s.size ≤ 140737488351232) : ∃ r, Ev (fun k => words_Width.f k s) r ∧ Ev (fun k => atlasref01_Width.f k s) r :=
  width_loop s hn s.size 0 0 (by omega) (by omega) (by omega) (by omega)

theorem WordsWidth : atlaslaw01_WordsWidth.Pure := by
  intro s hn
  obtain ⟨r, h1, h2⟩ := width_both s hn
  refine Ev.rounds (r := true) ?_
  unfold atlaslaw01_WordsWidth.f
  refine Ev.bind h1 ?_
  refine Ev.bind h2 ?_
  simp only [beq_self_eq_true]
  exact Ev.now _

end Go.Proofs.Ytihjlkdobdffjaa.Pure
