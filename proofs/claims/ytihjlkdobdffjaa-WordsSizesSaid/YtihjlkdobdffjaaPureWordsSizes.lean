/-
  Sizes and rights as texts: the program and the document's answer agree for every text and every number, and all rights and sizes are read back from their texts.
  Conditions: none beyond the row's own.
-/
import Derived.Test.YtihjlkdobdffjaaS10
import Derived.Lib.Strings
import Derived.WideShapes
set_option linter.unusedSimpArgs false
namespace Go.Proofs.Ytihjlkdobdffjaa.Pure
open Go.RowKit Go.Proofs.Ytihjlkdobdffjaa.S Go.Proofs.YtihjlkdobdffjaaW.PrintWords Go.Proofs.YtihjlkdobdffjaaW.PrintLast

/-! ### sizes -/
theorem st_eq : words_SizeText.f = atlasref01_SizeText.f := rfl
theorem st_some (x : Int) : ∃ t, words_SizeText.f x = some t := by
  unfold words_SizeText.f
  (repeat' split) <;> exact ⟨_, rfl⟩

theorem size_loop (s : ByteArray) (d : Nat) : ∀ n : Int, 1 ≤ n → n + d = 5 → ∃ r, Ev (fun k => words_Size.l0 k s n) r ∧ Ev (fun k => atlasref01_Size.l0 k s n) r := by
  induction d with
  | zero =>
    intro n h0 hd
    refine ⟨(0, 12), ?_, ?_⟩
    · refine Ev.step (fun k => rfl) ?_
      simp only [words_Size.l0, if_neg (show ¬ n ≤ 4 by omega)]
      exact Ev.now _
    · refine Ev.step (fun k => rfl) ?_
      simp only [atlasref01_Size.l0, if_neg (show ¬ n < 5 by omega)]
      exact Ev.now _
  | succ d ih =>
    intro n h0 hd
    have e : wrap64 (n + 1) = n + 1 := by unfold wrap64; omega
    obtain ⟨t, ht⟩ := st_some n
    have ht' : atlasref01_SizeText.f n = some t := by rw [← st_eq]; exact ht
    by_cases h : t.toList = s.toList
    · refine ⟨(n, 0), ?_, ?_⟩
      · refine Ev.step (fun k => rfl) ?_
        simp only [words_Size.l0, if_pos (show n ≤ 4 by omega), ht, Option.bind_some, if_pos h]
        exact Ev.now _
      · refine Ev.step (fun k => rfl) ?_
        simp only [atlasref01_Size.l0, if_pos (show n < 5 by omega), ht', Option.bind_some, if_pos h]
        exact Ev.now _
    · obtain ⟨r, r1, r2⟩ := ih (n + 1) (by omega) (by omega)
      refine ⟨r, ?_, ?_⟩
      · refine Ev.step (fun k => rfl) ?_
        simp only [words_Size.l0, if_pos (show n ≤ 4 by omega), ht, Option.bind_some, if_neg h, e]
        exact r1
      · refine Ev.step (fun k => rfl) ?_
        simp only [atlasref01_Size.l0, if_pos (show n < 5 by omega), ht', Option.bind_some, if_neg h, e]
        exact r2

/-! ### rights -/
def rt (a b c : Bool) : ByteArray := ⟨#[if a then 114 else 45, if b then 119 else 45, if c then 120 else 45]⟩
theorem text_ev (a b c : Bool) : words_RightsText.f a b c = some (rt a b c) := by
  cases a <;> cases b <;> cases c <;> decide +kernel
theorem rtext_ev (a b c : Bool) : Ev (fun k => atlasref01_RightsText.f k a b c) (rt a b c) := by
  refine Ev.of (k := 3) (fun k => atlasref01_RightsText.mono _ _ _ k) ?_
  cases a <;> cases b <;> cases c <;> decide +kernel

theorem none_loop (s : ByteArray) (hno : ∀ a b c, ¬ (rt a b c).toList = s.toList) (d : Nat) : ∀ n : Int, 0 ≤ n → n + d = 8 → Ev (fun k => atlasref01_Rights.l0 k s n) (false, false, false, 12) := by
  induction d with
  | zero =>
    intro n h0 hd
    refine Ev.step (fun k => rfl) ?_
    simp only [atlasref01_Rights.l0, if_neg (show ¬ n < 8 by omega)]
    exact Ev.now _
  | succ d ih =>
    intro n h0 hd
    have e : wrap64 (n + 1) = n + 1 := by unfold wrap64; omega
    refine Ev.step (fun k => rfl) ?_
    simp only [atlasref01_Rights.l0, if_pos (show n < 8 by omega), e]
    refine Ev.bind (rtext_ev _ _ _) ?_
    simp only [if_neg (hno _ _ _)]
    exact ih (n + 1) (by omega) (by omega)

theorem rights_both (s : ByteArray) : ∃ r, words_Rights.f s = some r ∧ Ev (fun k => atlasref01_Rights.f k s) r := by
  by_cases h : ∃ a b c, (rt a b c).toList = s.toList
  · obtain ⟨a, b, c, h⟩ := h
    rw [Lib.toList_data, Lib.toList_data] at h
    obtain rfl := Go.WideShapes.bytes_inj h
    refine ⟨(a, b, c, 0), ?_, ?_⟩
    · cases a <;> cases b <;> cases c <;> decide +kernel
    · refine Ev.of (k := 12) (fun k => atlasref01_Rights.mono _ k) ?_
      cases a <;> cases b <;> cases c <;> decide +kernel
  · have hno : ∀ a b c, ¬ (rt a b c).toList = s.toList := fun a b c e => h ⟨a, b, c, e⟩
    refine ⟨(false, false, false, 12), ?_, ?_⟩
    · unfold words_Rights.f
      by_cases h3 : (s.size : Int) = 3
      · simp only [if_pos h3, if_pos (show (0 : Int) < (s.size : Int) by omega), if_pos (show (1 : Int) < (s.size : Int) by omega), if_pos (show (2 : Int) < (s.size : Int) by omega)]
        simp only [text_ev, Option.bind_some, if_neg (hno _ _ _)]
      · simp only [if_neg h3]
    · exact none_loop s hno 8 0 (by omega) (by omega)

theorem closed_part : atlaslaw01_WordsSizes.j0 40 false = some true := by decide +kernel

theorem WordsSizes : atlaslaw01_WordsSizes.Pure := by
  intro s n _ _
  obtain ⟨r, r1, r2⟩ := size_loop s 4 1 (by omega) (by omega)
  obtain ⟨q, q1, q2⟩ := rights_both s
  obtain ⟨t, ht⟩ := st_some n
  have ht' : atlasref01_SizeText.f n = some t := by rw [← st_eq]; exact ht
  refine Ev.rounds (r := true) ?_
  unfold atlaslaw01_WordsSizes.f
  refine Ev.bind (show Ev (fun k => words_Size.f k s) r from r1) ?_
  refine Ev.bind (show Ev (fun k => atlasref01_Size.f k s) r from r2) ?_
  simp only [q1, Option.bind_some]
  refine Ev.bind q2 ?_
  simp only [if_true, ht, ht', Option.bind_some, beq_self_eq_true, Bool.not_true, Bool.or_self, Bool.false_eq_true, if_false, bne_self_eq_false]
  exact Ev.of (fun k => (atlaslaw01_WordsSizes.mono_l k).1 false) closed_part

end Go.Proofs.Ytihjlkdobdffjaa.Pure
