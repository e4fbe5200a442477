/-
  The words of a line by the program and by the document's answer are one list, short enough to be written and grown.
  Conditions: the two lines' bulk is at most 1048576 (the row's own bound).
-/
import Derived.Test.YtihjlkdobdffjaaS4
import Derived.Test.YtihjlkdobdffjaaPureRune
set_option linter.unusedSimpArgs false
namespace Go.Proofs.Ytihjlkdobdffjaa.Pure
open Go.RowKit Go.Proofs.Ytihjlkdobdffjaa.S Go.Proofs.YtihjlkdobdffjaaW.PrintWords Go.Proofs.YtihjlkdobdffjaaW.PrintLast

theorem same_loop (l : List ByteArray) (hl : l.length ≤ 9223372036854775000) (d : Nat) : ∀ i : Int, 0 ≤ i → i + d = l.length → Ev (fun k => atlaslaw01_same.l0 k l l i) true := by
  induction d with
  | zero =>
    intro i h0 hd
    refine Ev.step (fun k => rfl) ?_
    simp only [atlaslaw01_same.l0, if_neg (show ¬ i < (l.length : Int) by omega)]
    exact Ev.now _
  | succ d ih =>
    intro i h0 hd
    have e : wrap64 (i + 1) = i + 1 := by unfold wrap64; omega
    refine Ev.step (fun k => rfl) ?_
    simp only [atlaslaw01_same.l0, if_pos (show i < (l.length : Int) by omega), if_pos h0, if_true, e]
    exact ih (i + 1) (by omega) (by omega)
theorem same_self (l : List ByteArray) (hl : l.length ≤ 9223372036854775000) : Ev (fun k => atlaslaw01_same.f k l l) true := by
  unfold atlaslaw01_same.f
  simp only [if_true]
  exact same_loop l hl l.length 0 (by omega) (by omega)

/-- Is the rune a blank? -/
def blk (r : Int) : Bool := r == 9 || r == 13 || r == 32 || r == 160 || r == 8195 || r == 12288
theorem blank_eq (r : Int) : words_blank.f r = some (blk r) := by
  unfold words_blank.f blk
  (repeat' split) <;> simp_all
theorem rblank_eq (r : Int) : atlasref01_Blank.f r = some (blk r) := blank_eq r
theorem blk_same {r : Int} {c : Nat} (h : r = (c : Int) ∨ (r = -1 ∧ c = 65533)) : blk r = blk (c : Int) := by
  rcases h with rfl | ⟨rfl, rfl⟩
  · rfl
  · decide

/-- What stands behind the loop, as both have it. -/
def fin (s : ByteArray) (l : List ByteArray) (b : Int) (p : Nat) : List ByteArray := if 0 ≤ b then l ++ [s.extract b.toNat p] else l
theorem fin_eq (s : ByteArray) (l : List ByteArray) (b : Int) (p : Nat) (hp : p ≤ s.size) (hb : b = -1 ∨ 0 ≤ b ∧ b ≤ p) (hl : l.length < 8796093022208) : words_Fields.fin s l b (p : Int) = some (fin s l b p) := by
  unfold words_Fields.fin fin
  rcases hb with rfl | ⟨h0, h1⟩
  · rfl
  · rw [if_pos (show b ≥ 0 from h0), if_pos h1, if_pos (show (p : Int) ≤ (s.size : Int) by omega), if_pos hl, if_pos h0, Int.toNat_natCast]

theorem fin_len (s : ByteArray) (l : List ByteArray) (b : Int) (p : Nat) {n : Nat} (h : l.length ≤ n) : (fin s l b p).length ≤ n + 1 := by
  unfold fin
  split
  · rw [List.length_append]
    simp
    omega
  · omega

/-- The document's last round. -/
theorem rfin (s : ByteArray) (l : List ByteArray) (b : Int) (p : Nat) (hp : p ≤ s.size) (hb : b = -1 ∨ 0 ≤ b ∧ b ≤ p) (hl : l.length < 8796093022208) : Ev (fun k => atlasref01_Fields.j1 k s l b (p : Int) false) (fin s l b p) := by
  refine Ev.step (fun k => rfl) ?_
  simp only [atlasref01_Fields.j1, Bool.false_eq_true, if_false]
  unfold fin
  rcases hb with rfl | ⟨h0, h1⟩
  · exact Ev.now _
  · simp only [if_pos (show b ≥ 0 from h0), if_pos h0, if_pos h1, if_pos (show (p : Int) ≤ (s.size : Int) by omega), if_pos hl, Int.toNat_natCast]
    exact Ev.now _

theorem fields_loop (s : ByteArray) (hn : s.size ≤ 1048576) (d : Nat) : ∀ (p : Nat) (l : List ByteArray) (b : Int), s.size - p ≤ d → p ≤ s.size → l.length ≤ p → (b = -1 ∨ 0 ≤ b ∧ b ≤ p) →
    ∃ r : List ByteArray, Ev (fun k => words_Fields.l0 k s l b p) r ∧ Ev (fun k => atlasref01_Fields.l0 k s l b (p : Int)) r ∧ r.length ≤ s.size + 1 := by
  induction d with
  | zero =>
    intro p l b hd hp hl hb
    have hz : ¬ p < s.size := by omega
    obtain rfl : p = s.size := by omega
    refine ⟨fin s l b s.size, ?_, ?_, ?_⟩
    · refine Ev.step (fun k => rfl) ?_
      simp only [words_Fields.l0, if_neg hz, fin_eq s l b s.size hp hb (by omega)]
      exact Ev.now _
    · refine Ev.step (fun k => rfl) ?_
      simp only [atlasref01_Fields.l0, if_neg (show ¬ (s.size : Int) < (s.size : Int) by omega)]
      exact rfin s l b s.size hp hb (by omega)
    · exact fin_len s l b _ (by omega)
  | succ d ih =>
    intro p l b hd hp hl hb
    by_cases hz : p < s.size
    · obtain ⟨r, hr, hrc, w1, w2, hlo, hhi⟩ := rune_ev s (by omega) p hz
      have e2 : wrap64 ((p : Int) + ((Utf8.decode s p).2 : Int)) = ((p + (Utf8.decode s p).2 : Nat) : Int) := by unfold wrap64; omega
      have hbk := blk_same (r := r) (c := (Utf8.decode s p).1) (hrc.imp id (fun h => ⟨h.1, h.2.1⟩))
      have hbt := bt_get s p hz
      obtain ⟨c, hc⟩ : ∃ c : Nat, (Utf8.decode s p).1 = c := ⟨_, rfl⟩
      obtain ⟨q, hq⟩ : ∃ q : Nat, (Utf8.decode s p).2 = q := ⟨_, rfl⟩
      obtain ⟨b0, hb0⟩ : ∃ b0 : Nat, (s.get! p).toNat = b0 := ⟨_, rfl⟩
      rw [hc, hq] at hrc
      rw [hc] at hbk
      rw [hq] at w1 w2 e2 hr
      rw [hb0] at hlo hhi hbt
      have h35 : c = 35 ↔ b0 = 35 := by
        constructor
        · intro h
          by_cases h8 : b0 < 128
          · have := hlo h8
            omega
          · have := hhi (by omega)
            omega
        · intro h
          have := hlo (by omega)
          omega
      by_cases hh : b0 = 35
      · refine ⟨fin s l b p, ?_, ?_, ?_⟩
        · refine Ev.step (fun k => rfl) ?_
          simp only [words_Fields.l0, if_pos hz, hc, if_pos (show (c : Int) = 35 by omega), fin_eq s l b p hp hb (by omega)]
          exact Ev.now _
        · refine Ev.step (fun k => rfl) ?_
          simp only [atlasref01_Fields.l0, if_pos (show (p : Int) < (s.size : Int) by omega), if_pos (show (0 : Int) ≤ (p : Int) by omega), hbt, hh]
          exact rfin s l b p hp hb (by omega)
        · exact fin_len s l b _ (by omega)
      · have hne : (((b0 : Int)) != 35) = true := by rw [bne_iff_ne]; omega
        -- the round, of both
        have step : ∀ (l' : List ByteArray) (b' : Int), l'.length ≤ p + q → (b' = -1 ∨ 0 ≤ b' ∧ b' ≤ ((p + q : Nat) : Int)) →
            (∀ v, Ev (fun k => words_Fields.l0 k s l' b' (p + q)) v → Ev (fun k => words_Fields.l0 k s l b p) v) →
            (∀ v, Ev (fun k => atlasref01_Fields.l0 k s l' b' ((p + q : Nat) : Int)) v → Ev (fun k => atlasref01_Fields.l0 k s l b (p : Int)) v) →
            ∃ r : List ByteArray, Ev (fun k => words_Fields.l0 k s l b p) r ∧ Ev (fun k => atlasref01_Fields.l0 k s l b (p : Int)) r ∧ r.length ≤ s.size + 1 := by
          intro l' b' h1 h2 h3 h4
          obtain ⟨v, v1, v2, v3⟩ := ih (p + q) l' b' (by omega) w2 h1 h2
          exact ⟨v, h3 v v1, h4 v v2, v3⟩
        have ref : ∀ v, Ev (fun k => (if blk (c : Int) = true then (if b ≥ 0 then (if 0 ≤ b then (if b ≤ (p : Int) then (if (p : Int) ≤ (s.size : Int) then (if l.length < 8796093022208 then (atlasref01_Fields.l0 k s (l ++ [s.extract (b : Int).toNat (p : Int).toNat]) (-1) ((p + q : Nat) : Int)) else (none)) else (none)) else (none)) else (none)) else (atlasref01_Fields.l0 k s l (-1) ((p + q : Nat) : Int))) else (if b < 0 then (atlasref01_Fields.l0 k s l (p : Int) ((p + q : Nat) : Int)) else (atlasref01_Fields.l0 k s l b ((p + q : Nat) : Int))))) v →
            Ev (fun k => atlasref01_Fields.l0 k s l b (p : Int)) v := by
          intro v hv
          refine Ev.step (fun k => rfl) ?_
          simp only [atlasref01_Fields.l0, if_pos (show (p : Int) < (s.size : Int) by omega), if_pos (show (0 : Int) ≤ (p : Int) by omega), hbt, hne]
          refine Ev.step (fun k => rfl) ?_
          simp only [atlasref01_Fields.j1, if_true]
          refine Ev.bind hr ?_
          simp only [rblank_eq, Option.bind_some, e2, hbk]
          exact hv
        have own : ∀ v, Ev (fun k => (if blk (c : Int) = true then (if b ≥ 0 then (if b ≤ (p : Int) then (if l.length < 8796093022208 then (words_Fields.l0 k s (l ++ [s.extract (b : Int).toNat ((p : Int)).toNat]) (-1) (p + q)) else (none)) else (none)) else (words_Fields.l0 k s l b (p + q))) else (if b < 0 then (words_Fields.l0 k s l p (p + q)) else (words_Fields.l0 k s l b (p + q))))) v →
            Ev (fun k => words_Fields.l0 k s l b p) v := by
          intro v hv
          refine Ev.step (fun k => rfl) ?_
          simp only [words_Fields.l0, if_pos hz, hc, hq, if_neg (show ¬ (c : Int) = 35 by omega), blank_eq, Option.bind_some]
          exact hv
        cases hk : blk (c : Int) with
        | true =>
          simp only [hk, if_true] at ref own
          rcases hb with rfl | ⟨h0, h1⟩
          · simp only [if_neg (show ¬ (-1 : Int) ≥ 0 by omega)] at ref own
            exact step l (-1) (by omega) (.inl rfl) own ref
          · simp only [if_pos (show b ≥ 0 from h0), if_pos h0, if_pos h1, if_pos (show (p : Int) ≤ (s.size : Int) by omega), if_pos (show l.length < 8796093022208 by omega), Int.toNat_natCast] at ref own
            exact step (l ++ [s.extract b.toNat p]) (-1) (by simp; omega) (.inl rfl) own ref
        | false =>
          simp only [hk, Bool.false_eq_true, if_false] at ref own
          rcases hb with rfl | ⟨h0, h1⟩
          · simp only [if_pos (show (-1 : Int) < 0 by omega)] at ref own
            exact step l (p : Int) (by omega) (.inr ⟨by omega, by omega⟩) own ref
          · simp only [if_neg (show ¬ b < 0 by omega)] at ref own
            exact step l b (by omega) (.inr ⟨h0, by omega⟩) own ref
    · obtain rfl : p = s.size := by omega
      refine ⟨fin s l b s.size, ?_, ?_, ?_⟩
      · refine Ev.step (fun k => rfl) ?_
        simp only [words_Fields.l0, if_neg hz, fin_eq s l b s.size hp hb (by omega)]
        exact Ev.now _
      · refine Ev.step (fun k => rfl) ?_
        simp only [atlasref01_Fields.l0, if_neg (show ¬ (s.size : Int) < (s.size : Int) by omega)]
        exact rfin s l b s.size hp hb (by omega)
      · exact fin_len s l b _ (by omega)

theorem fields_both (s : ByteArray) (hn : s.size ≤ 1048576) : ∃ r : List ByteArray, Ev (fun k => words_Fields.f k s) r ∧ Ev (fun k => atlasref01_Fields.f k s) r ∧ r.length ≤ s.size + 1 :=
  fields_loop s hn s.size 0 [] (-1) (by omega) (by omega) (by simp) (.inl rfl)

theorem UWordsOwn (a0 : ByteArray) (a1 : ByteArray) (w0 : a0.size ≤ 1048576) (w1 : a1.size ≤ 1048576) (hb : (a0.size + 1) + (a1.size + 1) ≤ 1048576) : ∃ k, atlaslaw01_WordsOwn.f k a0 a1 = some true := by
  obtain ⟨la, ⟨k1, h1⟩, ⟨k2, h2⟩, h3⟩ := fields_both a0 w0
  obtain ⟨lb, ⟨k4, h4⟩, ⟨k5, h5⟩, h6⟩ := fields_both a1 w1
  obtain ⟨k7, h7⟩ := same_self la (by omega)
  obtain ⟨k8, h8⟩ := same_self lb (by omega)
  refine ⟨k1 + k2 + k4 + k5 + k7 + k8, ?_⟩
  unfold atlaslaw01_WordsOwn.f
  exact if_pos ⟨la, lb, la, lb, h1 _ (by omega), h4 _ (by omega), h2 _ (by omega), h5 _ (by omega), h7 _ (by omega), h8 _ (by omega), h7 _ (by omega), by omega, by omega⟩
end Go.Proofs.Ytihjlkdobdffjaa.Pure
