/-
  The width of a name is 1 to 16; what stands behind a name, or ahead of it, makes it a name or none as the promise says; its parts are names.
  Conditions: none beyond the row's own.
-/
import Derived.Test.YtihjlkdobdffjaaS15
import Derived.Test.YtihjlkdobdffjaaPureWordsName
import Derived.Test.YtihjlkdobdffjaaPureWordsWidth
set_option linter.unusedSimpArgs false
set_option linter.unusedVariables false
namespace Go.Proofs.Ytihjlkdobdffjaa.Pure
open Go.RowKit Go.Proofs.YtihjlkdobdffjaaG Go.Proofs.Ytihjlkdobdffjaa.S Go.Proofs.YtihjlkdobdffjaaW.PrintWords Go.Proofs.YtihjlkdobdffjaaW.PrintLast

theorem ev_unique {α : Type} {g : Nat → Option α} {a b : α} (h : Ev g a) (k : Ev g b) : a = b := by
  obtain ⟨K, hK⟩ := h
  obtain ⟨L, hL⟩ := k
  have := (hK (max K L) (Nat.le_max_left _ _)).symm.trans (hL (max K L) (Nat.le_max_right _ _))
  exact Option.some.inj this
theorem dec_agree {b0 b1 b2 b3 e1 e2 e3 : Nat} {c1 c2 c3 d1 d2 d3 : Bool} (hg : (dec b0 b1 b2 b3 c1 c2 c3).1 ≠ 65533) (h1 : 2 ≤ (dec b0 b1 b2 b3 c1 c2 c3).2 → d1 = c1 ∧ e1 = b1) (h2 : 3 ≤ (dec b0 b1 b2 b3 c1 c2 c3).2 → d2 = c2 ∧ e2 = b2) (h3 : 4 ≤ (dec b0 b1 b2 b3 c1 c2 c3).2 → d3 = c3 ∧ e3 = b3) :
    dec b0 e1 e2 e3 d1 d2 d3 = dec b0 b1 b2 b3 c1 c2 c3 := by
  have re : Utf8.runeError = 65533 := rfl
  unfold dec at hg h1 h2 h3 ⊢
  by_cases a0 : b0 < 0x80
  · simp only [if_pos a0]
  · simp only [if_neg a0] at hg h1 h2 h3 ⊢
    by_cases a1 : b0 / 32 = 6
    · have a2 : (b0 / 16 == 14) = false := by simp; omega
      have a3 : (b0 / 8 == 30) = false := by simp; omega
      have a1' : (b0 / 32 == 6) = true := by simpa using a1
      cases c1 with
      | false => (exfalso; simp [a1', a2, a3, re] at hg)
      | true =>
        by_cases q : b0 % 32 * 64 + b1 % 64 ≥ 0x80
        · simp only [a1', Bool.true_and, if_true, if_pos q] at h1
          obtain ⟨rfl, rfl⟩ := h1 (Nat.le_refl _)
          simp only [a1', Bool.true_and, if_true, if_pos q]
        · (exfalso; simp [a1', q, re] at hg)
    · have a1' : (b0 / 32 == 6) = false := by simpa using a1
      by_cases a2 : b0 / 16 = 14
      · have a3 : (b0 / 8 == 30) = false := by simp; omega
        have a2' : (b0 / 16 == 14) = true := by simpa using a2
        by_cases hc : (c1 && c2) = true
        · by_cases q : (decide (b0 % 16 * 4096 + b1 % 64 * 64 + b2 % 64 ≥ 0x800) && Utf8.valid ((b0 % 16 * 4096 + b1 % 64 * 64 + b2 % 64 : Nat) : Int)) = true
          · simp only [a1', a2', Bool.false_and, Bool.false_eq_true, if_false, Bool.true_and, hc, if_true, if_pos q] at h1 h2
            obtain ⟨rfl, rfl⟩ := h1 (by decide)
            obtain ⟨rfl, rfl⟩ := h2 (Nat.le_refl _)
            simp only [a1', a2', Bool.false_and, Bool.false_eq_true, if_false, Bool.true_and, hc, if_true, if_pos q]
          · (exfalso; simp only [a1', a2', Bool.false_and, Bool.false_eq_true, if_false, Bool.true_and, hc, if_true, if_neg q, re] at hg; exact hg rfl)
        · have hc' : (c1 && c2) = false := by simpa using hc
          (exfalso; simp only [a1', a2', a3, Bool.false_and, Bool.false_eq_true, if_false, Bool.true_and, hc', re] at hg; exact hg rfl)
      · have a2' : (b0 / 16 == 14) = false := by simpa using a2
        by_cases a3 : b0 / 8 = 30
        · have a3' : (b0 / 8 == 30) = true := by simpa using a3
          by_cases hc : (c1 && c2 && c3) = true
          · by_cases q : (decide (b0 % 8 * 262144 + b1 % 64 * 4096 + b2 % 64 * 64 + b3 % 64 ≥ 0x10000) && Utf8.valid ((b0 % 8 * 262144 + b1 % 64 * 4096 + b2 % 64 * 64 + b3 % 64 : Nat) : Int)) = true
            · simp only [a1', a2', a3', Bool.false_and, Bool.false_eq_true, if_false, Bool.true_and, hc, if_true, if_pos q] at h1 h2 h3
              obtain ⟨rfl, rfl⟩ := h1 (by decide)
              obtain ⟨rfl, rfl⟩ := h2 (by decide)
              obtain ⟨rfl, rfl⟩ := h3 (Nat.le_refl _)
              simp only [a1', a2', a3', Bool.false_and, Bool.false_eq_true, if_false, Bool.true_and, hc, if_true, if_pos q]
            · (exfalso; simp only [a1', a2', a3', Bool.false_and, Bool.false_eq_true, if_false, Bool.true_and, hc, if_true, if_neg q, re] at hg; exact hg rfl)
          · have hc' : (c1 && c2 && c3) = false := by simpa using hc
            (exfalso; simp only [a1', a2', a3', Bool.false_and, Bool.false_eq_true, if_false, Bool.true_and, hc', re] at hg; exact hg rfl)
        · have a3' : (b0 / 8 == 30) = false := by simpa using a3
          (exfalso; simp only [a1', a2', a3', Bool.false_and, Bool.false_eq_true, if_false, re] at hg; exact hg rfl)
/-- Two texts that agree where a good rune lies. -/
theorem decode_agree (s t : ByteArray) (p : Nat) (hg : (Utf8.decode s p).1 ≠ 65533) (hs : p + (Utf8.decode s p).2 ≤ s.size) (ht : p + (Utf8.decode s p).2 ≤ t.size) (h1 : 1 ≤ (Utf8.decode s p).2)
    (he : ∀ q, p ≤ q → q < p + (Utf8.decode s p).2 → t.get! q = s.get! q) : Utf8.decode t p = Utf8.decode s p := by
  rw [decode_dec] at hg hs ht h1 he ⊢
  rw [decode_dec, he (p + 0) (by omega) (by omega)]
  refine dec_agree hg (fun h => ?_) (fun h => ?_) (fun h => ?_)
  · rw [he (p + 1) (by omega) (by omega), decide_eq_true (show p + 1 < t.size by omega), decide_eq_true (show p + 1 < s.size by omega)]
    exact ⟨rfl, rfl⟩
  · rw [he (p + 2) (by omega) (by omega), decide_eq_true (show p + 2 < t.size by omega), decide_eq_true (show p + 2 < s.size by omega)]
    exact ⟨rfl, rfl⟩
  · rw [he (p + 3) (by omega) (by omega), decide_eq_true (show p + 3 < t.size by omega), decide_eq_true (show p + 3 < s.size by omega)]
    exact ⟨rfl, rfl⟩
theorem get_app (s t : ByteArray) (p : Nat) (h : p < s.size) : (s ++ t).get! p = s.get! p := by
  rw [show (s ++ t).get! p = (s ++ t)[p]'(by rw [ByteArray.size_append]; omega) from get_at (s ++ t) p (by rw [ByteArray.size_append]; omega), show s.get! p = s[p]'h from get_at s p h]
  exact ByteArray.getElem_append_left h
theorem get_ext (s : ByteArray) (n p : Nat) (hn : n ≤ s.size) (h : p < n) : (s.extract 0 n).get! p = s.get! p := by
  rw [show (s.extract 0 n).get! p = (s.extract 0 n)[p]'(by simp; omega) from get_at (s.extract 0 n) p (by simp; omega), show s.get! p = s[p]'(by omega) from get_at s p (by omega)]
  simp [ByteArray.getElem_extract]
theorem get_end (s : ByteArray) (x : UInt8) : (s ++ ⟨#[x]⟩).get! s.size = x := by
  rw [show (s ++ ⟨#[x]⟩).get! s.size = (s ++ ⟨#[x]⟩)[s.size]'(by rw [ByteArray.size_append]; exact Nat.lt_succ_self _) from get_at (s ++ ⟨#[x]⟩) s.size (by rw [ByteArray.size_append]; exact Nat.lt_succ_self _)]
  rw [ByteArray.getElem_append_right (Nat.le_refl _)]
  simp
  rfl
/-- A byte that goes on in no rune ends each rune ahead of it. -/
theorem decode_stop (t : ByteArray) (p q : Nat) (hq : (t.get! q).toNat / 64 ≠ 2) (h : p < q) : p + (Utf8.decode t p).2 ≤ q := by
  rw [decode_dec]
  have e : ∀ j, p + j = q → (decide (p + j < t.size) && (t.get! (p + j)).toNat / 64 == 2) = false := fun j hj => by
    rw [hj]
    have : ((t.get! q).toNat / 64 == 2) = false := by simpa using hq
    rw [this, Bool.and_false]
  unfold dec
  split
  · simp only; omega
  · split
    · rename_i _ h2
      have hne : p + 1 ≠ q := fun hj => by rw [e 1 hj] at h2; simp at h2
      simp only
      split <;> simp only <;> omega
    · split
      · rename_i _ _ h2
        have hne : p + 1 ≠ q := fun hj => by rw [e 1 hj] at h2; simp at h2
        have hne2 : p + 2 ≠ q := fun hj => by rw [e 2 hj] at h2; simp at h2
        simp only
        split <;> simp only <;> omega
      · split
        · rename_i _ _ _ h2
          have hne : p + 1 ≠ q := fun hj => by rw [e 1 hj] at h2; simp at h2
          have hne2 : p + 2 ≠ q := fun hj => by rw [e 2 hj] at h2; simp at h2
          have hne3 : p + 3 ≠ q := fun hj => by rw [e 3 hj] at h2; simp at h2
          simp only
          split <;> simp only <;> omega
        · simp only; omega
/-- The name's loop, from a place on. -/
def NE (s : ByteArray) (p : Nat) (n : Int) (b : Bool) : Prop := Ev (fun k => words_Name.l0 k s p n) b
def WE (s : ByteArray) (p : Nat) (n m : Int) : Prop := Ev (fun k => words_Width.l0 k s p n) m
def bd (s : ByteArray) (p : Nat) (n : Int) : Bool := words_Name.bad (ltr ((Utf8.decode s p).1 : Int)) n ((Utf8.decode s p).1 : Int)
theorem ne_some (s : ByteArray) (hn : s.size ≤ 140737488351233) (p : Nat) (n : Int) (h0 : p ≤ s.size) (h1 : 0 ≤ n) (h2 : n ≤ p) (hs : s.size ≤ 140737488351232) : ∃ b, NE s p n b := by
  obtain ⟨b, hb, _⟩ := name_loop s hs s.size p n (by omega) h0 h1 h2
  exact ⟨b, hb⟩
theorem ne_bad {s : ByteArray} {p : Nat} {n : Int} (hp : p < s.size) (hb : bd s p n = true) : NE s p n false := by
  refine Ev.step (fun k => rfl) ?_
  simp only [words_Name.l0, if_pos hp]
  refine Ev.bind (letter_ev _) ?_
  simp only [if_pos (show words_Name.bad (ltr ((Utf8.decode s p).1 : Int)) n ((Utf8.decode s p).1 : Int) = true from hb)]
  exact Ev.now _
theorem ne_step {s : ByteArray} {p : Nat} {n : Int} {b : Bool} (hp : p < s.size) (hb : bd s p n = false) (hn : 0 ≤ n) (hn2 : n ≤ 140737488351233) (h : NE s (p + (Utf8.decode s p).2) (n + 1) b) : NE s p n b := by
  refine Ev.step (fun k => rfl) ?_
  simp only [words_Name.l0, if_pos hp]
  refine Ev.bind (letter_ev _) ?_
  have hb' : ¬ words_Name.bad (ltr ((Utf8.decode s p).1 : Int)) n ((Utf8.decode s p).1 : Int) = true := by
    intro e
    have e' : bd s p n = true := e
    rw [hb] at e'
    cases e'
  have e1 : wrap64 (n + 1) = n + 1 := by unfold wrap64; omega
  simp only [if_neg hb', e1]
  exact h
theorem ne_end {s : ByteArray} {p : Nat} {n : Int} (hp : ¬ p < s.size) : NE s p n (decide (1 ≤ n) && decide (n ≤ 16)) := by
  refine Ev.step (fun k => rfl) ?_
  simp only [words_Name.l0, if_neg hp]
  exact Ev.now _
theorem we_end {s : ByteArray} {p : Nat} {n : Int} (hp : ¬ p < s.size) : WE s p n n := by
  refine Ev.step (fun k => rfl) ?_
  simp only [words_Width.l0, if_neg hp]
  exact Ev.now _
theorem we_step {s : ByteArray} {p : Nat} {n m : Int} (hp : p < s.size) (hn : 0 ≤ n) (hn2 : n ≤ 140737488351233) (h : WE s (p + (Utf8.decode s p).2) (n + 1) m) : WE s p n m := by
  refine Ev.step (fun k => rfl) ?_
  have e1 : wrap64 (n + 1) = n + 1 := by unfold wrap64; omega
  simp only [words_Width.l0, if_pos hp, e1]
  exact h
theorem bad_rune (n : Int) (c : Int) (hc : ltr c = false) (h : c ≠ 95 ∧ (c < 48 ∨ c > 57)) : words_Name.bad (ltr c) n c = true := by
  rw [hc]
  simp only [words_Name.bad, Bool.not_false, Bool.true_and, Bool.or_eq_true, beq_iff_eq, Bool.and_eq_true, bne_iff_ne, decide_eq_true_eq]
  exact Or.inr h
/-- A name goes on as one. -/
theorem ne_inv {s : ByteArray} {p : Nat} {n : Int} (hs : s.size ≤ 140737488351232) (hp : p < s.size) (h0 : 0 ≤ n) (h2 : n ≤ p) (h : NE s p n true) :
    bd s p n = false ∧ 1 ≤ (Utf8.decode s p).2 ∧ p + (Utf8.decode s p).2 ≤ s.size ∧ (Utf8.decode s p).1 ≠ 65533 ∧ NE s (p + (Utf8.decode s p).2) (n + 1) true := by
  obtain ⟨r, _, _, w1, w2, _⟩ := rune_ev s hs p hp
  have hb : bd s p n = false := by
    cases hb : bd s p n with
    | false => rfl
    | true => exact ev_unique h (ne_bad hp hb)
  refine ⟨hb, w1, w2, fun e => ?_, ?_⟩
  · unfold bd at hb
    rw [e] at hb
    rw [bad_rune n ((65533 : Nat) : Int) (by decide) (by decide)] at hb
    cases hb
  · obtain ⟨b, hbb⟩ := ne_some s (by omega) (p + (Utf8.decode s p).2) (n + 1) w2 (by omega) (by omega) hs
    have := ev_unique h (ne_step hp hb h0 (by omega) hbb)
    rw [← this] at hbb
    exact hbb
theorem stop_false (s : ByteArray) (x : UInt8) (hs : s.size ≤ 140737488351232) (hx : x.toNat / 64 ≠ 2) (hd : ∀ t : ByteArray, ∀ p : Nat, t.get! p = x → ∃ c : Int, ((Utf8.decode t p).1 : Int) = c ∧ ltr c = false ∧ c ≠ 95 ∧ (c < 48 ∨ c > 57)) :
    ∀ (d p : Nat) (n : Int), s.size - p ≤ d → p ≤ s.size → 0 ≤ n → n ≤ p → NE (s ++ ⟨#[x]⟩) p n false := by
  have hz : (s ++ ⟨#[x]⟩).size = s.size + 1 := by rw [ByteArray.size_append]; rfl
  have last : ∀ n : Int, NE (s ++ ⟨#[x]⟩) s.size n false := fun n => by
    obtain ⟨c, hc, h1, h2⟩ := hd (s ++ ⟨#[x]⟩) s.size (get_end s x)
    refine ne_bad (by omega) ?_
    unfold bd
    rw [hc]
    exact bad_rune n c h1 h2
  intro d
  induction d with
  | zero =>
    intro p n h1 h2 h3 h4
    obtain rfl : p = s.size := by omega
    exact last n
  | succ d ih =>
    intro p n h1 h2 h3 h4
    by_cases hp : p = s.size
    · subst hp
      exact last n
    · have hpt : p < (s ++ ⟨#[x]⟩).size := by omega
      cases hb : bd (s ++ ⟨#[x]⟩) p n with
      | true => exact ne_bad hpt hb
      | false =>
        have hst := decode_stop (s ++ ⟨#[x]⟩) p s.size (by rw [get_end]; exact hx) (by omega)
        have hw : 1 ≤ (Utf8.decode (s ++ ⟨#[x]⟩) p).2 := by
          rw [decode_dec]
          unfold dec
          simp only
          repeat' split
          all_goals simp
        exact ne_step hpt hb h3 (by omega) (ih _ _ (by omega) hst (by omega) (by omega))
/-- A name with a digit or _ behind it; its width. -/
theorem more_ne (s : ByteArray) (x : UInt8) (hs : s.size ≤ 140737488351232) (hd : ∀ (t : ByteArray) (p : Nat), t.get! p = x → Utf8.decode t p = (x.toNat, 1)) (hb : ∀ n : Int, 1 ≤ n → words_Name.bad (ltr ((x.toNat : Nat) : Int)) n ((x.toNat : Nat) : Int) = false) :
    ∀ (d p : Nat) (n m : Int), s.size - p ≤ d → p ≤ s.size → 0 ≤ n → n ≤ p → NE s p n true → WE s p n m → NE (s ++ ⟨#[x]⟩) p n (decide (m < 16)) ∧ n ≤ m ∧ 1 ≤ m ∧ m ≤ 16 := by
  have hz : (s ++ ⟨#[x]⟩).size = s.size + 1 := by rw [ByteArray.size_append]; rfl
  have last : ∀ n m : Int, NE s s.size n true → WE s s.size n m → NE (s ++ ⟨#[x]⟩) s.size n (decide (m < 16)) ∧ n ≤ m ∧ 1 ≤ m ∧ m ≤ 16 := fun n m h1 h2 => by
    obtain rfl : n = m := (ev_unique h2 (we_end (Nat.lt_irrefl _))).symm
    have h3 := ev_unique h1 (ne_end (Nat.lt_irrefl _))
    have h4 : 1 ≤ n ∧ n ≤ 16 := by simpa using h3.symm
    refine ⟨?_, Int.le_refl _, h4.1, h4.2⟩
    have hdd := hd (s ++ ⟨#[x]⟩) s.size (get_end s x)
    refine ne_step (by omega) ?_ (by omega) (by omega) ?_
    · unfold bd
      rw [hdd]
      exact hb n h4.1
    · rw [hdd]
      have := ne_end (s := s ++ ⟨#[x]⟩) (p := s.size + 1) (n := n + 1) (by omega)
      have e : (decide (1 ≤ n + 1) && decide (n + 1 ≤ 16)) = decide (n < 16) := by
        rw [decide_eq_true (show 1 ≤ n + 1 by omega), Bool.true_and]
        exact decide_eq_decide.2 (by omega)
      rw [e] at this
      exact this
  intro d
  induction d with
  | zero =>
    intro p n m h1 h2 h3 h4 h5 h6
    obtain rfl : p = s.size := by omega
    exact last n m h5 h6
  | succ d ih =>
    intro p n m h1 h2 h3 h4 h5 h6
    by_cases hp : p = s.size
    · subst hp
      exact last n m h5 h6
    · have hps : p < s.size := by omega
      obtain ⟨i1, i2, i3, i4, i5⟩ := ne_inv hs hps h3 h4 h5
      have hde : Utf8.decode (s ++ ⟨#[x]⟩) p = Utf8.decode s p := decode_agree s _ p i4 i3 (by omega) i2 (fun q _ h => get_app s _ q (by omega))
      have h7 : WE s (p + (Utf8.decode s p).2) (n + 1) m := by
        obtain ⟨w, hw, _⟩ := width_loop s hs s.size (p + (Utf8.decode s p).2) (n + 1) (by omega) i3 (by omega) (by omega)
        have := ev_unique h6 (we_step hps h3 (by omega) hw)
        rw [← this] at hw
        exact hw
      obtain ⟨j1, j2, j3, j4⟩ := ih (p + (Utf8.decode s p).2) (n + 1) m (by omega) i3 (by omega) (by omega) i5 h7
      refine ⟨ne_step (by omega) ?_ h3 (by omega) (by rw [hde]; exact j1), by omega, j3, j4⟩
      unfold bd at i1 ⊢
      rw [hde]
      exact i1
/-- From a place, by runes, to another. -/
inductive Rch (s : ByteArray) (q : Nat) : Nat → Prop
  | refl : Rch s q q
  | step {p : Nat} : p < s.size → Rch s q (p + (Utf8.decode s p).2) → Rch s q p
theorem rch_snoc {s : ByteArray} {q p : Nat} (h : Rch s q p) (hq : q < s.size) : Rch s (q + (Utf8.decode s q).2) p := by
  induction h with
  | refl => exact .step hq .refl
  | step hp _ ih => exact .step hp ih
theorem rch_of {s : ByteArray} {p : Nat} (h : atlaslaw01_WordsParts.Bnd s p) : Rch s p 0 := by
  induction h with
  | zero => exact .refl
  | step _ hp ih => exact rch_snoc ih hp
theorem rch_le {s : ByteArray} {q p : Nat} (h : Rch s q p) : p ≤ q := by
  induction h with
  | refl => exact Nat.le_refl _
  | step _ _ ih => omega
theorem part_ne (s : ByteArray) (q : Nat) (hs : s.size ≤ 140737488351232) (hq : q < s.size) (hw : ∃ m : Int, m ≤ 16 ∧ ∀ (p : Nat) (n : Int), 0 ≤ n → n ≤ (p : Int) → p ≤ s.size → NE s p n true → n ≤ m) {p : Nat} (h : Rch s q p) : ∀ n : Int, 0 ≤ n → n ≤ p → (p = q → 1 ≤ n) → NE s p n true → NE (s.extract 0 q) p n true := by
  have hz : (s.extract 0 q).size = q := by simp; omega
  induction h with
  | refl =>
    intro n h0 h1 h2 h3
    obtain ⟨m, hm, hle⟩ := hw
    have := hle q n h0 h1 (by omega) h3
    have he := ne_end (s := s.extract 0 q) (p := q) (n := n) (by omega)
    rw [decide_eq_true (h2 rfl), decide_eq_true (show n ≤ 16 by omega)] at he
    exact he
  | @step p hp hr ih =>
    intro n h0 h1 h2 h3
    obtain ⟨i1, i2, i3, i4, i5⟩ := ne_inv hs hp h0 h1 h3
    have hle := rch_le hr
    have hde : Utf8.decode (s.extract 0 q) p = Utf8.decode s p := decode_agree s _ p i4 i3 (by omega) i2 (fun j _ hj => get_ext s q j (by omega) (by omega))
    refine ne_step (by omega) ?_ h0 (by omega) (by rw [hde]; exact ih (n + 1) (by omega) (by omega) (fun _ => by omega) i5)
    unfold bd at i1 ⊢
    rw [hde]
    exact i1
theorem le16 (s : ByteArray) (hs : s.size ≤ 140737488351232) : ∃ m : Int, m ≤ 16 ∧ ∀ (p : Nat) (n : Int), 0 ≤ n → n ≤ (p : Int) → p ≤ s.size → NE s p n true → n ≤ m := by
  refine ⟨16, Int.le_refl _, fun p n h0 h1 h2 h3 => ?_⟩
  obtain ⟨m, hm, _⟩ := width_loop s hs s.size p n (by omega) h2 h0 h1
  have := more_ne s 55 hs (fun t p h => by rw [decode_dec, Nat.add_zero, h]; rfl) (fun n hn => by
    have : n ≠ 0 := by omega
    simp [words_Name.bad, this]) s.size p n m (by omega) h2 h0 h1 h3 hm
  omega
theorem ev_all {N : Nat} {P : Nat → Prop} {g : Nat → Nat → Option Bool} (h : ∀ p, p < N → P p → Ev (fun k => g p k) true) : ∃ K, ∀ k, K ≤ k → ∀ p, p < N → P p → g p k = some true := by
  induction N with
  | zero => exact ⟨0, fun k _ p hp => absurd hp (Nat.not_lt_zero p)⟩
  | succ N ih =>
    obtain ⟨K, hK⟩ := ih (fun p hp => h p (by omega))
    by_cases hP : P N
    · obtain ⟨L, hL⟩ := h N (Nat.lt_succ_self N) hP
      refine ⟨max K L, fun k hk p hp hpp => ?_⟩
      by_cases e : p = N
      · subst e
        exact hL k (by omega)
      · exact hK k (by omega) p (by omega) hpp
    · refine ⟨K, fun k hk p hp hpp => ?_⟩
      by_cases e : p = N
      · subst e
        exact absurd hpp hP
      · exact hK k hk p (by omega) hpp
theorem dg55 (t : ByteArray) (p : Nat) (h : t.get! p = 55) : Utf8.decode t p = ((55 : UInt8).toNat, 1) := by rw [decode_dec, Nat.add_zero, h]; rfl
theorem dg95 (t : ByteArray) (p : Nat) (h : t.get! p = 95) : Utf8.decode t p = ((95 : UInt8).toNat, 1) := by rw [decode_dec, Nat.add_zero, h]; rfl
theorem XWordsParts (a0 : ByteArray) (w0 : a0.size ≤ 140737488351232) : ∃ k, atlaslaw01_WordsParts.f k a0 = some true := by
  have al : Ev (fun k => atlaslaw01_alive.f k) true := Ev.of (fun k => atlaslaw01_alive.mono k) (k := 40) (by decide +kernel)
  have ascii : ∀ x : UInt8, x.toNat < 128 → ∀ (t : ByteArray) (p : Nat), t.get! p = x → Utf8.decode t p = (x.toNat, 1) := fun x hx t p h => by
    rw [decode_dec, Nat.add_zero, h]
    unfold dec
    rw [if_pos hx]
  have n45 : NE (a0 ++ ⟨#[45]⟩) 0 0 false := stop_false a0 45 w0 (by decide) (fun t p h => ⟨45, by rw [ascii 45 (by decide) t p h]; rfl, by decide, by decide, by decide⟩) a0.size 0 0 (by omega) (by omega) (by omega) (by omega)
  obtain ⟨b, hb⟩ := ne_some a0 (by omega) 0 0 (by omega) (by omega) (by omega) w0
  cases b with
  | false =>
    obtain ⟨K1, k1⟩ := al
    obtain ⟨K2, k2⟩ := hb
    obtain ⟨K3, k3⟩ := n45
    refine ⟨max K1 (max K2 K3), ?_⟩
    unfold atlaslaw01_WordsParts.f
    rw [if_pos]
    exact ⟨k1 _ (by omega), w0, Or.inl ⟨k2 _ (by omega), k3 _ (by omega)⟩⟩
  | true =>
    obtain ⟨m, hm, _⟩ := width_loop a0 w0 a0.size 0 0 (by omega) (by omega) (by omega) (by omega)
    obtain ⟨m55, l1, l2, l3⟩ := more_ne a0 55 w0 dg55 (fun n hn => by
      have : n ≠ 0 := by omega
      simp [words_Name.bad, this]) a0.size 0 0 m (by omega) (by omega) (by omega) (by omega) hb hm
    obtain ⟨m95, _, _, _⟩ := more_ne a0 95 w0 dg95 (fun n hn => by
      have : n ≠ 0 := by omega
      simp [words_Name.bad, this]) a0.size 0 0 m (by omega) (by omega) (by omega) (by omega) hb hm
    have n32 : NE (a0 ++ ⟨#[32]⟩) 0 0 false := stop_false a0 32 w0 (by decide) (fun t p h => ⟨32, by rw [ascii 32 (by decide) t p h]; rfl, by decide, by decide, by decide⟩) a0.size 0 0 (by omega) (by omega) (by omega) (by omega)
    have n255 : NE (a0 ++ ⟨#[255]⟩) 0 0 false := stop_false a0 255 w0 (by decide) (fun t p h => ⟨65533, by rw [decode_dec, Nat.add_zero, h]; unfold dec; simp; rfl, by decide, by decide, by decide⟩) a0.size 0 0 (by omega) (by omega) (by omega) (by omega)
    have n7 : NE (⟨#[55]⟩ ++ a0) 0 0 false := by
      have g0 : (⟨#[55]⟩ ++ a0 : ByteArray).get! 0 = 55 := get_app ⟨#[55]⟩ a0 0 (by decide)
      refine ne_bad (by rw [ByteArray.size_append]; exact Nat.lt_of_lt_of_le Nat.zero_lt_one (Nat.le_add_right 1 _)) ?_
      unfold bd
      rw [dg55 _ 0 g0]
      decide
    have parts : ∀ p, p < a0.size → (atlaslaw01_WordsParts.Bnd a0 p ∧ 0 < p) → Ev (fun k => words_Name.f k (a0.extract 0 p)) true := fun p hp hq =>
      part_ne a0 p w0 hp (le16 a0 w0) (rch_of hq.1) 0 (by omega) (by omega) (fun e => by omega) hb
    obtain ⟨K1, k1⟩ := al
    obtain ⟨K2, k2⟩ := hb
    obtain ⟨K3, k3⟩ := hm
    obtain ⟨K4, k4⟩ := m55
    obtain ⟨K5, k5⟩ := m95
    obtain ⟨K6, k6⟩ := n255
    obtain ⟨K7, k7⟩ := n32
    obtain ⟨K8, k8⟩ := n45
    obtain ⟨K9, k9⟩ := n7
    obtain ⟨K10, k10⟩ := ev_all parts
    refine ⟨K1 + K2 + K3 + K4 + K5 + K6 + K7 + K8 + K9 + K10, ?_⟩
    unfold atlaslaw01_WordsParts.f
    rw [if_pos]
    exact ⟨k1 _ (by omega), w0, Or.inr ⟨k2 _ (by omega), m, k3 _ (by omega), l2, l3, k4 _ (by omega), k5 _ (by omega), k6 _ (by omega), k7 _ (by omega), k8 _ (by omega), k9 _ (by omega), fun p h1 h2 h3 => k10 _ (by omega) p h3 ⟨h1, h2⟩⟩⟩
end Go.Proofs.Ytihjlkdobdffjaa.Pure
