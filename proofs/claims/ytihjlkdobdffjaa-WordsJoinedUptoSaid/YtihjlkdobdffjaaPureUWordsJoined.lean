/-
  The words of a line, joined by single spaces, are its words again; none is empty, none holds a blank of one byte or a #; blanks ahead and behind, and what stands behind a #, change nothing.
  Conditions: the line's bulk is at most 1048576 (the row's own bound).
-/
import Derived.Test.YtihjlkdobdffjaaS10
import Derived.Lib.OthersKept
set_option linter.unusedSimpArgs false
set_option linter.unusedVariables false
namespace Go.Proofs.Ytihjlkdobdffjaa.Pure
open Go.RowKit Go.Proofs.Ytihjlkdobdffjaa.S Go.Proofs.YtihjlkdobdffjaaW.PrintWords Go.Proofs.YtihjlkdobdffjaaW.PrintLast

/-- The decoding, of four bytes and three marks. -/
def dec (b0 b1 b2 b3 : Nat) (c1 c2 c3 : Bool) : Nat × Nat :=
  if b0 < 0x80 then (b0, 1)
  else if b0 / 32 == 6 && c1 then
    let c := (b0 % 32) * 64 + b1 % 64
    if c ≥ 0x80 then (c, 2) else (Utf8.runeError, 1)
  else if b0 / 16 == 14 && c1 && c2 then
    let c := (b0 % 16) * 4096 + (b1 % 64) * 64 + b2 % 64
    if c ≥ 0x800 && Utf8.valid c then (c, 3) else (Utf8.runeError, 1)
  else if b0 / 8 == 30 && c1 && c2 && c3 then
    let c := (b0 % 8) * 262144 + (b1 % 64) * 4096 + (b2 % 64) * 64 + b3 % 64
    if c ≥ 0x10000 && Utf8.valid c then (c, 4) else (Utf8.runeError, 1)
  else (Utf8.runeError, 1)
theorem get_out (s : ByteArray) (p : Nat) (h : ¬ p < s.size) : s.get! p = 0 := by
  unfold ByteArray.get!
  cases s with | mk a => exact getElem!_neg a p h
theorem flag_eq (s : ByteArray) (p : Nat) : (decide (p < s.size) && (s.get! p).toNat / 64 == 2) = ((s.get! p).toNat / 64 == 2) := by
  by_cases h : p < s.size
  · rw [decide_eq_true h, Bool.true_and]
  · rw [get_out s p h, decide_eq_false h]
    rfl
theorem decode_dec (s : ByteArray) (p : Nat) : Utf8.decode s p = dec (s.get! (p + 0)).toNat (s.get! (p + 1)).toNat (s.get! (p + 2)).toNat (s.get! (p + 3)).toNat
    ((s.get! (p + 1)).toNat / 64 == 2) ((s.get! (p + 2)).toNat / 64 == 2) ((s.get! (p + 3)).toNat / 64 == 2) := by
  rw [← flag_eq s (p + 1), ← flag_eq s (p + 2), ← flag_eq s (p + 3)]
  rfl
theorem dec_ctx {b0 b1 b2 b3 e1 e2 e3 : Nat} {c1 c2 c3 d1 d2 d3 : Bool} (h : (c1 = false ∧ d1 = false) ∨ (c1 = d1 ∧ b1 = e1 ∧ ((c2 = false ∧ d2 = false) ∨ (c2 = d2 ∧ b2 = e2 ∧ ((c3 = false ∧ d3 = false) ∨ (c3 = d3 ∧ b3 = e3)))))) : dec b0 b1 b2 b3 c1 c2 c3 = dec b0 e1 e2 e3 d1 d2 d3 := by
  rcases h with ⟨rfl, rfl⟩ | ⟨rfl, rfl, ⟨rfl, rfl⟩ | ⟨rfl, rfl, ⟨rfl, rfl⟩ | ⟨rfl, rfl⟩⟩⟩
  · simp only [dec, Bool.and_false, Bool.false_and, Bool.false_eq_true, if_false]
  · simp only [dec, Bool.and_false, Bool.false_and, Bool.false_eq_true, if_false]
  · simp only [dec, Bool.and_false, Bool.false_and, Bool.false_eq_true, if_false]
  · rfl
/-- Does the byte go on in no rune? -/
def nc (x : UInt8) : Prop := x.toNat / 64 ≠ 2
instance (x : UInt8) : Decidable (nc x) := inferInstanceAs (Decidable (_ ≠ _))
theorem nc0 : nc 0 := by decide
theorem nc_f {x : UInt8} (h : nc x) : (x.toNat / 64 == 2) = false := by simpa [nc] using h
/-- Two places that agree up to a byte that goes on in no rune. -/
theorem decode_ctx (s t : ByteArray) (p q n : Nat) (hn : 0 < n) (he : ∀ i, i < n → s.get! (p + i) = t.get! (q + i)) (hs : nc (s.get! (p + n))) (ht : nc (t.get! (q + n))) : Utf8.decode s p = Utf8.decode t q := by
  rw [decode_dec, decode_dec, he 0 hn]
  apply dec_ctx
  by_cases h1 : n = 1
  · subst h1
    exact .inl ⟨nc_f hs, nc_f ht⟩
  · rw [he 1 (by omega)]
    refine .inr ⟨rfl, rfl, ?_⟩
    by_cases h2 : n = 2
    · subst h2
      exact .inl ⟨nc_f hs, nc_f ht⟩
    · rw [he 2 (by omega)]
      refine .inr ⟨rfl, rfl, ?_⟩
      by_cases h3 : n = 3
      · subst h3
        exact .inl ⟨nc_f hs, nc_f ht⟩
      · rw [he 3 (by omega)]
        exact .inr ⟨rfl, rfl⟩
theorem decode_stop (t : ByteArray) (p q : Nat) (hq : nc (t.get! q)) (h : p < q) : p + (Utf8.decode t p).2 ≤ q := by
  rw [decode_dec]
  have e : ∀ j, p + j = q → ((t.get! (p + j)).toNat / 64 == 2) = false := fun j hj => by
    rw [hj]
    exact nc_f hq
  unfold dec
  split
  · simp only; omega
  · split
    · rename_i _ h2
      have hne : p + 1 ≠ q := fun hj => by rw [e 1 hj] at h2; simp at h2
      simp only
      split <;> simp only <;> omega
    · split
      · rename_i _ _ h2
        have hne : p + 1 ≠ q := fun hj => by rw [e 1 hj] at h2; simp at h2
        have hne2 : p + 2 ≠ q := fun hj => by rw [e 2 hj] at h2; simp at h2
        simp only
        split <;> simp only <;> omega
      · split
        · rename_i _ _ _ h2
          have hne : p + 1 ≠ q := fun hj => by rw [e 1 hj] at h2; simp at h2
          have hne2 : p + 2 ≠ q := fun hj => by rw [e 2 hj] at h2; simp at h2
          have hne3 : p + 3 ≠ q := fun hj => by rw [e 3 hj] at h2; simp at h2
          simp only
          split <;> simp only <;> omega
        · simp only; omega
theorem width_pos (t : ByteArray) (p : Nat) : 1 ≤ (Utf8.decode t p).2 := by
  rw [decode_dec]
  unfold dec
  simp only
  repeat' split
  all_goals simp
theorem width_in (s : ByteArray) (p : Nat) (h : p < s.size) : p + (Utf8.decode s p).2 ≤ s.size :=
  decode_stop s p s.size (by rw [get_out s s.size (Nat.lt_irrefl _)]; exact nc0) h
theorem ascii (t : ByteArray) (p : Nat) (x : UInt8) (hx : x.toNat < 128) (h : t.get! p = x) : Utf8.decode t p = (x.toNat, 1) := by
  rw [decode_dec, Nat.add_zero, h]
  unfold dec
  rw [if_pos hx]
theorem first_nc (s : ByteArray) (p : Nat) (h : (Utf8.decode s p).1 ≠ 65533) : nc (s.get! p) := by
  intro hc
  apply h
  rw [decode_dec, Nat.add_zero]
  generalize (s.get! p).toNat = b0 at hc
  have h1 : ¬ b0 < 128 := by omega
  have a1 : (b0 / 32 == 6) = false := by simp; omega
  have a2 : (b0 / 16 == 14) = false := by simp; omega
  have a3 : (b0 / 8 == 30) = false := by simp; omega
  simp only [dec, if_neg h1, a1, a2, a3, Bool.false_and, Bool.false_eq_true, if_false]
  rfl

/-- Is the rune a blank? -/
def blk (r : Int) : Bool := r == 9 || r == 13 || r == 32 || r == 160 || r == 8195 || r == 12288
theorem blank_eq (r : Int) : words_blank.f r = some (blk r) := by
  unfold words_blank.f blk
  (repeat' split) <;> simp_all
def rn (s : ByteArray) (p : Nat) : Nat := (Utf8.decode s p).1
def wd (s : ByteArray) (p : Nat) : Nat := (Utf8.decode s p).2

theorem get_app (s t : ByteArray) (p : Nat) (h : p < s.size) : (s ++ t).get! p = s.get! p := by
  rw [show (s ++ t).get! p = (s ++ t)[p]'(by rw [ByteArray.size_append]; omega) from get_at (s ++ t) p (by rw [ByteArray.size_append]; omega), show s.get! p = s[p]'h from get_at s p h]
  exact ByteArray.getElem_append_left h
theorem get_app2 (s t : ByteArray) (p : Nat) (h : p < t.size) : (s ++ t).get! (s.size + p) = t.get! p := by
  rw [show (s ++ t).get! (s.size + p) = (s ++ t)[s.size + p]'(by rw [ByteArray.size_append]; omega) from get_at (s ++ t) (s.size + p) (by rw [ByteArray.size_append]; omega), show t.get! p = t[p]'h from get_at t p h]
  rw [ByteArray.getElem_append_right (by omega)]
  simp
theorem get_ext (s : ByteArray) (b n p : Nat) (hn : n ≤ s.size) (h : b + p < n) : (s.extract b n).get! p = s.get! (b + p) := by
  rw [show (s.extract b n).get! p = (s.extract b n)[p]'(by simp; omega) from get_at (s.extract b n) p (by simp; omega), show s.get! (b + p) = s[b + p]'(by omega) from get_at s (b + p) (by omega)]
  simp [ByteArray.getElem_extract]
theorem eq_get {s t : ByteArray} (h : s.size = t.size) (he : ∀ i, i < t.size → s.get! i = t.get! i) : s = t := by
  apply ByteArray.ext
  apply Array.ext
  · exact h
  · intro i h1 h2
    have := he i h2
    rw [show s.get! i = s[i]'h1 from get_at s i h1, show t.get! i = t[i]'h2 from get_at t i h2] at this
    exact this
theorem ext_size (s : ByteArray) (b p : Nat) (hp : p ≤ s.size) : (s.extract b p).size = p - b := by
  simp
  omega
theorem ext_eq (s w : ByteArray) (p : Nat) (he : ∀ i, i < w.size → s.get! (p + i) = w.get! i) (hs : p + w.size ≤ s.size) : s.extract p (p + w.size) = w := by
  apply eq_get
  · rw [ext_size s _ _ hs]
    omega
  · intro i hi
    rw [get_ext s p (p + w.size) i hs (by omega)]
    exact he i hi

/-- From a place to another, by runes that are no blanks and no #. -/
inductive Path (s : ByteArray) (b : Nat) : Nat → Prop
  | refl : Path s b b
  | snoc {p : Nat} : Path s b p → p < s.size → blk (rn s p : Int) = false → rn s p ≠ 35 → Path s b (p + wd s p)
theorem path_le {s : ByteArray} {b p : Nat} (h : Path s b p) : b ≤ p := by
  induction h with
  | refl => exact Nat.le_refl _
  | snoc _ _ _ _ ih => omega
def Good (w : ByteArray) : Prop := 0 < w.size ∧ w.size ≤ 1048576 ∧ Path w 0 w.size
theorem path_ext {s : ByteArray} {b p q : Nat} (hp : p ≤ s.size) (hnc : nc (s.get! p)) (h : Path s b q) : q ≤ p → Path (s.extract b p) 0 (q - b) := by
  induction h with
  | refl =>
    intro _
    rw [Nat.sub_self]
    exact .refl
  | @snoc q hq hlt hb h35 ih =>
    intro hqp
    have hw : 1 ≤ wd s q := width_pos s q
    have hbq := path_le hq
    have hz := ext_size s b p hp
    have hd : Utf8.decode (s.extract b p) (q - b) = Utf8.decode s q := by
      refine decode_ctx (s.extract b p) s (q - b) q (p - q) (by omega) (fun i hi => ?_) ?_ ?_
      · rw [get_ext s b p (q - b + i) hp (by omega)]
        congr 1
        omega
      · rw [get_out _ _ (by omega)]
        exact nc0
      · rw [show q + (p - q) = p by omega]
        exact hnc
    have h1 := ih (by omega)
    have e : q + wd s q - b = q - b + wd (s.extract b p) (q - b) := by
      unfold wd
      rw [hd]
      unfold wd at hw
      omega
    rw [e]
    refine .snoc h1 (by omega) ?_ ?_
    · unfold rn
      rw [hd]
      exact hb
    · unfold rn
      rw [hd]
      exact h35
theorem good_ext {s : ByteArray} {b p : Nat} (hs : s.size ≤ 1048576) (hp : p ≤ s.size) (hnc : nc (s.get! p)) (hb : b < p) (h : Path s b p) : Good (s.extract b p) := by
  have hz := ext_size s b p hp
  refine ⟨by omega, by omega, ?_⟩
  have := path_ext hp hnc h (Nat.le_refl _)
  rw [hz]
  exact this
/-- No byte of a word is a blank or a #. -/
theorem path_bytes {w : ByteArray} {i : Nat} (h : Path w 0 i) : ∀ j, j < i → (w.get! j).toNat ≠ 32 ∧ (w.get! j).toNat ≠ 9 ∧ (w.get! j).toNat ≠ 13 ∧ (w.get! j).toNat ≠ 35 := by
  induction h with
  | refl => intro j hj; omega
  | @snoc p hq hlt hb h35 ih =>
    intro j hj
    by_cases h1 : j < p
    · exact ih j h1
    · by_cases h2 : j = p
      · subst h2
        by_cases h8 : (w.get! j).toNat < 128
        · have hd := ascii w j _ h8 rfl
          unfold rn at hb h35
          rw [hd] at hb h35
          simp only [blk, Bool.or_eq_false_iff, beq_eq_false_iff_ne] at hb
          omega
        · omega
      · have : ¬ nc (w.get! j) := fun hn => by
          have := decode_stop w p j hn (by omega)
          unfold wd at hj
          omega
        have h64 : (w.get! j).toNat / 64 = 2 := by
          by_cases h : (w.get! j).toNat / 64 = 2
          · exact h
          · exact absurd h this
        omega

/-- The loop over a line, from a place on. -/
def FE (s : ByteArray) (l : List ByteArray) (b : Int) (p : Nat) (r : List ByteArray) : Prop := Ev (fun k => words_Fields.l0 k s l b p) r
theorem fe_end (s : ByteArray) (l : List ByteArray) : FE s l (-1) s.size l := by
  refine Ev.step (fun k => rfl) ?_
  simp only [words_Fields.l0, if_neg (Nat.lt_irrefl s.size)]
  exact Ev.now _
theorem fin_push (s : ByteArray) (l : List ByteArray) (b p : Nat) (hl : l.length < 8796093022208) (hb : b ≤ p) (hp : p ≤ s.size) : words_Fields.fin s l (b : Int) (p : Int) = some (l ++ [s.extract b p]) := by
  unfold words_Fields.fin
  rw [if_pos (show (b : Int) ≥ 0 by omega), if_pos (show (b : Int) ≤ (p : Int) by omega), if_pos (show (p : Int) ≤ (s.size : Int) by omega), if_pos hl, Int.toNat_natCast, Int.toNat_natCast]
theorem fe_end_push (s : ByteArray) (l : List ByteArray) (b : Nat) (hl : l.length < 8796093022208) (hb : b ≤ s.size) : FE s l (b : Int) s.size (l ++ [s.extract b s.size]) := by
  refine Ev.step (fun k => rfl) ?_
  simp only [words_Fields.l0, if_neg (Nat.lt_irrefl s.size), fin_push s l b s.size hl hb (Nat.le_refl _)]
  exact Ev.now _
theorem fe_hash (s : ByteArray) (l : List ByteArray) (p : Nat) (hp : p < s.size) (h : rn s p = 35) : FE s l (-1) p l := by
  refine Ev.step (fun k => rfl) ?_
  unfold rn at h
  simp only [words_Fields.l0, if_pos hp, h, if_pos (show ((35 : Nat) : Int) = 35 from rfl)]
  exact Ev.now _
theorem fe_hash_push (s : ByteArray) (l : List ByteArray) (b p : Nat) (hp : p < s.size) (h : rn s p = 35) (hl : l.length < 8796093022208) (hb : b ≤ p) : FE s l (b : Int) p (l ++ [s.extract b p]) := by
  refine Ev.step (fun k => rfl) ?_
  unfold rn at h
  simp only [words_Fields.l0, if_pos hp, h, if_pos (show ((35 : Nat) : Int) = 35 from rfl), fin_push s l b p hl hb (Nat.le_of_lt hp)]
  exact Ev.now _
theorem blk35 {c : Nat} (h : blk (c : Int) = true) : ¬ (c : Int) = 35 := by
  intro e
  rw [e] at h
  revert h
  decide
theorem fe_blank {s : ByteArray} {l r : List ByteArray} {p : Nat} (hp : p < s.size) (h : blk (rn s p : Int) = true) (k : FE s l (-1) (p + wd s p) r) : FE s l (-1) p r := by
  refine Ev.step (fun k => rfl) ?_
  have h5 := blk35 h
  unfold rn at h h5
  simp only [words_Fields.l0, if_pos hp, if_neg h5, blank_eq, h, Option.bind_some, if_true, if_neg (show ¬ (-1 : Int) ≥ 0 by omega)]
  exact k
theorem fe_blank_push {s : ByteArray} {l r : List ByteArray} {b p : Nat} (hp : p < s.size) (h : blk (rn s p : Int) = true) (hb : b ≤ p) (hl : l.length < 8796093022208) (k : FE s (l ++ [s.extract b p]) (-1) (p + wd s p) r) : FE s l (b : Int) p r := by
  refine Ev.step (fun k => rfl) ?_
  have h5 := blk35 h
  unfold rn at h h5
  simp only [words_Fields.l0, if_pos hp, if_neg h5, blank_eq, h, Option.bind_some, if_true, if_pos (show (b : Int) ≥ 0 by omega), if_pos (show (b : Int) ≤ (p : Int) by omega), if_pos hl, Int.toNat_natCast]
  exact k
theorem fe_new {s : ByteArray} {l r : List ByteArray} {p : Nat} (hp : p < s.size) (h : blk (rn s p : Int) = false) (h35 : rn s p ≠ 35) (k : FE s l (p : Int) (p + wd s p) r) : FE s l (-1) p r := by
  refine Ev.step (fun k => rfl) ?_
  have h5 : ¬ (rn s p : Int) = 35 := by omega
  unfold rn at h h5
  simp only [words_Fields.l0, if_pos hp, if_neg h5, blank_eq, h, Option.bind_some, Bool.false_eq_true, if_false, if_pos (show (-1 : Int) < 0 by omega)]
  exact k
theorem fe_in {s : ByteArray} {l r : List ByteArray} {b p : Nat} (hp : p < s.size) (h : blk (rn s p : Int) = false) (h35 : rn s p ≠ 35) (k : FE s l (b : Int) (p + wd s p) r) : FE s l (b : Int) p r := by
  refine Ev.step (fun k => rfl) ?_
  have h5 : ¬ (rn s p : Int) = 35 := by omega
  unfold rn at h h5
  simp only [words_Fields.l0, if_pos hp, if_neg h5, blank_eq, h, Option.bind_some, Bool.false_eq_true, if_false, if_neg (show ¬ (b : Int) < 0 by omega)]
  exact k
/-- A word that stands at a place is read as one. -/
theorem word_run {s w : ByteArray} {l r : List ByteArray} {pos : Nat} (he : ∀ i, i < w.size → s.get! (pos + i) = w.get! i) (hs : pos + w.size ≤ s.size) (hnc : nc (s.get! (pos + w.size))) {i : Nat} (h : Path w 0 i) :
    i ≤ w.size → FE s l (if i = 0 then -1 else (pos : Int)) (pos + i) r → FE s l (-1) pos r := by
  induction h with
  | refl => exact fun _ k => k
  | @snoc i hq hlt hb h35 ih =>
    intro hi k
    have hw : 1 ≤ wd w i := width_pos w i
    have hd : Utf8.decode s (pos + i) = Utf8.decode w i := by
      refine decode_ctx s w (pos + i) i (w.size - i) (by omega) (fun j hj => ?_) ?_ ?_
      · rw [show pos + i + j = pos + (i + j) by omega]
        exact he (i + j) (by omega)
      · rw [show pos + i + (w.size - i) = pos + w.size by omega]
        exact hnc
      · rw [get_out _ _ (by omega)]
        exact nc0
    have hr : rn s (pos + i) = rn w i := by unfold rn; rw [hd]
    have hwd : wd s (pos + i) = wd w i := by unfold wd; rw [hd]
    refine ih (by omega) ?_
    rw [if_neg (by omega), ← Nat.add_assoc] at k
    by_cases h0 : i = 0
    · subst h0
      rw [if_pos rfl]
      refine fe_new (by omega) (by rw [hr]; exact hb) (by rw [hr]; exact h35) ?_
      rw [hwd]
      exact k
    · rw [if_neg h0]
      refine fe_in (by omega) (by rw [hr]; exact hb) (by rw [hr]; exact h35) ?_
      rw [hwd]
      exact k

/-- What is open at a place, and what is told: with the open word these are the words. -/
def Open (s : ByteArray) (e : Nat) (ws l : List ByteArray) (b : Int) : Prop := (l = ws ∧ b = -1) ∨ ∃ b0 : Nat, b = (b0 : Int) ∧ b0 ≤ e ∧ l ++ [s.extract b0 e] = ws
theorem open_blank {s : ByteArray} {e : Nat} {ws l r : List ByteArray} {b : Int} (h : Open s e ws l b) (hn : ws.length ≤ 8796093022208) (hp : e < s.size) (hb : blk (rn s e : Int) = true) (k : FE s ws (-1) (e + wd s e) r) : FE s l b e r := by
  rcases h with ⟨rfl, rfl⟩ | ⟨b0, rfl, h1, rfl⟩
  · exact fe_blank hp hb k
  · rw [List.length_append] at hn
    simp only [List.length_cons, List.length_nil] at hn
    exact fe_blank_push hp hb h1 (by omega) k
theorem open_end {s : ByteArray} {ws l : List ByteArray} {b : Int} (h : Open s s.size ws l b) (hn : ws.length ≤ 8796093022208) : FE s l b s.size ws := by
  rcases h with ⟨rfl, rfl⟩ | ⟨b0, rfl, h1, rfl⟩
  · exact fe_end s _
  · rw [List.length_append] at hn
    simp only [List.length_cons, List.length_nil] at hn
    exact fe_end_push s l b0 (by omega) h1
/-- A text that tells these words, wherever it stands. -/
def Tells (ws : List ByteArray) (T : ByteArray) : Prop := ∀ (s : ByteArray) (pos : Nat), (∀ i, i < T.size → s.get! (pos + i) = T.get! i) → pos + T.size ≤ s.size → nc (s.get! (pos + T.size)) → ∀ r,
  (∀ l b, Open s (pos + T.size) ws l b → FE s l b (pos + T.size) r) → FE s [] (-1) pos r
theorem tells_nil : Tells [] (⟨#[]⟩ : ByteArray) := fun s pos _ _ _ r h => h [] (-1) (.inl ⟨rfl, rfl⟩)
theorem tells_one {w : ByteArray} (hw : Good w) : Tells [w] w := by
  intro s pos he hs hnc r h
  refine word_run he hs hnc hw.2.2 (Nat.le_refl _) ?_
  have := hw.1
  rw [if_neg (by omega)]
  exact h [] pos (.inr ⟨pos, rfl, by omega, by rw [ext_eq s w pos he hs]; rfl⟩)
theorem blk32 {s : ByteArray} {p : Nat} (h : s.get! p = 32) : blk (rn s p : Int) = true ∧ wd s p = 1 := by
  unfold rn wd
  rw [ascii s p 32 (by decide) h]
  exact ⟨rfl, rfl⟩
theorem blk9 {s : ByteArray} {p : Nat} (h : s.get! p = 9) : blk (rn s p : Int) = true ∧ wd s p = 1 := by
  unfold rn wd
  rw [ascii s p 9 (by decide) h]
  exact ⟨rfl, rfl⟩
theorem tells_more {ws : List ByteArray} {T w : ByteArray} (h : Tells ws T) (hw : Good w) (hn : ws.length ≤ 8796093022208) : Tells (ws ++ [w]) ((T ++ (⟨#[32]⟩ : ByteArray)) ++ w) := by
  intro s pos he hs hnc r hr
  have z1 : (T ++ (⟨#[32]⟩ : ByteArray)).size = T.size + 1 := by rw [ByteArray.size_append]; rfl
  have z2 : ((T ++ (⟨#[32]⟩ : ByteArray)) ++ w).size = T.size + 1 + w.size := by rw [ByteArray.size_append, z1]
  rw [z2] at he hs hnc hr
  have g : s.get! (pos + T.size) = 32 := by
    rw [he T.size (by omega), get_app _ _ _ (by omega)]
    exact get_app2 T (⟨#[32]⟩ : ByteArray) 0 (by decide)
  have hwz := hw.1
  refine h s pos (fun i hi => ?_) (by omega) (by rw [g]; decide) r (fun l b ho => ?_)
  · rw [he i (by omega), get_app _ _ _ (by omega), get_app _ _ _ (by omega)]
  · obtain ⟨g1, g2⟩ := blk32 g
    refine open_blank ho hn (by omega) g1 ?_
    rw [g2]
    have he2 : ∀ i, i < w.size → s.get! (pos + T.size + 1 + i) = w.get! i := fun i hi => by
      rw [show pos + T.size + 1 + i = pos + (T.size + 1 + i) by omega, he _ (by omega)]
      have := get_app2 (T ++ (⟨#[32]⟩ : ByteArray)) w i hi
      rw [z1] at this
      exact this
    have e : pos + (T.size + 1 + w.size) = pos + T.size + 1 + w.size := by omega
    rw [e] at hnc hr
    refine word_run he2 (by omega) hnc hw.2.2 (Nat.le_refl _) ?_
    rw [if_neg (by omega)]
    exact hr ws _ (.inr ⟨pos + T.size + 1, rfl, by omega, by rw [ext_eq s w _ he2 (by omega)]⟩)

theorem told_self {ws : List ByteArray} {T : ByteArray} (h : Tells ws T) (hn : ws.length ≤ 8796093022208) : FE T [] (-1) 0 ws :=
  h T 0 (fun i _ => by rw [Nat.zero_add]) (by omega) (by rw [get_out _ _ (by omega)]; exact nc0) ws (fun l b ho => by
    rw [Nat.zero_add] at ho ⊢
    exact open_end ho hn)
theorem told_hash {ws : List ByteArray} {T : ByteArray} (rest : ByteArray) (h : Tells ws T) (hn : ws.length ≤ 8796093022208) : FE ((T ++ (⟨#[32, 35]⟩ : ByteArray)) ++ rest) [] (-1) 0 ws := by
  have z1 : (T ++ (⟨#[32, 35]⟩ : ByteArray)).size = T.size + 2 := by rw [ByteArray.size_append]; rfl
  have z2 : ((T ++ (⟨#[32, 35]⟩ : ByteArray)) ++ rest).size = T.size + 2 + rest.size := by rw [ByteArray.size_append, z1]
  have g : ((T ++ (⟨#[32, 35]⟩ : ByteArray)) ++ rest).get! T.size = 32 := by
    rw [get_app _ _ _ (by omega)]
    exact get_app2 T (⟨#[32, 35]⟩ : ByteArray) 0 (by decide)
  have g' : ((T ++ (⟨#[32, 35]⟩ : ByteArray)) ++ rest).get! (T.size + 1) = 35 := by
    rw [get_app _ _ _ (by omega)]
    exact get_app2 T (⟨#[32, 35]⟩ : ByteArray) 1 (by decide)
  refine h _ 0 (fun i hi => ?_) (by omega) (by rw [Nat.zero_add, g]; decide) ws (fun l b ho => ?_)
  · rw [Nat.zero_add, get_app _ _ _ (by omega), get_app _ _ _ (by omega)]
  · rw [Nat.zero_add] at ho ⊢
    obtain ⟨g1, g2⟩ := blk32 g
    refine open_blank ho hn (by omega) g1 ?_
    rw [g2]
    refine fe_hash _ _ _ (by omega) ?_
    unfold rn
    rw [ascii _ _ 35 (by decide) g']
    rfl
theorem told_blanks {ws : List ByteArray} {T : ByteArray} (h : Tells ws T) (hn : ws.length ≤ 8796093022208) : FE (((⟨#[32, 9]⟩ : ByteArray) ++ T) ++ (⟨#[227, 128, 128, 32]⟩ : ByteArray)) [] (-1) 0 ws := by
  obtain ⟨s, hs⟩ : ∃ s, s = ((⟨#[32, 9]⟩ : ByteArray) ++ T) ++ (⟨#[227, 128, 128, 32]⟩ : ByteArray) := ⟨_, rfl⟩
  have z0 : (⟨#[32, 9]⟩ : ByteArray).size = 2 := rfl
  have z1 : ((⟨#[32, 9]⟩ : ByteArray) ++ T).size = 2 + T.size := by rw [ByteArray.size_append]; rfl
  have z2 : s.size = 2 + T.size + 4 := by rw [hs, ByteArray.size_append, z1]; rfl
  have g0 : s.get! 0 = 32 := by
    rw [hs, get_app _ _ _ (by omega), get_app _ _ _ (by omega)]
    rfl
  have g1 : s.get! 1 = 9 := by
    rw [hs, get_app _ _ _ (by omega), get_app _ _ _ (by omega)]
    rfl
  have gt : ∀ i, i < 4 → s.get! (2 + T.size + i) = (⟨#[227, 128, 128, 32]⟩ : ByteArray).get! i := fun i hi => by
    have := get_app2 ((⟨#[32, 9]⟩ : ByteArray) ++ T) (⟨#[227, 128, 128, 32]⟩ : ByteArray) i hi
    rw [z1, ← hs] at this
    exact this
  have e0 : s.get! (2 + T.size) = 227 := gt 0 (by decide)
  have e1 : s.get! (2 + T.size + 1) = 128 := gt 1 (by decide)
  have e2 : s.get! (2 + T.size + 2) = 128 := gt 2 (by decide)
  have e3 : s.get! (2 + T.size + 3) = 32 := gt 3 (by decide)
  have hd : Utf8.decode s (2 + T.size) = (12288, 3) := by
    rw [decode_dec, Nat.add_zero, e0, e1, e2, e3]
    decide
  rw [← hs]
  obtain ⟨a0, a1⟩ := blk32 g0
  obtain ⟨a2, a3⟩ := blk9 g1
  refine fe_blank (by omega) a0 ?_
  rw [a1, Nat.zero_add]
  refine fe_blank (by omega) a2 ?_
  rw [a3]
  refine h s (1 + 1) (fun i hi => ?_) (by omega) (by rw [show 1 + 1 + T.size = 2 + T.size by omega, e0]; decide) ws (fun l b ho => ?_)
  · rw [hs, get_app _ _ _ (by omega)]
    exact get_app2 (⟨#[32, 9]⟩ : ByteArray) T i hi
  · rw [show 1 + 1 + T.size = 2 + T.size by omega] at ho ⊢
    refine open_blank ho hn (by omega) (by unfold rn; rw [hd]; rfl) ?_
    have hw3 : wd s (2 + T.size) = 3 := by unfold wd; rw [hd]
    rw [hw3]
    obtain ⟨a4, a5⟩ := blk32 e3
    refine fe_blank (by omega) a4 ?_
    rw [a5, show 2 + T.size + 3 + 1 = s.size by omega]
    exact fe_end s ws

/-- The words of any line. -/
theorem line_loop (s : ByteArray) (hn : s.size ≤ 1048576) (d : Nat) : ∀ (p : Nat) (l : List ByteArray) (b : Int), s.size - p ≤ d → p ≤ s.size → l.length ≤ p → (∀ w, w ∈ l → Good w) → (b = -1 ∨ ∃ b0 : Nat, b = (b0 : Int) ∧ b0 < p ∧ Path s b0 p) →
    ∃ r : List ByteArray, FE s l b p r ∧ r.length ≤ s.size + 1 ∧ ∀ w, w ∈ r → Good w := by
  have push : ∀ (p b0 : Nat) (l : List ByteArray), p ≤ s.size → nc (s.get! p) → b0 < p → Path s b0 p → (∀ w, w ∈ l → Good w) → ∀ w, w ∈ l ++ [s.extract b0 p] → Good w := fun p b0 l h1 h2 h3 h4 h5 w hw => by
    rcases List.mem_append.1 hw with h | h
    · exact h5 w h
    · rw [List.mem_singleton] at h
      subst h
      exact good_ext hn h1 h2 h3 h4
  have endd : ∀ (l : List ByteArray) (b : Int), l.length ≤ s.size → (∀ w, w ∈ l → Good w) → (b = -1 ∨ ∃ b0 : Nat, b = (b0 : Int) ∧ b0 < s.size ∧ Path s b0 s.size) → ∃ r : List ByteArray, FE s l b s.size r ∧ r.length ≤ s.size + 1 ∧ ∀ w, w ∈ r → Good w := fun l b h1 h2 h3 => by
    rcases h3 with rfl | ⟨b0, rfl, h4, h5⟩
    · exact ⟨l, fe_end s l, by omega, h2⟩
    · exact ⟨_, fe_end_push s l b0 (by omega) (by omega), by simp; omega, push s.size b0 l (Nat.le_refl _) (by rw [get_out _ _ (Nat.lt_irrefl _)]; exact nc0) h4 h5 h2⟩
  induction d with
  | zero =>
    intro p l b hd hp hl hg hb
    obtain rfl : p = s.size := by omega
    exact endd l b hl hg hb
  | succ d ih =>
    intro p l b hd hp hl hg hb
    by_cases hz : p < s.size
    · have w1 : 1 ≤ wd s p := width_pos s p
      have w2 : p + wd s p ≤ s.size := width_in s p hz
      by_cases h35 : rn s p = 35
      · rcases hb with rfl | ⟨b0, rfl, h4, h5⟩
        · exact ⟨l, fe_hash s l p hz h35, by omega, hg⟩
        · refine ⟨_, fe_hash_push s l b0 p hz h35 (by omega) (by omega), by simp; omega, push p b0 l hp (first_nc s p ?_) h4 h5 hg⟩
          unfold rn at h35
          omega
      · cases hk : blk (rn s p : Int) with
        | true =>
          have hnc : nc (s.get! p) := first_nc s p (fun e => by
            unfold rn at hk
            rw [e] at hk
            revert hk
            decide)
          rcases hb with rfl | ⟨b0, rfl, h4, h5⟩
          · obtain ⟨r, r1, r2, r3⟩ := ih (p + wd s p) l (-1) (by omega) w2 (by omega) hg (.inl rfl)
            exact ⟨r, fe_blank hz hk r1, r2, r3⟩
          · obtain ⟨r, r1, r2, r3⟩ := ih (p + wd s p) (l ++ [s.extract b0 p]) (-1) (by omega) w2 (by simp; omega) (push p b0 l hp hnc h4 h5 hg) (.inl rfl)
            exact ⟨r, fe_blank_push hz hk (by omega) (by omega) r1, r2, r3⟩
        | false =>
          rcases hb with rfl | ⟨b0, rfl, h4, h5⟩
          · obtain ⟨r, r1, r2, r3⟩ := ih (p + wd s p) l (p : Int) (by omega) w2 (by omega) hg (.inr ⟨p, rfl, by omega, .snoc .refl hz hk h35⟩)
            exact ⟨r, fe_new hz hk h35 r1, r2, r3⟩
          · obtain ⟨r, r1, r2, r3⟩ := ih (p + wd s p) l (b0 : Int) (by omega) w2 (by omega) hg (.inr ⟨b0, rfl, by omega, .snoc h5 hz hk h35⟩)
            exact ⟨r, fe_in hz hk h35 r1, r2, r3⟩
    · obtain rfl : p = s.size := by omega
      exact endd l b hl hg hb

theorem same_loop (l : List ByteArray) (hl : l.length ≤ 9223372036854775000) (d : Nat) : ∀ i : Int, 0 ≤ i → i + d = l.length → Ev (fun k => atlaslaw01_same.l0 k l l i) true := by
  induction d with
  | zero =>
    intro i h0 hd
    refine Ev.step (fun k => rfl) ?_
    simp only [atlaslaw01_same.l0, if_neg (show ¬ i < (l.length : Int) by omega)]
    exact Ev.now _
  | succ d ih =>
    intro i h0 hd
    have e : wrap64 (i + 1) = i + 1 := by unfold wrap64; omega
    refine Ev.step (fun k => rfl) ?_
    simp only [atlaslaw01_same.l0, if_pos (show i < (l.length : Int) by omega), if_pos h0, if_true, e]
    exact ih (i + 1) (by omega) (by omega)
theorem same_self (l : List ByteArray) (hl : l.length ≤ 9223372036854775000) : Ev (fun k => atlaslaw01_same.f k l l) true := by
  unfold atlaslaw01_same.f
  simp only [if_true]
  exact same_loop l hl l.length 0 (by omega) (by omega)

theorem bt_get (s : ByteArray) (p : Nat) (h : p < s.size) : bt s (p : Int) = ((s.get! p).toNat : Int) := by
  have e : s.get! p = s[p]'h := get_at s p h
  rw [e]
  simp [bt, h]
/-- The bytes of one word. -/
theorem bytes_loop (rest : ByteArray) (l : List ByteArray) (T w : ByteArray) (i : Nat) (hi : i < l.length) (hw : rdOf ByteArray.empty l (i : Int) = w) (hg : Good w)
    (hb : ∀ j, j < w.size → (w.get! j).toNat ≠ 32 ∧ (w.get! j).toNat ≠ 9 ∧ (w.get! j).toNat ≠ 13 ∧ (w.get! j).toNat ≠ 35) (r : Bool)
    (hz : Ev (fun k => atlaslaw01_WordsJoined.l1 k rest l T (i : Int) (w.size : Int)) r) (d : Nat) :
    ∀ j : Nat, j + d = w.size → Ev (fun k => atlaslaw01_WordsJoined.l1 k rest l T (i : Int) (j : Int)) r := by
  have hgs := hg.2.1
  induction d with
  | zero =>
    intro j hj
    obtain rfl : j = w.size := by omega
    exact hz
  | succ d ih =>
    intro j hj
    obtain ⟨b1, b2, b3, b4⟩ := hb j (by omega)
    have hbt := bt_get w j (by omega)
    have e : wrap64 ((j : Int) + 1) = ((j + 1 : Nat) : Int) := by unfold wrap64; omega
    refine Ev.step (fun k => rfl) ?_
    simp only [atlaslaw01_WordsJoined.l1, if_pos (show (0 : Int) ≤ (i : Int) by omega), if_pos (show (i : Int) < (l.length : Int) by omega), hw, if_pos (show (j : Int) < (w.size : Int) by omega), if_pos (show (0 : Int) ≤ (j : Int) by omega), hbt,
      if_neg (show ¬ ((w.get! j).toNat : Int) = 32 by omega), if_neg (show ¬ ((w.get! j).toNat : Int) = 9 by omega), if_neg (show ¬ ((w.get! j).toNat : Int) = 13 by omega), if_neg (show ¬ ((w.get! j).toNat : Int) = 35 by omega), e]
    exact ih (j + 1) (by omega)
theorem take_succ (l : List ByteArray) (i : Nat) (hi : i < l.length) : l.take (i + 1) = l.take i ++ [rdOf ByteArray.empty l (i : Int)] := by
  unfold rdOf
  rw [Int.toNat_natCast, List.take_succ_eq_append_getElem hi]
  simp [List.getD, hi]
/-- The words, one after the other. -/
theorem joined_loop (rest : ByteArray) (l : List ByteArray) (hr : rest.size ≤ 1048576) (hl : l.length ≤ 1048577) (hg : ∀ w, w ∈ l → Good w) (d : Nat) :
    ∀ (i : Nat) (T : ByteArray), i + d = l.length → Tells (l.take i) T → T.size ≤ i * 1048577 → (i = 0 → T = ⟨#[]⟩) → Ev (fun k => atlaslaw01_WordsJoined.l0 k rest l T (i : Int)) true := by
  induction d with
  | zero =>
    intro i T hi ht hz _
    rw [List.take_of_length_le (by omega)] at ht
    have hT : T.size ≤ 1048577 * 1048577 := by
      refine Nat.le_trans hz (Nat.mul_le_mul_right _ (by omega))
    have z0 : (⟨#[32, 9]⟩ : ByteArray).size = 2 := rfl
    have z1 : ((⟨#[32, 9]⟩ : ByteArray) ++ T).size = 2 + T.size := by rw [ByteArray.size_append]; rfl
    have z2 : (T ++ (⟨#[32, 35]⟩ : ByteArray)).size = T.size + 2 := by rw [ByteArray.size_append]; rfl
    refine Ev.step (fun k => rfl) ?_
    simp only [atlaslaw01_WordsJoined.l0, if_neg (show ¬ (i : Int) < (l.length : Int) by omega), z1, z2, if_pos (show 2 + T.size ≤ 9223372036854775807 by omega), if_pos (show 2 + T.size + 4 ≤ 9223372036854775807 by omega), if_pos (show T.size + 2 ≤ 9223372036854775807 by omega), if_pos (show T.size + 2 + rest.size ≤ 9223372036854775807 by omega)]
    refine Ev.bind (told_self ht (by omega)) ?_
    refine Ev.bind (same_self l (by omega)) ?_
    simp only [if_true]
    refine Ev.bind (told_blanks ht (by omega)) ?_
    refine Ev.bind (same_self l (by omega)) ?_
    simp only [if_true]
    refine Ev.bind (told_hash rest ht (by omega)) ?_
    refine Ev.bind (same_self l (by omega)) ?_
    exact Ev.now _
  | succ d ih =>
    intro i T hi ht hz h0
    have hil : i < l.length := by omega
    have hT : T.size ≤ 1048577 * 1048577 := by
      refine Nat.le_trans hz (Nat.mul_le_mul_right _ (by omega))
    obtain ⟨w, hw⟩ : ∃ w, rdOf ByteArray.empty l (i : Int) = w := ⟨_, rfl⟩
    have hgw : Good w := by
      refine hg w ?_
      rw [← hw]
      unfold rdOf
      rw [Int.toNat_natCast]
      simp [List.getD, hil]
    have hts := take_succ l i hil
    rw [hw] at hts
    have hne : ¬ w.toList = ([] : List UInt8) := by
      intro e
      have h1 := hgw.1
      rw [ByteArray.toList_eq] at e
      have := congrArg List.length e
      rw [data_length] at this
      simp only [List.length_nil] at this
      omega
    have hg1 := hgw.1
    have hg2 := hgw.2.1
    have e : wrap64 ((i : Int) + 1) = ((i + 1 : Nat) : Int) := by unfold wrap64; omega
    have z1 : (T ++ (⟨#[32]⟩ : ByteArray)).size = T.size + 1 := by rw [ByteArray.size_append]; rfl
    refine Ev.step (fun k => rfl) ?_
    simp only [atlaslaw01_WordsJoined.l0, if_pos (show (i : Int) < (l.length : Int) by omega), if_pos (show (0 : Int) ≤ (i : Int) by omega), hw, if_neg hne]
    refine bytes_loop rest l T w i hil hw hgw (path_bytes hgw.2.2) true ?_ w.size 0 (by omega)
    refine Ev.step (fun k => rfl) ?_
    simp only [atlaslaw01_WordsJoined.l1, if_pos (show (0 : Int) ≤ (i : Int) by omega), if_pos (show (i : Int) < (l.length : Int) by omega), hw, if_neg (show ¬ (w.size : Int) < (w.size : Int) by omega), e, z1]
    by_cases hi0 : i = 0
    · subst hi0
      have hT0 := h0 rfl
      subst hT0
      have ez : (⟨#[]⟩ : ByteArray) ++ w = w := by
        apply ByteArray.ext
        simp
      have ezz : (⟨#[]⟩ : ByteArray).size + w.size ≤ 9223372036854775807 := by
        have : (⟨#[]⟩ : ByteArray).size = 0 := rfl
        omega
      simp only [if_neg (show ¬ ((0 : Nat) : Int) > 0 by omega), if_pos ezz, ez]
      refine ih 1 w (by omega) ?_ (by omega) (fun h => by omega)
      rw [hts]
      exact tells_one hgw
    · simp only [if_pos (show (i : Int) > 0 by omega), if_pos (show T.size + 1 ≤ 9223372036854775807 by omega), if_pos (show T.size + 1 + w.size ≤ 9223372036854775807 by omega)]
      refine ih (i + 1) _ (by omega) ?_ ?_ (fun h => by omega)
      · rw [hts]
        exact tells_more ht hgw (by rw [List.length_take]; omega)
      · rw [ByteArray.size_append, z1]
        omega

theorem UWordsJoined (a0 : ByteArray) (a1 : ByteArray) (w0 : a0.size ≤ 1048576) (w1 : a1.size ≤ 1048576) (hb : (a0.size + 1) + (a1.size + 1) ≤ 1048576) : ∃ k, atlaslaw01_WordsJoined.f k a0 a1 = some true := by
  have al : Ev (fun k => atlaslaw01_alive.f k) true := Ev.of (fun k => atlaslaw01_alive.mono k) (k := 40) (by decide +kernel)
  obtain ⟨l, h1, h2, h3⟩ := line_loop a0 w0 a0.size 0 [] (-1) (by omega) (by omega) (by simp) (fun w hw => by simp at hw) (.inl rfl)
  refine Ev.rounds (r := true) ?_
  unfold atlaslaw01_WordsJoined.f
  refine Ev.bind al ?_
  simp only [if_true]
  refine Ev.bind h1 ?_
  exact joined_loop a1 l w1 (by omega) h3 l.length 0 (⟨#[]⟩ : ByteArray) (by omega) (by rw [List.take_zero]; exact tells_nil) (by
    have : (⟨#[]⟩ : ByteArray).size = 0 := rfl
    omega) (fun _ => rfl)
end Go.Proofs.Ytihjlkdobdffjaa.Pure
