/-
  Which images are right: elf.Right and the document's answer, by one plain sentence.
  Conditions: an image as any may be handed in.
-/
import Derived.Test.YtmphkmoakamepaaPureElfRune
import Derived.MapKept
set_option linter.unusedVariables false
set_option linter.unusedSimpArgs false
set_option autoImplicit false
namespace Go.Va
theorem wrap_u64v (x : Int) : IntKind.wrap .u64 x = x % 18446744073709551616 := by
  have w : IntKind.wrap .u64 x = if (false && decide (x % 18446744073709551616 ≥ 9223372036854775808)) = true then x % 18446744073709551616 - 18446744073709551616 else x % 18446744073709551616 := by rfl
  rw [w]; simp
theorem wrap_u64e (x : Int) (h0 : 0 ≤ x) (h1 : x < 18446744073709551616) : IntKind.wrap .u64 x = x := by rw [wrap_u64v]; omega
theorem wrap_i64n (q : Nat) (h : q < 9223372036854775807) : IntKind.wrap .i64 ((q : Int) + 1) = ((q + 1 : Nat) : Int) := by rw [wrap_i64e _ (by omega) (by omega)]; omega

/-! ### Loops over a list -/
def runS {α σ ρ : Type} (f : σ → α → σ ⊕ ρ) (e : σ → ρ) : List α → σ → ρ
  | [], x => e x
  | c :: cs, x => match f x c with
    | .inl y => runS f e cs y
    | .inr r => r
theorem drop_cons {α : Type} {l : List α} {q : Nat} {c : α} {cs : List α} (h : l.drop q = c :: cs) : l[q]? = some c ∧ q < l.length ∧ l.drop (q + 1) = cs := by
  obtain ⟨_, h2, h3⟩ := getD_drop h c
  refine ⟨?_, h2, h3⟩
  have e := List.getElem?_drop (xs := l) (i := q) (j := 0)
  rw [h] at e
  simpa using e.symm
theorem loop_run {α σ ρ : Type} (S : List α) (I : Nat → σ → Prop) (f : σ → α → σ ⊕ ρ) (e : σ → ρ) (l : Nat → Nat → σ → Option ρ)
    (he : ∀ n x, I S.length x → l (n + 1) S.length x = some (e x))
    (hs : ∀ n q c x, S[q]? = some c → q < S.length → I q x → (∀ y, f x c = .inl y → I (q + 1) y ∧ l (n + 1) q x = l n (q + 1) y) ∧ (∀ r, f x c = .inr r → l (n + 1) q x = some r)) :
    ∀ (cs : List α) (n q : Nat) (x : σ), S.drop q = cs → q ≤ S.length → cs.length < n → I q x → l n q x = some (runS f e cs x) := by
  intro cs
  induction cs with
  | nil =>
    intro n q x hq hle hn hI
    obtain ⟨n, rfl⟩ : ∃ m, n = m + 1 := ⟨n - 1, by simp at hn; omega⟩
    have h1 := List.drop_eq_nil_iff.1 hq
    have e1 : q = S.length := by omega
    subst e1
    exact he n x hI
  | cons c cs ih =>
    intro n q x hq hle hn hI
    obtain ⟨n, rfl⟩ : ∃ m, n = m + 1 := ⟨n - 1, by simp at hn; omega⟩
    obtain ⟨h1, h2, h3⟩ := drop_cons hq
    obtain ⟨h4, h5⟩ := hs n q c x h1 h2 hI
    simp only [runS]
    cases hf : f x c with
    | inl y =>
      obtain ⟨h6, h7⟩ := h4 y hf
      rw [h7]
      exact ih n (q + 1) y h3 (by omega) (by simp at hn; omega) h6
    | inr r => exact h5 r hf
theorem getD_of {α : Type} {l : List α} {q : Nat} {c : α} (h : l[q]? = some c) (d : α) : l.getD q d = c := by rw [List.getD_eq_getElem?_getD, h]; rfl

/-! ### Names -/
def ltr (r : Int) : Bool :=
  if (97 ≤ r ∧ r ≤ 122) ∨ (65 ≤ r ∧ r ≤ 90) then true else if 192 ≤ r ∧ r ≤ 591 then r != 215 && r != 247 else if 913 ≤ r ∧ r ≤ 969 then r != 930 else false
theorem letter_eq (k : Nat) (r : Int) : words_letter.f k r = some (ltr r) := by
  unfold ltr
  simp only [words_letter.f, words_letter.q0.l]
  by_cases a : r ≥ 97 <;> by_cases b : r ≤ 122 <;> by_cases c : r ≥ 65 <;> by_cases d : r ≤ 90 <;> by_cases e : r ≥ 192 <;> by_cases f : r ≤ 591 <;> by_cases g : r ≥ 913 <;> by_cases h : r ≤ 969 <;>
    first
    | omega
    | (simp [a, b, c, d, e, f, g, h]; done)
    | (simp [a, b, c, d, e, f, g, h]; cases (r != 215) <;> rfl)
theorem rletter_eq (k : Nat) (r : Int) : atlasref01_letter.f k r = some (ltr r) := by
  unfold ltr
  simp only [atlasref01_letter.f, atlasref01_letter.q0.l, atlasref01_letter.q1.l]
  by_cases a : r ≥ 97 <;> by_cases b : r ≤ 122 <;> by_cases c : r ≥ 65 <;> by_cases d : r ≤ 90 <;> by_cases e : r ≥ 192 <;> by_cases f : r ≤ 591 <;> by_cases g : r ≥ 913 <;> by_cases h : r ≤ 969 <;>
    first
    | omega
    | (simp [a, b, c, d, e, f, g, h]; done)
    | (simp [a, b, c, d, e, f, g, h]; cases (r != 215) <;> rfl)
theorem ltr_same {r : Int} {c : Nat} (h : r = (c : Int) ∨ (r = -1 ∧ c = 65533)) : ltr r = ltr (c : Int) := by
  rcases h with rfl | ⟨rfl, rfl⟩
  · rfl
  · decide
theorem name_loop (k : Nat) (s : ByteArray) (hn : s.size ≤ 140737488351232) (d : Nat) : ∀ (p n : Nat), s.size - p ≤ d → p ≤ s.size → n ≤ p →
    ∃ r, ∀ m, d < m → words_Name.q0.l k m ((n : Int), s, p) = some r ∧ atlasref01_Name.q0.l k m (s, (n : Int), (p : Int)) = some r := by
  induction d with
  | zero =>
    intro p n hd hp h1
    refine ⟨.inr (n : Int), fun m hm => ?_⟩
    obtain ⟨m, rfl⟩ : ∃ j, m = j + 1 := ⟨m - 1, by omega⟩
    simp only [words_Name.q0.l, atlasref01_Name.q0.l, decide_eq_false (show ¬ p < s.size by omega), decide_eq_false (show ¬ (p : Int) < (s.size : Int) by omega), cond_false]
    exact ⟨trivial, trivial⟩
  | succ d ih =>
    intro p n hd hp h1
    by_cases hz : p < s.size
    · obtain ⟨r, hr, hrc, w1, w2⟩ := rune_eq s hn p hz
      have e1 : IntKind.wrap .i64 ((n : Int) + 1) = ((n + 1 : Nat) : Int) := wrap_i64n n (by omega)
      have e2 : IntKind.wrap .i64 ((p : Int) + ((Utf8.decode s p).2 : Int)) = ((p + (Utf8.decode s p).2 : Nat) : Int) := by rw [wrap_i64e _ (by omega) (by omega)]; omega
      obtain ⟨q, hq⟩ := ih (p + (Utf8.decode s p).2) (n + 1) (by omega) w2 (by omega)
      have hl := ltr_same (r := r) (c := (Utf8.decode s p).1) (hrc.imp id (fun h => ⟨h.1, h.2.1⟩))
      obtain ⟨c, hc⟩ : ∃ c : Nat, (Utf8.decode s p).1 = c := ⟨_, rfl⟩
      rw [hc] at hrc hl
      have hnz : ((n : Int) == 0) = decide (n = 0) := by by_cases h : n = 0 <;> simp [h]
      have hdg : atlasref01_digit.f r = some (decide (48 ≤ r) && decide (r ≤ 57)) := by
        unfold atlasref01_digit.f
        by_cases h : r ≥ 48
        · simp [h, show (48 : Int) ≤ r from h]
        · simp [h, show ¬ (48 : Int) ≤ r from h]
      cases hlt : ltr (c : Int) with
      | true =>
        refine ⟨q, fun m hm => ?_⟩
        obtain ⟨m, rfl⟩ : ∃ j, m = j + 1 := ⟨m - 1, by omega⟩
        obtain ⟨hq1, hq2⟩ := hq m (by omega)
        simp only [words_Name.q0.l, atlasref01_Name.q0.l, decide_eq_true hz, decide_eq_true (show (p : Int) < (s.size : Int) by omega), cond_true, letter_eq, rletter_eq, hr, hc, hl, hlt, Option.bind_some, Bool.not_true, cond_false, e1, e2]
        exact ⟨hq1, hq2⟩
      | false =>
        by_cases hn0 : n = 0
        · refine ⟨.inl false, fun m hm => ?_⟩
          obtain ⟨m, rfl⟩ : ∃ j, m = j + 1 := ⟨m - 1, by omega⟩
          simp only [words_Name.q0.l, atlasref01_Name.q0.l, decide_eq_true hz, decide_eq_true (show (p : Int) < (s.size : Int) by omega), cond_true, letter_eq, rletter_eq, hr, hc, hl, hlt, Option.bind_some, Bool.not_false, hnz, decide_eq_true hn0]
          exact ⟨trivial, trivial⟩
        · by_cases h95 : c = 95
          · have hr95 : r = 95 := by rcases hrc with h | h <;> omega
            refine ⟨q, fun m hm => ?_⟩
            obtain ⟨m, rfl⟩ : ∃ j, m = j + 1 := ⟨m - 1, by omega⟩
            obtain ⟨hq1, hq2⟩ := hq m (by omega)
            have g1 : (((c : Nat) : Int) != 95) = false := by rw [h95]; rfl
            have g2 : ((r : Int) != 95) = false := by rw [hr95]; rfl
            simp only [words_Name.q0.l, atlasref01_Name.q0.l, decide_eq_true hz, decide_eq_true (show (p : Int) < (s.size : Int) by omega), cond_true, letter_eq, rletter_eq, hr, hc, hl, hlt, Option.bind_some, Bool.not_false, hnz, decide_eq_false hn0, cond_false, g1, g2, hdg, decide_eq_true (show (48 : Int) ≤ r by omega), decide_eq_false (show ¬ r ≤ 57 by omega), Bool.and_false, e1, e2]
            exact ⟨hq1, hq2⟩
          · have hr95 : r ≠ 95 := by rcases hrc with h | h <;> omega
            have g1 : (((c : Nat) : Int) != 95) = true := by rw [bne_iff_ne]; omega
            have g2 : ((r : Int) != 95) = true := by rw [bne_iff_ne]; exact hr95
            by_cases hdc : 48 ≤ c ∧ c ≤ 57
            · have hrd : 48 ≤ r ∧ r ≤ 57 := by rcases hrc with h | h <;> omega
              refine ⟨q, fun m hm => ?_⟩
              obtain ⟨m, rfl⟩ : ∃ j, m = j + 1 := ⟨m - 1, by omega⟩
              obtain ⟨hq1, hq2⟩ := hq m (by omega)
              simp only [words_Name.q0.l, atlasref01_Name.q0.l, decide_eq_true hz, decide_eq_true (show (p : Int) < (s.size : Int) by omega), cond_true, letter_eq, rletter_eq, hr, hc, hl, hlt, Option.bind_some, Bool.not_false, hnz, decide_eq_false hn0, cond_false, g1, hdg, decide_eq_true hrd.1, decide_eq_true hrd.2, Bool.and_self, Bool.not_true, decide_eq_false (show ¬ (c : Int) < 48 by omega), decide_eq_false (show ¬ (c : Int) > 57 by omega), e1, e2]
              exact ⟨hq1, hq2⟩
            · have hrd : ¬ (48 ≤ r ∧ r ≤ 57) := by rcases hrc with h | h <;> omega
              have hrd2 : (decide (48 ≤ r) && decide (r ≤ 57)) = false := by
                rw [Bool.and_eq_false_iff, decide_eq_false_iff_not, decide_eq_false_iff_not]; omega
              refine ⟨.inl false, fun m hm => ?_⟩
              obtain ⟨m, rfl⟩ : ∃ j, m = j + 1 := ⟨m - 1, by omega⟩
              simp only [words_Name.q0.l, atlasref01_Name.q0.l, decide_eq_true hz, decide_eq_true (show (p : Int) < (s.size : Int) by omega), cond_true, letter_eq, rletter_eq, hr, hc, hl, hlt, Option.bind_some, Bool.not_false, hnz, decide_eq_false hn0, cond_false, g1, g2, hdg, hrd2]
              refine ⟨?_, trivial⟩
              by_cases h48 : (c : Int) < 48
              · rw [decide_eq_true h48, cond_true]
              · rw [decide_eq_false h48, cond_false, decide_eq_true (show (c : Int) > 57 by omega), cond_true]
    · refine ⟨.inr (n : Int), fun m hm => ?_⟩
      obtain ⟨m, rfl⟩ : ∃ j, m = j + 1 := ⟨m - 1, by omega⟩
      simp only [words_Name.q0.l, atlasref01_Name.q0.l, decide_eq_false hz, decide_eq_false (show ¬ (p : Int) < (s.size : Int) by omega), cond_false]
      exact ⟨trivial, trivial⟩
/-- Is the text a name? -/
def nameB (s : ByteArray) : Bool := optD (words_Name.f (s.size + 1) s) false
theorem name_k (k k' : Nat) : ∀ (m : Nat) (x : Int × ByteArray × Nat), words_Name.q0.l k m x = words_Name.q0.l k' m x := by
  intro m
  induction m with
  | zero => intro x; rfl
  | succ m ih =>
    intro x
    simp only [words_Name.q0.l, letter_eq, ih]
theorem name_eq (s : ByteArray) (hn : s.size ≤ 140737488351232) (k : Nat) (hk : s.size < k) : words_Name.f k s = some (nameB s) ∧ atlasref01_Name.f k s = some (nameB s) := by
  obtain ⟨r, hr⟩ := name_loop k s hn s.size 0 0 (by omega) (by omega) (by omega)
  have h1 := hr k hk
  have h2 := (hr (s.size + 1) (by omega)).1
  have e1 : words_Name.q0.l k k (0, s, 0) = some r := h1.1
  have e2 : atlasref01_Name.q0.l k k (s, 0, 0) = some r := h1.2
  have e3 : words_Name.q0.l k (s.size + 1) (0, s, 0) = some r := h2
  rw [name_k k (s.size + 1)] at e3
  unfold nameB words_Name.f atlasref01_Name.f
  rw [e1, e2, e3]
  cases r with
  | inl r => exact ⟨rfl, rfl⟩
  | inr r =>
    simp only [Option.bind_some, Sum.elim_inr]
    cases decide (r ≥ 1) <;> exact ⟨rfl, rfl⟩

/-! ### Segments -/
abbrev segT (c : SegT) : T45 := ⟨c.1, c.2.1, c.2.2.1.1, c.2.2.1.2.1, c.2.2.1.2.2.1, c.2.2.2.1⟩
def endB (c : SegT) : Int := c.1 + c.2.1
def segB (c : SegT) : Bool := c.1 % 4096 == 0 && decide (1 ≤ c.2.1) && decide (c.2.1 ≤ 16777216) && decide (endB c ≤ 4294967296) && decide ((c.2.2.2.1.length : Int) ≤ c.2.1) && c.2.2.1.1
def SegOk (c : SegT) : Prop := (0 ≤ c.1 ∧ c.1 < 4294967296) ∧ (0 ≤ c.2.1 ∧ c.2.1 < 4294967296) ∧ List.length c.2.2.2.1 ≤ reachBytes
theorem end_eq (c : SegT) (h : SegOk c) (d : List Int) (a b e : Bool) : elf_end.f ⟨c.1, c.2.1, a, b, e, d⟩ = some (endB c) := by
  obtain ⟨h1, h2, h3⟩ := h
  unfold elf_end.f endB
  simp (disch := omega) only [wrap_u64e]
theorem seg_eq (c : SegT) (h : SegOk c) : elf_segment.f (segT c) = some (segB c) := by
  have he := end_eq c h
  obtain ⟨⟨h1, h1'⟩, ⟨h2, h2'⟩, h3⟩ := h
  have hr := reach_v
  unfold elf_segment.f segB
  have e1 : Int.tmod c.1 4096 = c.1 % 4096 := Int.tmod_eq_emod_of_nonneg h1
  have w1 : IntKind.wrap .u64 (((c.2.2.2.1).length : Nat) : Int) = (((c.2.2.2.1).length : Nat) : Int) := wrap_u64e _ (by omega) (by omega)
  have w2 : IntKind.wrap .u64 c.2.1 = c.2.1 := wrap_u64e _ (by omega) (by omega)
  simp only [he, e1, Option.bind_some, w1, w2, ge_iff_le]
  cases (c.1 % 4096 == 0) <;> cases (decide (1 ≤ c.2.1)) <;> cases (decide (c.2.1 ≤ 16777216)) <;> cases (decide (endB c ≤ 4294967296)) <;> cases (decide ((c.2.2.2.1.length : Int) ≤ c.2.1)) <;> rfl
theorem rseg_eq (k : Nat) (c : SegT) (h : SegOk c) : atlasref23_segment.f k (segT c) = some (segB c) := by
  obtain ⟨⟨h1, h1'⟩, ⟨h2, h2'⟩, h3⟩ := h
  have hr := reach_v
  unfold atlasref23_segment.f segB endB
  have e1 : Int.tmod c.1 4096 = c.1 % 4096 := Int.tmod_eq_emod_of_nonneg h1
  have w1 : IntKind.wrap .u64 (((c.2.2.2.1).length : Nat) : Int) = (((c.2.2.2.1).length : Nat) : Int) := wrap_u64e _ (by omega) (by omega)
  have w2 : IntKind.wrap .u64 c.2.1 = c.2.1 := wrap_u64e _ (by omega) (by omega)
  have w3 : IntKind.wrap .u64 c.1 = c.1 := wrap_u64e _ (by omega) (by omega)
  have w4 : IntKind.wrap .u64 (c.1 + c.2.1) = c.1 + c.2.1 := wrap_u64e _ (by omega) (by omega)
  simp only [atlasref23_segment.q0.l, e1, Option.bind_some, w1, w2, w3, w4, ge_iff_le]
  cases (c.1 % 4096 == 0) <;> cases (decide (1 ≤ c.2.1)) <;> cases (decide (c.2.1 ≤ 16777216)) <;> cases (decide (c.1 + c.2.1 ≤ 4294967296)) <;> cases (decide ((c.2.2.2.1.length : Int) ≤ c.2.1)) <;> rfl

theorem ImgOk.seg {x : T25} (h : ImgOk x) {c : SegT} (hc : c ∈ x.f1_Segments) : SegOk c := ⟨(h.su c hc).1, (h.su c hc).2.1, h.sd c hc⟩
theorem mem_at {α : Type} {l : List α} {q : Nat} {c : α} (h : l[q]? = some c) : c ∈ l := List.mem_of_getElem? h

theorem up_eq (a n : Int) (ha : 0 ≤ a) (hn : 0 < n) (hl : a + n < 18446744073709551616) : elf_up.f a n = some ((a + n - 1) / n * n) := by
  unfold elf_up.f
  have h0 : 0 ≤ (a + n - 1) / n := Int.ediv_nonneg (by omega) (by omega)
  have h1 : (a + n - 1) / n * n ≤ a + n - 1 := Int.ediv_mul_le _ (by omega)
  have h2 : 0 ≤ (a + n - 1) / n * n := Int.mul_nonneg h0 (by omega)
  have h3 : (a + n - 1) / n ≤ a + n - 1 := Int.ediv_le_self _ (by omega)
  rw [wrap_u64e (a + n) (by omega) (by omega), wrap_u64e (a + n - 1) (by omega) (by omega), Int.tdiv_eq_ediv_of_nonneg (by omega), wrap_u64e ((a + n - 1) / n) h0 (by omega), wrap_u64e _ h2 (by omega), decide_eq_false (show ¬ n = 0 by omega)]
  rfl
def upB (c : SegT) : Int := (endB c + 4096 - 1) / 4096 * 4096
theorem upc_eq (c : SegT) (h : SegOk c) : elf_up.f (endB c) 4096 = some (upB c) := by
  obtain ⟨h1, h2, h3⟩ := h
  exact up_eq _ _ (by unfold endB; omega) (by omega) (by unfold endB; omega)
theorem rend_eq (c : SegT) (h : SegOk c) : atlasref23_end.f (segT c) = some (upB c) := by
  obtain ⟨h1, h2, h3⟩ := h
  have e := up_eq (endB c) 4096 (by unfold endB; omega) (by omega) (by unfold endB; omega)
  unfold upB
  rw [← e]
  unfold atlasref23_end.f elf_up.f
  rw [wrap_u64e c.1 (by omega) (by omega), wrap_u64e c.2.1 (by omega) (by omega), wrap_u64e (c.1 + c.2.1) (by omega) (by omega)]
  rfl
def rsF (x c : SegT) : SegT ⊕ (Bool ⊕ Unit) := bif decide (c.1 < upB x) then .inr (.inl false) else .inl c
def riseB (S : List SegT) : Bool := match S with
  | [] => true
  | s :: cs => Sum.elim id (fun _ => true) (runS rsF (fun _ => .inr ()) cs s)
theorem rise_loop (k : Nat) (S : List SegT) (hS : ∀ c ∈ S, SegOk c) (hl : S.length < 4611686018427387904) (s : SegT) (cs : List SegT) (hs : S = s :: cs) (n : Nat) (hn : cs.length < n) :
    elf_rising.q0.l k n (S, 1) = some (runS rsF (fun _ => .inr ()) cs s) ∧ atlasref23_rise.q0.l k n (S, 1) = some (runS rsF (fun _ => .inr ()) cs s) := by
  have key : ∀ (l : Nat → Nat → Option (Bool ⊕ Unit)), (∀ n, l (n + 1) S.length = some (.inr ())) → (∀ n q b c, S[q - 1]? = some b → S[q]? = some c → 1 ≤ q → q < S.length → l (n + 1) q = bif decide (c.1 < upB b) then some (.inl false) else l n (q + 1)) → l n 1 = some (runS rsF (fun _ => .inr ()) cs s) := by
    intro l h1 h2
    refine loop_run S (fun q x => 1 ≤ q ∧ S[q - 1]? = some x) rsF (fun _ => .inr ()) (fun n q _ => l n q) (fun n x _ => h1 n) (fun n q c x hc hq hI => ?_) cs n 1 s (by rw [hs]; rfl) (by rw [hs]; simp) hn ⟨by omega, by rw [hs]; rfl⟩
    have h3 := h2 n q x c hI.2 hc hI.1 hq
    unfold rsF
    refine ⟨fun y hy => ?_, fun r hr => ?_⟩
    · cases hd : decide (c.1 < upB x) with
      | true => rw [hd] at hy; cases hy
      | false =>
        rw [hd] at hy h3
        cases hy
        exact ⟨⟨by omega, by simpa using hc⟩, h3⟩
    · cases hd : decide (c.1 < upB x) with
      | true => rw [hd] at hr h3; cases hr; exact h3
      | false => rw [hd] at hr; cases hr
  have pos : ∀ q, 1 ≤ q → q < S.length → IntKind.wrap .i64 ((q : Int) - 1) = ((q - 1 : Nat) : Int) := fun q h1 h2 => by rw [wrap_i64e _ (by omega) (by omega)]; omega
  refine ⟨?_, ?_⟩
  · refine key (fun n q => elf_rising.q0.l k n (S, (q : Int))) (fun n => ?_) (fun n q b c hb hc h1 h2 => ?_)
    · simp only [elf_rising.q0.l, decide_eq_false (show ¬ (S.length : Int) < ((S.length : Nat) : Int) by omega), cond_false]
    · have ob := hS b (mem_at hb)
      have oc := hS c (mem_at hc)
      simp only [elf_rising.q0.l, decide_eq_true (show (q : Int) < ((S.length : Nat) : Int) by omega), decide_eq_true (show (0 : Int) ≤ (q : Int) by omega), Bool.and_self, cond_true, pos q h1 h2, decide_eq_true (show ((q - 1 : Nat) : Int) < ((S.length : Nat) : Int) by omega), decide_eq_true (show (0 : Int) ≤ ((q - 1 : Nat) : Int) by omega), Int.toNat_natCast, getD_of hb, getD_of hc, end_eq b ob, Option.bind_some, upc_eq b ob, wrap_u64e c.1 oc.1.1 (by have := oc.1.2; omega), wrap_i64n q (by omega)]
  · refine key (fun n q => atlasref23_rise.q0.l k n (S, (q : Int))) (fun n => ?_) (fun n q b c hb hc h1 h2 => ?_)
    · simp only [atlasref23_rise.q0.l, decide_eq_false (show ¬ (S.length : Int) < ((S.length : Nat) : Int) by omega), cond_false]
    · have ob := hS b (mem_at hb)
      have oc := hS c (mem_at hc)
      simp only [atlasref23_rise.q0.l, decide_eq_true (show (q : Int) < ((S.length : Nat) : Int) by omega), decide_eq_true (show (0 : Int) ≤ (q : Int) by omega), Bool.and_self, cond_true, pos q h1 h2, decide_eq_true (show ((q - 1 : Nat) : Int) < ((S.length : Nat) : Int) by omega), decide_eq_true (show (0 : Int) ≤ ((q - 1 : Nat) : Int) by omega), Int.toNat_natCast, getD_of hb, getD_of hc, rend_eq b ob, Option.bind_some, wrap_u64e c.1 oc.1.1 (by have := oc.1.2; omega), wrap_i64n q (by omega)]
theorem rise_eq (k : Nat) (S : List SegT) (hS : ∀ c ∈ S, SegOk c) (hl : S.length < 4611686018427387904) (hk : S.length < k) : elf_rising.f k S = some (riseB S) ∧ atlasref23_rise.f k S = some (riseB S) := by
  cases S with
  | nil =>
    obtain ⟨k, rfl⟩ : ∃ j, k = j + 1 := ⟨k - 1, by simp at hk; omega⟩
    exact ⟨rfl, rfl⟩
  | cons s cs =>
    obtain ⟨h1, h2⟩ := rise_loop k (s :: cs) hS hl s cs rfl k (by simp at hk; omega)
    unfold elf_rising.f atlasref23_rise.f riseB
    rw [h1, h2]
    simp only [Option.bind_some]
    cases runS rsF (fun _ => .inr ()) cs s <;> exact ⟨rfl, rfl⟩

/-! ### Where it may begin -/
def stB (e : Int) (c : SegT) : Bool := c.2.2.1.2.2.1 && decide (c.1 ≤ e) && decide (e + 4 ≤ endB c)
def startB (S : List SegT) (e : Int) : Bool := e % 4 == 0 && S.any (stB e)
theorem st_eq1 (c : SegT) (h : SegOk c) (e : Int) (he : 0 ≤ e ∧ e < 4294967296) : elf_starts_1.f (segT c) e = some (stB e c) := by
  have hen := end_eq c h
  obtain ⟨h1, h2, h3⟩ := h
  unfold elf_starts_1.f stB
  simp only [hen, Option.bind_some, wrap_u64e e he.1 (by omega), wrap_u64e (e + 4) (by omega) (by omega), ge_iff_le]
  cases c.2.2.1.2.2.1 <;> cases decide (c.1 ≤ e) <;> rfl
def ixF (e : Int) (q : Nat) (c : SegT) : Nat ⊕ (Int ⊕ Unit) := bif stB e c then .inr (.inl (q : Int)) else .inl (q + 1)
theorem ix_any (e : Int) : ∀ (cs : List SegT) (q : Nat), (cs.any (stB e) = true ∧ ∃ i : Nat, runS (ixF e) (fun _ => .inr ()) cs q = .inl (i : Int)) ∨ (cs.any (stB e) = false ∧ runS (ixF e) (fun _ => .inr ()) cs q = .inr ())
  | [], q => .inr ⟨rfl, rfl⟩
  | c :: cs, q => by
    simp only [List.any_cons, runS]
    cases h : stB e c with
    | true =>
      have : ixF e q c = .inr (.inl (q : Int)) := by simp only [ixF, h, cond_true]
      rw [this]; exact .inl ⟨rfl, q, rfl⟩
    | false =>
      have : ixF e q c = .inl (q + 1) := by simp only [ixF, h, cond_false]
      rw [this]; simpa using ix_any e cs (q + 1)
def anF (e : Int) (_ : Unit) (c : SegT) : Unit ⊕ (Bool ⊕ Unit) := bif stB e c then .inr (.inl true) else .inl ()
theorem an_any (e : Int) : ∀ (cs : List SegT), (cs.any (stB e) = true ∧ runS (anF e) (fun _ => .inr ()) cs () = .inl true) ∨ (cs.any (stB e) = false ∧ runS (anF e) (fun _ => .inr ()) cs () = .inr ())
  | [] => .inr ⟨rfl, rfl⟩
  | c :: cs => by
    simp only [List.any_cons, runS]
    cases h : stB e c with
    | true =>
      have : anF e () c = .inr (.inl true) := by simp only [anF, h, cond_true]
      rw [this]; exact .inl ⟨rfl, rfl⟩
    | false =>
      have : anF e () c = .inl () := by simp only [anF, h, cond_false]
      rw [this]; simpa using an_any e cs
theorem start_eq (k : Nat) (S : List SegT) (hS : ∀ c ∈ S, SegOk c) (hl : S.length < 4611686018427387904) (hk : S.length < k) (e : Int) (he : 0 ≤ e ∧ e < 4294967296) : elf_starts.f k S e = some (startB S e) ∧ atlasref23_start.f k S e = some (startB S e) := by
  have e4 : Int.tmod e 4 = e % 4 := Int.tmod_eq_emod_of_nonneg he.1
  have c0 : ∀ q : Nat, q < S.length → decide ((q : Int) < ((S.length : Nat) : Int)) = true := fun q h => decide_eq_true (by omega)
  have c1 : ∀ q : Nat, decide ((0 : Int) ≤ (q : Int)) = true := fun q => decide_eq_true (by omega)
  have h1 : api_Segment.q0.l k k (S, e, ((S.length : Nat) : Int), ((0 : Nat) : Int)) = some (runS (ixF e) (fun _ => .inr ()) S 0) := by
    refine loop_run S (fun q x => x = q) (ixF e) (fun _ => .inr ()) (fun n q _ => api_Segment.q0.l k n (S, e, ((S.length : Nat) : Int), (q : Int))) (fun n x _ => ?_) (fun n q c x hc hq hI => ?_) S k 0 0 rfl (by omega) hk rfl
    · simp only [api_Segment.q0.l, decide_eq_false (show ¬ (S.length : Int) < ((S.length : Nat) : Int) by omega), cond_false]
    · subst hI
      have hstep : api_Segment.q0.l k (n + 1) (S, e, ((S.length : Nat) : Int), (x : Int)) = bif stB e c then some (.inl (x : Int)) else api_Segment.q0.l k n (S, e, ((S.length : Nat) : Int), ((x + 1 : Nat) : Int)) := by
        simp only [api_Segment.q0.l, c0 x hq, c1, Bool.and_self, cond_true, Int.toNat_natCast, getD_of hc, st_eq1 c (hS c (mem_at hc)) e he, Option.bind_some, wrap_i64n x (by omega)]
      unfold ixF
      refine ⟨fun y hy => ?_, fun r hr => ?_⟩
      · cases hd : stB e c with
        | true => rw [hd] at hy; cases hy
        | false => rw [hd] at hy hstep; cases hy; exact ⟨rfl, hstep⟩
      · cases hd : stB e c with
        | true => rw [hd] at hr hstep; cases hr; exact hstep
        | false => rw [hd] at hr; cases hr
  have h2 : atlasref23_start.q0.l k k (S, e, ((0 : Nat) : Int)) = some (runS (anF e) (fun _ => .inr ()) S ()) := by
    refine loop_run S (fun q x => True) (anF e) (fun _ => .inr ()) (fun n q _ => atlasref23_start.q0.l k n (S, e, (q : Int))) (fun n x _ => ?_) (fun n q c x hc hq hI => ?_) S k 0 () rfl (by omega) hk trivial
    · simp only [atlasref23_start.q0.l, decide_eq_false (show ¬ (S.length : Int) < ((S.length : Nat) : Int) by omega), cond_false]
    · obtain ⟨g1, g2, g3⟩ := hS c (mem_at hc)
      have hstep : atlasref23_start.q0.l k (n + 1) (S, e, (q : Int)) = bif stB e c then some (.inl true) else atlasref23_start.q0.l k n (S, e, ((q + 1 : Nat) : Int)) := by
        simp only [atlasref23_start.q0.l, c0 q hq, c1, Bool.and_self, cond_true, Int.toNat_natCast, getD_of hc, wrap_i64n q (by omega), wrap_u64e e he.1 (by omega), wrap_u64e (e + 4) (by omega) (by omega), wrap_u64e c.1 g1.1 (by omega), wrap_u64e c.2.1 g2.1 (by omega), wrap_u64e (c.1 + c.2.1) (by omega) (by omega), ge_iff_le]
        unfold stB endB
        cases c.2.2.1.2.2.1 <;> cases decide (c.1 ≤ e) <;> cases decide (e + 4 ≤ c.1 + c.2.1) <;> rfl
      unfold anF
      refine ⟨fun y hy => ?_, fun r hr => ?_⟩
      · cases hd : stB e c with
        | true => rw [hd] at hy; cases hy
        | false => rw [hd] at hstep; exact ⟨trivial, hstep⟩
      · cases hd : stB e c with
        | true => rw [hd] at hr hstep; cases hr; exact hstep
        | false => rw [hd] at hr; cases hr
  have h1 : api_Segment.q0.l k k (S, e, ((S.length : Nat) : Int), 0) = some (runS (ixF e) (fun _ => .inr ()) S 0) := h1
  have h2 : atlasref23_start.q0.l k k (S, e, 0) = some (runS (anF e) (fun _ => .inr ()) S ()) := h2
  unfold elf_starts.f atlasref23_start.f startB api_Segment_57.f api_Segment.f
  simp only [e4, h1, h2, Option.bind_some]
  have hb : (e % 4 != 0) = !(e % 4 == 0) := rfl
  rw [hb]
  cases (e % 4 == 0) with
  | false => exact ⟨rfl, rfl⟩
  | true =>
    refine ⟨?_, ?_⟩
    · rcases ix_any e S 0 with ⟨h3, i, h4⟩ | ⟨h3, h4⟩
      · rw [h4, h3]
        simp only [cond_true, Sum.elim_inl, Option.bind_some, Bool.true_and, decide_eq_true (show (i : Int) ≥ 0 by omega)]
      · rw [h4, h3]; rfl
    · rcases an_any e S with ⟨h3, h4⟩ | ⟨h3, h4⟩
      · rw [h4, h3]; rfl
      · rw [h4, h3]; rfl

/-! ### Symbols -/
theorem toList_beq (a b : ByteArray) : (a.toList == b.toList) = (a == b) := by
  rw [Bool.eq_iff_iff, MapKept.bytes_beq, beq_iff_eq, ByteArray.toList_eq, ByteArray.toList_eq]
  exact ⟨fun h => ByteArray.ext (Array.toList_inj.1 h), fun h => by rw [h]⟩
theorem beq_symm' (a b : ByteArray) : (a == b) = (b == a) := by
  rw [Bool.eq_iff_iff, MapKept.bytes_beq, MapKept.bytes_beq]; exact eq_comm
def has (Y : List SymT) (nm : ByteArray) : Bool := Y.any fun s => s.1 == nm
def fdF (nm : ByteArray) (_ : Unit) (c : SymT) : Unit ⊕ ((Int × Bool) ⊕ Unit) := bif c.1 == nm then .inr (.inl (c.2.1, true)) else .inl ()
theorem fd_any (nm : ByteArray) : ∀ (cs : List SymT), (has cs nm = true ∧ ∃ v, runS (fdF nm) (fun _ => .inr ()) cs () = .inl (v, true)) ∨ (has cs nm = false ∧ runS (fdF nm) (fun _ => .inr ()) cs () = .inr ())
  | [] => .inr ⟨rfl, rfl⟩
  | c :: cs => by
    simp only [has, List.any_cons, runS]
    cases h : (c.1 == nm) with
    | true =>
      have : fdF nm () c = .inr (.inl (c.2.1, true)) := by simp only [fdF, h, cond_true]
      rw [this]; exact .inl ⟨rfl, _, rfl⟩
    | false =>
      have : fdF nm () c = .inl () := by simp only [fdF, h, cond_false]
      rw [this]; simpa [has] using fd_any nm cs
theorem rfind_eq (k : Nat) (x : T25) (nm : ByteArray) (hl : x.f2_Symbols.length < 4611686018427387904) (hk : x.f2_Symbols.length < k) : ∃ v, atlasref23_Find.f k x nm = some (v, has x.f2_Symbols nm) := by
  have h1 : atlasref23_Find.q0.l k k (nm, ((0 : Nat) : Int), x.f0_Entry, x.f1_Segments, x.f2_Symbols) = some (runS (fdF nm) (fun _ => .inr ()) x.f2_Symbols ()) := by
    refine loop_run x.f2_Symbols (fun q x => True) (fdF nm) (fun _ => .inr ()) (fun n q _ => atlasref23_Find.q0.l k n (nm, (q : Int), x.f0_Entry, x.f1_Segments, x.f2_Symbols)) (fun n y _ => ?_) (fun n q c y hc hq hI => ?_) x.f2_Symbols k 0 () rfl (by omega) hk trivial
    · simp only [atlasref23_Find.q0.l, decide_eq_false (show ¬ (x.f2_Symbols.length : Int) < ((x.f2_Symbols.length : Nat) : Int) by omega), cond_false]
    · have hstep : atlasref23_Find.q0.l k (n + 1) (nm, (q : Int), x.f0_Entry, x.f1_Segments, x.f2_Symbols) = bif c.1 == nm then some (.inl (c.2.1, true)) else atlasref23_Find.q0.l k n (nm, ((q + 1 : Nat) : Int), x.f0_Entry, x.f1_Segments, x.f2_Symbols) := by
        simp only [atlasref23_Find.q0.l, decide_eq_true (show (q : Int) < ((x.f2_Symbols.length : Nat) : Int) by omega), decide_eq_true (show (0 : Int) ≤ (q : Int) by omega), Bool.and_self, cond_true, Int.toNat_natCast, getD_of hc, wrap_i64n q (by omega), toList_beq]
      unfold fdF
      refine ⟨fun z hz => ?_, fun r hr => ?_⟩
      · cases hd : (c.1 == nm) with
        | true => rw [hd] at hz; cases hz
        | false => rw [hd] at hstep; exact ⟨trivial, hstep⟩
      · cases hd : (c.1 == nm) with
        | true => rw [hd] at hr hstep; cases hr; exact hstep
        | false => rw [hd] at hr; cases hr
  have h1 : atlasref23_Find.q0.l k k (nm, 0, x.f0_Entry, x.f1_Segments, x.f2_Symbols) = some (runS (fdF nm) (fun _ => .inr ()) x.f2_Symbols ()) := h1
  unfold atlasref23_Find.f
  rw [h1]
  rcases fd_any nm x.f2_Symbols with ⟨h2, v, h3⟩ | ⟨h2, h3⟩
  · exact ⟨v, by rw [h2, h3]; rfl⟩
  · exact ⟨0, by rw [h2, h3]; rfl⟩
theorem mp_put (M : List (ByteArray × Int)) (x : ByteArray) (z : Int) (y : ByteArray) : mpGet .str (.int .i64) (mpPut .str (.int .i64) M x z) y = bif x == y then some z else mpGet .str (.int .i64) M y := by
  induction M with
  | nil =>
    show (bif (y == x) then some z else none) = _
    rw [beq_symm' y x]; rfl
  | cons p M ih =>
    have e1 : mpPut .str (.int .i64) (p :: M) x z = bif x == p.1 then (x, z) :: M else p :: mpPut .str (.int .i64) M x z := rfl
    have e2 : mpGet .str (.int .i64) (p :: M) y = bif y == p.1 then some p.2 else mpGet .str (.int .i64) M y := rfl
    rw [e1, e2]
    cases h : (x == p.1) with
    | true =>
      have hx : x = p.1 := (MapKept.bytes_beq _ _).1 h
      rw [cond_true]
      show (bif (y == x) then some z else mpGet .str (.int .i64) M y) = _
      rw [beq_symm' y x, ← hx, beq_symm' y x]
      cases (x == y) <;> rfl
    | false =>
      rw [cond_false]
      show (bif (y == p.1) then some p.2 else mpGet .str (.int .i64) (mpPut .str (.int .i64) M x z) y) = _
      rw [ih]
      cases hy : (x == y) with
      | false => rfl
      | true =>
        have hx : x = y := (MapKept.bytes_beq _ _).1 hy
        rw [← hx, h]; rfl
/-- The names met so far, as the program keeps them. -/
def seenM (Y : List SymT) : List (ByteArray × Int) := Y.foldl (fun M c => mpPut .str (.int .i64) M c.1 1) []
theorem seen_get (nm : ByteArray) : ∀ (l : List SymT) (M : List (ByteArray × Int)), mpGet .str (.int .i64) (l.foldl (fun M c => mpPut .str (.int .i64) M c.1 1) M) nm = bif has l nm then some 1 else mpGet .str (.int .i64) M nm
  | [], M => rfl
  | c :: l, M => by
    rw [List.foldl_cons, seen_get nm l, mp_put]
    have e : has (c :: l) nm = (c.1 == nm || has l nm) := rfl
    rw [e]
    cases has l nm <;> cases (c.1 == nm) <;> rfl
theorem seen_take {Y : List SymT} {q : Nat} {c : SymT} (h : Y[q]? = some c) : seenM (Y.take (q + 1)) = mpPut .str (.int .i64) (seenM (Y.take q)) c.1 1 := by
  unfold seenM
  rw [List.take_add_one, h, List.foldl_append]; rfl
def syF {ρ : Type} (Y : List SymT) (q : Nat) (c : SymT) : Nat ⊕ (Bool ⊕ ρ) := bif has (Y.take q) c.1 then .inr (.inl false) else bif nameB c.1 then .inl (q + 1) else .inr (.inl false)
def symB (Y : List SymT) : Bool := match runS (syF (ρ := Unit) Y) (fun _ => .inr ()) Y 0 with
  | .inl b => b
  | .inr _ => true
theorem sy_res {ρ : Type} (Y : List SymT) (r : ρ) : ∀ (cs : List SymT) (q : Nat), (runS (syF (ρ := Unit) Y) (fun _ => .inr ()) cs q = .inr () ∧ runS (syF Y) (fun _ => .inr r) cs q = .inr r) ∨ (runS (syF (ρ := Unit) Y) (fun _ => .inr ()) cs q = .inl false ∧ runS (syF Y) (fun _ => .inr r) cs q = .inl false)
  | [], q => .inl ⟨rfl, rfl⟩
  | c :: cs, q => by
    simp only [runS, syF]
    cases has (Y.take q) c.1 with
    | true => exact .inr ⟨rfl, rfl⟩
    | false =>
      cases nameB c.1 with
      | true => exact sy_res Y r cs (q + 1)
      | false => exact .inr ⟨rfl, rfl⟩
theorem fold_loop {α σ ρ : Type} (S : List α) (I : Nat → σ → Prop) (g : σ → α → σ) (e : σ → ρ) (l : Nat → Nat → σ → Option ρ)
    (he : ∀ n x, I S.length x → l (n + 1) S.length x = some (e x))
    (hs : ∀ n q c x, S[q]? = some c → q < S.length → I q x → I (q + 1) (g x c) ∧ l (n + 1) q x = l n (q + 1) (g x c)) :
    ∀ (cs : List α) (n q : Nat) (x : σ), S.drop q = cs → q ≤ S.length → cs.length < n → I q x → l n q x = some (e (cs.foldl g x)) ∧ I S.length (cs.foldl g x) := by
  intro cs
  induction cs with
  | nil =>
    intro n q x hq hle hn hI
    obtain ⟨n, rfl⟩ : ∃ m, n = m + 1 := ⟨n - 1, by simp at hn; omega⟩
    have h1 := List.drop_eq_nil_iff.1 hq
    have e1 : q = S.length := by omega
    subst e1
    exact ⟨he n x hI, hI⟩
  | cons c cs ih =>
    intro n q x hq hle hn hI
    obtain ⟨n, rfl⟩ : ∃ m, n = m + 1 := ⟨n - 1, by simp at hn; omega⟩
    obtain ⟨h1, h2, h3⟩ := drop_cons hq
    obtain ⟨h4, h5⟩ := hs n q c x h1 h2 hI
    rw [h5, List.foldl_cons]
    exact ih n (q + 1) (g x c) h3 (by omega) (by simp at hn; omega) h4
theorem wrap_u32v (x : Int) : IntKind.wrap .u32 x = x % 4294967296 := by
  have w : IntKind.wrap .u32 x = if (false && decide (x % 4294967296 ≥ 2147483648)) = true then x % 4294967296 - 4294967296 else x % 4294967296 := by rfl
  rw [w]; simp
end Go.Va
