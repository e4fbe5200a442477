/-
  The number that a text writes, or that it is none, is the same by the program and by the document's answer, for every text.
  Conditions: none beyond the row's own.
-/
import Derived.Test.YtihjlkdobdffjaaPWordsNumberx3
import Derived.Lib.Strings
set_option linter.unusedSimpArgs false
namespace Go.Proofs.Ytihjlkdobdffjaa.Pure
open Go.RowKit Go.Proofs.Ytihjlkdobdffjaa.PWordsNumber Go.Proofs.YtihjlkdobdffjaaW.PrintWords Go.Proofs.YtihjlkdobdffjaaW.PrintLast

/-- The worth of a digit, or -1. -/
def dg (b base : Int) : Int := if 48 ≤ b ∧ b ≤ 57 then b - 48 else if base = 16 ∧ 97 ≤ b ∧ b ≤ 102 then b - 87 else if base = 16 ∧ 65 ≤ b ∧ b ≤ 70 then b - 55 else -1

theorem dg_range (b base : Int) : -1 ≤ dg b base ∧ dg b base ≤ 15 := by
  unfold dg
  split
  · omega
  · split
    · omega
    · split <;> omega

theorem byte_fin {b : Int} (h : 0 ≤ b ∧ b ≤ 255) : ∃ n : Fin 256, b = (n.val : Int) := ⟨⟨b.toNat, by omega⟩, by simp; omega⟩

theorem digit10 : ∀ n : Fin 256, words_digit.f 2 (n.val : Int) 10 = some (if 0 ≤ dg (n.val : Int) 10 then (dg (n.val : Int) 10, true) else (0, false)) := by decide +kernel
theorem digit16 : ∀ n : Fin 256, words_digit.f 2 (n.val : Int) 16 = some (if 0 ≤ dg (n.val : Int) 16 then (dg (n.val : Int) 16, true) else (0, false)) := by decide +kernel
theorem worth10 : ∀ n : Fin 256, atlasref01_worth.f 3 (n.val : Int) 10 = some (dg (n.val : Int) 10) := by decide +kernel
theorem worth16 : ∀ n : Fin 256, atlasref01_worth.f 3 (n.val : Int) 16 = some (dg (n.val : Int) 16) := by decide +kernel

theorem digit_ev (b base : Int) (hb : 0 ≤ b ∧ b ≤ 255) (hs : base = 10 ∨ base = 16) :
    Ev (fun k => words_digit.f k b base) (if 0 ≤ dg b base then (dg b base, true) else (0, false)) := by
  obtain ⟨n, rfl⟩ := byte_fin hb
  rcases hs with rfl | rfl
  · exact Ev.of (fun k => words_digit.mono _ _ k) (digit10 n)
  · exact Ev.of (fun k => words_digit.mono _ _ k) (digit16 n)

theorem worth_ev (b base : Int) (hb : 0 ≤ b ∧ b ≤ 255) (hs : base = 10 ∨ base = 16) : Ev (fun k => atlasref01_worth.f k b base) (dg b base) := by
  obtain ⟨n, rfl⟩ := byte_fin hb
  rcases hs with rfl | rfl
  · exact Ev.of (fun k => atlasref01_worth.mono _ _ k) (worth10 n)
  · exact Ev.of (fun k => atlasref01_worth.mono _ _ k) (worth16 n)

theorem dg95 (base : Int) : dg 95 base = -1 := by
  unfold dg
  rw [if_neg (by omega), if_neg (by omega), if_neg (by omega)]

theorem words_bad (s : ByteArray) (base v : Int) (ah : Bool) (i : Int) (hs : base = 10 ∨ base = 16) (h0 : 0 ≤ i) (h1 : i < s.size) (hd : dg (bt s i) base < 0)
    (ha : bt s i = 95 → ah = false) : Ev (fun k => words_Number.l0 k s base v ah s.size i) (0, 11) := by
  refine Ev.step (fun k => rfl) ?_
  simp only [words_Number.l0, words_Number.j0, words_Number.j1, words_Number.j3, atlasref01_Number.l0, atlasref01_Number.j0, atlasref01_Number.j1, if_pos h0, if_pos h1]
  refine Ev.bind (digit_ev _ _ (bt_range s i) hs) ?_
  simp only [if_neg (show ¬ 0 ≤ dg (bt s i) base by omega)]
  simp only [Bool.false_eq_true, if_false]
  by_cases h95 : bt s i = 95
  · simp only [if_pos h95, ha h95]
    (refine Ev.step (fun k => rfl) ?_; simp only [words_Number.l0, words_Number.j0, words_Number.j1, words_Number.j3, atlasref01_Number.l0, atlasref01_Number.j0, atlasref01_Number.j1, Bool.not_false, if_true]; exact Ev.now _)
  · simp only [if_neg h95]
    (refine Ev.step (fun k => rfl) ?_; simp only [words_Number.l0, words_Number.j0, words_Number.j1, words_Number.j3, atlasref01_Number.l0, atlasref01_Number.j0, atlasref01_Number.j1, Bool.not_false, if_true]; exact Ev.now _)

theorem loop (s : ByteArray) (base : Int) (hs : base = 10 ∨ base = 16) (hn : s.size ≤ 140737488351232) (hp : 0 < s.size) (d : Nat) : ∀ (i v : Int) (ah : Bool), 0 ≤ i → i + d = s.size → 0 ≤ v → v < 1099511627776 →
    (ah = true ↔ (0 < i ∧ 0 ≤ dg (bt s (i - 1)) base)) → (0 < i → ah = false → i < s.size ∧ 0 ≤ dg (bt s i) base) →
    ∃ r, Ev (fun k => words_Number.l0 k s base v ah s.size i) r ∧ Ev (fun k => atlasref01_Number.l0 k s base v i) r := by
  induction d with
  | zero =>
    intro i v ah h0 hd v0 v1 ha hb
    have hi : ¬ i < (s.size : Int) := by omega
    have hah : ah = true := by
      cases ah with
      | true => rfl
      | false => exact absurd (hb (by omega) rfl).1 hi
    subst hah
    refine ⟨(v, 0), ?_, ?_⟩
    · refine Ev.step (fun k => rfl) ?_
      simp only [words_Number.l0, words_Number.j0, words_Number.j1, words_Number.j3, atlasref01_Number.l0, atlasref01_Number.j0, atlasref01_Number.j1, if_neg hi, if_true]
      exact Ev.now _
    · refine Ev.step (fun k => rfl) ?_
      simp only [words_Number.l0, words_Number.j0, words_Number.j1, words_Number.j3, atlasref01_Number.l0, atlasref01_Number.j0, atlasref01_Number.j1, if_neg hi]
      have : IntKind.u64.wrap v = v := by rw [IntKind.wrap_u64]; omega
      rw [this]
      exact Ev.now _
  | succ d ih =>
    intro i v ah h0 hd v0 v1 ha hb
    have hi : i < (s.size : Int) := by omega
    have hbt := bt_range s i
    have hdr := dg_range (bt s i) base
    have e1 : wrap64 (i + 1) = i + 1 := by unfold wrap64; omega
    have e2 : wrap64 (i - 1) = i - 1 := by unfold wrap64; omega
    have e3 : wrap64 ((s.size : Int) - 1) = s.size - 1 := by unfold wrap64; omega
    by_cases hdg : 0 ≤ dg (bt s i) base
    · have h95 : ¬ bt s i = 95 := by
        intro h
        rw [h, dg95] at hdg
        omega
      have w1 : IntKind.u64.wrap ((IntKind.u64.wrap (v * base)) + dg (bt s i) base) = v * base + dg (bt s i) base := by
        rw [IntKind.wrap_u64, IntKind.wrap_u64]; rcases hs with rfl | rfl <;> omega
      have w2 : wrap64 ((wrap64 (v * base)) + dg (bt s i) base) = v * base + dg (bt s i) base := by
        unfold wrap64; rcases hs with rfl | rfl <;> omega
      by_cases hbig : v * base + dg (bt s i) base ≥ 1099511627776
      · refine ⟨(0, 11), ?_, ?_⟩
        · refine Ev.step (fun k => rfl) ?_
          simp only [words_Number.l0, words_Number.j0, words_Number.j1, words_Number.j3, atlasref01_Number.l0, atlasref01_Number.j0, atlasref01_Number.j1, if_pos h0, if_pos hi]
          refine Ev.bind (digit_ev _ _ hbt hs) ?_
          simp only [if_pos hdg, if_true, w1, if_pos hbig]
          exact Ev.now _
        · refine Ev.step (fun k => rfl) ?_
          simp only [words_Number.l0, words_Number.j0, words_Number.j1, words_Number.j3, atlasref01_Number.l0, atlasref01_Number.j0, atlasref01_Number.j1, if_pos h0, if_pos hi, if_neg h95]
          refine Ev.bind (worth_ev _ _ hbt hs) ?_
          simp only [if_neg (show ¬ dg (bt s i) base < 0 by omega), w2, if_pos hbig]
          exact Ev.now _
      · obtain ⟨r, hr1, hr2⟩ := ih (i + 1) (v * base + dg (bt s i) base) true (by omega) (by omega) (by rcases hs with rfl | rfl <;> omega) (by omega)
          ⟨fun _ => ⟨by omega, by rw [Int.add_sub_cancel]; exact hdg⟩, fun _ => rfl⟩ (fun _ h => by cases h)
        refine ⟨r, ?_, ?_⟩
        · refine Ev.step (fun k => rfl) ?_
          simp only [words_Number.l0, words_Number.j0, words_Number.j1, words_Number.j3, atlasref01_Number.l0, atlasref01_Number.j0, atlasref01_Number.j1, if_pos h0, if_pos hi]
          refine Ev.bind (digit_ev _ _ hbt hs) ?_
          simp only [if_pos hdg, if_true, w1, if_neg hbig, e1]
          exact hr1
        · refine Ev.step (fun k => rfl) ?_
          simp only [words_Number.l0, words_Number.j0, words_Number.j1, words_Number.j3, atlasref01_Number.l0, atlasref01_Number.j0, atlasref01_Number.j1, if_pos h0, if_pos hi, if_neg h95]
          refine Ev.bind (worth_ev _ _ hbt hs) ?_
          simp only [if_neg (show ¬ dg (bt s i) base < 0 by omega), w2, if_neg hbig, e1]
          exact hr2
    · by_cases h95 : bt s i = 95
      · cases ah with
        | false =>
          have hi0 : i = 0 := by
            by_cases hz : 0 < i
            · exact absurd (hb hz rfl).2 hdg
            · omega
          refine ⟨(0, 11), words_bad s base v false i hs h0 hi (by omega) (fun _ => rfl), ?_⟩
          refine Ev.step (fun k => rfl) ?_
          simp only [words_Number.l0, words_Number.j0, words_Number.j1, words_Number.j3, atlasref01_Number.l0, atlasref01_Number.j0, atlasref01_Number.j1, if_pos h0, if_pos hi, if_pos h95, if_pos hi0]
          exact Ev.now _
        | true =>
          obtain ⟨hpos, hprev⟩ := ha.1 rfl
          have hm0 : 0 ≤ i - 1 := by omega
          have hm1 : i - 1 < (s.size : Int) := by omega
          -- the program goes on with ahead = false
          have go_on : ∀ r, Ev (fun k => words_Number.l0 k s base v false s.size (i + 1)) r → Ev (fun k => words_Number.l0 k s base v true s.size i) r := by
            intro r hr
            refine Ev.step (fun k => rfl) ?_
            simp only [words_Number.l0, words_Number.j0, words_Number.j1, words_Number.j3, atlasref01_Number.l0, atlasref01_Number.j0, atlasref01_Number.j1, if_pos h0, if_pos hi]
            refine Ev.bind (digit_ev _ _ hbt hs) ?_
            simp only [if_neg hdg, Bool.false_eq_true, if_false, if_pos h95]
            refine Ev.step (fun k => rfl) ?_
            simp only [words_Number.l0, words_Number.j0, words_Number.j1, words_Number.j3, atlasref01_Number.l0, atlasref01_Number.j0, atlasref01_Number.j1, Bool.not_true, Bool.false_eq_true, if_false, e1]
            exact hr
          by_cases hlast : i = (s.size : Int) - 1
          · refine ⟨(0, 11), go_on _ ?_, ?_⟩
            · refine Ev.step (fun k => rfl) ?_
              simp only [words_Number.l0, words_Number.j0, words_Number.j1, words_Number.j3, atlasref01_Number.l0, atlasref01_Number.j0, atlasref01_Number.j1, if_neg (show ¬ i + 1 < (s.size : Int) by omega), Bool.false_eq_true, if_false]
              exact Ev.now _
            · refine Ev.step (fun k => rfl) ?_
              simp only [words_Number.l0, words_Number.j0, words_Number.j1, words_Number.j3, atlasref01_Number.l0, atlasref01_Number.j0, atlasref01_Number.j1, if_pos h0, if_pos hi, if_pos h95, if_neg (show ¬ i = 0 by omega), e3, if_pos hlast]
              exact Ev.now _
          · have hn0 : 0 ≤ i + 1 := by omega
            have hn1 : i + 1 < (s.size : Int) := by omega
            by_cases hnext : 0 ≤ dg (bt s (i + 1)) base
            · obtain ⟨r, hr1, hr2⟩ := ih (i + 1) v false (by omega) (by omega) v0 v1
                ⟨fun h => (by cases h), fun h => absurd h.2 (by rw [Int.add_sub_cancel]; exact hdg)⟩ (fun _ _ => ⟨hn1, hnext⟩)
              refine ⟨r, go_on _ hr1, ?_⟩
              refine Ev.step (fun k => rfl) ?_
              simp only [words_Number.l0, words_Number.j0, words_Number.j1, words_Number.j3, atlasref01_Number.l0, atlasref01_Number.j0, atlasref01_Number.j1, if_pos h0, if_pos hi, if_pos h95, if_neg (show ¬ i = 0 by omega), e3, if_neg hlast, e2, if_pos hm0, if_pos hm1]
              refine Ev.bind (worth_ev _ _ (bt_range s (i - 1)) hs) ?_
              simp only [if_neg (show ¬ dg (bt s (i - 1)) base < 0 by omega), e1, if_pos hn0, if_pos hn1]
              refine Ev.bind (worth_ev _ _ (bt_range s (i + 1)) hs) ?_
              simp only [if_neg (show ¬ dg (bt s (i + 1)) base < 0 by omega)]
              exact hr2
            · refine ⟨(0, 11), go_on _ (words_bad s base v false (i + 1) hs hn0 hn1 (by omega) (fun _ => rfl)), ?_⟩
              refine Ev.step (fun k => rfl) ?_
              simp only [words_Number.l0, words_Number.j0, words_Number.j1, words_Number.j3, atlasref01_Number.l0, atlasref01_Number.j0, atlasref01_Number.j1, if_pos h0, if_pos hi, if_pos h95, if_neg (show ¬ i = 0 by omega), e3, if_neg hlast, e2, if_pos hm0, if_pos hm1]
              refine Ev.bind (worth_ev _ _ (bt_range s (i - 1)) hs) ?_
              simp only [if_neg (show ¬ dg (bt s (i - 1)) base < 0 by omega), e1, if_pos hn0, if_pos hn1]
              refine Ev.bind (worth_ev _ _ (bt_range s (i + 1)) hs) ?_
              simp only [if_pos (show dg (bt s (i + 1)) base < 0 by omega)]
              exact Ev.now _
      · refine ⟨(0, 11), words_bad s base v ah i hs h0 hi (by omega) (fun h => absurd h h95), ?_⟩
        refine Ev.step (fun k => rfl) ?_
        simp only [words_Number.l0, words_Number.j0, words_Number.j1, words_Number.j3, atlasref01_Number.l0, atlasref01_Number.j0, atlasref01_Number.j1, if_pos h0, if_pos hi, if_neg h95]
        refine Ev.bind (worth_ev _ _ hbt hs) ?_
        simp only [if_pos (show dg (bt s i) base < 0 by omega)]
        exact Ev.now _

/-- From the cut on. -/
theorem rest (s : ByteArray) (base : Int) (hs : base = 10 ∨ base = 16) (hn : s.size ≤ 140737488351232) :
    ∃ r, Ev (fun k => words_Number.j1 k s base) r ∧ Ev (fun k => atlasref01_Number.j1 k s base) r := by
  by_cases hz : (s.size : Int) = 0
  · refine ⟨(0, 11), ?_, ?_⟩
    · refine Ev.step (fun k => rfl) ?_
      refine Ev.step (fun k => rfl) ?_
      simp only [words_Number.l0, words_Number.j0, words_Number.j1, words_Number.j3, atlasref01_Number.l0, atlasref01_Number.j0, atlasref01_Number.j1, if_neg (show ¬ (0 : Int) < (s.size : Int) by omega), Bool.false_eq_true, if_false]
      exact Ev.now _
    · refine Ev.step (fun k => rfl) ?_
      simp only [words_Number.l0, words_Number.j0, words_Number.j1, words_Number.j3, atlasref01_Number.l0, atlasref01_Number.j0, atlasref01_Number.j1, if_pos hz]
      exact Ev.now _
  · obtain ⟨r, h1, h2⟩ := loop s base hs hn (by omega) s.size 0 0 false (by omega) (by omega) (by omega) (by omega) ⟨fun h => (by cases h), fun h => absurd h.1 (by omega)⟩ (fun h => absurd h (by omega))
    refine ⟨r, ?_, ?_⟩
    · (refine Ev.step (fun k => rfl) ?_; simp only [words_Number.l0, words_Number.j0, words_Number.j1, words_Number.j3, atlasref01_Number.l0, atlasref01_Number.j0, atlasref01_Number.j1]; exact h1)
    · refine Ev.step (fun k => rfl) ?_
      simp only [words_Number.l0, words_Number.j0, words_Number.j1, words_Number.j3, atlasref01_Number.l0, atlasref01_Number.j0, atlasref01_Number.j1, if_neg hz]
      exact h2

theorem ahead_iff (s : ByteArray) (h : 2 ≤ s.size) : ((s.extract 0 2).toList == ([48, 120] : List UInt8)) = (decide (bt s 0 = 48) && (bt s 1 == 120)) := by
  rw [Lib.toList_data, Lib.extract_data]
  obtain ⟨⟨l⟩⟩ := s
  match l, h with
  | a :: b :: l, _ =>
    have e0 : bt ⟨⟨a :: b :: l⟩⟩ 0 = (a.toNat : Int) := rfl
    have e1 : bt ⟨⟨a :: b :: l⟩⟩ 1 = (b.toNat : Int) := rfl
    rw [e0, e1, Bool.eq_iff_iff]
    simp [← UInt8.toNat_inj]
    omega
  | [_], h => simp [ByteArray.size] at h
  | [], h => simp [ByteArray.size] at h

theorem extract_size_le (s : ByteArray) (a : Nat) : (s.extract a s.size).size ≤ s.size := by
  rw [ByteArray.size_extract]
  omega

theorem WordsNumber : atlaslaw01_WordsNumber.Pure := by
  intro s hn
  have main : ∃ r, Ev (fun k => words_Number.f k s) r ∧ Ev (fun k => atlasref01_Number.f k s) r := by
    have small : ∃ r, Ev (fun k => words_Number.j0 k s 10 false) r ∧ Ev (fun k => atlasref01_Number.j0 k s 10 false) r := by
      obtain ⟨r, h1, h2⟩ := rest s 10 (.inl rfl) hn
      refine ⟨r, ?_, ?_⟩
      · refine Ev.step (fun k => rfl) ?_
        simp only [words_Number.l0, words_Number.j0, words_Number.j1, words_Number.j3, atlasref01_Number.l0, atlasref01_Number.j0, atlasref01_Number.j1, Bool.false_eq_true, if_false]
        exact h1
      · refine Ev.step (fun k => rfl) ?_
        simp only [words_Number.l0, words_Number.j0, words_Number.j1, words_Number.j3, atlasref01_Number.l0, atlasref01_Number.j0, atlasref01_Number.j1, Bool.false_eq_true, if_false]
        exact h2
    by_cases h2 : (s.size : Int) ≥ 2
    · have h2' : 2 ≤ (s.size : Int) := h2
      have ha := ahead_iff s (by omega)
      by_cases hb : ((s.extract 0 2).toList == ([48, 120] : List UInt8)) = true
      · rw [hb] at ha
        have hc := Bool.and_eq_true_iff.1 ha.symm
        have hc1 : bt s 0 = 48 := of_decide_eq_true hc.1
        obtain ⟨r, r1, r2⟩ := rest (s.extract 2 s.size) 16 (.inr rfl) (Nat.le_trans (extract_size_le s 2) hn)
        refine ⟨r, ?_, ?_⟩
        · simp only [words_Number.f, if_pos h2, if_pos h2', if_pos (show (0 : Int) ≤ 2 by omega), hb]
          refine Ev.step (fun k => rfl) ?_
          simp only [words_Number.l0, words_Number.j0, words_Number.j1, words_Number.j3, atlasref01_Number.l0, atlasref01_Number.j0, atlasref01_Number.j1, if_true, if_pos h2']
          exact r1
        · simp only [atlasref01_Number.f, if_pos h2, if_pos (show (0 : Int) < (s.size : Int) by omega), if_pos (show (1 : Int) < (s.size : Int) by omega), if_pos hc1, hc.2]
          refine Ev.step (fun k => rfl) ?_
          simp only [words_Number.l0, words_Number.j0, words_Number.j1, words_Number.j3, atlasref01_Number.l0, atlasref01_Number.j0, atlasref01_Number.j1, if_true, if_pos h2']
          exact r2
      · have hb' := Bool.eq_false_iff.2 hb
        obtain ⟨r, r1, r2⟩ := small
        refine ⟨r, ?_, ?_⟩
        · simp only [words_Number.f, if_pos h2, if_pos h2', if_pos (show (0 : Int) ≤ 2 by omega), hb']
          exact r1
        · simp only [atlasref01_Number.f, if_pos h2, if_pos (show (0 : Int) < (s.size : Int) by omega), if_pos (show (1 : Int) < (s.size : Int) by omega)]
          by_cases hc1 : bt s 0 = 48
          · simp only [if_pos hc1]
            rw [hb'] at ha
            simp only [hc1, decide_true, Bool.true_and] at ha
            simp only [← ha]
            exact r2
          · simp only [if_neg hc1]
            exact r2
    · obtain ⟨r, r1, r2⟩ := small
      refine ⟨r, ?_, ?_⟩
      · simp only [words_Number.f, if_neg h2]
        exact r1
      · simp only [atlasref01_Number.f, if_neg h2]
        exact r2
  obtain ⟨r, h1, h2⟩ := main
  refine Ev.rounds (r := true) ?_
  unfold atlaslaw01_WordsNumber.f
  refine Ev.bind h1 ?_
  refine Ev.bind h2 ?_
  simp only [if_true, beq_self_eq_true]
  exact Ev.now _

end Go.Proofs.Ytihjlkdobdffjaa.Pure
