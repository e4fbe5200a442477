/-
  The same of the document's answer.
  Conditions: none.
-/
import Derived.Test.YtmphkmoakamepaaPureElfSects
set_option linter.unusedVariables false
set_option linter.unusedSimpArgs false
set_option autoImplicit false
set_option maxRecDepth 100000
namespace Go.Va
theorem not_le_lt (a c : Int) : decide (a > c) = !decide (a ≤ c) := by
  by_cases h : a ≤ c
  · rw [decide_eq_true h, decide_eq_false (by omega)]; rfl
  · rw [decide_eq_false h, decide_eq_true (by omega)]; rfl
theorem not_lt_ge (a c : Int) : decide (a ≥ c) = !decide (a < c) := by
  by_cases h : a < c
  · rw [decide_eq_true h, decide_eq_false (by omega)]; rfl
  · rw [decide_eq_false h, decide_eq_true (by omega)]; rfl
theorem zero_pos (s : Int) (h : 0 ≤ s) : (s == 0) = !decide (s > 0) := by
  by_cases h0 : s > 0
  · rw [decide_eq_true h0, beq_eq_false_iff_ne.2 (by omega)]; rfl
  · have : s = 0 := by omega
    subst this; rfl
section
variable (k : Nat) (hk : reachBytes < k) (b : List Int) (hb : ByB b) (hl : b.length ≤ 140737488351232)
include hk hb hl
theorem rtbl_eq (sec a : Int) (m : Nat) (h0 : 0 ≤ sec) (h1 : sec < 4294967296) (hm : m < 65536) (hs : sec + 40 * m ≤ (b.length : Int)) (ha0 : 0 ≤ a) (ha : a + 40 ≤ (b.length : Int)) :
    ∃ r, atlasref23_table.f k b sec (m : Int) a = some r ∧ match tblF b sec m a with
      | some Y => r = (Y, true)
      | none => r.2 = false := by
  have hr := reach_v
  have e : ∀ j : Int, 0 ≤ j → j ≤ 7 → atlasref23_word.f k b a j = some (word b (a + 4 * j)) := fun j a1 a2 => word_r k (by omega) b hb hl a j ha0 a1 (by omega)
  have f4 := e 4 (by omega) (by omega)
  have f5 := e 5 (by omega) (by omega)
  have f6 := e 6 (by omega) (by omega)
  rw [show (4 : Int) * 4 = 16 from rfl] at f4
  rw [show (4 : Int) * 5 = 20 from rfl] at f5
  rw [show (4 : Int) * 6 = 24 from rfl] at f6
  have r16 := word_range hb (a + 16); have r20 := word_range hb (a + 20); have r24 := word_range hb (a + 24)
  unfold atlasref23_table.f tblF
  simp only [f4, f5, f6, Option.bind_some]
  generalize word b (a + 16) = p at *
  generalize word b (a + 20) = z at *
  generalize word b (a + 24) = l at *
  have tm : Int.tmod z 16 = z % 16 := Int.tmod_eq_emod_of_nonneg r20.1
  have td : IntKind.wrap .u64 (Int.tdiv z 16) = z / 16 := by rw [Int.tdiv_eq_ediv_of_nonneg (by omega), wrap_u64e _ (by omega) (by omega)]
  have n16 : (z % 16 != 0) = !(z % 16 == 0) := rfl
  have wl : IntKind.wrap .u64 ((b.length : Nat) : Int) = ((b.length : Nat) : Int) := wrap_u64e _ (by omega) (by omega)
  have wpz : IntKind.wrap .u64 (p + z) = p + z := wrap_u64e _ (by omega) (by omega)
  have w40 : IntKind.wrap .u64 (40 * l) = 40 * l := wrap_u64e _ (by omega) (by omega)
  have wnm : IntKind.wrap .u64 (sec + 40 * l) = sec + 40 * l := wrap_u64e _ (by omega) (by omega)
  simp only [tm, td, n16, wl, wpz, w40, wnm, zero_pos z r20.1, not_le_lt z 0, not_le_lt (p + z) ((b.length : Nat) : Int), not_le_lt (z / 16) 1025, not_lt_ge l (m : Int)]
  cases c2 : decide (z ≤ 0) with
  | true => exact ⟨_, rfl, rfl⟩
  | false =>
    have c2 := of_decide_eq_false c2
    simp only [Bool.not_false, Bool.not_true, cond_false, Bool.true_and]
    cases c3 : (z % 16 == 0) with
    | false => exact ⟨_, rfl, rfl⟩
    | true =>
      simp only [Bool.not_true, cond_false, Bool.true_and]
      cases c4 : decide (p + z ≤ (b.length : Int)) with
      | false => exact ⟨_, rfl, rfl⟩
      | true =>
        have c4 := of_decide_eq_true c4
        simp only [Bool.not_true, cond_false, Bool.true_and]
        cases c5 : decide (l < (m : Int)) with
        | false => exact ⟨_, rfl, rfl⟩
        | true =>
          have c5 := of_decide_eq_true c5
          simp only [Bool.not_true, cond_false, cond_true]
          have eh : ∀ j : Int, 0 ≤ j → j ≤ 7 → atlasref23_word.f k b (sec + 40 * l) j = some (word b (sec + 40 * l + 4 * j)) := fun j a1 a2 => word_r k (by omega) b hb hl _ j (by omega) a1 (by omega)
          have g1 := eh 1 (by omega) (by omega)
          have g4 := eh 4 (by omega) (by omega)
          have g5 := eh 5 (by omega) (by omega)
          rw [show (4 : Int) * 1 = 4 from rfl] at g1
          rw [show (4 : Int) * 4 = 16 from rfl] at g4
          rw [show (4 : Int) * 5 = 20 from rfl] at g5
          have s16 := word_range hb (sec + 40 * l + 16); have s20 := word_range hb (sec + 40 * l + 20)
          simp only [g1, g4, g5, Option.bind_some]
          unfold txtF
          have hdb := dataF_byte hb (word b (sec + 40 * l + 16)) (word b (sec + 40 * l + 20))
          have hdl := dataF_len b (word b (sec + 40 * l + 16)) (word b (sec + 40 * l + 20)) s20.1 s16.1
          generalize word b (sec + 40 * l + 4) = ty at *
          generalize word b (sec + 40 * l + 16) = fr at *
          generalize word b (sec + 40 * l + 20) = ln at *
          have wfl : IntKind.wrap .u64 (fr + ln) = fr + ln := wrap_u64e _ (by omega) (by omega)
          have n3 : (ty != 3) = !(ty == 3) := rfl
          simp only [n3, wfl, zero_pos ln s20.1, not_le_lt ln 0, not_le_lt (fr + ln) ((b.length : Nat) : Int)]
          cases c1 : (ty == 3) with
          | false => exact ⟨_, rfl, rfl⟩
          | true =>
            have loop : ∀ (t : List Int), t = dataF b fr ln → (ln = 0 ∨ fr + ln ≤ (b.length : Int)) → z / 16 ≤ 1025 → ∃ r, ((atlasref23_table.q0.l k k (b, p, z, t, 1, [])).bind fun r14 => (Sum.elim (fun r15 : Bool × List SymT => (some (r15.2, r15.1))) (fun r16 => (some (r16, true))) r14)) = some r ∧ match tabF b p (dataF b fr ln) (z / 16).toNat with
                | some Y => r = (Y, true)
                | none => r.2 = false := by
              intro t ht hfl hcnt
              subst ht
              have hdl := hdl hfl
              have c3' : z % 16 = 0 := beq_iff_eq.1 c3
              have hC : ((z / 16).toNat : Int) = z / 16 := by omega
              have h := rtable_loop k hk b hb hl (dataF b fr ln) hdb (by omega) p r16.1 (z / 16).toNat (by omega) (by omega) 0 z (by rw [td, hC]) ((List.range (z / 16).toNat).drop 1) k 1 [] rfl (by rw [List.length_range]; omega) (by rw [List.length_drop, List.length_range]; omega) (Nat.zero_le _)
              rw [show (1 : Int) = ((1 : Nat) : Int) from rfl, h, st_map]
              unfold tabF
              cases runS (stF none b p (dataF b fr ln)) some ((List.range (z / 16).toNat).drop 1) [] with
              | none => exact ⟨_, rfl, rfl⟩
              | some Y => exact ⟨_, rfl, rfl⟩
            simp only [cond_true, Bool.true_and, Bool.not_true, cond_false]
            cases c6 : decide (ln ≤ 0) with
            | true =>
              have c6 := of_decide_eq_true c6
              have e0 : dataF b fr ln = [] := by unfold dataF; rw [if_neg (by omega)]
              simp only [Bool.not_true, Bool.not_false, cond_false, Bool.true_or, Bool.true_and]
              cases c7 : decide (z / 16 ≤ 1025) with
              | false => exact ⟨_, rfl, rfl⟩
              | true =>
                simp only [Bool.not_true, cond_false, cond_true]
                exact loop [] e0.symm (.inl (by omega)) (of_decide_eq_true c7)
            | false =>
              have c6 := of_decide_eq_false c6
              simp only [Bool.not_true, Bool.not_false, cond_true, Bool.false_or]
              cases c8 : decide (fr + ln ≤ (b.length : Int)) with
              | false => exact ⟨_, rfl, rfl⟩
              | true =>
                have c8 := of_decide_eq_true c8
                simp only [Bool.not_true, cond_false, Bool.true_and]
                cases c7 : decide (z / 16 ≤ 1025) with
                | false => exact ⟨_, rfl, rfl⟩
                | true =>
                  have a1 : decide (0 ≤ fr + ln) = true := decide_eq_true (by omega)
                  have a3 : decide (0 ≤ fr) = true := decide_eq_true s16.1
                  have a4 : decide (fr ≤ (((fr + ln).toNat : Nat) : Int)) = true := decide_eq_true (by omega)
                  have e0 : (b.drop fr.toNat).take ((fr + ln).toNat - fr.toNat) = dataF b fr ln := by
                    unfold dataF; rw [if_pos (by omega)]; congr 1; omega
                  simp only [Bool.not_true, cond_false, cond_true, a1, a3, a4, Bool.and_self, e0]
                  exact loop _ rfl (.inr c8) (of_decide_eq_true c7)
theorem rsyms_eq (hlen : 52 ≤ b.length) (hs : word b 32 = 0 ∨ half b 48 = 0 ∨ word b 32 + 40 * half b 48 ≤ (b.length : Int)) :
    ∃ r, atlasref23_symbols.f k b = some r ∧ match (if word b 32 = 0 then some [] else symF b (word b 32) (half b 48).toNat) with
      | some Y => r = (Y, true)
      | none => r.2 = false := by
  have hr := reach_v
  have e32 := num4_r k (by omega) b hb hl 32 (by omega) (by omega)
  have e48 := half_r k (by omega) b hb hl 48 (by omega) (by omega)
  have r32 := word_range hb 32; have r48 := half_range hb 48
  unfold atlasref23_symbols.f
  simp only [e32, e48, Option.bind_some]
  generalize word b 32 = sec at *
  generalize half b 48 = mm at *
  obtain ⟨m, rfl⟩ : ∃ m : Nat, mm = m := ⟨mm.toNat, by omega⟩
  rw [Int.toNat_natCast]
  by_cases hz : sec = 0
  · subst hz
    rw [if_pos rfl]
    exact ⟨_, rfl, rfl⟩
  · rw [if_neg hz, beq_eq_false_iff_ne.2 hz, cond_false]
    have hs : m = 0 ∨ sec + 40 * (m : Int) ≤ (b.length : Int) := by have := hs.resolve_left hz; omega
    -- what the loop answers
    have tl : ∀ c : Nat, c < m → ∃ r, atlasref23_table.f k b sec (m : Int) (sec + 40 * (c : Int)) = some r ∧ match tblF b sec m (sec + 40 * (c : Int)) with
        | some Y => r = (Y, true)
        | none => r.2 = false := fun c hc => rtbl_eq k hk b hb hl sec (sec + 40 * (c : Int)) m r32.1 r32.2 (by omega) (hs.resolve_left (by omega)) (by omega) (by have := hs.resolve_left (by omega); omega)
    let g : Nat → (List SymT × Bool) := fun c => optD (atlasref23_table.f k b sec (m : Int) (sec + 40 * (c : Int))) ([], false)
    have loop := loop_run (List.range m) (fun _ (_ : Unit) => True) (fun (_ : Unit) (q : Nat) => (bif word b (sec + 40 * (q : Int) + 4) == 2 then .inr (.inl (g q)) else .inl () : Unit ⊕ ((List SymT × Bool) ⊕ Unit))) (fun _ => .inr ()) (fun n q _ => atlasref23_symbols.q0.l k n (b, sec, (m : Int), (q : Int))) (fun n _ _ => by
          rw [List.length_range]
          simp only [atlasref23_symbols.q0.l, decide_eq_false (show ¬ (m : Int) < (m : Int) by omega), cond_false]) (fun n q c _ hc hq _ => by
        rw [List.length_range] at hq
        have hcq : c = q := by
          rw [List.getElem?_range hq] at hc
          exact (Option.some.inj hc).symm
        subst hcq
        have hs := hs.resolve_left (by omega)
        have w0 : IntKind.wrap .u64 (40 * (c : Int)) = 40 * (c : Int) := wrap_u64e _ (by omega) (by omega)
        have w1 : IntKind.wrap .u64 (sec + 40 * (c : Int)) = sec + 40 * (c : Int) := wrap_u64e _ (by omega) (by omega)
        have wc : IntKind.wrap .u64 ((c : Int) + 1) = ((c + 1 : Nat) : Int) := by rw [wrap_u64e _ (by omega) (by omega)]; omega
        have e1 := word_r k (by omega) b hb hl (sec + 40 * (c : Int)) 1 (by omega) (by omega) (by omega)
        rw [show sec + 40 * (c : Int) + 4 * 1 = sec + 40 * (c : Int) + 4 by omega] at e1
        obtain ⟨r, hr1, hr2⟩ := tl c hq
        have hg : g c = r := by show optD _ _ = _; rw [hr1]; rfl
        have main : atlasref23_symbols.q0.l k (n + 1) (b, sec, (m : Int), (c : Int)) = bif word b (sec + 40 * (c : Int) + 4) == 2 then some (.inl (g c)) else atlasref23_symbols.q0.l k n (b, sec, (m : Int), ((c + 1 : Nat) : Int)) := by
          simp only [atlasref23_symbols.q0.l, decide_eq_true (show (c : Int) < (m : Int) by omega), cond_true, w0, w1, wc, e1, Option.bind_some, hr1, hg]
        cases hc2 : (word b (sec + 40 * (c : Int) + 4) == 2) with
        | true =>
          rw [hc2, cond_true] at main
          exact ⟨fun y hy => (by cases hy), fun r hr => (by cases hr; exact main)⟩
        | false =>
          rw [hc2, cond_false] at main
          exact ⟨fun y hy => ⟨trivial, main⟩, fun r hr => (by cases hr)⟩) (List.range m) k 0 () rfl (Nat.zero_le _) (by rw [List.length_range]; omega) trivial
    rw [show (0 : Int) = ((0 : Nat) : Int) from rfl, loop]
    unfold symF
    have fin : ∀ cs : List Nat, (∀ c ∈ cs, c < m) → ∃ r, ((some (runS (fun (_ : Unit) (q : Nat) => (bif word b (sec + 40 * (q : Int) + 4) == 2 then .inr (.inl (g q)) else .inl () : Unit ⊕ ((List SymT × Bool) ⊕ Unit))) (fun _ => .inr ()) cs ())).bind fun r5 => (Sum.elim (fun r6 : List SymT × Bool => (some (r6.1, r6.2))) (fun r7 => (some (([] : List SymT), true))) r5)) = some r ∧ match runS (scF id b sec m) (fun _ => some []) cs () with
        | some Y => r = (Y, true)
        | none => r.2 = false := by
      intro cs
      induction cs with
      | nil => intro _; exact ⟨_, rfl, rfl⟩
      | cons c cs ih =>
        intro hcs
        simp only [runS, scF]
        cases (word b (sec + 40 * (c : Int) + 4) == 2) with
        | false => exact ih (fun x hx => hcs x (List.mem_cons_of_mem _ hx))
        | true =>
          obtain ⟨r, hr1, hr2⟩ := tl c (hcs c List.mem_cons_self)
          have hg : g c = r := by show optD _ _ = _; rw [hr1]; rfl
          simp only [cond_true, hg]
          exact ⟨_, rfl, hr2⟩
    exact fin (List.range m) (fun c hc => List.mem_range.1 hc)
end
end Go.Va
