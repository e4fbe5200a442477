/-
  The sections of a file gone through.
  Conditions: none.
-/
import Derived.Test.YtmphkmoakamepaaPureElfSyms
set_option linter.unusedVariables false
set_option linter.unusedSimpArgs false
set_option autoImplicit false
set_option maxRecDepth 100000
namespace Go.Va
/-- The symbols by the header of their section and that of their names. -/
def txtF (b : List Int) (nm p z : Int) : Option (List SymT) :=
  bif (word b (nm + 4) == 3 && (word b (nm + 20) == 0 || decide (word b (nm + 16) + word b (nm + 20) ≤ (b.length : Int)))) && decide (z / 16 ≤ 1025) then tabF b p (dataF b (word b (nm + 16)) (word b (nm + 20))) (z / 16).toNat else none
def tblF (b : List Int) (sec m a : Int) : Option (List SymT) :=
  bif (decide (word b (a + 20) > 0) && word b (a + 20) % 16 == 0) && (decide (word b (a + 16) + word b (a + 20) ≤ (b.length : Int)) && decide (word b (a + 24) < m)) then
    txtF b (sec + 40 * word b (a + 24)) (word b (a + 16)) (word b (a + 20))
  else none
def scF {ρ : Type} (g : Option (List SymT) → ρ) (b : List Int) (sec m : Int) (_ : Unit) (q : Nat) : Unit ⊕ ρ := bif word b (sec + 40 * q + 4) == 2 then .inr (g (tblF b sec m (sec + 40 * q))) else .inl ()
def symF (b : List Int) (sec : Int) (m : Nat) : Option (List SymT) := runS (scF id b sec m) (fun _ => some []) (List.range m) ()
theorem sc_map {ρ : Type} (g : Option (List SymT) → ρ) (b : List Int) (sec m : Int) : ∀ cs : List Nat, (∃ Y, runS (scF (ρ := Option (List SymT) ⊕ Unit) .inl b sec m) (fun _ => .inr ()) cs () = .inl Y ∧ runS (scF id b sec m) (fun _ => some []) cs () = Y ∧ ∀ e, runS (scF g b sec m) (fun _ => e) cs () = g Y) ∨
    (runS (scF (ρ := Option (List SymT) ⊕ Unit) .inl b sec m) (fun _ => .inr ()) cs () = .inr () ∧ runS (scF id b sec m) (fun _ => some []) cs () = some [] ∧ ∀ e, runS (scF g b sec m) (fun _ => e) cs () = e)
  | [] => .inr ⟨rfl, rfl, fun _ => rfl⟩
  | c :: cs => by
    simp only [runS, scF]
    cases (word b (sec + 40 * c + 4) == 2) with
    | true => exact .inl ⟨_, rfl, rfl, fun _ => rfl⟩
    | false => exact sc_map g b sec m cs
theorem dataF_byte {b : List Int} (h : ByB b) (p s : Int) : ByB (dataF b p s) := by
  unfold dataF
  split
  · exact (h.drop _).take _
  · intro x hx; cases hx
section
variable (k : Nat) (hk : reachBytes < k) (b : List Int) (hb : ByB b) (hl : b.length ≤ 140737488351232)
include hk hb hl
theorem etxt_eq (sec p z l : Int) (h0 : 0 ≤ sec) (h1 : sec < 4294967296) (hp : 0 ≤ p) (hp1 : p < 4294967296) (hz : 0 < z) (hz1 : z < 4294967296) (hz16 : z % 16 = 0) (hpz : p + z ≤ (b.length : Int)) (hl0 : 0 ≤ l) (hl1 : l < 65536) (hn : sec + 40 * l + 40 ≤ (b.length : Int)) :
    elf_reader_symbols.q1.l k (sec, p, z, l, b) = some (match txtF b (sec + 40 * l) p z with
      | some Y => .inr Y
      | none => .inl (⟨238⟩, ())) := by
  have hr := reach_v
  have w0 : IntKind.wrap .u64 (l * 40) = 40 * l := by rw [wrap_u64e _ (by omega) (by omega)]; omega
  have w1 : IntKind.wrap .u64 (sec + 40 * l) = sec + 40 * l := wrap_u64e _ (by omega) (by omega)
  have wj : ∀ j : Int, 0 ≤ j → j ≤ 36 → IntKind.wrap .u64 (sec + 40 * l + j) = sec + 40 * l + j := fun j a1 a2 => wrap_u64e _ (by omega) (by omega)
  have e : ∀ j : Int, 0 ≤ j → j ≤ 36 → elf_reader_word.f k ⟨b⟩ (sec + 40 * l + j) = some (word b (sec + 40 * l + j)) := fun j a1 a2 => word_e k (by omega) b hb hl _ (by omega) (by omega)
  have rg : ∀ j : Int, 0 ≤ word b (sec + 40 * l + j) ∧ word b (sec + 40 * l + j) < 4294967296 := fun j => word_range hb _
  have wu : ∀ j : Int, IntKind.wrap .u64 (word b (sec + 40 * l + j)) = word b (sec + 40 * l + j) := fun j => wrap_u64e _ (rg j).1 (by have := (rg j).2; omega)
  have td : IntKind.wrap .u64 (Int.tdiv z 16) = z / 16 := by rw [Int.tdiv_eq_ediv_of_nonneg (by omega), wrap_u64e _ (by omega) (by omega)]
  have r16 := rg 16; have r20 := rg 20
  simp only [elf_reader_symbols.q1.l, w0, w1, wj 4 (by omega) (by omega), wj 16 (by omega) (by omega), wj 20 (by omega) (by omega), e 4 (by omega) (by omega), e 16 (by omega) (by omega), e 20 (by omega) (by omega), Option.bind_some, must_bind, cond_true, cond_false, wu, td,
    holds_e b _ _ r16.1 r20.1 (by omega) hl]
  unfold txtF
  have hdb := dataF_byte hb (word b (sec + 40 * l + 16)) (word b (sec + 40 * l + 20))
  have hdl := dataF_len b (word b (sec + 40 * l + 16)) (word b (sec + 40 * l + 20)) r20.1 r16.1
  generalize word b (sec + 40 * l + 4) = ty at *
  generalize word b (sec + 40 * l + 16) = fr at *
  generalize word b (sec + 40 * l + 20) = ln at *
  cases c1 : (ty == 3) with
  | false => rfl
  | true =>
    have fin : (ln = 0 ∨ fr + ln ≤ (b.length : Int)) → z / 16 ≤ 1025 →
        (bif decide (ln > 0) then (bif decide (0 ≤ IntKind.wrap .u64 (fr + ln)) && decide (IntKind.wrap .u64 (fr + ln) ≤ ((b.length : Nat) : Int)) then (bif decide (0 ≤ fr) && decide (fr ≤ (((IntKind.wrap .u64 (fr + ln)).toNat : Nat) : Int)) then
          (bif ((b.drop fr.toNat).take ((IntKind.wrap .u64 (fr + ln)).toNat - fr.toNat)).all (fun x => decide (0 ≤ x) && decide (x < 256)) then
            ((elf_reader_named.f k ⟨b⟩ p (z / 16) (bytesO ((b.drop fr.toNat).take ((IntKind.wrap .u64 (fr + ln)).toNat - fr.toNat)))).bind fun r18 => (Sum.elim (fun r20 => (some (Sum.inl ((⟨r20.f0_e⟩ : T77), ())))) (fun r19 => (some (Sum.inr r19))) r18)) else none) else none) else none)
        else ((elf_reader_named.f k ⟨b⟩ p (z / 16) (⟨#[]⟩ : ByteArray)).bind fun r21 => (Sum.elim (fun r23 => (some (Sum.inl ((⟨r23.f0_e⟩ : T77), ())))) (fun r22 => (some (Sum.inr r22))) r21)) : Option ((T77 × Unit) ⊕ List SymT)) = some (match tabF b p (dataF b fr ln) (z / 16).toNat with
          | some Y => .inr Y
          | none => .inl (⟨238⟩, ())) := by
      intro hfl hcnt
      have hdl := hdl hfl
      have hC : ((z / 16).toNat : Int) = z / 16 := by omega
      have hnm := named_eq k hk b hb hl (dataF b fr ln) hdb (by omega) p hp (z / 16).toNat (by omega) (by omega) (by omega)
      rw [hC] at hnm
      have last : ∀ x : Option (List SymT), ((some (match x with
          | some Y => (.inr Y : T77 ⊕ List SymT)
          | none => .inl ⟨238⟩)).bind fun r21 => (Sum.elim (fun r23 => (some (Sum.inl ((⟨r23.f0_e⟩ : T77), ())))) (fun r22 => (some (Sum.inr r22))) r21 : Option ((T77 × Unit) ⊕ List SymT))) = some (match x with
          | some Y => .inr Y
          | none => .inl (⟨238⟩, ())) := fun x => by cases x <;> rfl
      by_cases hp0 : ln > 0
      · have w2 : IntKind.wrap .u64 (fr + ln) = fr + ln := wrap_u64e _ (by omega) (by omega)
        have a1 : decide (0 ≤ fr + ln) = true := decide_eq_true (by omega)
        have a2 : decide (fr + ln ≤ ((b.length : Nat) : Int)) = true := decide_eq_true (by omega)
        have a3 : decide (0 ≤ fr) = true := decide_eq_true r16.1
        have a4 : decide (fr ≤ (((fr + ln).toNat : Nat) : Int)) = true := decide_eq_true (by omega)
        have e : (b.drop fr.toNat).take ((fr + ln).toNat - fr.toNat) = dataF b fr ln := by
          unfold dataF; rw [if_pos hp0]; congr 1; omega
        simp only [decide_eq_true hp0, w2, a1, a2, a3, a4, Bool.and_self, cond_true, e, byB_all hdb, hnm]
        exact last _
      · have e : dataF b fr ln = [] := by unfold dataF; rw [if_neg hp0]
        rw [e] at hnm ⊢
        have e2 : (⟨#[]⟩ : ByteArray) = bytesO [] := rfl
        simp only [decide_eq_false hp0, cond_false, e2, hnm]
        exact last _
    simp only [cond_true, Bool.true_and]
    cases c2 : (ln == 0) with
    | true =>
      have c2 := beq_iff_eq.1 c2
      simp only [cond_true, Bool.true_or, Bool.true_and]
      cases c3 : decide (z / 16 ≤ 1025) with
      | false => rfl
      | true => exact fin (.inl c2) (of_decide_eq_true c3)
    | false =>
      simp only [cond_false, Bool.false_or]
      cases c4 : decide (fr + ln ≤ (b.length : Int)) with
      | false => rfl
      | true =>
        simp only [cond_true, Bool.true_and]
        cases c3 : decide (z / 16 ≤ 1025) with
        | false => rfl
        | true => exact fin (.inr (of_decide_eq_true c4)) (of_decide_eq_true c3)
theorem esyms_eq (sec : Int) (h0 : 0 ≤ sec) (h1 : sec < 4294967296) (m : Nat) (hm : m < 65536) (hs : m = 0 ∨ sec + 40 * m ≤ (b.length : Int)) :
    elf_reader_symbols.f k ⟨b⟩ sec (m : Int) = some (match symF b sec m with
      | some Y => .inr Y
      | none => .inl ⟨238⟩) := by
  have hr := reach_v
  have loop := loop_run (List.range m) (fun _ (_ : Unit) => True) (scF (ρ := (T77 × Unit) ⊕ (List SymT ⊕ Unit)) (fun o => match o with
      | some Y => .inr (.inl Y)
      | none => .inl (⟨238⟩, ())) b sec m) (fun _ => .inr (.inr ())) (fun n q _ => elf_reader_symbols.q0.l k n (sec, (m : Int), (m : Int), (q : Int), b)) (fun n _ _ => by
        rw [List.length_range]
        simp only [elf_reader_symbols.q0.l, decide_eq_false (show ¬ (m : Int) < (m : Int) by omega), cond_false]) (fun n q c _ hc hq _ => by
      rw [List.length_range] at hq
      have hcq : c = q := by
        rw [List.getElem?_range hq] at hc
        exact (Option.some.inj hc).symm
      subst hcq
      have hs := hs.resolve_left (by omega)
      have w0 : IntKind.wrap .u64 ((c : Int) * 40) = 40 * (c : Int) := by rw [wrap_u64e _ (by omega) (by omega)]; omega
      have w1 : IntKind.wrap .u64 (sec + 40 * (c : Int)) = sec + 40 * (c : Int) := wrap_u64e _ (by omega) (by omega)
      have wc : IntKind.wrap .u64 ((c : Int) + 1) = ((c + 1 : Nat) : Int) := by rw [wrap_u64e _ (by omega) (by omega)]; omega
      have wj : ∀ j : Int, 0 ≤ j → j ≤ 36 → IntKind.wrap .u64 (sec + 40 * (c : Int) + j) = sec + 40 * (c : Int) + j := fun j a1 a2 => wrap_u64e _ (by omega) (by omega)
      have e : ∀ j : Int, 0 ≤ j → j ≤ 36 → elf_reader_word.f k ⟨b⟩ (sec + 40 * (c : Int) + j) = some (word b (sec + 40 * (c : Int) + j)) := fun j a1 a2 => word_e k (by omega) b hb hl _ (by omega) (by omega)
      have rg : ∀ j : Int, 0 ≤ word b (sec + 40 * (c : Int) + j) ∧ word b (sec + 40 * (c : Int) + j) < 4294967296 := fun j => word_range hb _
      have wu : ∀ j : Int, IntKind.wrap .u64 (word b (sec + 40 * (c : Int) + j)) = word b (sec + 40 * (c : Int) + j) := fun j => wrap_u64e _ (rg j).1 (by have := (rg j).2; omega)
      have r16 := rg 16; have r20 := rg 20; have r24 := rg 24
      have main : elf_reader_symbols.q0.l k (n + 1) (sec, (m : Int), (m : Int), (c : Int), b) = match scF (ρ := (T77 × Unit) ⊕ (List SymT ⊕ Unit)) (fun o => match o with
          | some Y => .inr (.inl Y)
          | none => .inl (⟨238⟩, ())) b sec m () c with
          | .inl _ => elf_reader_symbols.q0.l k n (sec, (m : Int), (m : Int), ((c + 1 : Nat) : Int), b)
          | .inr r => some r := by
        have ep : ∀ (A : Option ((T77 × Unit) ⊕ List SymT)) (x : Option (List SymT)), A = some (match x with
            | some Y => .inr Y
            | none => .inl (⟨238⟩, ())) → (A.bind fun r49 => (Sum.elim (fun r50 => (some (Sum.inl ((⟨r50.1.f0_e⟩ : T77), ())))) (fun r51 => (some (Sum.inr (Sum.inl r51)))) r49 : Option ((T77 × Unit) ⊕ (List SymT ⊕ Unit)))) = some (match x with
            | some Y => .inr (.inl Y)
            | none => .inl (⟨238⟩, ())) := fun A x hA => by rw [hA]; cases x <;> rfl
        simp only [elf_reader_symbols.q0.l, decide_eq_true (show (c : Int) < (m : Int) by omega), cond_true, w0, w1, wc, wj 4 (by omega) (by omega), wj 16 (by omega) (by omega), wj 20 (by omega) (by omega), wj 24 (by omega) (by omega), e 4 (by omega) (by omega), e 16 (by omega) (by omega), e 20 (by omega) (by omega), e 24 (by omega) (by omega), Option.bind_some, must_bind, cond_false, wu,
          holds_e b _ _ r16.1 r20.1 (by omega) hl]
        unfold scF tblF
        have q1 : ∀ x : Int, (x != 2) = !(x == 2) := fun x => rfl
        rw [q1]
        cases c1 : (word b (sec + 40 * (c : Int) + 4) == 2) with
        | false => rfl
        | true =>
          have tx := fun hz hz16 hpz hlm => etxt_eq k hk b hb hl sec (word b (sec + 40 * (c : Int) + 16)) (word b (sec + 40 * (c : Int) + 20)) (word b (sec + 40 * (c : Int) + 24)) h0 h1 r16.1 r16.2 hz r20.2 hz16 hpz r24.1 (by have : word b (sec + 40 * (c : Int) + 24) < (m : Int) := hlm; omega) (by have : word b (sec + 40 * (c : Int) + 24) < (m : Int) := hlm; omega)
          generalize word b (sec + 40 * (c : Int) + 16) = p at *
          generalize word b (sec + 40 * (c : Int) + 20) = z at *
          generalize word b (sec + 40 * (c : Int) + 24) = l at *
          have tm : Int.tmod z 16 = z % 16 := Int.tmod_eq_emod_of_nonneg r20.1
          simp only [Bool.not_true, cond_false, cond_true, tm]
          cases c2 : decide (z > 0) with
          | false => rfl
          | true =>
            simp only [cond_true, Bool.true_and]
            cases c3 : (z % 16 == 0) with
            | false => rfl
            | true =>
              simp only [cond_true, Bool.true_and]
              cases c4 : decide (p + z ≤ (b.length : Int)) with
              | false => rfl
              | true =>
                simp only [cond_true, Bool.true_and]
                cases c5 : decide (l < (m : Int)) with
                | false => rfl
                | true => exact ep _ _ (tx (of_decide_eq_true c2) (beq_iff_eq.1 c3) (of_decide_eq_true c4) (of_decide_eq_true c5))
      refine ⟨fun y hy => ⟨trivial, ?_⟩, fun r hr => ?_⟩
      · rw [hy] at main; exact main
      · rw [hr] at main; exact main) (List.range m) k 0 () rfl (Nat.zero_le _) (by rw [List.length_range]; omega) trivial
  unfold elf_reader_symbols.f symF
  rw [show (0 : Int) = ((0 : Nat) : Int) from rfl, loop]
  rcases sc_map (fun o => (match o with
      | some Y => .inr (.inl Y)
      | none => .inl (⟨238⟩, ()) : (T77 × Unit) ⊕ (List SymT ⊕ Unit))) b sec m (List.range m) with ⟨Y, _, h2, h3⟩ | ⟨_, h2, h3⟩
  · rw [h3, h2]; cases Y <;> rfl
  · rw [h3, h2]; rfl
end
end Go.Va
