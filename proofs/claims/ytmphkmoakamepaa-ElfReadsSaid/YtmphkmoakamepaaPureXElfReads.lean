/-
  The image of any bytes, or the error; the bytes that are handed in stay as they are.
  Conditions: none.
-/
import Derived.Test.YtmphkmoakamepaaPureElfReadR
import Derived.Test.YtmphkmoakamepaaPureElfSame
set_option linter.unusedVariables false
set_option linter.unusedSimpArgs false
set_option autoImplicit false
set_option maxRecDepth 100000
namespace Go.Va
theorem cond_some {α : Type} {c : Bool} {x : Option α} {y : α} (h : (bif c then x else none) = some y) : x = some y := by
  cases c with
  | true => exact h
  | false => cases h
theorem stF_good {b : List Int} (hb : ByB b) (p : Int) (t : List Int) : ∀ (cs : List Nat) (Y Z : List SymT), runS (stF none b p t) some cs Y = some Z → (∀ c ∈ Y, c.1.size ≤ t.length ∧ 0 ≤ c.2.1 ∧ c.2.1 < 4294967296) →
    Z.length ≤ Y.length + cs.length ∧ ∀ c ∈ Z, c.1.size ≤ t.length ∧ 0 ≤ c.2.1 ∧ c.2.1 < 4294967296
  | [], Y, Z, h, hY => by
    have : Y = Z := Option.some.inj h
    rw [← this]; exact ⟨Nat.le_refl _, hY⟩
  | q :: cs, Y, Z, h, hY => by
    simp only [runS, stF] at h
    cases hn : nmF t (word b (p + 16 * q)) with
    | none => rw [hn] at h; cases h
    | some s =>
      rw [hn] at h
      simp only at h
      cases hc : (nameB s && !has Y s) with
      | false => rw [hc] at h; cases h
      | true =>
        rw [hc] at h
        obtain ⟨h1, h2⟩ := stF_good hb p t cs _ Z h (fun c hc => by
          rcases List.mem_append.1 hc with hc | hc
          · exact hY c hc
          · rw [List.mem_singleton] at hc
            subst hc
            exact ⟨nm_size hn, word_range hb _⟩)
        exact ⟨by simp at h1 ⊢; omega, h2⟩
theorem sym_good {b : List Int} (hb : ByB b) (hl : b.length ≤ 140737488351232) {Y : List SymT} (h : symsO b = some Y) : Y.length ≤ 1025 ∧ ∀ c ∈ Y, c.1.size ≤ b.length ∧ 0 ≤ c.2.1 ∧ c.2.1 < 4294967296 := by
  unfold symsO at h
  split at h
  · have : [] = Y := Option.some.inj h
    subst this
    exact ⟨Nat.zero_le _, fun c hc => by cases hc⟩
  · unfold symF at h
    have tx : ∀ nm p z Z, txtF b nm p z = some Z → Z.length ≤ 1025 ∧ ∀ c ∈ Z, c.1.size ≤ b.length ∧ 0 ≤ c.2.1 ∧ c.2.1 < 4294967296 := by
      intro nm p z Z hz
      unfold txtF at hz
      cases hc : ((word b (nm + 4) == 3 && (word b (nm + 20) == 0 || decide (word b (nm + 16) + word b (nm + 20) ≤ (b.length : Int)))) && decide (z / 16 ≤ 1025)) with
      | false => rw [hc] at hz; cases hz
      | true =>
        rw [hc, cond_true] at hz
        simp only [Bool.and_eq_true, decide_eq_true_eq, Bool.or_eq_true, beq_iff_eq] at hc
        obtain ⟨h1, h2⟩ := stF_good hb p _ _ _ _ hz (fun c hc => by cases hc)
        have hd : (dataF b (word b (nm + 16)) (word b (nm + 20))).length ≤ b.length := by
          unfold dataF; split
          · rw [List.length_take, List.length_drop]; omega
          · exact Nat.zero_le _
        refine ⟨?_, fun c hc' => ⟨Nat.le_trans (h2 c hc').1 hd, (h2 c hc').2⟩⟩
        simp only [List.length_nil, List.length_drop, List.length_range] at h1
        omega
    have go : ∀ cs : List Nat, runS (scF id b (word b 32) ((half b 48).toNat : Nat)) (fun _ => some []) cs () = some Y → Y.length ≤ 1025 ∧ ∀ c ∈ Y, c.1.size ≤ b.length ∧ 0 ≤ c.2.1 ∧ c.2.1 < 4294967296 := by
      intro cs
      induction cs with
      | nil =>
        intro h
        have : [] = Y := Option.some.inj h
        subst this
        exact ⟨Nat.zero_le _, fun c hc => by cases hc⟩
      | cons q cs ih =>
        intro h
        simp only [runS, scF] at h
        cases hw : (word b (word b 32 + 40 * (q : Int) + 4) == 2) with
        | false => rw [hw] at h; exact ih h
        | true =>
          rw [hw] at h
          simp only [cond_true, id] at h
          unfold tblF at h
          exact tx _ _ _ _ (cond_some h)
    exact go _ h
theorem z_ok : ImgOk T25.z := by
  have hr := reach_v
  exact ⟨(by show (0 : Nat) ≤ _; omega), fun s hs => (by cases hs), (by show (0 : Nat) ≤ _; omega), fun s hs => (by cases hs), (by decide), fun s hs => (by cases hs), fun s hs => (by cases hs)⟩
theorem read_ok_ (b : List Int) (hb : ByB b) (hl : b.length ≤ 140737488351232) : ImgOk (readF b).1 := by
  have hr := reach_v
  unfold readF headF_ bodyF
  cases decide (52 ≤ b.length) with
  | false => exact z_ok
  | true => cases decide (b.length ≤ 33554432) with
    | false => exact z_ok
    | true => cases h3F b with
      | false => exact z_ok
      | true => cases h4F b with
        | false => exact z_ok
        | true => cases h5F b with
          | false => exact z_ok
          | true => cases h6F b with
            | false => exact z_ok
            | true => cases (okP b && okS b) with
              | false => exact z_ok
              | true =>
                simp only [cond_true]
                unfold restF
                cases hsg : segsR b (word b 28) (List.range (half b 44).toNat) [] with
                | none => exact z_ok
                | some S =>
                  have hgood := segsR_good hb hl _ _ _ _ hsg (fun s hs => by cases hs)
                  simp only
                  cases hc : (decide (1 ≤ S.length) && decide (S.length ≤ 16)) with
                  | false => exact z_ok
                  | true =>
                    simp only [Bool.and_eq_true, decide_eq_true_eq] at hc
                    cases riseB S with
                    | false => exact z_ok
                    | true => cases startB S (word b 24) with
                      | false => exact z_ok
                      | true =>
                        simp only [cond_true]
                        cases hy : symsO b with
                        | none => exact z_ok
                        | some Y =>
                          obtain ⟨y1, y2⟩ := sym_good hb hl hy
                          refine ⟨?_, fun s hs => ((hgood s hs).ok).2.2, ?_, fun s hs => ?_, word_range hb 24, fun s hs => ⟨(hgood s hs).ok.1, (hgood s hs).ok.2.1, (hgood s hs).by_⟩, fun s hs => (y2 s hs).2⟩
                          · show S.length * 40 ≤ reachBytes; omega
                          · show Y.length * 24 ≤ reachBytes; omega
                          · have := (y2 s hs).1; omega
theorem reads_law (b : List Int) (hb : ByB b) (hl : b.length ≤ 140737488351232) : ∃ k, atlaslaw23_ElfReads.f k b = some true := by
  have hr := reach_v
  have hm := maxLen_v
  refine ⟨reachBytes + 1, ?_⟩
  generalize hk : reachBytes + 1 = k
  have h1 := eread_eq k (by omega) b hb hl
  have h2 := rread_eq k (by omega) b hb hl
  have h3 := same_eq (readF b).1 (read_ok_ b hb hl) k (by omega)
  have h3 : atlaslaw23_same.f k ⟨(readF b).1.f0_Entry, (readF b).1.f1_Segments, (readF b).1.f2_Symbols⟩ ⟨(readF b).1.f0_Entry, (readF b).1.f1_Segments, (readF b).1.f2_Symbols⟩ = some true := h3
  unfold atlaslaw23_ElfReads.f
  simp only [List.nil_append, decide_eq_true (show b.length ≤ maxLen by omega), decide_eq_true (show b.length * 1 ≤ 140737488355328 by omega), Bool.and_self, cond_true, h1, h2, h3, Option.bind_some, beq_self_eq_true, byB_all hb]
end Go.Va
namespace Go.Proofs.Ytmphkmoakamepaa.Pure
open Go.Va
theorem XElfReads (y0 : (CT.vec (.int .u8)).D) (w0 : (CT.vec (.int .u8)).wf y0) : ∃ k, atlaslaw23_ElfReads.f k y0 = some true := by
  have h4 : List.length y0 ≤ maxLen ∧ List.length y0 * (CT.int .u8).bytes ≤ reachBytes ∧ ∀ b ∈ y0, (CT.int .u8).wf b := w0
  have b3 : (CT.int .u8).bytes = 1 := by decide
  have hr := reach_v
  rw [b3] at h4
  exact reads_law y0 (fun x hx => u8_wf (h4.2.2 x hx)) (by omega)
end Go.Proofs.Ytmphkmoakamepaa.Pure
