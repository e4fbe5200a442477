/-
  What the document's Read comes to.
  Conditions: none.
-/
import Derived.Test.YtmphkmoakamepaaPureElfReadE
set_option linter.unusedVariables false
set_option linter.unusedSimpArgs false
set_option autoImplicit false
set_option maxRecDepth 100000
namespace Go.Va
def hdC (b : List Int) : Int := bif decide (52 ≤ b.length) then (bif decide (b.length ≤ 33554432) then (bif h3F b then (bif h4F b then (bif h5F b then (bif h6F b then (bif okP b && okS b then 0 else 230) else 234) else 233) else 232) else 231) else 239) else 230
section
variable (k : Nat) (hk : reachBytes < k) (b : List Int) (hb : ByB b) (hl : b.length ≤ 140737488351232)
include hk hb hl
theorem rhead_eq : atlasref23_head.f k b = some (hdC b) := by
  have hr := reach_v
  unfold atlasref23_head.f hdC
  have d1 : decide (((b.length : Nat) : Int) < 52) = !decide (52 ≤ b.length) := by
    by_cases h : 52 ≤ b.length
    · rw [decide_eq_true h, decide_eq_false (by omega)]; rfl
    · rw [decide_eq_false h, decide_eq_true (by omega)]; rfl
  have d2 : decide (((b.length : Nat) : Int) > 33554432) = !decide (b.length ≤ 33554432) := by
    by_cases h : b.length ≤ 33554432
    · rw [decide_eq_true h, decide_eq_false (by omega)]; rfl
    · rw [decide_eq_false h, decide_eq_true (by omega)]; rfl
  simp only [d1, d2]
  cases c1 : decide (52 ≤ b.length) with
  | false => rfl
  | true =>
    have hlen := of_decide_eq_true c1
    simp only [cond_true, Bool.not_true, cond_false]
    cases c2 : decide (b.length ≤ 33554432) with
    | false => rfl
    | true =>
      have e16 := half_r k (by omega) b hb hl 16 (by omega) (by omega)
      have e18 := half_r k (by omega) b hb hl 18 (by omega) (by omega)
      have e20 := num4_r k (by omega) b hb hl 20 (by omega) (by omega)
      have e28 := num4_r k (by omega) b hb hl 28 (by omega) (by omega)
      have e32 := num4_r k (by omega) b hb hl 32 (by omega) (by omega)
      have e40 := half_r k (by omega) b hb hl 40 (by omega) (by omega)
      have e42 := half_r k (by omega) b hb hl 42 (by omega) (by omega)
      have e44 := half_r k (by omega) b hb hl 44 (by omega) (by omega)
      have e46 := half_r k (by omega) b hb hl 46 (by omega) (by omega)
      have e48 := half_r k (by omega) b hb hl 48 (by omega) (by omega)
      have r44 := half_range hb 44; have r48 := half_range hb 48; have r28 := word_range hb 28; have r32 := word_range hb 32
      have w1 : IntKind.wrap .u64 (40 * half b 48) = 40 * half b 48 := wrap_u64e _ (by omega) (by omega)
      have w2 : IntKind.wrap .u64 (32 * half b 44) = 32 * half b 44 := wrap_u64e _ (by omega) (by omega)
      have w3 : IntKind.wrap .u64 (word b 32 + 40 * half b 48) = word b 32 + 40 * half b 48 := wrap_u64e _ (by omega) (by omega)
      have w4 : IntKind.wrap .u64 (word b 28 + 32 * half b 44) = word b 28 + 32 * half b 44 := wrap_u64e _ (by omega) (by omega)
      have w5 : IntKind.wrap .u64 ((b.length : Nat) : Int) = ((b.length : Nat) : Int) := wrap_u64e _ (by omega) (by omega)
      have a4 : decide (4 ≤ ((b.length : Nat) : Int)) = true := decide_eq_true (by omega)
      have a5 : decide (4 < ((b.length : Nat) : Int)) = true := decide_eq_true (by omega)
      have a6 : decide (5 < ((b.length : Nat) : Int)) = true := decide_eq_true (by omega)
      have a7 : decide (6 < ((b.length : Nat) : Int)) = true := decide_eq_true (by omega)
      have z4 : decide ((0 : Int) ≤ 4) = true := rfl
      have z5 : decide ((0 : Int) ≤ 5) = true := rfl
      have z6 : decide ((0 : Int) ≤ 6) = true := rfl
      have nb : ∀ x y : Int, (x != y) = !(x == y) := fun x y => rfl
      simp only [cond_true, cond_false, Bool.not_true, z4, z5, z6, a4, a5, a6, a7, Bool.and_self, byB_all ((hb.drop 0).take (4 - 0)), e16, e18, e20, e28, e32, e40, e42, e44, e46, e48, Option.bind_some, w1, w2, w3, w4, w5, nb, not_le_lt (word b 28 + 32 * half b 44) ((b.length : Nat) : Int), not_le_lt (word b 32 + 40 * half b 48) ((b.length : Nat) : Int)]
      unfold h3F h4F h5F h6F okP okS
      rw [zero_pos (half b 44) r44.1, zero_pos (half b 48) r48.1]
      cases ((bytesO ((b.drop 0).take (4 - 0))).toList == (⟨#[127, 69, 76, 70]⟩ : ByteArray).toList) with
      | false => rfl
      | true =>
        cases (b.getD 4 0 == 1) with
        | false => rfl
        | true =>
          cases (b.getD 5 0 == 1) with
          | false => rfl
          | true =>
            cases (b.getD 6 0 == 1) with
            | false => rfl
            | true =>
              cases (half b 16 == 2) with
              | false => rfl
              | true =>
                cases (half b 18 == 40) with
                | false => rfl
                | true =>
                  cases (word b 20 == 1) with
                  | false => rfl
                  | true =>
                    cases (half b 40 == 52) with
                    | false => rfl
                    | true =>
                      cases (half b 42 == 32) with
                      | false => rfl
                      | true =>
                        cases (word b 32 == 0) with
                        | true =>
                          cases decide (half b 44 > 0) with
                          | false => rfl
                          | true => cases decide (word b 28 + 32 * half b 44 ≤ ((b.length : Nat) : Int)) <;> rfl
                        | false =>
                          cases (half b 46 == 40) with
                          | false => rfl
                          | true =>
                            cases decide (half b 44 > 0) with
                            | false =>
                              cases decide (half b 48 > 0) with
                              | false => rfl
                              | true => cases decide (word b 32 + 40 * half b 48 ≤ ((b.length : Nat) : Int)) <;> rfl
                            | true =>
                              cases decide (word b 28 + 32 * half b 44 ≤ ((b.length : Nat) : Int)) with
                              | false => rfl
                              | true =>
                                cases decide (half b 48 > 0) with
                                | false => rfl
                                | true => cases decide (word b 32 + 40 * half b 48 ≤ ((b.length : Nat) : Int)) <;> rfl
theorem rread_eq : atlasref23_Read.f k b = some (readF b) := by
  have hr := reach_v
  unfold atlasref23_Read.f
  rw [rhead_eq k hk b hb hl]
  simp only [Option.bind_some]
  unfold hdC readF headF_ bodyF
  cases c1 : decide (52 ≤ b.length) with
  | false => rfl
  | true =>
    have hlen := of_decide_eq_true c1
    cases decide (b.length ≤ 33554432) with
    | false => rfl
    | true =>
      cases h3F b with
      | false => rfl
      | true =>
        cases h4F b with
        | false => rfl
        | true =>
          cases h5F b with
          | false => rfl
          | true =>
            cases h6F b with
            | false => rfl
            | true =>
              cases hP : okP b with
              | false => rfl
              | true =>
                cases hS : okS b with
                | false => rfl
                | true =>
                  have e24 := num4_r k (by omega) b hb hl 24 (by omega) (by omega)
                  have r24 := word_range hb 24
                  have hP' : half b 44 = 0 ∨ word b 28 + 32 * half b 44 ≤ (b.length : Int) := by
                    unfold okP at hP
                    simpa using hP
                  have z0 : ((0 : Int) != 0) = false := rfl
                  simp only [Bool.and_self, cond_true, z0, cond_false, e24, Option.bind_some, wrap_u32e _ r24.1 r24.2]
                  rw [rloop_eq k hk b hb hl (word b 24) hlen hP', sgG_map _ _ _ _ _ _ (by simp)]
                  unfold restF
                  cases hsg : segsR b (word b 28) (List.range (half b 44).toNat) [] with
                  | none => rfl
                  | some S =>
                    have hgood := segsR_good hb hl _ _ _ _ hsg (fun s hs => by cases hs)
                    have hok : ∀ c ∈ S, SegOk c := fun c hc => (hgood c hc).ok
                    simp only
                    cases c2 : decide (S.length ≤ 16) with
                    | false => rw [Bool.and_false]; rfl
                    | true =>
                      have c2 := of_decide_eq_true c2
                      simp only [cond_true, Option.bind_some, Sum.elim_inr, Bool.and_true]
                      have d1 : decide (((S.length : Nat) : Int) < 1) = !decide (1 ≤ S.length) := by
                        by_cases h : 1 ≤ S.length
                        · rw [decide_eq_true h, decide_eq_false (by omega)]; rfl
                        · rw [decide_eq_false h, decide_eq_true (by omega)]; rfl
                      rw [d1]
                      cases decide (1 ≤ S.length) with
                      | false => rfl
                      | true =>
                        rw [(rise_eq k S hok (by omega) (by omega)).2]
                        simp only [Bool.not_true, cond_false, cond_true, Option.bind_some]
                        cases riseB S with
                        | false => rfl
                        | true =>
                          rw [(start_eq k S hok (by omega) (by omega) (word b 24) r24).2]
                          simp only [Bool.not_true, cond_false, cond_true, Option.bind_some]
                          cases startB S (word b 24) with
                          | false => rfl
                          | true =>
                            obtain ⟨r, h1, h2⟩ := rsyms_eq k hk b hb hl hlen (okS_sym hb hS)
                            rw [h1]
                            unfold symsO
                            simp only [Bool.not_true, cond_false, cond_true, Option.bind_some]
                            cases hy : (if word b 32 = 0 then some [] else symF b (word b 32) (half b 48).toNat) with
                            | none =>
                              rw [hy] at h2
                              have h2 : r.2 = false := h2
                              rw [h2]; rfl
                            | some Y =>
                              rw [hy] at h2
                              have h2 : r = (Y, true) := h2
                              rw [h2]; rfl
end
end Go.Va
