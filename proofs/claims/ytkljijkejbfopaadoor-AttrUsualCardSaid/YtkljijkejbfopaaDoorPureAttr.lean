/-
  What the bits of a descriptor mean by the program and by the document's answer: one value for both.
  Conditions: the registers and the bits are words of 32 bits.
-/
import Derived.Test.YtkljijkejbfopaaDoorS3
import Derived.Test.YtkljijkejbfopaaDoorS7
import Derived.Laws.BitsLemmas
set_option linter.unusedSimpArgs false
set_option linter.unusedVariables false
namespace Go.Proofs.YtkljijkejbfopaaDoor.Pure
open Go.RowKit Go.Proofs.YtkljijkejbfopaaDoorG Go.Proofs.YtkljijkejbfopaaDoor.S Go.Proofs.YtkljijkejbfopaaDoorW.PrintWords Go.Proofs.YtkljijkejbfopaaDoorW.PrintLast Go.Proofs.YtkljijkejbfopaaDoorW.PrintMore

theorem wrap_u64' (n : Int) : IntKind.u64.wrap n = n % 18446744073709551616 := by simp [IntKind.wrap, IntKind.bits, IntKind.signed]
theorem wraps_u32' (n : Int) (h₀ : 0 ≤ n) (h₁ : n < 2 ^ 32) : IntKind.u32.wrap n = n := by rw [IntKind.wrap_u32]; omega
theorem u32_and (i : Nat) (hi : i ≤ 32) (x : Int) (h0 : 0 ≤ x) (h1 : x < 4294967296) : Go.bits .and .u32 x (2 ^ i - 1) = x % 2 ^ i := bits_mask .u32 32 (by decide) wraps_u32' i hi x h0 h1
theorem u32_and1 (x : Int) (h0 : 0 ≤ x) (h1 : x < 4294967296) : Go.bits .and .u32 x 1 = x % 2 := u32_and 1 (by decide) x h0 h1
theorem u32_and3 (x : Int) (h0 : 0 ≤ x) (h1 : x < 4294967296) : Go.bits .and .u32 x 3 = x % 4 := u32_and 2 (by decide) x h0 h1
theorem u32_and7 (x : Int) (h0 : 0 ≤ x) (h1 : x < 4294967296) : Go.bits .and .u32 x 7 = x % 8 := u32_and 3 (by decide) x h0 h1
theorem shr_rng (p c : Int) (h0 : 0 ≤ p) (h1 : p < 4294967296) : 0 ≤ shr .u32 p c ∧ shr .u32 p c < 4294967296 := by
  unfold shr
  have hp : (0 : Int) < 2 ^ min c.toNat IntKind.u32.bits := Int.pow_pos (by decide)
  exact ⟨Int.ediv_nonneg h0 (Int.le_of_lt hp), Int.lt_of_le_of_lt (Int.ediv_le_self _ h0) h1⟩
/-- Two bits of a word, one bit of a word. -/
def fd (p c : Int) : Int := Go.bits .and .u32 (shr .u32 p c) 3
def bd (p c : Int) : Int := Go.bits .and .u32 (shr .u32 p c) 1
theorem fd_rng (p c : Int) (h0 : 0 ≤ p) (h1 : p < 4294967296) : 0 ≤ fd p c ∧ fd p c ≤ 3 := by
  have := shr_rng p c h0 h1
  unfold fd
  rw [u32_and3 _ this.1 this.2]
  omega
theorem w64 (x : Int) (h0 : -9223372036854775808 ≤ x) (h1 : x < 9223372036854775808) : wrap64 x = x := by unfold wrap64; omega
/-- What the bits mean with remap, out of the registers' fields. -/
def mapV (T I O s q n : Int) : Int × Int × Int × Int × Int :=
  if n = 6 then (0, 0, 0, 0, 61) else if T = 3 then (0, 0, 0, 0, 61) else if T = 0 then (0, 0, 0, 2, 0) else
    (T, (if T = 2 then I else 0), (if T = 2 then O else 0), (if s = 1 then (if q = 1 then 1 else 2) else 0), 0)
def remV (p m b : Int) : Int × Int × Int × Int × Int :=
  mapV (fd p (2 * (b / 2 % 8))) (fd m (2 * (b / 2 % 8))) (fd m (2 * (b / 2 % 8) + 16)) (bd p ((if fd p (2 * (b / 2 % 8)) = 2 then 18 else 16) + b % 2)) (bd p (24 + b / 2 % 8)) (b / 2 % 8)
theorem rem_ev (p m b : Int) (hp0 : 0 ≤ p) (hp1 : p < 4294967296) (hm0 : 0 ≤ m) (hm1 : m < 4294967296) (hb0 : 0 ≤ b) (hb : b ≤ 63) : Ev (fun k => attr_remapped.f k p m b) (remV p m b) := by
  have e7 : Go.bits .and .u32 (b / 2) 7 = b / 2 % 8 := u32_and7 _ (by omega) (by omega)
  have e1 : Go.bits .and .u32 b 1 = b % 2 := u32_and1 _ (by omega) (by omega)
  unfold remV
  refine ⟨3, fun k hk => ?_⟩
  obtain ⟨k, rfl⟩ : ∃ j, k = j + 3 := ⟨k - 3, by omega⟩
  simp only [attr_remapped.f, attr_remapped.j0, attr_remapped.j1, e7, e1]
  obtain ⟨n, hn⟩ : ∃ n, b / 2 % 8 = n := ⟨_, rfl⟩
  obtain ⟨c, hc⟩ : ∃ c, b % 2 = c := ⟨_, rfl⟩
  have n0 : 0 ≤ n ∧ n ≤ 7 := by omega
  have c0 : 0 ≤ c ∧ c ≤ 1 := by omega
  rw [hn, hc]
  have s2 : (2 * n) % 4294967296 = 2 * n := by omega
  have s3 : (2 * n + 16) % 4294967296 = 2 * n + 16 := by omega
  have s4 : (24 + n) % 4294967296 = 24 + n := by omega
  have s5 : (18 + c) % 4294967296 = 18 + c := by omega
  have s6 : (16 + c) % 4294967296 = 16 + c := by omega
  rw [s2, s3, s4, s5, s6]
  change (if n = 6 then _ else _) = _
  have f1 := fd_rng p (2 * n) hp0 hp1
  have f2 := fd_rng m (2 * n) hm0 hm1
  have f3 := fd_rng m (2 * n + 16) hm0 hm1
  have w1 : wrap64 (Go.bits .and .u32 (shr .u32 p (2 * n)) 3) = fd p (2 * n) := w64 _ (by unfold fd at f1; omega) (by unfold fd at f1; omega)
  have w2 : wrap64 (Go.bits .and .u32 (shr .u32 m (2 * n)) 3) = fd m (2 * n) := w64 _ (by unfold fd at f2; omega) (by unfold fd at f2; omega)
  have w3 : wrap64 (Go.bits .and .u32 (shr .u32 m (2 * n + 16)) 3) = fd m (2 * n + 16) := w64 _ (by unfold fd at f3; omega) (by unfold fd at f3; omega)
  have b1 : ∀ x, Go.bits .and .u32 (shr .u32 p x) 1 = bd p x := fun _ => rfl
  simp only [w1, w2, w3, b1]
  generalize fd p (2 * n) = T at f1 ⊢
  generalize fd m (2 * n) = I
  generalize fd m (2 * n + 16) = O
  unfold mapV
  by_cases h6 : n = 6
  · simp only [if_pos h6, if_true]
  · rw [if_neg h6, if_neg h6]
    by_cases h3 : T = 3
    · subst h3
      rfl
    · rw [if_neg h3, if_neg (show ¬ ((T == 3) = true) by simpa using h3)]
      by_cases h0 : T = 0
      · subst h0
        rfl
      · rw [if_neg h0, if_neg h0]
        by_cases h2 : T = 2
        · subst h2
          simp only [if_true]
          by_cases g1 : bd p (18 + c) = 1 <;> by_cases g2 : bd p (24 + n) = 1 <;> simp [g1, g2]
        · simp only [if_neg h2]
          by_cases g1 : bd p (16 + c) = 1 <;> by_cases g2 : bd p (24 + n) = 1 <;> simp [g1, g2]
theorem field_eq (p x y : Int) (hx : IntKind.u64.wrap x = y) (hy : 0 ≤ y) (hp0 : 0 ≤ p) (hp1 : p < 4294967296) : atlasref06_field.f p x = some (fd p y) := by
  unfold atlasref06_field.f
  rw [hx, if_pos hy]
  have f1 := fd_rng p y hp0 hp1
  exact congrArg some (w64 _ (by unfold fd at f1; omega) (by unfold fd at f1; omega))
theorem set_eq (p x y : Int) (hx : IntKind.u64.wrap x = y) (hy : 0 ≤ y) : atlasref06_set.f p x = some (bd p y == 1) := by
  unfold atlasref06_set.f
  rw [hx, if_pos hy]
  rfl
theorem rrem_ev (p m b : Int) (hp0 : 0 ≤ p) (hp1 : p < 4294967296) (hm0 : 0 ≤ m) (hm1 : m < 4294967296) (hb0 : 0 ≤ b) (hb : b ≤ 63) : Ev (fun k => atlasref06_mapped.f k p m b) (remV p m b) := by
  have e8 : Go.bits .and .u32 (b / 8) 1 = b / 8 % 2 := u32_and1 _ (by omega) (by omega)
  have e3 : Go.bits .and .u32 (b / 2) 3 = b / 2 % 4 := u32_and3 _ (by omega) (by omega)
  have e1 : Go.bits .and .u32 b 1 = b % 2 := u32_and1 _ (by omega) (by omega)
  have en : wrap64 (wrap64 (4 * wrap64 (b / 8 % 2)) + wrap64 (b / 2 % 4)) = b / 2 % 8 := by unfold wrap64; omega
  unfold remV
  refine ⟨4, fun k hk => ?_⟩
  obtain ⟨k, rfl⟩ : ∃ j, k = j + 4 := ⟨k - 4, by omega⟩
  simp only [atlasref06_mapped.f, atlasref06_mapped.j0, atlasref06_mapped.j1, atlasref06_mapped.j2, e8, e3, e1, en]
  obtain ⟨n, hn⟩ : ∃ n, b / 2 % 8 = n := ⟨_, rfl⟩
  obtain ⟨c, hc⟩ : ∃ c, b % 2 = c := ⟨_, rfl⟩
  have n0 : 0 ≤ n ∧ n ≤ 7 := by omega
  have c0 : 0 ≤ c ∧ c ≤ 1 := by omega
  rw [hn, hc]
  have a1 := field_eq p (wrap64 (2 * n)) (2 * n) (by rw [wrap_u64']; unfold wrap64; omega) (by omega) hp0 hp1
  have a2 := field_eq m (wrap64 (2 * n)) (2 * n) (by rw [wrap_u64']; unfold wrap64; omega) (by omega) hm0 hm1
  have a3 := field_eq m (wrap64 (wrap64 (2 * n) + 16)) (2 * n + 16) (by rw [wrap_u64']; unfold wrap64; omega) (by omega) hm0 hm1
  have a4 := set_eq p (wrap64 (24 + n)) (24 + n) (by rw [wrap_u64']; unfold wrap64; omega) (by omega)
  have a5 := set_eq p (wrap64 (16 + wrap64 c)) (16 + c) (by rw [wrap_u64']; unfold wrap64; omega) (by omega)
  have a6 := set_eq p (wrap64 (18 + wrap64 c)) (18 + c) (by rw [wrap_u64']; unfold wrap64; omega) (by omega)
  have f1 := fd_rng p (2 * n) hp0 hp1
  simp only [a1, a2, a3, a4, a5, a6, Option.bind_some]
  generalize fd p (2 * n) = T at f1 ⊢
  generalize fd m (2 * n) = I
  generalize fd m (2 * n + 16) = O
  unfold mapV
  by_cases h6 : n = 6
  · simp only [if_pos h6, if_true]
  · rw [if_neg h6, if_neg h6]
    by_cases h3 : T = 3
    · subst h3
      rfl
    · rw [if_neg h3, if_neg (show ¬ ((T == 3) = true) by simpa using h3)]
      by_cases h0 : T = 0
      · subst h0
        rfl
      · rw [if_neg h0, if_neg h0]
        by_cases h2 : T = 2
        · subst h2
          simp only [if_true]
          by_cases g1 : bd p (18 + c) = 1 <;> by_cases g2 : bd p (24 + n) = 1 <;> simp [g1, g2]
        · have h1 : T = 1 := by omega
          subst h1
          simp only [if_true]
          by_cases g1 : bd p (16 + c) = 1 <;> by_cases g2 : bd p (24 + n) = 1 <;> simp [g1, g2]
/-- What the bits mean without remap. -/
def plV (b : Int) : Int × Int × Int × Int × Int := (attr_Of.f 1 false 0 0 b).getD (0, 0, 0, 0, 0)
theorem pl_all : ∀ x : Fin 64, attr_Of.f 1 false 0 0 (x.val : Int) = some (plV (x.val : Int)) ∧ atlasref06_Of.f 6 false 0 0 (x.val : Int) = some (plV (x.val : Int)) := by decide +kernel
def ofV (t : Bool) (p m b : Int) : Int × Int × Int × Int × Int := if b > 63 then (0, 0, 0, 0, 60) else if t = true then remV p m b else plV b
theorem of_ev (t : Bool) (p m b : Int) (hp0 : 0 ≤ p) (hp1 : p < 4294967296) (hm0 : 0 ≤ m) (hm1 : m < 4294967296) (hb0 : 0 ≤ b) : Ev (fun k => attr_Of.f k t p m b) (ofV t p m b) ∧ Ev (fun k => atlasref06_Of.f k t p m b) (ofV t p m b) := by
  unfold ofV
  by_cases hb : b > 63
  · rw [if_pos hb]
    exact ⟨⟨0, fun k _ => by show attr_Of.f k t p m b = _; unfold attr_Of.f; rw [if_pos hb]⟩, ⟨0, fun k _ => by show atlasref06_Of.f k t p m b = _; unfold atlasref06_Of.f; rw [if_pos hb]⟩⟩
  · rw [if_neg hb]
    cases t with
    | true =>
      rw [if_pos rfl]
      refine ⟨Ev.congr (fun k => by unfold attr_Of.f; rw [if_neg hb, if_pos rfl]) (Ev.bind (rem_ev p m b hp0 hp1 hm0 hm1 hb0 (by omega)) (Ev.now _)), Ev.congr (fun k => by unfold atlasref06_Of.f; rw [if_neg hb, if_pos rfl]) (Ev.bind (rrem_ev p m b hp0 hp1 hm0 hm1 hb0 (by omega)) (Ev.now _))⟩
    | false =>
      rw [if_neg (by decide)]
      obtain ⟨x, rfl⟩ : ∃ x : Fin 64, b = (x.val : Int) := ⟨⟨b.toNat, by omega⟩, by simp; omega⟩
      have h := pl_all x
      have q1 : ∀ k, attr_Of.f k false p m (x.val : Int) = attr_Of.f k false 0 0 (x.val : Int) := fun k => by simp only [attr_Of.f, Bool.false_eq_true, if_false]
      have q2 : ∀ k, atlasref06_Of.f k false p m (x.val : Int) = atlasref06_Of.f k false 0 0 (x.val : Int) := fun k => by simp only [atlasref06_Of.f, Bool.false_eq_true, if_false]
      exact ⟨Ev.congr q1 (Ev.of (fun k => attr_Of.mono _ _ _ _ k) h.1), Ev.congr q2 (Ev.of (fun k => atlasref06_Of.mono _ _ _ _ k) h.2)⟩
end Go.Proofs.YtkljijkejbfopaaDoor.Pure
