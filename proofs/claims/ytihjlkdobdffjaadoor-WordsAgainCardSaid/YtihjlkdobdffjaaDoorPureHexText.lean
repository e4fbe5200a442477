/-
  The text of a number at base 16 is the same by the library's function and by the document's answer; its digits' worth is the number.
  Conditions: a number of 64 bits.
-/
import Derived.Test.YtihjlkdobdffjaaDoorS4
set_option linter.unusedSimpArgs false
set_option linter.unusedVariables false
namespace Go.Proofs.YtihjlkdobdffjaaDoor.Pure
open Go.RowKit Go.Proofs.YtihjlkdobdffjaaDoor.S Go.Proofs.YtihjlkdobdffjaaDoorW.PrintWords Go.Proofs.YtihjlkdobdffjaaDoorW.PrintLast

/-- The digit of a number below 16. -/
def hdg (n : Nat) : UInt8 := strconv_FormatUint.dg (n : Int)
/-- The digits of a number at base 16, ahead of these, of at most d places. -/
def hexs : Nat → Nat → List UInt8 → List UInt8
  | 0, _, t => t
  | d + 1, u, t => if u < 16 then hdg u :: t else hexs d (u / 16) (hdg (u % 16) :: t)
theorem fmt_ev (d : Nat) : ∀ (u : Nat) (t : List UInt8), u < 16 ^ (d + 1) → t.length + d < 64 → Ev (fun k => strconv_FormatUint.l0 k (u : Int) t) (hexs (d + 1) u t) := by
  induction d with
  | zero =>
    intro u t hu ht
    have hu' : u < 16 := by simpa using hu
    refine Ev.step (fun k => rfl) ?_
    simp only [strconv_FormatUint.l0, if_pos (show t.length < 64 by omega), if_neg (show ¬ (u : Int) ≥ 16 by omega), hexs, if_pos hu']
    exact Ev.now _
  | succ d ih =>
    intro u t hu ht
    refine Ev.step (fun k => rfl) ?_
    by_cases h : u < 16
    · simp only [strconv_FormatUint.l0, if_pos (show t.length < 64 by omega), if_neg (show ¬ (u : Int) ≥ 16 by omega), hexs, if_pos h]
      exact Ev.now _
    · have e1 : (u : Int) / 16 = ((u / 16 : Nat) : Int) := by omega
      have e2 : (u : Int) % 16 = ((u % 16 : Nat) : Int) := by omega
      simp only [strconv_FormatUint.l0, if_pos (show t.length < 64 by omega), if_pos (show (u : Int) ≥ 16 by omega), e1, e2]
      rw [show hexs (d + 1 + 1) u t = hexs (d + 1) (u / 16) (hdg (u % 16) :: t) by rw [hexs, if_neg h]]
      refine ih (u / 16) _ ?_ (by rw [List.length_cons]; omega)
      rw [Nat.pow_succ] at hu
      omega
theorem cons_eq (c : UInt8) (t : List UInt8) : (⟨#[c]⟩ : ByteArray) ++ (⟨t.toArray⟩ : ByteArray) = ⟨(c :: t).toArray⟩ := by
  apply ByteArray.ext
  simp
theorem size_eq (t : List UInt8) : (⟨t.toArray⟩ : ByteArray).size = t.length := by simp [ByteArray.size]
theorem dig_eq (n : Nat) (hn : n < 16) : strOfNums [bt (⟨#[48, 49, 50, 51, 52, 53, 54, 55, 56, 57, 97, 98, 99, 100, 101, 102]⟩ : ByteArray) (n : Int)] = ⟨#[hdg n]⟩ := by
  match n, hn with
  | 0, _ => rfl
  | 1, _ => rfl
  | 2, _ => rfl
  | 3, _ => rfl
  | 4, _ => rfl
  | 5, _ => rfl
  | 6, _ => rfl
  | 7, _ => rfl
  | 8, _ => rfl
  | 9, _ => rfl
  | 10, _ => rfl
  | 11, _ => rfl
  | 12, _ => rfl
  | 13, _ => rfl
  | 14, _ => rfl
  | 15, _ => rfl
  | n + 16, h => exact absurd h (by omega)
theorem ref_ev (d : Nat) : ∀ (u : Nat) (t : List UInt8), u < 16 ^ (d + 1) → u < 18446744073709551616 → t.length + d < 64 →
    Ev (fun k => atlasref01_Hex.l0 k (u : Int) (⟨#[48, 49, 50, 51, 52, 53, 54, 55, 56, 57, 97, 98, 99, 100, 101, 102]⟩ : ByteArray) ⟨t.toArray⟩) ((⟨#[48, 120]⟩ : ByteArray) ++ ⟨(hexs (d + 1) u t).toArray⟩) := by
  have z16 : (⟨#[48, 49, 50, 51, 52, 53, 54, 55, 56, 57, 97, 98, 99, 100, 101, 102]⟩ : ByteArray).size = 16 := rfl
  have z1 : ∀ c : UInt8, (⟨#[c]⟩ : ByteArray).size = 1 := fun _ => rfl
  have m : ∀ u : Nat, Int.tmod (u : Int) 16 = ((u % 16 : Nat) : Int) := fun u => by rw [Int.tmod_eq_emod_of_nonneg (by omega)]; omega
  have q : ∀ u : Nat, u < 18446744073709551616 → IntKind.u64.wrap (Int.tdiv (u : Int) 16) = ((u / 16 : Nat) : Int) := fun u hu => by rw [Int.tdiv_eq_ediv_of_nonneg (by omega), IntKind.wrap_u64]; omega
  induction d with
  | zero =>
    intro u t hu hu2 ht
    have hu' : u < 16 := by simpa using hu
    refine Ev.step (fun k => rfl) ?_
    have e0 : u / 16 = 0 := by omega
    have e1 : u % 16 = u := by omega
    simp only [atlasref01_Hex.l0, m, z16, e1, if_pos (show (0 : Int) ≤ (u : Int) by omega), if_pos (show (u : Int) < ((16 : Nat) : Int) by omega), Option.bind_some, dig_eq u hu', cons_eq, z1, size_eq, q u hu2, e0,
      if_pos (show 1 + t.length ≤ 9223372036854775807 by omega), if_pos (show ((0 : Nat) : Int) = 0 from rfl), List.length_cons, if_pos (show 2 + (t.length + 1) ≤ 9223372036854775807 by omega), hexs, if_pos hu']
    exact Ev.now _
  | succ d ih =>
    intro u t hu hu2 ht
    refine Ev.step (fun k => rfl) ?_
    have hm : u % 16 < 16 := Nat.mod_lt _ (by decide)
    by_cases h : u < 16
    · have e0 : u / 16 = 0 := by omega
      have e1 : u % 16 = u := by omega
      simp only [atlasref01_Hex.l0, m, z16, e1, if_pos (show (0 : Int) ≤ (u : Int) by omega), if_pos (show (u : Int) < ((16 : Nat) : Int) by omega), Option.bind_some, dig_eq u h, cons_eq, z1, size_eq, q u hu2, e0,
        if_pos (show 1 + t.length ≤ 9223372036854775807 by omega), if_pos (show ((0 : Nat) : Int) = 0 from rfl), List.length_cons, if_pos (show 2 + (t.length + 1) ≤ 9223372036854775807 by omega), hexs, if_pos h]
      exact Ev.now _
    · simp only [atlasref01_Hex.l0, m, z16, if_pos (show (0 : Int) ≤ ((u % 16 : Nat) : Int) by omega), if_pos (show ((u % 16 : Nat) : Int) < ((16 : Nat) : Int) by omega), Option.bind_some, dig_eq (u % 16) hm, cons_eq, z1, size_eq, q u hu2,
        if_pos (show 1 + t.length ≤ 9223372036854775807 by omega), if_neg (show ¬ ((u / 16 : Nat) : Int) = 0 by omega)]
      rw [show hexs (d + 1 + 1) u t = hexs (d + 1) (u / 16) (hdg (u % 16) :: t) by rw [hexs, if_neg h]]
      refine ih (u / 16) _ ?_ (by omega) (by rw [List.length_cons]; omega)
      rw [Nat.pow_succ] at hu
      omega
theorem hexs_len (d : Nat) : ∀ (u : Nat) (t : List UInt8), (hexs d u t).length ≤ t.length + d := by
  induction d with
  | zero => intro u t; exact Nat.le_refl _
  | succ d ih =>
    intro u t
    rw [hexs]
    split
    · rw [List.length_cons]; omega
    · refine Nat.le_trans (ih _ _) ?_
      rw [List.length_cons]
      omega
/-- The program's text of a number. -/
theorem hex_ev (u : Nat) (hu : u < 18446744073709551616) : Ev (fun k => words_Hex.f k (u : Int)) ((⟨#[48, 120]⟩ : ByteArray) ++ ⟨(hexs 16 u []).toArray⟩) := by
  have hl := hexs_len 16 u []
  unfold words_Hex.f
  refine Ev.bind (a := (⟨(hexs 16 u []).toArray⟩ : ByteArray)) ?_ ?_
  · unfold strconv_FormatUint.f
    simp only [if_true, if_pos (show (0 : Int) ≤ (u : Int) by omega), if_pos (show (u : Int) < 18446744073709551616 by omega)]
    refine Ev.bind (fmt_ev 15 u [] (by simpa using hu) (by simp)) ?_
    exact Ev.now _
  · rw [size_eq, if_pos (show 2 + (hexs 16 u []).length ≤ 9223372036854775807 by simp at hl; omega)]
    exact Ev.now _
end Go.Proofs.YtihjlkdobdffjaaDoor.Pure
