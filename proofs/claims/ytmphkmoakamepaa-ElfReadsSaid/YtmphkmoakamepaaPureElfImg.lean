/-
  What the law's copy of an image is: the image.
  Conditions: none.
-/
import Derived.Test.YtmphkmoakamepaaVaOpen
import Derived.Test.YtmphkmoakamepaaVl
set_option linter.unusedVariables false
set_option linter.unusedSimpArgs false
set_option autoImplicit false
namespace Go.Va
abbrev SegC : CT := .pair (.int .u32) (.pair (.int .u32) (.pair (.pair .bool (.pair .bool (.pair .bool .unit))) (.pair (.vec (.int .u8)) .unit)))
abbrev SymC : CT := .pair .str (.pair (.int .u32) .unit)
abbrev ImgC : CT := .pair (.int .u32) (.pair (.vec SegC) (.pair (.vec SymC) .unit))
abbrev SegT : Type := Int × Int × (Bool × Bool × Bool × Unit) × (List Int) × Unit
abbrev SymT : Type := ByteArray × Int × Unit
theorem wrap_i64e (x : Int) (h0 : -9223372036854775808 ≤ x) (h1 : x < 9223372036854775808) : IntKind.wrap .i64 x = x := by
  have w : IntKind.wrap .i64 x = if (true && decide (x % 18446744073709551616 ≥ 9223372036854775808)) = true then x % 18446744073709551616 - 18446744073709551616 else x % 18446744073709551616 := by rfl
  rw [w]
  simp only [Bool.true_and, decide_eq_true_eq]
  split <;> omega
theorem maxLen_v : maxLen = 9223372036854775807 := by decide
theorem reach_v : reachBytes = 140737488351232 := by decide
/-- An image as any may be handed in. -/
structure ImgOk (x : T25) : Prop where
  sl : x.f1_Segments.length * 40 ≤ reachBytes
  sd : ∀ s ∈ x.f1_Segments, List.length s.2.2.2.1 ≤ reachBytes
  yl : x.f2_Symbols.length * 24 ≤ reachBytes
  yn : ∀ s ∈ x.f2_Symbols, s.1.size ≤ reachBytes
  e0 : 0 ≤ x.f0_Entry ∧ x.f0_Entry < 4294967296
  su : ∀ s ∈ x.f1_Segments, (0 ≤ s.1 ∧ s.1 < 4294967296) ∧ (0 ≤ s.2.1 ∧ s.2.1 < 4294967296) ∧ ∀ b ∈ s.2.2.2.1, (0 : Int) ≤ b ∧ b < 256
  yu : ∀ s ∈ x.f2_Symbols, 0 ≤ s.2.1 ∧ s.2.1 < 4294967296
theorem u32_wf {x : Int} (h : (Lit.int .u32 x).wf = true) : 0 ≤ x ∧ x < 4294967296 := by
  simp only [Lit.wf, IntKind.min, IntKind.max, Bool.and_eq_true, decide_eq_true_eq] at h
  simp [IntKind.bits, IntKind.signed] at h
  omega
theorem u8_wf {x : Int} (h : (Lit.int .u8 x).wf = true) : 0 ≤ x ∧ x < 256 := by
  simp only [Lit.wf, IntKind.min, IntKind.max, Bool.and_eq_true, decide_eq_true_eq] at h
  simp [IntKind.bits, IntKind.signed] at h
  omega
theorem img_ok {y : ImgC.D} (h : ImgC.wf y) : ImgOk ⟨y.1, y.2.1, y.2.2.1⟩ := by
  have h1 : (Lit.int .u32 y.1).wf = true := h.1
  have h2 : List.length y.2.1 ≤ maxLen ∧ List.length y.2.1 * SegC.bytes ≤ reachBytes ∧ ∀ s ∈ y.2.1, SegC.wf s := h.2.1
  have h3 : List.length y.2.2.1 ≤ maxLen ∧ List.length y.2.2.1 * SymC.bytes ≤ reachBytes ∧ ∀ s ∈ y.2.2.1, SymC.wf s := h.2.2.1
  have b1 : SegC.bytes = 40 := by decide
  have b2 : SymC.bytes = 24 := by decide
  rw [b1] at h2
  rw [b2] at h3
  refine ⟨h2.2.1, fun s hs => ?_, h3.2.1, fun s hs => ?_, u32_wf h1, fun s hs => ?_, fun s hs => ?_⟩
  · have h4 : List.length s.2.2.2.1 ≤ maxLen ∧ List.length s.2.2.2.1 * (CT.int .u8).bytes ≤ reachBytes ∧ ∀ b ∈ s.2.2.2.1, (CT.int .u8).wf b := (h2.2.2 s hs).2.2.2.1
    have b3 : (CT.int .u8).bytes = 1 := by decide
    rw [b3] at h4
    have := h4.2.1
    simpa using this
  · have h4 : ByteArray.size s.1 ≤ maxLen ∧ ByteArray.size s.1 ≤ reachBytes := (h3.2.2 s hs).1
    exact h4.2
  · have h4 : (Lit.int .u32 s.1).wf = true := (h2.2.2 s hs).1
    have h5 : (Lit.int .u32 s.2.1).wf = true := (h2.2.2 s hs).2.1
    have h6 : List.length s.2.2.2.1 ≤ maxLen ∧ List.length s.2.2.2.1 * (CT.int .u8).bytes ≤ reachBytes ∧ ∀ b ∈ s.2.2.2.1, (CT.int .u8).wf b := (h2.2.2 s hs).2.2.2.1
    exact ⟨u32_wf h4, u32_wf h5, fun b hb => u8_wf (h6.2.2 b hb)⟩
  · have h4 : (Lit.int .u32 s.2.1).wf = true := (h3.2.2 s hs).2.1
    exact u32_wf h4
theorem getD_drop {α : Type} {l : List α} {q : Nat} {c : α} {cs : List α} (h : l.drop q = c :: cs) (d : α) : l.getD q d = c ∧ q < l.length ∧ l.drop (q + 1) = cs := by
  have h1 : l[q]? = some c := by
    have e := List.getElem?_drop (xs := l) (i := q) (j := 0)
    rw [h] at e
    simpa using e.symm
  refine ⟨by rw [List.getD_eq_getElem?_getD, h1]; rfl, (List.getElem?_eq_some_iff.1 h1).1, ?_⟩
  have e : List.drop (q + 1) l = List.drop 1 (List.drop q l) := by rw [List.drop_drop, Nat.add_comm]
  rw [e, h]; rfl
end Go.Va
