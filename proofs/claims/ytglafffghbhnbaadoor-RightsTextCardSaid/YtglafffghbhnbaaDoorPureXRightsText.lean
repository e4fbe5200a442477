/-
  A fault in words is the same by the program and by the document's answer, and unlike right faults have unlike texts.
  Conditions: none beyond the row's own.
-/
import Derived.Test.YtglafffghbhnbaaDoorS7
import Derived.Lib.Strings
set_option linter.unusedSimpArgs false
set_option linter.unusedVariables false
namespace Go.Proofs.YtglafffghbhnbaaDoor.Pure
open Go.RowKit Go.Proofs.YtglafffghbhnbaaDoorG Go.Proofs.YtglafffghbhnbaaDoor.S Go.Proofs.YtglafffghbhnbaaDoorW.PrintWords Go.Proofs.YtglafffghbhnbaaDoorW.PrintLast

/-- Is the fault right? -/
def rgt (a b c : Int) : Bool :=
  decide (0 ≤ c ∧ c ≤ 15 ∧ (((a = 1 ∨ a = 2 ∨ a = 3 ∨ a = 6 ∨ a = 10) ∧ b = 0 ∧ c = 0) ∨ ((a = 4 ∨ a = 5) ∧ b = 0) ∨ ((a = 7 ∨ a = 8 ∨ a = 9) ∧ (b = 1 ∨ b = 2))))
theorem right_ev (a b c : Int) : Ev (fun k => rights_right.f k a b c) (rgt a b c) := by
  refine ⟨3, fun k hk => ?_⟩
  obtain ⟨k, rfl⟩ : ∃ m, k = m + 3 := ⟨k - 3, by omega⟩
  simp only [rights_right.f, rights_right.j0, rights_right.j1, rights_right.j2, rgt, if_true, if_false, beq_iff_eq, Bool.false_eq_true, decide_eq_true_eq]
  by_cases h1 : a = 1 <;> by_cases h2 : a = 2 <;> by_cases h3 : a = 3 <;> by_cases h4 : a = 4 <;> by_cases h5 : a = 5 <;> by_cases h6 : a = 6 <;> by_cases h7 : a = 7 <;> by_cases h8 : a = 8 <;> by_cases h9 : a = 9 <;> by_cases h10 : a = 10 <;>
    first
    | omega
    | (by_cases c0 : c < 0 <;> by_cases c1 : c > 15 <;> by_cases c2 : c = 0 <;> by_cases b0 : b = 0 <;> by_cases b1 : b = 1 <;> by_cases b2 : b = 2 <;> first | omega | (simp [*] <;> omega))
theorem rright_ev (a b c : Int) : Ev (fun k => atlasref07_Right.f k a b c) (rgt a b c) := by
  refine ⟨3, fun k hk => ?_⟩
  obtain ⟨k, rfl⟩ : ∃ m, k = m + 3 := ⟨k - 3, by omega⟩
  simp only [atlasref07_Right.f, atlasref07_Right.j0, atlasref07_Right.j1, atlasref07_Right.j2, rgt, if_true, if_false, beq_iff_eq, Bool.false_eq_true, decide_eq_true_eq]
  by_cases h1 : a = 1 <;> by_cases h2 : a = 2 <;> by_cases h3 : a = 3 <;> by_cases h4 : a = 4 <;> by_cases h5 : a = 5 <;> by_cases h6 : a = 6 <;> by_cases h7 : a = 7 <;> by_cases h8 : a = 8 <;> by_cases h9 : a = 9 <;> by_cases h10 : a = 10 <;>
    first
    | omega
    | (by_cases c0 : 0 ≤ c <;> by_cases c1 : c ≤ 15 <;> by_cases c2 : c = 0 <;> by_cases b0 : b = 0 <;> by_cases b1 : b = 1 <;> by_cases b2 : b = 2 <;> first | omega | (simp [*] <;> omega))
/-- A fault that has a text. -/
def okF (a b c : Int) : Bool := rgt a b c || (a == 0 && (b == 0 && (c == 0)))
def txR (a b c : Int) : ByteArray := (rights_Text.f 6 a b c).getD ⟨#[]⟩
def okL : List (Int × Int × Int) := ((List.range 11).flatMap fun (a : Nat) => (List.range 3).flatMap fun (b : Nat) => (List.range 16).map fun (c : Nat) => ((a : Int), (b : Int), (c : Int))).filter (fun q => okF q.1 q.2.1 q.2.2)
theorem ok_mem {a b c : Int} (h : okF a b c = true) : (a, b, c) ∈ okL := by
  have hr : 0 ≤ a ∧ a < 11 ∧ 0 ≤ b ∧ b < 3 ∧ 0 ≤ c ∧ c < 16 := by
    simp only [okF, rgt, Bool.or_eq_true, decide_eq_true_eq, Bool.and_eq_true, beq_iff_eq] at h
    omega
  refine List.mem_filter.2 ⟨?_, h⟩
  refine List.mem_flatMap.2 ⟨a.toNat, List.mem_range.2 (by omega), List.mem_flatMap.2 ⟨b.toNat, List.mem_range.2 (by omega), List.mem_map.2 ⟨c.toNat, List.mem_range.2 (by omega), ?_⟩⟩⟩
  rw [Int.toNat_of_nonneg hr.1, Int.toNat_of_nonneg hr.2.2.1, Int.toNat_of_nonneg hr.2.2.2.2.1]
theorem both_all : ∀ q ∈ okL, rights_Text.f 6 q.1 q.2.1 q.2.2 = some (txR q.1 q.2.1 q.2.2) ∧ atlasref07_Text.f 6 q.1 q.2.1 q.2.2 = some (txR q.1 q.2.1 q.2.2) := by decide +kernel
theorem inj_all : ∀ q ∈ okL, ∀ r ∈ okL, txR q.1 q.2.1 q.2.2 = txR r.1 r.2.1 r.2.2 → q = r := by decide +kernel
theorem text_both (a b c : Int) : ∃ s, Ev (fun k => rights_Text.f k a b c) s ∧ Ev (fun k => atlasref07_Text.f k a b c) s ∧ ((okF a b c = true ∧ s = txR a b c) ∨ s = ⟨#[]⟩) := by
  by_cases h : okF a b c = true
  · obtain ⟨h1, h2⟩ := both_all (a, b, c) (ok_mem h)
    exact ⟨_, Ev.of (fun k => rights_Text.mono _ _ _ k) h1, Ev.of (fun k => atlasref07_Text.mono _ _ _ k) h2, Or.inl ⟨h, rfl⟩⟩
  · simp only [okF, Bool.or_eq_true, not_or] at h
    refine ⟨⟨#[]⟩, ?_, ?_, Or.inr rfl⟩
    · unfold rights_Text.f
      simp only [if_neg h.2]
      refine Ev.bind (right_ev a b c) ?_
      simp only [if_neg h.1]
      exact Ev.now _
    · unfold atlasref07_Text.f
      simp only [if_neg h.2]
      refine Ev.bind (rright_ev a b c) ?_
      simp only [if_neg h.1]
      exact Ev.now _
theorem toList_inj {a b : ByteArray} (h : a.toList = b.toList) : a = b := by
  rw [Lib.toList_data, Lib.toList_data] at h
  cases a
  cases b
  congr 1
  exact Array.toList_inj.1 h
theorem XRightsText (a0_0 : Int) (a0_1 : Int) (a0_2 : Int) (a1_0 : Int) (a1_1 : Int) (a1_2 : Int) (w0_0 : (Lit.int .i64 a0_0).wf = true) (w0_1 : (Lit.int .i64 a0_1).wf = true) (w0_2 : (Lit.int .i64 a0_2).wf = true) (w1_0 : (Lit.int .i64 a1_0).wf = true) (w1_1 : (Lit.int .i64 a1_1).wf = true) (w1_2 : (Lit.int .i64 a1_2).wf = true) : ∃ k, atlaslaw07_RightsText.f k a0_0 a0_1 a0_2 a1_0 a1_1 a1_2 = some true := by
  obtain ⟨s, e1, f1, g1⟩ := text_both a0_0 a0_1 a0_2
  obtain ⟨t, e2, f2, g2⟩ := text_both a1_0 a1_1 a1_2
  refine Ev.rounds (r := true) ?_
  unfold atlaslaw07_RightsText.f
  refine Ev.bind e1 (Ev.bind e2 (Ev.bind f1 ?_))
  simp only [if_true]
  refine Ev.bind f2 ?_
  simp only [if_true]
  by_cases hs : s.toList = []
  · simp only [if_pos hs]
    exact Ev.now _
  · simp only [if_neg hs]
    by_cases ht : t.toList = []
    · simp only [if_pos ht]
      exact Ev.now _
    · simp only [if_neg ht]
      have e0 : (⟨#[]⟩ : ByteArray).toList = [] := by rw [Lib.toList_data]
      rcases g1 with ⟨k1, rfl⟩ | rfl
      · rcases g2 with ⟨k2, rfl⟩ | rfl
        · have hh : ((txR a0_0 a0_1 a0_2).toList == (txR a1_0 a1_1 a1_2).toList) = (a0_0 == a1_0 && (a0_1 == a1_1 && (a0_2 == a1_2))) := by
            rw [Bool.eq_iff_iff]
            simp only [beq_iff_eq, Bool.and_eq_true]
            constructor
            · intro h
              have := inj_all _ (ok_mem k1) _ (ok_mem k2) (toList_inj h)
              simp only [Prod.mk.injEq] at this
              exact this
            · rintro ⟨rfl, rfl, rfl⟩
              rfl
          simp only [hh, beq_self_eq_true]
          exact Ev.now _
        · exact absurd e0 ht
      · exact absurd e0 hs
end Go.Proofs.YtglafffghbhnbaaDoor.Pure
