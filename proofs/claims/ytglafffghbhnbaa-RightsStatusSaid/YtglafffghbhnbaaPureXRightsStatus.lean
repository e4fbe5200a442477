/-
  The status word of any fault is the same by the program and by the document's answer, of a load and of a store.
  Conditions: none beyond the row's own.
-/
import Derived.Test.YtglafffghbhnbaaS4
set_option linter.unusedSimpArgs false
namespace Go.Proofs.Ytglafffghbhnbaa.Pure
open Go.RowKit Go.Proofs.Ytglafffghbhnbaa.S Go.Proofs.YtglafffghbhnbaaW.PrintWords Go.Proofs.YtglafffghbhnbaaW.PrintLast

/-- Is the fault right? -/
def rgt (a b c : Int) : Bool :=
  decide (0 ≤ c ∧ c ≤ 15 ∧ (((a = 1 ∨ a = 2 ∨ a = 3 ∨ a = 6 ∨ a = 10) ∧ b = 0 ∧ c = 0) ∨ ((a = 4 ∨ a = 5) ∧ b = 0) ∨ ((a = 7 ∨ a = 8 ∨ a = 9) ∧ (b = 1 ∨ b = 2))))

theorem right_ev (a b c : Int) : Ev (fun k => rights_right.f k a b c) (rgt a b c) := by
  refine ⟨3, fun k hk => ?_⟩
  obtain ⟨k, rfl⟩ : ∃ m, k = m + 3 := ⟨k - 3, by omega⟩
  simp only [rights_right.f, rights_right.j0, rights_right.j1, rights_right.j2, rgt, if_true, if_false, beq_iff_eq, Bool.false_eq_true, decide_eq_true_eq]
  by_cases h1 : a = 1 <;> by_cases h2 : a = 2 <;> by_cases h3 : a = 3 <;> by_cases h4 : a = 4 <;> by_cases h5 : a = 5 <;> by_cases h6 : a = 6 <;> by_cases h7 : a = 7 <;> by_cases h8 : a = 8 <;> by_cases h9 : a = 9 <;> by_cases h10 : a = 10 <;>
    first
    | omega
    | (by_cases c0 : c < 0 <;> by_cases c1 : c > 15 <;> by_cases c2 : c = 0 <;> by_cases b0 : b = 0 <;> by_cases b1 : b = 1 <;> by_cases b2 : b = 2 <;> first | omega | (simp [*] <;> omega))

theorem rright_ev (a b c : Int) : Ev (fun k => atlasref07_Right.f k a b c) (rgt a b c) := by
  refine ⟨3, fun k hk => ?_⟩
  obtain ⟨k, rfl⟩ : ∃ m, k = m + 3 := ⟨k - 3, by omega⟩
  simp only [atlasref07_Right.f, atlasref07_Right.j0, atlasref07_Right.j1, atlasref07_Right.j2, rgt, if_true, if_false, beq_iff_eq, Bool.false_eq_true, decide_eq_true_eq]
  by_cases h1 : a = 1 <;> by_cases h2 : a = 2 <;> by_cases h3 : a = 3 <;> by_cases h4 : a = 4 <;> by_cases h5 : a = 5 <;> by_cases h6 : a = 6 <;> by_cases h7 : a = 7 <;> by_cases h8 : a = 8 <;> by_cases h9 : a = 9 <;> by_cases h10 : a = 10 <;>
    first
    | omega
    | (by_cases c0 : 0 ≤ c <;> by_cases c1 : c ≤ 15 <;> by_cases c2 : c = 0 <;> by_cases b0 : b = 0 <;> by_cases b1 : b = 1 <;> by_cases b2 : b = 2 <;> first | omega | (simp [*] <;> omega))

theorem all_same : ∀ (a : Fin 11) (b : Fin 3) (c : Fin 16) (s : Bool), rgt (a.val : Int) (b.val : Int) (c.val : Int) = true →
    rights_Status.f 3 (a.val : Int) (b.val : Int) (c.val : Int) s = atlasref07_Status.f 3 (a.val : Int) (b.val : Int) (c.val : Int) s ∧ (rights_Status.f 3 (a.val : Int) (b.val : Int) (c.val : Int) s).isSome = true := by decide +kernel

theorem rgt_fin {a b c : Int} (h : rgt a b c = true) : ∃ (x : Fin 11) (y : Fin 3) (z : Fin 16), a = (x.val : Int) ∧ b = (y.val : Int) ∧ c = (z.val : Int) := by
  have h' := of_decide_eq_true h
  exact ⟨⟨a.toNat, by omega⟩, ⟨b.toNat, by omega⟩, ⟨c.toNat, by omega⟩, by simp; omega, by simp; omega, by simp; omega⟩

theorem status_both (a b c : Int) (s : Bool) : ∃ r, Ev (fun k => rights_Status.f k a b c s) r ∧ Ev (fun k => atlasref07_Status.f k a b c s) r := by
  cases h : rgt a b c with
  | true =>
    obtain ⟨x, y, z, rfl, rfl, rfl⟩ := rgt_fin h
    obtain ⟨e, hs⟩ := all_same x y z s h
    obtain ⟨r, hr⟩ := Option.isSome_iff_exists.1 hs
    exact ⟨r, Ev.of (fun k => rights_Status.mono _ _ _ _ k) hr, Ev.of (fun k => atlasref07_Status.mono _ _ _ _ k) (e ▸ hr)⟩
  | false =>
    refine ⟨(0, 70), ?_, ?_⟩
    · unfold rights_Status.f
      refine Ev.bind (right_ev a b c) ?_
      simp only [h, Bool.false_eq_true, if_false]
      exact Ev.now _
    · unfold atlasref07_Status.f
      refine Ev.bind (rright_ev a b c) ?_
      simp only [h, Bool.false_eq_true, if_false]
      exact Ev.now _

theorem XRightsStatus (a0_0 : Int) (a0_1 : Int) (a0_2 : Int) (_w0_0 : (Lit.int .i64 a0_0).wf = true) (_w0_1 : (Lit.int .i64 a0_1).wf = true) (_w0_2 : (Lit.int .i64 a0_2).wf = true) : ∃ k, atlaslaw07_RightsStatus.f k a0_0 a0_1 a0_2 = some true := by
  obtain ⟨r, h1, h2⟩ := status_both a0_0 a0_1 a0_2 false
  obtain ⟨q, h3, h4⟩ := status_both a0_0 a0_1 a0_2 true
  refine Ev.rounds (r := true) ?_
  unfold atlaslaw07_RightsStatus.f
  refine Ev.bind h1 ?_
  refine Ev.bind h2 ?_
  refine Ev.bind h3 ?_
  refine Ev.bind h4 ?_
  simp only [if_true, beq_self_eq_true]
  exact Ev.now _

end Go.Proofs.Ytglafffghbhnbaa.Pure
