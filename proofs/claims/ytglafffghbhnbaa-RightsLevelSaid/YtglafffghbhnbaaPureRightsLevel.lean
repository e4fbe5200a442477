/-
  The level of a block by its size is the same by the program and by the document's answer, for every number as a size.
  Conditions: none beyond the row's own.
-/
import Derived.Test.YtglafffghbhnbaaPRightsLevelx1
set_option linter.unusedSimpArgs false
namespace Go.Proofs.Ytglafffghbhnbaa.Pure
open Go.RowKit Go.Proofs.Ytglafffghbhnbaa.PRightsLevel Go.Proofs.YtglafffghbhnbaaW.PrintWords Go.Proofs.YtglafffghbhnbaaW.PrintLast

def lvl (x : Int) : Int := if x = 1 then 2 else if x = 2 then 2 else if x = 3 then 1 else if x = 4 then 1 else 0

theorem level_ev (x : Int) : Ev (fun k => rights_Level.f k x) (lvl x) := by
  refine ⟨1, fun k hk => ?_⟩
  obtain ⟨k, rfl⟩ : ∃ m, k = m + 1 := ⟨k - 1, by omega⟩
  by_cases h1 : x = 1
  · subst h1; rfl
  by_cases h2 : x = 2
  · subst h2; rfl
  simp [rights_Level.f, rights_Level.j0, lvl, h1, h2]
  by_cases h3 : x = 3
  · subst h3; rfl
  by_cases h4 : x = 4
  · subst h4; rfl
  simp [h3, h4]
theorem rlevel_ev (x : Int) : Ev (fun k => atlasref07_Level.f k x) (lvl x) := by
  refine ⟨1, fun k hk => ?_⟩
  obtain ⟨k, rfl⟩ : ∃ m, k = m + 1 := ⟨k - 1, by omega⟩
  by_cases h1 : x = 1
  · subst h1; rfl
  by_cases h2 : x = 2
  · subst h2; rfl
  simp [atlasref07_Level.f, atlasref07_Level.j0, lvl, h1, h2]
  by_cases h3 : x = 3
  · subst h3; rfl
  by_cases h4 : x = 4
  · subst h4; rfl
  simp [h3, h4]

theorem loop (a : Int) (d : Nat) : ∀ i : Int, -1 ≤ i → i + d = 7 → Ev (fun k => atlaslaw07_RightsLevel.l0 k a i) true := by
  induction d with
  | zero =>
    intro i h0 hd
    refine Ev.step (fun k => rfl) ?_
    simp only [atlaslaw07_RightsLevel.l0, if_neg (show ¬ i < 7 by omega)]
    refine Ev.bind (level_ev a) ?_
    refine Ev.bind (rlevel_ev a) ?_
    simp only [beq_self_eq_true]
    exact Ev.now _
  | succ d ih =>
    intro i h0 hd
    have e : wrap64 (i + 1) = i + 1 := by unfold wrap64; omega
    refine Ev.step (fun k => rfl) ?_
    simp only [atlaslaw07_RightsLevel.l0, if_pos (show i < 7 by omega), e]
    refine Ev.bind (level_ev i) ?_
    refine Ev.bind (rlevel_ev i) ?_
    simp only [if_true]
    exact ih (i + 1) (by omega) (by omega)

theorem RightsLevel : atlaslaw07_RightsLevel.Pure := by
  intro a _
  exact Ev.rounds (loop a 8 (-1) (by omega) (by omega))

end Go.Proofs.Ytglafffghbhnbaa.Pure
