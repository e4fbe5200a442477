/-
  The bits of all rights, and what any bits allow, are the same by the program and by the document's answer.
  Conditions: none beyond the row's own.
-/
import Derived.Test.YtglafffghbhnbaaDoorS9
import Derived.Test.YtglafffghbhnbaaDoorPureXRightsAllows
set_option linter.unusedSimpArgs false
namespace Go.Proofs.YtglafffghbhnbaaDoor.Pure
open Go.RowKit Go.Proofs.YtglafffghbhnbaaDoorG Go.Proofs.YtglafffghbhnbaaDoor.S Go.Proofs.YtglafffghbhnbaaDoorW.PrintWords Go.Proofs.YtglafffghbhnbaaDoorW.PrintLast

theorem leaf_step (m : Nat) (a b : Int) (c d : Bool) : ∀ x : Fin 8, atlaslaw07_RightsLeaf.l0 (m + 4) (x.val : Int) a b c d = atlaslaw07_RightsLeaf.l0 (m + 3) ((x.val : Int) + 1) a b c d
  | 0 => by kernel_rfl
  | 1 => by kernel_rfl
  | 2 => by kernel_rfl
  | 3 => by kernel_rfl
  | 4 => by kernel_rfl
  | 5 => by kernel_rfl
  | 6 => by kernel_rfl
  | 7 => by kernel_rfl
theorem rights_both (a b : Int) (c d : Bool) : ∃ r, Ev (fun k => rights_Rights.f k a b c d) r ∧ Ev (fun k => atlasref07_Rights.f k a b c d) r := by
  obtain ⟨r1, e1, f1⟩ := allows_both a b c d false false 2
  obtain ⟨r2, e2, f2⟩ := allows_both a b c d false false 3
  obtain ⟨r3, e3, f3⟩ := allows_both a b c d false false 1
  exact ⟨(r1, r2, r3), Ev.bind e1 (Ev.bind e2 (Ev.bind e3 (Ev.now _))), Ev.bind f1 (Ev.bind f2 (Ev.bind f3 (Ev.now _)))⟩
theorem leaf_end (a b : Int) (c d : Bool) : Ev (fun k => atlaslaw07_RightsLeaf.l0 k 8 a b c d) true := by
  obtain ⟨r, e, f⟩ := rights_both a b c d
  refine Ev.step (fun k => rfl) ?_
  simp only [atlaslaw07_RightsLeaf.l0, if_neg (show ¬ ((8 : Int) < 8) by decide)]
  refine Ev.bind e (Ev.bind f ?_)
  simp only [beq_self_eq_true, Bool.and_self]
  exact Ev.now _
theorem leaf_from (a b : Int) (c d : Bool) : ∀ (n x : Nat), x + n = 8 → Ev (fun k => atlaslaw07_RightsLeaf.l0 k (x : Int) a b c d) true
  | 0, x, h => by
    obtain rfl : x = 8 := by omega
    exact leaf_end a b c d
  | n + 1, x, h => by
    obtain ⟨K, hK⟩ := leaf_from a b c d n (x + 1) (by omega)
    refine ⟨K + 4, fun k hk => ?_⟩
    obtain ⟨m, rfl⟩ : ∃ m, k = m + 4 := ⟨k - 4, by omega⟩
    exact (leaf_step m a b c d ⟨x, by omega⟩).trans (hK (m + 3) (by omega))
theorem XRightsLeaf (a0_0 : Int) (a0_1 : Int) (a0_2 : Bool) (a0_3 : Bool) (_w0_0 : (Lit.int .i64 a0_0).wf = true) (_w0_1 : (Lit.int .u32 a0_1).wf = true) : ∃ k, atlaslaw07_RightsLeaf.f k a0_0 a0_1 a0_2 a0_3 = some true := by
  refine Ev.rounds (r := true) ?_
  exact leaf_from a0_0 a0_1 a0_2 a0_3 8 0 rfl
end Go.Proofs.YtglafffghbhnbaaDoor.Pure
