/-
  The kind of any bits with remap, and of all 64 by these registers, is the same by the program and by the document's answer.
  Conditions: none beyond the row's own.
-/
import Derived.Test.YtkljijkejbfopaaDoorS16
import Derived.Test.YtkljijkejbfopaaDoorPureAttr
import Derived.Test.YtkljijkejbfopaaDoorPureAttrLive
set_option linter.unusedSimpArgs false
set_option linter.unusedVariables false
namespace Go.Proofs.YtkljijkejbfopaaDoor.Pure
open Go.RowKit Go.Proofs.YtkljijkejbfopaaDoorG Go.Proofs.YtkljijkejbfopaaDoor.S Go.Proofs.YtkljijkejbfopaaDoorW.PrintWords Go.Proofs.YtkljijkejbfopaaDoorW.PrintLast Go.Proofs.YtkljijkejbfopaaDoorW.PrintMore

theorem wadd32 (n : Nat) (h : n < 1000) : ((n : Int) + 1) % 4294967296 = ((n + 1 : Nat) : Int) := by omega
theorem remaps_loop (p m : Int) (hp0 : 0 ≤ p) (hp1 : p < 4294967296) (hm0 : 0 ≤ m) (hm1 : m < 4294967296) : ∀ (n b : Nat), b + n = 66 → Ev (fun k => atlaslaw06_AttrRemaps.l0 k p m (b : Int)) true
  | 0, b, h => by
    refine Ev.step (fun k => rfl) ?_
    simp only [atlaslaw06_AttrRemaps.l0, if_neg (show ¬ ((b : Int) < 66) by omega)]
    exact Ev.now _
  | n + 1, b, h => by
    obtain ⟨e, f⟩ := of_ev true p m (b : Int) hp0 hp1 hm0 hm1 (by omega)
    refine Ev.step (fun k => rfl) ?_
    simp only [atlaslaw06_AttrRemaps.l0, if_pos (show (b : Int) < 66 by omega), wadd32 b (by omega)]
    refine Ev.bind e (Ev.bind f ?_)
    simp only [beq_self_eq_true, Bool.not_true, Bool.or_self, Bool.false_eq_true, if_false, atlaslaw06_no.f, Option.bind_some, if_true]
    exact remaps_loop p m hp0 hp1 hm0 hm1 n (b + 1) (by omega)
theorem XAttrRemaps (a0 : Int) (a1 : Int) (a2 : Int) (w0 : (Lit.int .u32 a0).wf = true) (w1 : (Lit.int .u32 a1).wf = true) (w2 : (Lit.int .u32 a2).wf = true) : ∃ k, atlaslaw06_AttrRemaps.f k a0 a1 a2 = some true := by
  obtain ⟨e, f⟩ := of_ev true a0 a1 a2 (wf32 w0).1 (wf32 w0).2 (wf32 w1).1 (wf32 w1).2 (wf32 w2).1
  refine Ev.rounds (r := true) ?_
  unfold atlaslaw06_AttrRemaps.f
  refine Ev.bind e (Ev.bind f (Ev.bind live_ev ?_))
  simp only [if_true, beq_self_eq_true, Bool.not_true, Bool.or_self, Bool.false_eq_true, if_false, atlaslaw06_no.f, Option.bind_some, bne_self_eq_false]
  refine Ev.step (fun k => rfl) ?_
  simp only [atlaslaw06_AttrRemaps.j0, Bool.false_eq_true, if_false]
  exact remaps_loop a0 a1 (wf32 w0).1 (wf32 w0).2 (wf32 w1).1 (wf32 w1).2 66 0 rfl
end Go.Proofs.YtkljijkejbfopaaDoor.Pure
