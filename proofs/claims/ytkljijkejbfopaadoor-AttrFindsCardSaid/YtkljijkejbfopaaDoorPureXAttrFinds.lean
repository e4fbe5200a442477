/-
  The least bits of any kind, or that there are none, or that it is no kind, are the same by the program and by the document's answer.
  Conditions: none beyond the row's own.
-/
import Derived.Test.YtkljijkejbfopaaDoorS19
import Derived.Test.YtkljijkejbfopaaDoorS18
import Derived.Test.YtkljijkejbfopaaDoorPureAttrFind
import Derived.Test.YtkljijkejbfopaaDoorPureAttrLive
set_option linter.unusedSimpArgs false
set_option linter.unusedVariables false
namespace Go.Proofs.YtkljijkejbfopaaDoor.Pure
open Go.RowKit Go.Proofs.YtkljijkejbfopaaDoorG Go.Proofs.YtkljijkejbfopaaDoor.S Go.Proofs.YtkljijkejbfopaaDoorW.PrintWords Go.Proofs.YtkljijkejbfopaaDoorW.PrintLast Go.Proofs.YtkljijkejbfopaaDoorW.PrintMore

theorem rfind_loop (t : Bool) (p m T I O S : Int) (hp0 : 0 ≤ p) (hp1 : p < 4294967296) (hm0 : 0 ≤ m) (hm1 : m < 4294967296) : ∀ (n b : Nat), b + n = 64 → Ev (fun k => atlasref06_Find.l0 k t p m (b : Int) T I O S) (fdV t p m T I O S n b)
  | 0, b, h => by
    refine Ev.step (fun k => rfl) ?_
    simp only [atlasref06_Find.l0, if_neg (show ¬ ((b : Int) < 64) by omega)]
    exact Ev.now _
  | n + 1, b, h => by
    refine Ev.step (fun k => rfl) ?_
    simp only [atlasref06_Find.l0, if_pos (show (b : Int) < 64 by omega), wadd32f b (by omega)]
    refine Ev.bind (of_ev t p m (b : Int) hp0 hp1 hm0 hm1 (by omega)).2 ?_
    have ih := rfind_loop t p m T I O S hp0 hp1 hm0 hm1 n (b + 1) (by omega)
    unfold fdV
    cases hh : hit t p m T I O S (b : Int) with
    | true =>
      have h2 := hh
      simp only [hit, Bool.and_eq_true] at h2
      simp only [if_pos (beq_iff_eq.1 h2.1), if_pos (show ((ofV t p m (b : Int)).1 == T && ((ofV t p m (b : Int)).2.1 == I && ((ofV t p m (b : Int)).2.2.1 == O && ((ofV t p m (b : Int)).2.2.2.1 == S)))) = true by simp only [Bool.and_eq_true]; exact h2.2), if_true]
      exact Ev.now _
    | false =>
      simp only [Bool.false_eq_true, if_false]
      by_cases h0 : (ofV t p m (b : Int)).2.2.2.2 = 0
      · have h3 : ¬ (((ofV t p m (b : Int)).1 == T && ((ofV t p m (b : Int)).2.1 == I && ((ofV t p m (b : Int)).2.2.1 == O && ((ofV t p m (b : Int)).2.2.2.1 == S)))) = true) := fun e => by
          simp only [hit, e, h0, beq_self_eq_true, Bool.and_self] at hh
          exact absurd hh (by decide)
        simp only [if_pos h0, if_neg h3]
        exact ih
      · simp only [if_neg h0]
        exact ih
theorem XAttrFinds (a0 : Bool) (a1 : Int) (a2 : Int) (a3_0 : Int) (a3_1 : Int) (a3_2 : Int) (a3_3 : Int) (w1 : (Lit.int .u32 a1).wf = true) (w2 : (Lit.int .u32 a2).wf = true) (w3_0 : (Lit.int .i64 a3_0).wf = true) (w3_1 : (Lit.int .i64 a3_1).wf = true) (w3_2 : (Lit.int .i64 a3_2).wf = true) (w3_3 : (Lit.int .i64 a3_3).wf = true) : ∃ k, atlaslaw06_AttrFinds.f k a0 a1 a2 a3_0 a3_1 a3_2 a3_3 = some true := by
  refine Ev.rounds (r := true) ?_
  unfold atlaslaw06_AttrFinds.f
  have f : Ev (fun k => atlasref06_Find.f k a0 a1 a2 a3_0 a3_1 a3_2 a3_3) (findV a0 a1 a2 a3_0 a3_1 a3_2 a3_3) := by
    unfold atlasref06_Find.f findV
    refine Ev.bind (mem_ev a3_0 a3_1 a3_2 a3_3) ?_
    by_cases h : isK a3_0 a3_1 a3_2 a3_3 = true
    · simp only [if_pos h]
      exact rfind_loop a0 a1 a2 a3_0 a3_1 a3_2 a3_3 (wf32 w1).1 (wf32 w1).2 (wf32 w2).1 (wf32 w2).2 64 0 rfl
    · simp only [if_neg h]
      exact Ev.now _
  refine Ev.bind (find_ev a0 a1 a2 a3_0 a3_1 a3_2 a3_3 (wf32 w1).1 (wf32 w1).2 (wf32 w2).1 (wf32 w2).2) (Ev.bind f (Ev.bind live_ev ?_))
  simp only [if_true, atlaslaw06_no.f, Option.bind_some, beq_self_eq_true]
  exact Ev.now _
end Go.Proofs.YtkljijkejbfopaaDoor.Pure
