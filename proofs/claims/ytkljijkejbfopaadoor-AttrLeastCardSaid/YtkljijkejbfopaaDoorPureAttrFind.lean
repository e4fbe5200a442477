/-
  The least bits of a kind, by the program: the first that mean it.
  Conditions: none.
-/
import Derived.Test.YtkljijkejbfopaaDoorS9
import Derived.Test.YtkljijkejbfopaaDoorPureAttr
import Derived.Test.YtkljijkejbfopaaDoorPureAttrMem
set_option linter.unusedSimpArgs false
set_option linter.unusedVariables false
namespace Go.Proofs.YtkljijkejbfopaaDoor.Pure
open Go.RowKit Go.Proofs.YtkljijkejbfopaaDoorG Go.Proofs.YtkljijkejbfopaaDoor.S Go.Proofs.YtkljijkejbfopaaDoorW.PrintWords Go.Proofs.YtkljijkejbfopaaDoorW.PrintLast Go.Proofs.YtkljijkejbfopaaDoorW.PrintMore

/-- Do the bits mean the kind? -/
def hit (t : Bool) (p m T I O S b : Int) : Bool := (ofV t p m b).2.2.2.2 == 0 && ((ofV t p m b).1 == T && ((ofV t p m b).2.1 == I && ((ofV t p m b).2.2.1 == O && ((ofV t p m b).2.2.2.1 == S))))
def fdV (t : Bool) (p m T I O S : Int) : Nat → Nat → Int × Int
  | 0, _ => (0, 63)
  | n + 1, b => if hit t p m T I O S (b : Int) = true then ((b : Int), 0) else fdV t p m T I O S n (b + 1)
def findV (t : Bool) (p m T I O S : Int) : Int × Int := if isK T I O S = true then fdV t p m T I O S 64 0 else (0, 62)
theorem wadd32f (n : Nat) (h : n < 1000) : ((n : Int) + 1) % 4294967296 = ((n + 1 : Nat) : Int) := by omega
theorem find_loop (t : Bool) (p m T I O S : Int) (hp0 : 0 ≤ p) (hp1 : p < 4294967296) (hm0 : 0 ≤ m) (hm1 : m < 4294967296) : ∀ (n b : Nat), b + n = 64 → Ev (fun k => attr_Find.l0 k t p m (b : Int) T I O S) (fdV t p m T I O S n b)
  | 0, b, h => by
    refine Ev.step (fun k => rfl) ?_
    simp only [attr_Find.l0, if_neg (show ¬ ((b : Int) < 64) by omega)]
    exact Ev.now _
  | n + 1, b, h => by
    refine Ev.step (fun k => rfl) ?_
    simp only [attr_Find.l0, if_pos (show (b : Int) < 64 by omega), wadd32f b (by omega)]
    refine Ev.bind (of_ev t p m (b : Int) hp0 hp1 hm0 hm1 (by omega)).1 ?_
    have ih := find_loop t p m T I O S hp0 hp1 hm0 hm1 n (b + 1) (by omega)
    unfold fdV
    cases hh : hit t p m T I O S (b : Int) with
    | true =>
      have h2 := hh
      simp only [hit, Bool.and_eq_true] at h2
      simp only [if_pos (beq_iff_eq.1 h2.1), if_pos (show ((ofV t p m (b : Int)).1 == T && ((ofV t p m (b : Int)).2.1 == I && ((ofV t p m (b : Int)).2.2.1 == O && ((ofV t p m (b : Int)).2.2.2.1 == S)))) = true by simp only [Bool.and_eq_true]; exact h2.2), if_true]
      exact Ev.now _
    | false =>
      simp only [Bool.false_eq_true, if_false]
      by_cases h0 : (ofV t p m (b : Int)).2.2.2.2 = 0
      · have h3 : ¬ (((ofV t p m (b : Int)).1 == T && ((ofV t p m (b : Int)).2.1 == I && ((ofV t p m (b : Int)).2.2.1 == O && ((ofV t p m (b : Int)).2.2.2.1 == S)))) = true) := fun e => by
          simp only [hit, e, h0, beq_self_eq_true, Bool.and_self] at hh
          exact absurd hh (by decide)
        simp only [if_pos h0, if_neg h3]
        exact ih
      · simp only [if_neg h0]
        exact ih
theorem find_ev (t : Bool) (p m T I O S : Int) (hp0 : 0 ≤ p) (hp1 : p < 4294967296) (hm0 : 0 ≤ m) (hm1 : m < 4294967296) : Ev (fun k => attr_Find.f k t p m T I O S) (findV t p m T I O S) := by
  unfold attr_Find.f findV
  refine Ev.bind (kind_ev T I O S) ?_
  by_cases h : isK T I O S = true
  · simp only [if_pos h]
    exact find_loop t p m T I O S hp0 hp1 hm0 hm1 64 0 rfl
  · simp only [if_neg h]
    exact Ev.now _
end Go.Proofs.YtkljijkejbfopaaDoor.Pure
