/-
  What Find answers has the kind, nothing below it has; where it answers that there are no bits, none of all 64 has.
  Conditions: none beyond the row's own.
-/
import Derived.Test.YtkljijkejbfopaaDoorS23
import Derived.Test.YtkljijkejbfopaaDoorPureAttrFind
import Derived.Test.YtkljijkejbfopaaDoorPureAttrLive
set_option linter.unusedSimpArgs false
set_option linter.unusedVariables false
namespace Go.Proofs.YtkljijkejbfopaaDoor.Pure
open Go.RowKit Go.Proofs.YtkljijkejbfopaaDoorG Go.Proofs.YtkljijkejbfopaaDoor.S Go.Proofs.YtkljijkejbfopaaDoorW.PrintWords Go.Proofs.YtkljijkejbfopaaDoorW.PrintLast Go.Proofs.YtkljijkejbfopaaDoorW.PrintMore

theorem fdV_ge (t : Bool) (p m T I O S : Int) : ∀ (n b : Nat), (fdV t p m T I O S n b).2 = 0 → (b : Int) ≤ (fdV t p m T I O S n b).1
  | 0, b, h => by simp [fdV] at h
  | n + 1, b, h => by
    unfold fdV at h ⊢
    split
    · exact Int.le_refl _
    · rename_i hh
      rw [if_neg hh] at h
      have := fdV_ge t p m T I O S n (b + 1) h
      omega
theorem fdV_no (t : Bool) (p m T I O S : Int) : ∀ (n b : Nat), (fdV t p m T I O S n b).2 = 0 ∨ fdV t p m T I O S n b = (0, 63)
  | 0, b => Or.inr rfl
  | n + 1, b => by
    unfold fdV
    split
    · exact Or.inl rfl
    · exact fdV_no t p m T I O S n (b + 1)
theorem least_loop (t : Bool) (p m T I O S x e : Int) (hp0 : 0 ≤ p) (hp1 : p < 4294967296) (hm0 : 0 ≤ m) (hm1 : m < 4294967296) : ∀ (n b : Nat), b + n = 64 → fdV t p m T I O S n b = (x, e) → Ev (fun k => atlaslaw06_AttrLeast.l0 k t p m x e (b : Int) T I O S) true
  | 0, b, h, hf => by
    have he : e = 63 := by
      have := congrArg Prod.snd hf
      exact this.symm
    refine Ev.step (fun k => rfl) ?_
    simp only [atlaslaw06_AttrLeast.l0, if_neg (show ¬ ((b : Int) < 64) by omega), atlaslaw06_no.f, Option.bind_some, he, beq_self_eq_true]
    exact Ev.now _
  | n + 1, b, h, hf => by
    refine Ev.step (fun k => rfl) ?_
    simp only [atlaslaw06_AttrLeast.l0, if_pos (show (b : Int) < 64 by omega)]
    refine Ev.bind (of_ev t p m (b : Int) hp0 hp1 hm0 hm1 (by omega)).1 ?_
    simp only [atlaslaw06_no.f, Option.bind_some]
    have key : Ev (fun k => atlaslaw06_AttrLeast.j2 k t p m x e (b : Int) (hit t p m T I O S (b : Int)) T I O S) true := by
      refine Ev.step (fun k => rfl) ?_
      simp only [atlaslaw06_AttrLeast.j2, atlaslaw06_no.f, Option.bind_some]
      unfold fdV at hf
      cases hh : hit t p m T I O S (b : Int) with
      | true =>
        rw [hh, if_pos rfl] at hf
        have hx : (b : Int) = x := congrArg Prod.fst hf
        have he : e = 0 := (congrArg Prod.snd hf).symm
        simp only [he, if_true, hx, beq_self_eq_true]
        refine Ev.step (fun k => rfl) ?_
        simp only [atlaslaw06_AttrLeast.j3, if_true]
        exact Ev.now _
      | false =>
        rw [hh, if_neg (by decide)] at hf
        have ih := least_loop t p m T I O S x e hp0 hp1 hm0 hm1 n (b + 1) (by omega) hf
        have go : Ev (fun k => atlaslaw06_AttrLeast.j3 k t p m x e (b : Int) false false T I O S) true := by
          refine Ev.step (fun k => rfl) ?_
          simp only [atlaslaw06_AttrLeast.j3, Bool.false_eq_true, if_false, wadd32f b (by omega)]
          exact ih
        by_cases he : e = 0
        · have hg := fdV_ge t p m T I O S n (b + 1) (by rw [hf]; exact he)
          rw [hf] at hg
          have hne : ((b : Int) == x) = false := beq_eq_false_iff_ne.2 (by simp only at hg; omega)
          simp only [if_pos he, hne]
          exact go
        · simp only [if_neg he]
          exact go
    by_cases h0 : (ofV t p m (b : Int)).2.2.2.2 = 0
    · simp only [if_pos h0]
      have e2 : hit t p m T I O S (b : Int) = ((ofV t p m (b : Int)).1 == T && ((ofV t p m (b : Int)).2.1 == I && ((ofV t p m (b : Int)).2.2.1 == O && ((ofV t p m (b : Int)).2.2.2.1 == S)))) := by
        unfold hit
        rw [h0]
        rfl
      rw [← e2]
      exact key
    · simp only [if_neg h0]
      have e2 : hit t p m T I O S (b : Int) = false := by
        unfold hit
        rw [beq_eq_false_iff_ne.2 h0]
        rfl
      rw [e2] at key
      exact key
theorem XAttrLeast (a0 : Bool) (a1 : Int) (a2 : Int) (a3_0 : Int) (a3_1 : Int) (a3_2 : Int) (a3_3 : Int) (w1 : (Lit.int .u32 a1).wf = true) (w2 : (Lit.int .u32 a2).wf = true) (w3_0 : (Lit.int .i64 a3_0).wf = true) (w3_1 : (Lit.int .i64 a3_1).wf = true) (w3_2 : (Lit.int .i64 a3_2).wf = true) (w3_3 : (Lit.int .i64 a3_3).wf = true) : ∃ k, atlaslaw06_AttrLeast.f k a0 a1 a2 a3_0 a3_1 a3_2 a3_3 = some true := by
  refine Ev.rounds (r := true) ?_
  unfold atlaslaw06_AttrLeast.f
  refine Ev.bind (show_ev a3_0 a3_1 a3_2 a3_3) (Ev.bind (find_ev a0 a1 a2 a3_0 a3_1 a3_2 a3_3 (wf32 w1).1 (wf32 w1).2 (wf32 w2).1 (wf32 w2).2) (Ev.bind live_ev ?_))
  simp only [if_true, atlaslaw06_no.f, Option.bind_some]
  unfold shV findV
  by_cases h : isK a3_0 a3_1 a3_2 a3_3 = true
  · simp only [if_pos h, if_true]
    have hl := least_loop a0 a1 a2 a3_0 a3_1 a3_2 a3_3 _ _ (wf32 w1).1 (wf32 w1).2 (wf32 w2).1 (wf32 w2).2 64 0 rfl rfl
    have hj : Ev (fun k => atlaslaw06_AttrLeast.j0 k a0 a1 a2 (fdV a0 a1 a2 a3_0 a3_1 a3_2 a3_3 64 0).1 (fdV a0 a1 a2 a3_0 a3_1 a3_2 a3_3 64 0).2 false a3_0 a3_1 a3_2 a3_3) true := by
      refine Ev.step (fun k => rfl) ?_
      simp only [atlaslaw06_AttrLeast.j0, Bool.false_eq_true, if_false]
      exact hl
    rcases fdV_no a0 a1 a2 a3_0 a3_1 a3_2 a3_3 64 0 with h0 | h0
    · simp only [if_pos h0]
      exact hj
    · rw [h0] at hj
      simp only [h0, if_neg (show ¬ ((63 : Int) = 0) by decide), if_true, bne_self_eq_false]
      exact hj
  · simp only [if_neg h, if_neg (show ¬ ((62 : Int) = 0) by decide), if_true, beq_self_eq_true]
    exact Ev.now _
end Go.Proofs.YtkljijkejbfopaaDoor.Pure
