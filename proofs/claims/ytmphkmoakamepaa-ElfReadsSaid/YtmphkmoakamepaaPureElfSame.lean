/-
  An image is the same as itself.
  Conditions: none.
-/
import Derived.Test.YtmphkmoakamepaaPureElfNames
set_option linter.unusedVariables false
set_option linter.unusedSimpArgs false
set_option autoImplicit false
set_option maxRecDepth 100000
namespace Go.Va
def Bys (l : List Int) : Prop := ∀ b ∈ l, 0 ≤ b ∧ b < 256
theorem Bys.all {l : List Int} (h : Bys l) : l.all (fun b => decide (0 ≤ b) && decide (b < 256)) = true := List.all_eq_true.2 fun b hb => by
  have := h b hb
  simp; omega
/-! ### An image is the same as itself -/
theorem same_eq (x : T25) (h : ImgOk x) (k : Nat) (hk : reachBytes < k) : atlaslaw23_same.f k x x = some true := by
  have hr := reach_v
  obtain ⟨E, S, Y⟩ := x
  have sl : S.length * 40 ≤ reachBytes := h.sl
  have yl : Y.length * 24 ≤ reachBytes := h.yl
  have hS : ∀ c ∈ S, Bys c.2.2.2.1 := fun c hc => (h.su c hc).2.2
  have c1 : ∀ q : Nat, decide ((0 : Int) ≤ (q : Int)) = true := fun q => decide_eq_true (by omega)
  have A := (fold_loop S (fun q (x : Unit) => True) (fun x c => x) (fun x : Unit => (Sum.inr (E, S, Y, E, S, Y) : Bool ⊕ (Int × List SegT × List SymT × Int × List SegT × List SymT))) (fun n q x => atlaslaw23_same.q0.l k n ((q : Int), E, S, Y, E, S, Y)) (fun n x _ => ?_) (fun n q c x hc hq hI => ?_) S k 0 () rfl (by omega) (by omega) trivial).1
  · have B := (fold_loop Y (fun q (x : Unit) => True) (fun x c => x) (fun x : Unit => (Sum.inr () : Bool ⊕ Unit)) (fun n q x => atlaslaw23_same.q1.l k n ((q : Int), E, S, Y, E, S, Y)) (fun n x _ => ?_) (fun n q c x hc hq hI => ?_) Y k 0 () rfl (by omega) (by omega) trivial).1
    · have A : atlaslaw23_same.q0.l k k (0, E, S, Y, E, S, Y) = some (.inr (E, S, Y, E, S, Y)) := A
      have B : atlaslaw23_same.q1.l k k (0, E, S, Y, E, S, Y) = some (.inr ()) := B
      unfold atlaslaw23_same.f
      simp only [bne_self_eq_false, cond_false, A, Option.bind_some, Sum.elim_inr, B]
    · simp only [atlaslaw23_same.q1.l, decide_eq_false (show ¬ (Y.length : Int) < ((Y.length : Nat) : Int) by omega), cond_false]
    · refine ⟨trivial, ?_⟩
      simp only [atlaslaw23_same.q1.l, decide_eq_true (show (q : Int) < ((Y.length : Nat) : Int) by omega), c1, Bool.and_self, cond_true, Int.toNat_natCast, getD_of hc, beq_self_eq_true, Bool.not_true, cond_false, wrap_i64n q (by omega)]
  · simp only [atlaslaw23_same.q0.l, decide_eq_false (show ¬ (S.length : Int) < ((S.length : Nat) : Int) by omega), cond_false]
  · refine ⟨trivial, ?_⟩
    have hb := (hS c (mem_at hc)).all
    simp only [atlaslaw23_same.q0.l, decide_eq_true (show (q : Int) < ((S.length : Nat) : Int) by omega), c1, Bool.and_self, cond_true, Int.toNat_natCast, getD_of hc, bne_self_eq_false, beq_self_eq_true, Bool.not_true, cond_false, hb, wrap_i64n q (by omega)]

end Go.Va
