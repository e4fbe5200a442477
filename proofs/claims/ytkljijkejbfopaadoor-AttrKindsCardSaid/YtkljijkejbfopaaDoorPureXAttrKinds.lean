/-
  Whatever the registers, each of the 64 bits means a kind that can be written, or is reserved.
  Conditions: none beyond the row's own.
-/
import Derived.Test.YtkljijkejbfopaaDoorS25
import Derived.Test.YtkljijkejbfopaaDoorPureAttr
import Derived.Test.YtkljijkejbfopaaDoorPureAttrText
import Derived.Test.YtkljijkejbfopaaDoorPureAttrLive
set_option linter.unusedSimpArgs false
set_option linter.unusedVariables false
namespace Go.Proofs.YtkljijkejbfopaaDoor.Pure
open Go.RowKit Go.Proofs.YtkljijkejbfopaaDoorG Go.Proofs.YtkljijkejbfopaaDoor.S Go.Proofs.YtkljijkejbfopaaDoorW.PrintWords Go.Proofs.YtkljijkejbfopaaDoorW.PrintLast Go.Proofs.YtkljijkejbfopaaDoorW.PrintMore

theorem wadd32k (n : Nat) (h : n < 1000) : ((n : Int) + 1) % 4294967296 = ((n + 1 : Nat) : Int) := by omega
/-- A kind, or reserved. -/
def kOk (r : Int × Int × Int × Int × Int) : Prop := (r.2.2.2.2 = 0 ∧ isK r.1 r.2.1 r.2.2.1 r.2.2.2.1 = true) ∨ r = (0, 0, 0, 0, 61)
theorem pl_kind : ∀ x : Fin 64, ((plV (x.val : Int)).2.2.2.2 = 0 ∧ isK (plV (x.val : Int)).1 (plV (x.val : Int)).2.1 (plV (x.val : Int)).2.2.1 (plV (x.val : Int)).2.2.2.1 = true) ∨ plV (x.val : Int) = (0, 0, 0, 0, 61) := by decide +kernel
theorem map_kind (T I O s q n : Int) (hT : 0 ≤ T ∧ T ≤ 3) (hI : 0 ≤ I ∧ I ≤ 3) (hO : 0 ≤ O ∧ O ≤ 3) : kOk (mapV T I O s q n) := by
  unfold mapV
  split
  · exact Or.inr rfl
  · split
    · exact Or.inr rfl
    · rename_i h3
      split
      · exact Or.inl ⟨rfl, by decide⟩
      · rename_i h0
        refine Or.inl ⟨rfl, ?_⟩
        have hT' : T = 1 ∨ T = 2 := by omega
        rcases hT' with rfl | rfl
        · by_cases g1 : s = 1 <;> by_cases g2 : q = 1 <;> simp [g1, g2, isK]
        · have e2 : decide (0 ≤ I ∧ I ≤ 3) = true := decide_eq_true hI
          have e3 : decide (0 ≤ O ∧ O ≤ 3) = true := decide_eq_true hO
          by_cases g1 : s = 1 <;> by_cases g2 : q = 1 <;> simp [g1, g2, isK, hI, hO]
theorem of_kind (t : Bool) (p m : Int) (b : Nat) (hp0 : 0 ≤ p) (hp1 : p < 4294967296) (hm0 : 0 ≤ m) (hm1 : m < 4294967296) (hb : b < 64) : kOk (ofV t p m (b : Int)) := by
  unfold ofV
  rw [if_neg (by omega)]
  cases t with
  | true => exact map_kind _ _ _ _ _ _ (fd_rng _ _ hp0 hp1) (fd_rng _ _ hm0 hm1) (fd_rng _ _ hm0 hm1)
  | false => exact pl_kind ⟨b, hb⟩
theorem kinds_loop (t : Bool) (p m : Int) (hp0 : 0 ≤ p) (hp1 : p < 4294967296) (hm0 : 0 ≤ m) (hm1 : m < 4294967296) : ∀ (n b : Nat), b + n = 64 → Ev (fun k => atlaslaw06_AttrKinds.l0 k t p m (b : Int)) true
  | 0, b, h => by
    refine Ev.step (fun k => rfl) ?_
    simp only [atlaslaw06_AttrKinds.l0, if_neg (show ¬ ((b : Int) < 64) by omega)]
    exact Ev.now _
  | n + 1, b, h => by
    have ih := kinds_loop t p m hp0 hp1 hm0 hm1 n (b + 1) (by omega)
    refine Ev.step (fun k => rfl) ?_
    simp only [atlaslaw06_AttrKinds.l0, if_pos (show (b : Int) < 64 by omega), wadd32k b (by omega)]
    refine Ev.bind (of_ev t p m (b : Int) hp0 hp1 hm0 hm1 (by omega)).1 ?_
    simp only [atlaslaw06_no.f, Option.bind_some]
    rcases of_kind t p m b hp0 hp1 hm0 hm1 (by omega) with ⟨h0, hk⟩ | h0
    · simp only [if_pos h0]
      refine Ev.bind (show_ev _ _ _ _) ?_
      simp only [shV, if_pos hk]
      refine Ev.bind (read_yes hk) ?_
      simp only [if_true, beq_self_eq_true, Bool.not_true, Bool.or_self, Bool.false_eq_true, if_false]
      exact ih
    · simp only [h0, if_neg (show ¬ ((61 : Int) = 0) by decide), if_true, beq_self_eq_true, Bool.not_true, Bool.or_self, Bool.false_eq_true, if_false]
      exact ih
theorem XAttrKinds (a0 : Bool) (a1 : Int) (a2 : Int) (w1 : (Lit.int .u32 a1).wf = true) (w2 : (Lit.int .u32 a2).wf = true) : ∃ k, atlaslaw06_AttrKinds.f k a0 a1 a2 = some true := by
  refine Ev.rounds (r := true) ?_
  unfold atlaslaw06_AttrKinds.f
  refine Ev.bind live_ev ?_
  simp only [if_true]
  exact kinds_loop a0 a1 a2 (wf32 w1).1 (wf32 w1).2 (wf32 w2).1 (wf32 w2).2 64 0 rfl
end Go.Proofs.YtkljijkejbfopaaDoor.Pure
