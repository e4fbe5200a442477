/-
  A right fault and its word say one another; a word that is read as a fault is that fault's; any other bit that turns in it makes it another fault's word, or none's.
  Conditions: none beyond the row's own.
-/
import Derived.Test.YtglafffghbhnbaaDoorPureRights
set_option linter.unusedSimpArgs false
namespace Go.Proofs.YtglafffghbhnbaaDoor.Pure
open Go.RowKit Go.Proofs.YtglafffghbhnbaaDoorG Go.Proofs.YtglafffghbhnbaaDoor.S Go.Proofs.YtglafffghbhnbaaDoorW.PrintWords Go.Proofs.YtglafffghbhnbaaDoorW.PrintLast

theorem alive_ev : Ev (fun k => atlaslaw07_alive.f k) true := Ev.of (fun k => atlaslaw07_alive.mono k) (k := 4) (by decide +kernel)

theorem words_half (wr : Bool) (bit a b c : Int) : Ev (fun k => atlaslaw07_RightsWords.j0 k wr bit a b c) true := by
  obtain ⟨v, e, e1, ht⟩ := status_one a b c wr
  refine Ev.step (fun k => rfl) ?_
  simp only [atlaslaw07_RightsWords.j0]
  refine Ev.bind e1 ?_
  rcases ht with ⟨rfl, ef, hx⟩ | ⟨rfl, rfl⟩
  · simp only [if_true]
    refine Ev.bind ef ?_
    have h0 : 0 ≤ Int.tmod (IntKind.u64.wrap bit) 32 := Int.tmod_nonneg _ (by show 0 ≤ IntKind.wrap .u64 bit; simp only [IntKind.wrap, show IntKind.u64.bits = 64 from rfl, show IntKind.u64.signed = false from rfl, Bool.false_and, Bool.false_eq_true, if_false]; omega)
    have h1 : Int.tmod (IntKind.u64.wrap bit) 32 < 32 := Int.tmod_lt_of_pos _ (by decide)
    simp only [beq_self_eq_true, Bool.not_true, Bool.or_self, Bool.false_eq_true, if_false, bne_self_eq_false, if_true, if_pos h0]
    obtain ⟨r, er, tr⟩ := fault_told (Go.bits .xor .u32 v (shl .u32 1 (Int.tmod (IntKind.u64.wrap bit) 32)))
    refine Ev.bind er ?_
    rcases tr with ⟨h5, h6, es⟩ | rfl
    · simp only [if_pos h5]
      by_cases hs : (!(r.1 == a) || (!(r.2.1 == b) || (!(r.2.2.1 == c)))) = true
      · simp only [if_pos hs]
        exact Ev.now _
      · simp only [if_neg hs]
        simp only [Bool.or_eq_true, Bool.not_eq_true', beq_eq_false_iff_ne, ne_eq, not_or, Decidable.not_not] at hs
        obtain ⟨rfl, rfl, rfl⟩ := hs
        have hw : (r.2.2.2.1 != wr) = true := by
          by_cases hw : r.2.2.2.1 = wr
          · subst hw
            obtain ⟨K, hK⟩ := es
            obtain ⟨L, hL⟩ := e1
            have := (hK (max K L) (Nat.le_max_left _ _)).symm.trans (hL (max K L) (Nat.le_max_right _ _))
            simp only [Option.some.injEq, Prod.mk.injEq] at this
            exact absurd this.1 (hx _ h0 h1)
          · exact bne_iff_ne.2 hw
        simp only [hw]
        exact Ev.now _
    · simp only [if_neg (show ¬ ((70 : Int) = 0) by decide)]
      exact Ev.now _
  · simp only [if_neg (show ¬ ((70 : Int) = 0) by decide), beq_self_eq_true]
    exact Ev.now _

theorem XRightsWords (a0 : Int) (a1_0 : Int) (a1_1 : Int) (a1_2 : Int) (a2 : Bool) (a3 : Int) (_w0 : (Lit.int .u32 a0).wf = true) (_w1_0 : (Lit.int .i64 a1_0).wf = true) (_w1_1 : (Lit.int .i64 a1_1).wf = true) (_w1_2 : (Lit.int .i64 a1_2).wf = true) (_w3 : (Lit.int .i64 a3).wf = true) : ∃ k, atlaslaw07_RightsWords.f k a0 a1_0 a1_1 a1_2 a2 a3 = some true := by
  refine Ev.rounds (r := true) ?_
  unfold atlaslaw07_RightsWords.f
  refine Ev.bind alive_ev ?_
  simp only [if_true]
  obtain ⟨r, er, tr⟩ := fault_told a0
  refine Ev.bind er ?_
  rcases tr with ⟨h5, h6, es⟩ | rfl
  · simp only [if_pos h5]
    refine Ev.bind es ?_
    simp only [if_true, if_neg h6]
    exact words_half a2 a3 a1_0 a1_1 a1_2
  · simp only [if_neg (show ¬ ((70 : Int) = 0) by decide), beq_self_eq_true, Bool.not_true, Bool.or_self, Bool.false_eq_true, if_false]
    exact words_half a2 a3 a1_0 a1_1 a1_2
end Go.Proofs.YtglafffghbhnbaaDoor.Pure
