/-
  What the bits of a block allow is the same by the program and by the document's answer: any leaf and any kind, with the access flag on and off, of both sides.
  Conditions: none beyond the row's own.
-/
import Derived.Test.YtglafffghbhnbaaDoorS6
set_option linter.unusedSimpArgs false
namespace Go.Proofs.YtglafffghbhnbaaDoor.Pure
open Go.RowKit Go.Proofs.YtglafffghbhnbaaDoorG Go.Proofs.YtglafffghbhnbaaDoor.S Go.Proofs.YtglafffghbhnbaaDoorW.PrintWords Go.Proofs.YtglafffghbhnbaaDoorW.PrintLast

/-- A kind that is none of the three reads as none. -/
def knd (k : Int) : Int := if k = 1 then 1 else if k = 2 then 2 else if k = 3 then 3 else 0
theorem knd_fin (k : Int) : ∃ x : Fin 4, knd k = (x.val : Int) := by
  unfold knd
  by_cases h1 : k = 1
  · exact ⟨1, by simp [h1]⟩
  by_cases h2 : k = 2
  · exact ⟨2, by simp [h2]⟩
  by_cases h3 : k = 3
  · subst h3; exact ⟨3, rfl⟩
  exact ⟨0, by simp [h1, h2, h3]⟩

theorem allows_norm (m : Nat) (a b : Int) (ng xn afe priv : Bool) (kind : Int) : rights_Allows.f (m + 2) a b ng xn afe priv kind = rights_Allows.f (m + 2) a 0 false xn afe priv (knd kind) := by
  simp only [rights_Allows.f, rights_Allows.j0, rights_Allows.j1, knd]
  by_cases k1 : kind = 1
  · subst k1; rfl
  by_cases k2 : kind = 2
  · subst k2; rfl
  by_cases k3 : kind = 3
  · subst k3; rfl
  simp only [if_neg k1, if_neg k2, if_neg k3, if_neg (show ¬ ((0 : Int) = 1) by decide), if_neg (show ¬ ((0 : Int) = 2) by decide), if_neg (show ¬ ((0 : Int) = 3) by decide)]
theorem rallows_norm (m : Nat) (a b : Int) (ng xn afe priv : Bool) (kind : Int) : atlasref07_Allows.f (m + 2) a b ng xn afe priv kind = atlasref07_Allows.f (m + 2) a 0 false xn afe priv (knd kind) := by
  simp only [atlasref07_Allows.f, atlasref07_Allows.j0, knd]
  by_cases k1 : kind = 1
  · subst k1; rfl
  by_cases k2 : kind = 2
  · subst k2; rfl
  by_cases k3 : kind = 3
  · subst k3; rfl
  simp only [if_neg k1, if_neg k2, if_neg k3, if_neg (show ¬ ((0 : Int) = 1) by decide), if_neg (show ¬ ((0 : Int) = 2) by decide), if_neg (show ¬ ((0 : Int) = 3) by decide)]

theorem allows_all : ∀ (a : Fin 8) (xn afe priv : Bool) (kd : Fin 4),
    rights_Allows.f 2 (a.val : Int) 0 false xn afe priv (kd.val : Int) = atlasref07_Allows.f 2 (a.val : Int) 0 false xn afe priv (kd.val : Int) ∧ (rights_Allows.f 2 (a.val : Int) 0 false xn afe priv (kd.val : Int)).isSome = true := by decide +kernel

theorem allows_both (a b : Int) (ng xn afe priv : Bool) (kind : Int) : ∃ r, Ev (fun k => rights_Allows.f k a b ng xn afe priv kind) r ∧ Ev (fun k => atlasref07_Allows.f k a b ng xn afe priv kind) r := by
  by_cases h0 : a < 0
  · refine ⟨false, ?_, ?_⟩
    · unfold rights_Allows.f
      simp only [if_pos h0]
      exact Ev.step (fun k => rfl) (Ev.now _)
    · unfold atlasref07_Allows.f
      simp only [if_pos h0]
      exact Ev.step (fun k => rfl) (Ev.now _)
  by_cases h1 : a > 7
  · refine ⟨false, ?_, ?_⟩
    · unfold rights_Allows.f
      simp only [if_neg h0, decide_eq_true h1]
      exact Ev.step (fun k => rfl) (Ev.now _)
    · unfold atlasref07_Allows.f
      simp only [if_neg h0, decide_eq_true h1]
      exact Ev.step (fun k => rfl) (Ev.now _)
  obtain ⟨x, rfl⟩ : ∃ x : Fin 8, a = (x.val : Int) := ⟨⟨a.toNat, by omega⟩, by simp; omega⟩
  obtain ⟨kd, hk⟩ := knd_fin kind
  obtain ⟨e, hs⟩ := allows_all x xn afe priv kd
  obtain ⟨r, hr⟩ := Option.isSome_iff_exists.1 hs
  refine ⟨r, ⟨2, fun k hk' => ?_⟩, ⟨2, fun k hk' => ?_⟩⟩
  · obtain ⟨m, rfl⟩ : ∃ m, k = m + 2 := ⟨k - 2, by omega⟩
    show rights_Allows.f (m + 2) _ _ _ _ _ _ _ = _
    rw [allows_norm, hk]
    exact at_rounds (g := fun k => rights_Allows.f k (x.val : Int) 0 false xn afe priv (kd.val : Int)) (fun k => rights_Allows.mono _ _ _ _ _ _ _ k) hk' hr
  · obtain ⟨m, rfl⟩ : ∃ m, k = m + 2 := ⟨k - 2, by omega⟩
    show atlasref07_Allows.f (m + 2) _ _ _ _ _ _ _ = _
    rw [rallows_norm, hk]
    exact at_rounds (g := fun k => atlasref07_Allows.f k (x.val : Int) 0 false xn afe priv (kd.val : Int)) (fun k => atlasref07_Allows.mono _ _ _ _ _ _ _ k) hk' (e ▸ hr)

theorem allows_in (x1 x5 : Int) (x6 x7 : Bool) (a b : Int) (ng xn : Bool) (h : Ev (fun k => atlaslaw07_RightsAllows.l0 k x1 (wrap64 (x5 + 1)) a b ng xn) true) : ∀ (n : Nat) (x8 : Int), 0 ≤ x8 → x8 ≤ 5 → (5 - x8).toNat = n → Ev (fun k => atlaslaw07_RightsAllows.l1 k x1 x5 x6 x7 x8 a b ng xn) true
  | 0, x8, h0, h1, hn => by
    obtain ⟨r, e1, e2⟩ := allows_both a b ng xn x6 x7 x1
    refine Ev.step (fun k => rfl) ?_
    simp only [atlaslaw07_RightsAllows.l1, if_neg (show ¬ (x8 < 5) by omega)]
    refine Ev.bind e1 (Ev.bind e2 ?_)
    simp only [bne_self_eq_false, Bool.false_eq_true, if_false]
    exact h
  | n + 1, x8, h0, h1, hn => by
    obtain ⟨r, e1, e2⟩ := allows_both a b ng xn x6 x7 x8
    refine Ev.step (fun k => rfl) ?_
    simp only [atlaslaw07_RightsAllows.l1, if_pos (show x8 < 5 by omega)]
    refine Ev.bind e1 (Ev.bind e2 ?_)
    simp only [bne_self_eq_false, Bool.false_eq_true, if_false]
    have e : wrap64 (x8 + 1) = x8 + 1 := IntWalk.wrap64_in _ (by omega)
    rw [e]
    exact allows_in x1 x5 x6 x7 a b ng xn h n (x8 + 1) (by omega) (by omega) (by omega)
theorem allows_out (x1 a b : Int) (ng xn : Bool) : ∀ (n : Nat) (x5 : Int), 0 ≤ x5 → x5 ≤ 4 → (4 - x5).toNat = n → Ev (fun k => atlaslaw07_RightsAllows.l0 k x1 x5 a b ng xn) true
  | 0, x5, h0, h1, hn => by
    refine Ev.step (fun k => rfl) ?_
    simp only [atlaslaw07_RightsAllows.l0, if_neg (show ¬ (x5 < 4) by omega)]
    exact Ev.now _
  | n + 1, x5, h0, h1, hn => by
    refine Ev.step (fun k => rfl) ?_
    simp only [atlaslaw07_RightsAllows.l0, if_pos (show x5 < 4 by omega)]
    refine allows_in x1 x5 _ _ a b ng xn ?_ 5 0 (by omega) (by omega) (by decide)
    have e : wrap64 (x5 + 1) = x5 + 1 := IntWalk.wrap64_in _ (by omega)
    rw [e]
    exact allows_out x1 a b ng xn n (x5 + 1) (by omega) (by omega) (by omega)

theorem XRightsAllows (a0_0 : Int) (a0_1 : Int) (a0_2 : Bool) (a0_3 : Bool) (a1 : Int) (_w0_0 : (Lit.int .i64 a0_0).wf = true) (_w0_1 : (Lit.int .u32 a0_1).wf = true) (_w1 : (Lit.int .i64 a1).wf = true) : ∃ k, atlaslaw07_RightsAllows.f k a0_0 a0_1 a0_2 a0_3 a1 = some true := by
  refine Ev.rounds (r := true) ?_
  exact allows_out a1 a0_0 a0_1 a0_2 a0_3 4 0 (by omega) (by omega) (by decide)
end Go.Proofs.YtglafffghbhnbaaDoor.Pure
