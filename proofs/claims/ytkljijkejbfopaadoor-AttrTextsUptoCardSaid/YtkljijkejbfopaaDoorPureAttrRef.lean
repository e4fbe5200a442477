/-
  The texts of kinds by the document's answer: the same texts, the same kinds.
  Conditions: none.
-/
import Derived.Test.YtkljijkejbfopaaDoorS20
import Derived.Test.YtkljijkejbfopaaDoorS21
import Derived.Test.YtkljijkejbfopaaDoorPureAttrMem
set_option linter.unusedSimpArgs false
set_option linter.unusedVariables false
namespace Go.Proofs.YtkljijkejbfopaaDoor.Pure
open Go.RowKit Go.Proofs.YtkljijkejbfopaaDoorG Go.Proofs.YtkljijkejbfopaaDoor.S Go.Proofs.YtkljijkejbfopaaDoorW.PrintWords Go.Proofs.YtkljijkejbfopaaDoorW.PrintLast Go.Proofs.YtkljijkejbfopaaDoorW.PrintMore

theorem rread_none_step (s : ByteArray) (hno : ∀ T I O S, isK T I O S = true → txt T I O S ≠ s) (T I O S : Int) (q r : Int × Int × Int × Int × Int) {g : Nat → Option (Int × Int × Int × Int × Int)} (hg : Ev g r)
    (hs : Ev (fun k => atlasref06_Show.f k T I O S) (shV T I O S)) :
    Ev (fun k => (atlasref06_Show.f k T I O S).bind fun t => if t.2 = 0 then (if t.1.toList = s.toList then some q else g k) else g k) r := by
  refine Ev.bind hs ?_
  unfold shV
  by_cases h : isK T I O S = true
  · have hne : ¬ (txt T I O S).toList = s.toList := fun e => hno T I O S h (toList_inj e)
    simp only [if_pos h, if_true, if_neg hne]
    exact hg
  · simp only [if_neg h, if_neg (show ¬ ((62 : Int) = 0) by decide)]
    exact hg
theorem rshow_all : ∀ (a : Fin 3) (b : Fin 4) (c : Fin 4) (d : Fin 3), isK (a.val : Int) (b.val : Int) (c.val : Int) (d.val : Int) = true → atlasref06_Show.f 3 (a.val : Int) (b.val : Int) (c.val : Int) (d.val : Int) = some (txt (a.val : Int) (b.val : Int) (c.val : Int) (d.val : Int), 0) := by decide +kernel
theorem rshow_ev (T I O S : Int) : Ev (fun k => atlasref06_Show.f k T I O S) (shV T I O S) := by
  unfold shV
  by_cases h : isK T I O S = true
  · rw [if_pos h]
    obtain ⟨a, b, c, d, rfl, rfl, rfl, rfl⟩ := isK_fin h
    exact Ev.of (fun k => atlasref06_Show.mono _ _ _ _ k) (rshow_all a b c d h)
  · rw [if_neg h]
    unfold atlasref06_Show.f
    refine Ev.bind (mem_ev T I O S) ?_
    simp only [if_neg h]
    exact Ev.now _
theorem rread_all : ∀ (a : Fin 3) (b : Fin 4) (c : Fin 4) (d : Fin 3), isK (a.val : Int) (b.val : Int) (c.val : Int) (d.val : Int) = true → atlasref06_Read.f 320 (txt (a.val : Int) (b.val : Int) (c.val : Int) (d.val : Int)) = some ((a.val : Int), (b.val : Int), (c.val : Int), (d.val : Int), 0) := by decide +kernel
theorem rread_yes {T I O S : Int} (h : isK T I O S = true) : Ev (fun k => atlasref06_Read.f k (txt T I O S)) (T, I, O, S, 0) := by
  obtain ⟨a, b, c, d, rfl, rfl, rfl, rfl⟩ := isK_fin h
  exact Ev.of (fun k => atlasref06_Read.mono _ k) (rread_all a b c d h)
section
variable (s : ByteArray) (hno : ∀ T I O S, isK T I O S = true → txt T I O S ≠ s) (r : Int × Int × Int × Int × Int)
include hno
theorem r3_bad (t i o : Int) (hrest : Ev (fun k => atlasref06_Read.l2 k s t i (wrap64 (o + 1))) r) : ∀ (n h : Nat), h + n = 3 → Ev (fun k => atlasref06_Read.l3 k s t i o (h : Int)) r
  | 0, h, e => by
    refine Ev.step (fun k => rfl) ?_
    simp only [atlasref06_Read.l3, if_neg (show ¬ ((h : Int) < 3) by omega)]
    exact hrest
  | n + 1, h, e => by
    refine Ev.step (fun k => rfl) ?_
    simp only [atlasref06_Read.l3, if_pos (show (h : Int) < 3 by omega), wadd h (by omega)]
    exact rread_none_step s hno t i o h _ r (r3_bad t i o hrest n (h + 1) (by omega)) (rshow_ev _ _ _ _)
theorem r2_bad (t i : Int) (hrest : Ev (fun k => atlasref06_Read.l1 k s t (wrap64 (i + 1))) r) : ∀ (n o : Nat), o + n = 4 → Ev (fun k => atlasref06_Read.l2 k s t i (o : Int)) r
  | 0, o, e => by
    refine Ev.step (fun k => rfl) ?_
    simp only [atlasref06_Read.l2, if_neg (show ¬ ((o : Int) < 4) by omega)]
    exact hrest
  | n + 1, o, e => by
    refine Ev.step (fun k => rfl) ?_
    simp only [atlasref06_Read.l2, if_pos (show (o : Int) < 4 by omega)]
    exact r3_bad s hno r t i o (by rw [wadd o (by omega)]; exact r2_bad t i hrest n (o + 1) (by omega)) 3 0 rfl
theorem r1_bad (t : Int) (hrest : Ev (fun k => atlasref06_Read.l0 k s (wrap64 (t + 1))) r) : ∀ (n i : Nat), i + n = 4 → Ev (fun k => atlasref06_Read.l1 k s t (i : Int)) r
  | 0, i, e => by
    refine Ev.step (fun k => rfl) ?_
    simp only [atlasref06_Read.l1, if_neg (show ¬ ((i : Int) < 4) by omega)]
    exact hrest
  | n + 1, i, e => by
    refine Ev.step (fun k => rfl) ?_
    simp only [atlasref06_Read.l1, if_pos (show (i : Int) < 4 by omega)]
    exact r2_bad s hno r t i (by rw [wadd i (by omega)]; exact r1_bad t hrest n (i + 1) (by omega)) 4 0 rfl
end
theorem r0_bad (s : ByteArray) (hno : ∀ T I O S, isK T I O S = true → txt T I O S ≠ s) : ∀ (n t : Nat), t + n = 3 → Ev (fun k => atlasref06_Read.l0 k s (t : Int)) (0, 0, 0, 0, 62)
  | 0, t, e => by
    refine Ev.step (fun k => rfl) ?_
    simp only [atlasref06_Read.l0, if_neg (show ¬ ((t : Int) < 3) by omega)]
    exact Ev.now _
  | n + 1, t, e => by
    refine Ev.step (fun k => rfl) ?_
    simp only [atlasref06_Read.l0, if_pos (show (t : Int) < 3 by omega)]
    exact r1_bad s hno _ t (by rw [wadd t (by omega)]; exact r0_bad s hno n (t + 1) (by omega)) 4 0 rfl
theorem rread_no (s : ByteArray) (hno : ∀ T I O S, isK T I O S = true → txt T I O S ≠ s) : Ev (fun k => atlasref06_Read.f k s) (0, 0, 0, 0, 62) := r0_bad s hno 3 0 rfl
end Go.Proofs.YtkljijkejbfopaaDoor.Pure
