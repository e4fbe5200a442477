/-
  The texts of kinds by the program: what Show writes, and that Read reads just that.
  Conditions: a text that is read takes at most 2 to the 20th bytes.
-/
import Derived.Test.YtkljijkejbfopaaDoorS11
import Derived.Test.YtkljijkejbfopaaDoorS13
import Derived.Lib.SplitLaws
import Derived.Lib.Strings
set_option linter.unusedSimpArgs false
set_option linter.unusedVariables false
namespace Go.Proofs.YtkljijkejbfopaaDoor.Pure
open Go.RowKit Go.Proofs.YtkljijkejbfopaaDoorG Go.Proofs.YtkljijkejbfopaaDoor.S Go.Proofs.YtkljijkejbfopaaDoorW.PrintWords Go.Proofs.YtkljijkejbfopaaDoorW.PrintLast Go.Proofs.YtkljijkejbfopaaDoorW.PrintMore

theorem in_eq (a t : Int) : attr_kind_1.f a t = some (decide (0 ≤ a ∧ a ≤ t)) := by
  unfold attr_kind_1.f
  by_cases h : a ≥ 0
  · rw [if_pos h]
    exact congrArg some (decide_eq_decide.2 ⟨fun h1 => ⟨h, h1⟩, fun h1 => h1.2⟩)
  · rw [if_neg h]
    exact congrArg some (decide_eq_false (fun h1 => h h1.1)).symm
/-- Is it a kind? -/
def isK (T I O S : Int) : Bool := decide (0 ≤ T ∧ T ≤ 2) && (decide (0 ≤ I ∧ I ≤ 3) && (decide (0 ≤ O ∧ O ≤ 3) && (decide (0 ≤ S ∧ S ≤ 2) && ((T == 2 || (I == 0 && O == 0)) && (T != 0 || S == 2)))))
theorem kind_ev (T I O S : Int) : Ev (fun k => attr_kind.f k T I O S) (isK T I O S) := by
  refine ⟨1, fun k hk => ?_⟩
  obtain ⟨k, rfl⟩ : ∃ j, k = j + 1 := ⟨k - 1, by omega⟩
  simp only [attr_kind.f, attr_kind.j0, in_eq, Option.bind_some, isK]
  generalize decide (0 ≤ T ∧ T ≤ 2) = b1
  generalize decide (0 ≤ I ∧ I ≤ 3) = b2
  generalize decide (0 ≤ O ∧ O ≤ 3) = b3
  generalize decide (0 ≤ S ∧ S ≤ 2) = b4
  cases b1 <;> cases b2 <;> cases b3 <;> cases b4 <;> try rfl
  by_cases h2 : T = 2
  · subst h2
    simp
  · by_cases h0 : T = 0 <;> by_cases hI : I = 0 <;> by_cases hO : O = 0 <;> simp [h2, h0, hI, hO]
theorem isK_fin {T I O S : Int} (h : isK T I O S = true) : ∃ (a : Fin 3) (b : Fin 4) (c : Fin 4) (d : Fin 3), T = (a.val : Int) ∧ I = (b.val : Int) ∧ O = (c.val : Int) ∧ S = (d.val : Int) := by
  simp only [isK, Bool.and_eq_true, decide_eq_true_eq] at h
  obtain ⟨h1, h2, h3, h4, _⟩ := h
  exact ⟨⟨T.toNat, by omega⟩, ⟨I.toNat, by omega⟩, ⟨O.toNat, by omega⟩, ⟨S.toNat, by omega⟩, by simp; omega, by simp; omega, by simp; omega, by simp; omega⟩
/-- A kind's text. -/
def txt (T I O S : Int) : ByteArray := ((attr_Show.f 3 T I O S).getD (⟨#[]⟩, 0)).1
theorem show_all : ∀ (a : Fin 3) (b : Fin 4) (c : Fin 4) (d : Fin 3), isK (a.val : Int) (b.val : Int) (c.val : Int) (d.val : Int) = true → attr_Show.f 3 (a.val : Int) (b.val : Int) (c.val : Int) (d.val : Int) = some (txt (a.val : Int) (b.val : Int) (c.val : Int) (d.val : Int), 0) := by decide +kernel
/-- What Show answers. -/
def shV (T I O S : Int) : ByteArray × Int := if isK T I O S = true then (txt T I O S, 0) else (⟨#[]⟩, 62)
theorem show_ev (T I O S : Int) : Ev (fun k => attr_Show.f k T I O S) (shV T I O S) := by
  unfold shV
  by_cases h : isK T I O S = true
  · rw [if_pos h]
    obtain ⟨a, b, c, d, rfl, rfl, rfl, rfl⟩ := isK_fin h
    exact Ev.of (fun k => attr_Show.mono _ _ _ _ k) (show_all a b c d h)
  · rw [if_neg h]
    unfold attr_Show.f
    refine Ev.bind (kind_ev T I O S) ?_
    simp only [if_neg h]
    exact Ev.now _
theorem read_all : ∀ (a : Fin 3) (b : Fin 4) (c : Fin 4) (d : Fin 3), isK (a.val : Int) (b.val : Int) (c.val : Int) (d.val : Int) = true → attr_Read.f 30 (txt (a.val : Int) (b.val : Int) (c.val : Int) (d.val : Int)) = some ((a.val : Int), (b.val : Int), (c.val : Int), (d.val : Int), 0) := by decide +kernel
theorem read_yes {T I O S : Int} (h : isK T I O S = true) : Ev (fun k => attr_Read.f k (txt T I O S)) (T, I, O, S, 0) := by
  obtain ⟨a, b, c, d, rfl, rfl, rfl, rfl⟩ := isK_fin h
  exact Ev.of (fun k => attr_Read.mono _ k) (read_all a b c d h)
theorem toList_inj {a b : ByteArray} (h : a.toList = b.toList) : a = b := by
  rw [Lib.toList_data, Lib.toList_data] at h
  cases a
  cases b
  congr 1
  exact Array.toList_inj.1 h
/-- A text that is none of a kind's is not read: the last look. -/
theorem end_bad (s : ByteArray) (hno : ∀ T I O S, isK T I O S = true → txt T I O S ≠ s) (T I O S : Int) (q : Int × Int × Int × Int × Int) :
    Ev (fun k => (attr_Show.f k T I O S).bind fun t => if t.2 = 0 then (if t.1.toList = s.toList then some q else some (0, 0, 0, 0, 62)) else some (0, 0, 0, 0, 62)) (0, 0, 0, 0, 62) := by
  refine Ev.bind (show_ev T I O S) ?_
  unfold shV
  by_cases h : isK T I O S = true
  · have hne : ¬ (txt T I O S).toList = s.toList := fun e => hno T I O S h (toList_inj e)
    simp only [if_pos h, if_true, if_neg hne]
    exact Ev.now _
  · simp only [if_neg h, if_neg (show ¬ ((62 : Int) = 0) by decide)]
    exact Ev.now _
theorem wadd (n : Nat) (h : n < 10) : wrap64 ((n : Int) + 1) = ((n + 1 : Nat) : Int) := by unfold wrap64; omega
theorem j3_bad (s : ByteArray) (hno : ∀ T I O S, isK T I O S = true → txt T I O S ≠ s) (t a b sh : Int) : Ev (fun k => attr_Read.j3 k s t a b sh) (0, 0, 0, 0, 62) := by
  refine Ev.step (fun k => rfl) ?_
  simp only [attr_Read.j3]
  exact end_bad s hno t a b sh _
theorem l1_bad (s : ByteArray) (w : List ByteArray) (hw : w.length = 4) (hno : ∀ T I O S, isK T I O S = true → txt T I O S ≠ s) (c0 c1 c2 c3 : ByteArray) (sh : Int) :
    ∀ (n i : Nat) (t a b : Int), i + n = 4 → Ev (fun k => attr_Read.l1 k s w (i : Int) c0 c1 c2 c3 t a b sh) (0, 0, 0, 0, 62)
  | 0, i, t, a, b, h => by
    refine Ev.step (fun k => rfl) ?_
    simp only [attr_Read.l1, if_neg (show ¬ ((i : Int) < 4) by omega)]
    exact j3_bad s hno t a b sh
  | n + 1, i, t, a, b, h => by
    have st : ∀ (x : ByteArray) (a' : Int), Ev (fun k => attr_Read.j2 k s w (i : Int) x (i : Int) c0 c1 c2 c3 t a' b sh) (0, 0, 0, 0, 62) := fun x a' => by
      refine Ev.step (fun k => rfl) ?_
      simp only [attr_Read.j2, if_pos (show (2 : Int) < (w.length : Int) by omega), wadd i (by omega)]
      split <;> exact l1_bad s w hw hno c0 c1 c2 c3 sh n (i + 1) _ _ _ (by omega)
    refine Ev.step (fun k => rfl) ?_
    simp only [attr_Read.l1, if_pos (show (i : Int) < 4 by omega), if_pos (show (0 : Int) ≤ i by omega), if_pos (show (1 : Int) < (w.length : Int) by omega)]
    split <;> exact st _ _
theorem l0_bad (s : ByteArray) (w : List ByteArray) (hw : 1 ≤ w.length) (hw2 : w.length ≤ 9223372036854775807) (hno : ∀ T I O S, isK T I O S = true → txt T I O S ≠ s) (c0 c1 c2 : ByteArray) :
    ∀ (n i : Nat) (sh : Int), i + n = 3 → Ev (fun k => attr_Read.l0 k s w sh (i : Int) c0 c1 c2) (0, 0, 0, 0, 62)
  | 0, i, sh, h => by
    refine Ev.step (fun k => rfl) ?_
    simp only [attr_Read.l0, if_neg (show ¬ ((i : Int) < 3) by omega)]
    by_cases h2 : (w.length : Int) = 2
    · simp only [if_pos h2]
      exact j3_bad s hno _ _ _ _
    · simp only [if_neg h2]
      by_cases h4 : (w.length : Int) = 4
      · simp only [if_pos h4]
        exact l1_bad s w (by omega) hno _ _ _ _ sh 4 0 _ _ _ rfl
      · simp only [if_neg h4]
        exact j3_bad s hno _ _ _ _
  | n + 1, i, sh, h => by
    have e1 : wrap64 ((w.length : Int) - 1) = (w.length : Int) - 1 := by unfold wrap64; omega
    refine Ev.step (fun k => rfl) ?_
    simp only [attr_Read.l0, if_pos (show (i : Int) < 3 by omega), if_pos (show (0 : Int) ≤ i by omega), e1, if_pos (show (0 : Int) ≤ (w.length : Int) - 1 by omega), if_pos (show (w.length : Int) - 1 < (w.length : Int) by omega), wadd i (by omega)]
    split <;> exact l0_bad s w hw hw2 hno c0 c1 c2 n (i + 1) _ (by omega)
theorem read_no (s : ByteArray) (hs : s.size ≤ 1048576) (hno : ∀ T I O S, isK T I O S = true → txt T I O S ≠ s) : Ev (fun k => attr_Read.f k s) (0, 0, 0, 0, 62) := by
  unfold attr_Read.f strings_Split.f
  have h1 : 1 ≤ (⟨#[32]⟩ : ByteArray).size := by decide
  have hl := Go.Lib.splitB_all ⟨#[32]⟩ h1 0 (Go.Lib.countB s ⟨#[32]⟩) s rfl
  have hc := Go.Lib.countB_le ⟨#[32]⟩ h1 s.size s (Nat.le_refl _)
  simp only [if_pos (show s.size < 4294967281 by omega), if_pos h1, Option.bind_some]
  exact l0_bad s _ (by omega) (by omega) hno _ _ _ 3 0 0 rfl
end Go.Proofs.YtkljijkejbfopaaDoor.Pure
