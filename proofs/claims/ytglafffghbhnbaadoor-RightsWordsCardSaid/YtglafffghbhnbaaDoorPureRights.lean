/-
  The status words of faults by the program: a status always comes, and a right fault's word is read as that fault again.
  Conditions: none.
-/
import Derived.Test.YtglafffghbhnbaaDoorS18
set_option linter.unusedSimpArgs false
namespace Go.Proofs.YtglafffghbhnbaaDoor.Pure
open Go.RowKit Go.Proofs.YtglafffghbhnbaaDoorG Go.Proofs.YtglafffghbhnbaaDoor.S Go.Proofs.YtglafffghbhnbaaDoorW.PrintWords Go.Proofs.YtglafffghbhnbaaDoorW.PrintLast

/-- Is the fault right? -/
def rgt (a b c : Int) : Bool :=
  decide (0 ≤ c ∧ c ≤ 15 ∧ (((a = 1 ∨ a = 2 ∨ a = 3 ∨ a = 6 ∨ a = 10) ∧ b = 0 ∧ c = 0) ∨ ((a = 4 ∨ a = 5) ∧ b = 0) ∨ ((a = 7 ∨ a = 8 ∨ a = 9) ∧ (b = 1 ∨ b = 2))))

theorem right_ev (a b c : Int) : Ev (fun k => rights_right.f k a b c) (rgt a b c) := by
  refine ⟨3, fun k hk => ?_⟩
  obtain ⟨k, rfl⟩ : ∃ m, k = m + 3 := ⟨k - 3, by omega⟩
  simp only [rights_right.f, rights_right.j0, rights_right.j1, rights_right.j2, rgt, if_true, if_false, beq_iff_eq, Bool.false_eq_true, decide_eq_true_eq]
  by_cases h1 : a = 1 <;> by_cases h2 : a = 2 <;> by_cases h3 : a = 3 <;> by_cases h4 : a = 4 <;> by_cases h5 : a = 5 <;> by_cases h6 : a = 6 <;> by_cases h7 : a = 7 <;> by_cases h8 : a = 8 <;> by_cases h9 : a = 9 <;> by_cases h10 : a = 10 <;>
    first
    | omega
    | (by_cases c0 : c < 0 <;> by_cases c1 : c > 15 <;> by_cases c2 : c = 0 <;> by_cases b0 : b = 0 <;> by_cases b1 : b = 1 <;> by_cases b2 : b = 2 <;> first | omega | (simp [*] <;> omega))

theorem rgt_fin {a b c : Int} (h : rgt a b c = true) : ∃ (x : Fin 11) (y : Fin 3) (z : Fin 16), a = (x.val : Int) ∧ b = (y.val : Int) ∧ c = (z.val : Int) := by
  have h' := of_decide_eq_true h
  exact ⟨⟨a.toNat, by omega⟩, ⟨b.toNat, by omega⟩, ⟨c.toNat, by omega⟩, by simp; omega, by simp; omega, by simp; omega⟩

/-- A right fault's word: there is one, it is read as that fault, and no bit turns in it without changing it. -/
def chk (a b c : Int) (s : Bool) : Bool :=
  match rights_Status.f 3 a b c s with
  | some (v, e) => e == 0 && (rights_Fault.f 150 v == some (a, b, c, s, 0)) && (List.range 32).all (fun t => Go.bits .xor .u32 v (shl .u32 1 (t : Int)) != v)
  | none => false
theorem chk_all : ∀ (a : Fin 11) (b : Fin 3) (c : Fin 16) (s : Bool), rgt (a.val : Int) (b.val : Int) (c.val : Int) = true → chk (a.val : Int) (b.val : Int) (c.val : Int) s = true := by decide +kernel

theorem status_one (a b c : Int) (s : Bool) : ∃ v e, Ev (fun k => rights_Status.f k a b c s) (v, e) ∧
    ((e = 0 ∧ Ev (fun k => rights_Fault.f k v) (a, b, c, s, 0) ∧ ∀ t : Int, 0 ≤ t → t < 32 → Go.bits .xor .u32 v (shl .u32 1 t) ≠ v) ∨ (v = 0 ∧ e = 70)) := by
  cases h : rgt a b c with
  | true =>
    obtain ⟨x, y, z, rfl, rfl, rfl⟩ := rgt_fin h
    have hc := chk_all x y z s h
    unfold chk at hc
    split at hc
    · rename_i v e hv
      simp only [Bool.and_eq_true, beq_iff_eq, List.all_eq_true, List.mem_range, bne_iff_ne] at hc
      obtain ⟨⟨he, hf⟩, hx⟩ := hc
      refine ⟨v, e, Ev.of (fun k => rights_Status.mono _ _ _ _ k) hv, Or.inl ⟨he, Ev.of (fun k => rights_Fault.mono _ k) hf, fun t h0 h1 => ?_⟩⟩
      have := hx t.toNat (by omega)
      rwa [Int.toNat_of_nonneg h0] at this
    · cases hc
  | false =>
    refine ⟨0, 70, ?_, Or.inr ⟨rfl, rfl⟩⟩
    unfold rights_Status.f
    refine Ev.bind (right_ev a b c) ?_
    simp only [h, Bool.false_eq_true, if_false]
    exact Ev.now _

/-- What the reading of a word yields. -/
def Told (w : Int) (r : Int × Int × Int × Bool × Int) : Prop :=
  (r.2.2.2.2 = 0 ∧ r.1 ≠ 0 ∧ Ev (fun k => rights_Status.f k r.1 r.2.1 r.2.2.1 r.2.2.2.1) (w, 0)) ∨ r = (0, 0, 0, false, 70)

theorem fault_l2 (w : Int) (s : Bool) (x6 x21 u v : Int) (h6 : x6 ≠ 0) (h : ∃ r, Ev (fun k => rights_Fault.l1 k w s x6 (wrap64 (x21 + 1))) r ∧ Told w r) :
    ∀ (n : Nat) (x : Int), 0 ≤ x → x ≤ 2 → (2 - x).toNat = n → ∃ r, Ev (fun k => rights_Fault.l2 k w s x6 x21 x21 x u v) r ∧ Told w r
  | 0, x, h0, h1, hn => by
    obtain ⟨r, e, t⟩ := h
    refine ⟨r, Ev.step (fun k => rfl) ?_, t⟩
    simp only [rights_Fault.l2, if_neg (show ¬ (x < 2) by omega)]
    exact e
  | n + 1, x, h0, h1, hn => by
    obtain ⟨q, e, e1, hq⟩ := status_one x6 x21 (rd ([u, v] : List Int) x) s
    have ew : wrap64 (x + 1) = x + 1 := IntWalk.wrap64_in _ (by omega)
    obtain ⟨r, er, tr⟩ := fault_l2 w s x6 x21 u v h6 h n (x + 1) (by omega) (by omega) (by omega)
    by_cases c : e = 0 ∧ q = w
    · obtain ⟨rfl, rfl⟩ := c
      refine ⟨(x6, x21, rd ([u, v] : List Int) x, s, 0), Ev.step (fun k => rfl) ?_, Or.inl ⟨rfl, h6, e1⟩⟩
      simp only [rights_Fault.l2, if_pos (show x < 2 by omega), if_pos h0]
      refine Ev.bind e1 ?_
      simp only [if_true]
      exact Ev.now _
    · refine ⟨r, Ev.step (fun k => rfl) ?_, tr⟩
      simp only [rights_Fault.l2, if_pos (show x < 2 by omega), if_pos h0]
      refine Ev.bind e1 ?_
      by_cases c0 : e = 0
      · simp only [if_pos c0, if_neg (show ¬ (q = w) from fun hw => c ⟨c0, hw⟩), ew]
        exact er
      · simp only [if_neg c0, ew]
        exact er
theorem fault_l1 (w : Int) (s : Bool) (x6 : Int) (h6 : x6 ≠ 0) (h : ∃ r, Ev (fun k => rights_Fault.l0 k w s (wrap64 (x6 + 1))) r ∧ Told w r) :
    ∀ (n : Nat) (x : Int), 0 ≤ x → x ≤ 3 → (3 - x).toNat = n → ∃ r, Ev (fun k => rights_Fault.l1 k w s x6 x) r ∧ Told w r
  | 0, x, h0, h1, hn => by
    obtain ⟨r, e, t⟩ := h
    refine ⟨r, Ev.step (fun k => rfl) ?_, t⟩
    simp only [rights_Fault.l1, if_neg (show ¬ (x < 3) by omega)]
    exact e
  | n + 1, x, h0, h1, hn => by
    have ew : wrap64 (x + 1) = x + 1 := IntWalk.wrap64_in _ (by omega)
    have ih := fault_l1 w s x6 h6 h n (x + 1) (by omega) (by omega) (by omega)
    obtain ⟨r, e, t⟩ := fault_l2 w s x6 x 0 (wrap64 (Go.bits .and .u32 (w / 16) 15)) h6 (by rw [ew]; exact ih) 2 0 (by omega) (by omega) (by decide)
    refine ⟨r, Ev.step (fun k => rfl) ?_, t⟩
    simp only [rights_Fault.l1, if_pos (show x < 3 by omega)]
    exact e
theorem fault_l0 (w : Int) (s : Bool) : ∀ (n : Nat) (x : Int), 1 ≤ x → x ≤ 11 → (11 - x).toNat = n → ∃ r, Ev (fun k => rights_Fault.l0 k w s x) r ∧ Told w r
  | 0, x, h0, h1, hn => by
    refine ⟨(0, 0, 0, false, 70), Ev.step (fun k => rfl) ?_, Or.inr rfl⟩
    simp only [rights_Fault.l0, if_neg (show ¬ (x ≤ 10) by omega)]
    exact Ev.now _
  | n + 1, x, h0, h1, hn => by
    have ew : wrap64 (x + 1) = x + 1 := IntWalk.wrap64_in _ (by omega)
    have ih := fault_l0 w s n (x + 1) (by omega) (by omega) (by omega)
    obtain ⟨r, e, t⟩ := fault_l1 w s x (by omega) (by rw [ew]; exact ih) 3 0 (by omega) (by omega) (by decide)
    refine ⟨r, Ev.step (fun k => rfl) ?_, t⟩
    simp only [rights_Fault.l0, if_pos (show x ≤ 10 by omega)]
    exact e
theorem fault_told (w : Int) : ∃ r, Ev (fun k => rights_Fault.f k w) r ∧ Told w r := by
  unfold rights_Fault.f
  exact fault_l0 w _ 10 1 (by omega) (by omega) (by decide)
end Go.Proofs.YtglafffghbhnbaaDoor.Pure
