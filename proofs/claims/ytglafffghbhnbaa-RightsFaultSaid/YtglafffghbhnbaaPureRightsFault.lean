/-
  The fault of any word is the same by the program and by the document's answer.
  Conditions: none beyond the row's own.
-/
import Derived.Test.YtglafffghbhnbaaS5
set_option linter.unusedSimpArgs false
namespace Go.Proofs.Ytglafffghbhnbaa.Pure
open Go.RowKit Go.Proofs.Ytglafffghbhnbaa.S Go.Proofs.YtglafffghbhnbaaW.PrintWords Go.Proofs.YtglafffghbhnbaaW.PrintLast

/-- Is the fault right? -/
def rgt (a b c : Int) : Bool :=
  decide (0 ≤ c ∧ c ≤ 15 ∧ (((a = 1 ∨ a = 2 ∨ a = 3 ∨ a = 6 ∨ a = 10) ∧ b = 0 ∧ c = 0) ∨ ((a = 4 ∨ a = 5) ∧ b = 0) ∨ ((a = 7 ∨ a = 8 ∨ a = 9) ∧ (b = 1 ∨ b = 2))))

theorem right_ev (a b c : Int) : Ev (fun k => rights_right.f k a b c) (rgt a b c) := by
  refine ⟨3, fun k hk => ?_⟩
  obtain ⟨k, rfl⟩ : ∃ m, k = m + 3 := ⟨k - 3, by omega⟩
  simp only [rights_right.f, rights_right.j0, rights_right.j1, rights_right.j2, rgt, if_true, if_false, beq_iff_eq, Bool.false_eq_true, decide_eq_true_eq]
  by_cases h1 : a = 1 <;> by_cases h2 : a = 2 <;> by_cases h3 : a = 3 <;> by_cases h4 : a = 4 <;> by_cases h5 : a = 5 <;> by_cases h6 : a = 6 <;> by_cases h7 : a = 7 <;> by_cases h8 : a = 8 <;> by_cases h9 : a = 9 <;> by_cases h10 : a = 10 <;>
    first
    | omega
    | (by_cases c0 : c < 0 <;> by_cases c1 : c > 15 <;> by_cases c2 : c = 0 <;> by_cases b0 : b = 0 <;> by_cases b1 : b = 1 <;> by_cases b2 : b = 2 <;> first | omega | (simp [*] <;> omega))

theorem rgt_fin {a b c : Int} (h : rgt a b c = true) : ∃ (x : Fin 11) (y : Fin 3) (z : Fin 16), a = (x.val : Int) ∧ b = (y.val : Int) ∧ c = (z.val : Int) := by
  have h' := of_decide_eq_true h
  exact ⟨⟨a.toNat, by omega⟩, ⟨b.toNat, by omega⟩, ⟨c.toNat, by omega⟩, by simp; omega, by simp; omega, by simp; omega⟩

theorem rright_ev (a b c : Int) : Ev (fun k => atlasref07_Right.f k a b c) (rgt a b c) := by
  refine ⟨3, fun k hk => ?_⟩
  obtain ⟨k, rfl⟩ : ∃ m, k = m + 3 := ⟨k - 3, by omega⟩
  simp only [atlasref07_Right.f, atlasref07_Right.j0, atlasref07_Right.j1, atlasref07_Right.j2, rgt, if_true, if_false, beq_iff_eq, Bool.false_eq_true, decide_eq_true_eq]
  by_cases h1 : a = 1 <;> by_cases h2 : a = 2 <;> by_cases h3 : a = 3 <;> by_cases h4 : a = 4 <;> by_cases h5 : a = 5 <;> by_cases h6 : a = 6 <;> by_cases h7 : a = 7 <;> by_cases h8 : a = 8 <;> by_cases h9 : a = 9 <;> by_cases h10 : a = 10 <;>
    first
    | omega
    | (by_cases c0 : 0 ≤ c <;> by_cases c1 : c ≤ 15 <;> by_cases c2 : c = 0 <;> by_cases b0 : b = 0 <;> by_cases b1 : b = 1 <;> by_cases b2 : b = 2 <;> first | omega | (simp [*] <;> omega))

/-- A right fault's words, of a read and of a write: the same by both, and read as that fault again. -/
def chk2 (a b c : Int) : Bool :=
  match rights_Status.f 3 a b c false with
  | some (v, e) => e == 0 && (atlasref07_Status.f 3 a b c false == some (v, 0)) && (rights_Status.f 3 a b c true == some ((v + 2048) % 4294967296, 0)) && (rights_Fault.f 150 v == some (a, b, c, false, 0)) && (rights_Fault.f 150 ((v + 2048) % 4294967296) == some (a, b, c, true, 0))
  | none => false
theorem chk2_all : ∀ (a : Fin 11) (b : Fin 3) (c : Fin 16), rgt (a.val : Int) (b.val : Int) (c.val : Int) = true → chk2 (a.val : Int) (b.val : Int) (c.val : Int) = true := by decide +kernel

theorem status_facts (a b c : Int) : (rgt a b c = true ∧ ∃ v, Ev (fun k => rights_Status.f k a b c false) (v, 0) ∧ Ev (fun k => atlasref07_Status.f k a b c false) (v, 0) ∧ Ev (fun k => rights_Status.f k a b c true) ((v + 2048) % 4294967296, 0) ∧ Ev (fun k => rights_Fault.f k v) (a, b, c, false, 0) ∧ Ev (fun k => rights_Fault.f k ((v + 2048) % 4294967296)) (a, b, c, true, 0)) ∨
    ((∀ s, Ev (fun k => rights_Status.f k a b c s) (0, 70)) ∧ Ev (fun k => atlasref07_Status.f k a b c false) (0, 70)) := by
  cases h : rgt a b c with
  | true =>
    refine Or.inl ⟨rfl, ?_⟩
    obtain ⟨x, y, z, rfl, rfl, rfl⟩ := rgt_fin h
    have hc := chk2_all x y z h
    unfold chk2 at hc
    split at hc
    · rename_i v e hv
      simp only [Bool.and_eq_true, beq_iff_eq] at hc
      obtain ⟨⟨⟨⟨rfl, h1⟩, h2⟩, h3⟩, h4⟩ := hc
      exact ⟨v, Ev.of (fun k => rights_Status.mono _ _ _ _ k) hv, Ev.of (fun k => atlasref07_Status.mono _ _ _ _ k) h1, Ev.of (fun k => rights_Status.mono _ _ _ _ k) h2, Ev.of (fun k => rights_Fault.mono _ k) h3, Ev.of (fun k => rights_Fault.mono _ k) h4⟩
    · cases hc
  | false =>
    refine Or.inr ⟨fun s => ?_, ?_⟩
    · unfold rights_Status.f
      refine Ev.bind (right_ev a b c) ?_
      simp only [h, Bool.false_eq_true, if_false]
      exact Ev.now _
    · unfold atlasref07_Status.f
      refine Ev.bind (rright_ev a b c) ?_
      simp only [h, Bool.false_eq_true, if_false]
      exact Ev.now _
theorem status_any (a b c : Int) (s : Bool) : ∃ v e, Ev (fun k => rights_Status.f k a b c s) (v, e) := by
  rcases status_facts a b c with ⟨_, v, h1, _, h2, _, _⟩ | ⟨h, _⟩
  · cases s
    · exact ⟨_, _, h1⟩
    · exact ⟨_, _, h2⟩
  · exact ⟨_, _, h s⟩
theorem ev_same {α : Type} {g : Nat → Option α} {x y : α} (h : Ev g x) (h' : Ev g y) : x = y := by
  obtain ⟨K, hK⟩ := h
  obtain ⟨L, hL⟩ := h'
  have := (hK (max K L) (Nat.le_max_left _ _)).symm.trans (hL (max K L) (Nat.le_max_right _ _))
  exact Option.some.inj this

/-- What the reading of a word yields. -/
def Told (w : Int) (r : Int × Int × Int × Bool × Int) : Prop :=
  (r.2.2.2.2 = 0 ∧ r.1 ≠ 0 ∧ Ev (fun k => rights_Status.f k r.1 r.2.1 r.2.2.1 r.2.2.2.1) (w, 0)) ∨ r = (0, 0, 0, false, 70)

theorem fault_l2 (w : Int) (s : Bool) (x6 x21 u v : Int) (h6 : x6 ≠ 0) (h : ∃ r, Ev (fun k => rights_Fault.l1 k w s x6 (wrap64 (x21 + 1))) r ∧ Told w r) :
    ∀ (n : Nat) (x : Int), 0 ≤ x → x ≤ 2 → (2 - x).toNat = n → ∃ r, Ev (fun k => rights_Fault.l2 k w s x6 x21 x21 x u v) r ∧ Told w r
  | 0, x, h0, h1, hn => by
    obtain ⟨r, e, t⟩ := h
    refine ⟨r, Ev.step (fun k => rfl) ?_, t⟩
    simp only [rights_Fault.l2, if_neg (show ¬ (x < 2) by omega)]
    exact e
  | n + 1, x, h0, h1, hn => by
    obtain ⟨q, e, e1⟩ := status_any x6 x21 (rd ([u, v] : List Int) x) s
    have ew : wrap64 (x + 1) = x + 1 := IntWalk.wrap64_in _ (by omega)
    obtain ⟨r, er, tr⟩ := fault_l2 w s x6 x21 u v h6 h n (x + 1) (by omega) (by omega) (by omega)
    by_cases c : e = 0 ∧ q = w
    · obtain ⟨rfl, rfl⟩ := c
      refine ⟨(x6, x21, rd ([u, v] : List Int) x, s, 0), Ev.step (fun k => rfl) ?_, Or.inl ⟨rfl, h6, e1⟩⟩
      simp only [rights_Fault.l2, if_pos (show x < 2 by omega), if_pos h0]
      refine Ev.bind e1 ?_
      simp only [if_true]
      exact Ev.now _
    · refine ⟨r, Ev.step (fun k => rfl) ?_, tr⟩
      simp only [rights_Fault.l2, if_pos (show x < 2 by omega), if_pos h0]
      refine Ev.bind e1 ?_
      by_cases c0 : e = 0
      · simp only [if_pos c0, if_neg (show ¬ (q = w) from fun hw => c ⟨c0, hw⟩), ew]
        exact er
      · simp only [if_neg c0, ew]
        exact er
theorem fault_l1 (w : Int) (s : Bool) (x6 : Int) (h6 : x6 ≠ 0) (h : ∃ r, Ev (fun k => rights_Fault.l0 k w s (wrap64 (x6 + 1))) r ∧ Told w r) :
    ∀ (n : Nat) (x : Int), 0 ≤ x → x ≤ 3 → (3 - x).toNat = n → ∃ r, Ev (fun k => rights_Fault.l1 k w s x6 x) r ∧ Told w r
  | 0, x, h0, h1, hn => by
    obtain ⟨r, e, t⟩ := h
    refine ⟨r, Ev.step (fun k => rfl) ?_, t⟩
    simp only [rights_Fault.l1, if_neg (show ¬ (x < 3) by omega)]
    exact e
  | n + 1, x, h0, h1, hn => by
    have ew : wrap64 (x + 1) = x + 1 := IntWalk.wrap64_in _ (by omega)
    have ih := fault_l1 w s x6 h6 h n (x + 1) (by omega) (by omega) (by omega)
    obtain ⟨r, e, t⟩ := fault_l2 w s x6 x 0 (wrap64 (Go.bits .and .u32 (w / 16) 15)) h6 (by rw [ew]; exact ih) 2 0 (by omega) (by omega) (by decide)
    refine ⟨r, Ev.step (fun k => rfl) ?_, t⟩
    simp only [rights_Fault.l1, if_pos (show x < 3 by omega)]
    exact e
theorem fault_l0 (w : Int) (s : Bool) : ∀ (n : Nat) (x : Int), 1 ≤ x → x ≤ 11 → (11 - x).toNat = n → ∃ r, Ev (fun k => rights_Fault.l0 k w s x) r ∧ Told w r
  | 0, x, h0, h1, hn => by
    refine ⟨(0, 0, 0, false, 70), Ev.step (fun k => rfl) ?_, Or.inr rfl⟩
    simp only [rights_Fault.l0, if_neg (show ¬ (x ≤ 10) by omega)]
    exact Ev.now _
  | n + 1, x, h0, h1, hn => by
    have ew : wrap64 (x + 1) = x + 1 := IntWalk.wrap64_in _ (by omega)
    have ih := fault_l0 w s n (x + 1) (by omega) (by omega) (by omega)
    obtain ⟨r, e, t⟩ := fault_l1 w s x (by omega) (by rw [ew]; exact ih) 3 0 (by omega) (by omega) (by decide)
    refine ⟨r, Ev.step (fun k => rfl) ?_, t⟩
    simp only [rights_Fault.l0, if_pos (show x ≤ 10 by omega)]
    exact e
theorem fault_told (w : Int) : ∃ r, Ev (fun k => rights_Fault.f k w) r ∧ Told w r := by
  unfold rights_Fault.f
  exact fault_l0 w _ 10 1 (by omega) (by omega) (by decide)

/-- The document's answer at the end of its search: it has found what the program finds, or there was nothing to find in what it searched. -/
def Sought (w : Int) (r : Int × Int × Int × Bool × Int) (rest : Prop) : Prop :=
  Ev (fun k => rights_Fault.f k w) r ∨ (r = (0, 0, 0, false, 70) ∧ rest)
def NoM (w a b c : Int) : Prop := ∀ s, ¬ Ev (fun k => rights_Status.f k a b c s) (w, 0)

theorem ref_l2 (w a b : Int) (rest : Prop) (h : ∃ r, Ev (fun k => atlasref07_Fault.l1 k w a (wrap64 (b + 1))) r ∧ Sought w r rest) :
    ∀ (n : Nat) (c : Int), 0 ≤ c → c ≤ 16 → (16 - c).toNat = n → ∃ r, Ev (fun k => atlasref07_Fault.l2 k w a b c) r ∧ Sought w r (rest ∧ ∀ c', c ≤ c' → c' < 16 → NoM w a b c')
  | 0, c, h0, h1, hn => by
    obtain ⟨r, e, t⟩ := h
    refine ⟨r, Ev.step (fun k => rfl) ?_, ?_⟩
    · simp only [atlasref07_Fault.l2, if_neg (show ¬ (c < 16) by omega)]
      exact e
    · rcases t with t | ⟨t, u⟩
      · exact Or.inl t
      · exact Or.inr ⟨t, u, fun c' g0 g1 => absurd g1 (by omega)⟩
  | n + 1, c, h0, h1, hn => by
    obtain ⟨r, e, t⟩ := ref_l2 w a b rest h n (c + 1) (by omega) (by omega) (by omega)
    have ew : wrap64 (c + 1) = c + 1 := IntWalk.wrap64_in _ (by omega)
    have more : NoM w a b c → Sought w r (rest ∧ ∀ c', c ≤ c' → c' < 16 → NoM w a b c') := fun hm => by
      rcases t with t | ⟨t, u, v⟩
      · exact Or.inl t
      · refine Or.inr ⟨t, u, fun c' g0 g1 => ?_⟩
        by_cases hc : c' = c
        · subst hc; exact hm
        · exact v c' (by omega) g1
    rcases status_facts a b c with ⟨_, v, s1, s2, s3, f1, f2⟩ | ⟨s1, s2⟩
    · by_cases hv : v = w
      · subst hv
        refine ⟨(a, b, c, false, 0), Ev.step (fun k => rfl) ?_, Or.inl f1⟩
        simp only [atlasref07_Fault.l2, if_pos (show c < 16 by omega)]
        refine Ev.bind s2 ?_
        simp only [if_true, beq_self_eq_true]
        refine Ev.step (fun k => rfl) ?_
        simp only [atlasref07_Fault.j3, if_true]
        exact Ev.now _
      by_cases hu : (v + 2048) % 4294967296 = w
      · subst hu
        refine ⟨(a, b, c, true, 0), Ev.step (fun k => rfl) ?_, Or.inl f2⟩
        simp only [atlasref07_Fault.l2, if_pos (show c < 16 by omega)]
        refine Ev.bind s2 ?_
        simp only [if_true, beq_eq_false_iff_ne.2 hv]
        refine Ev.step (fun k => rfl) ?_
        simp only [atlasref07_Fault.j3, if_true, Bool.false_eq_true, if_false]
        exact Ev.now _
      · refine ⟨r, Ev.step (fun k => rfl) ?_, more fun s hs => ?_⟩
        · simp only [atlasref07_Fault.l2, if_pos (show c < 16 by omega)]
          refine Ev.bind s2 ?_
          simp only [if_true, beq_eq_false_iff_ne.2 hv]
          refine Ev.step (fun k => rfl) ?_
          simp only [atlasref07_Fault.j3, if_true, Bool.false_eq_true, if_false, if_neg hu, ew]
          exact e
        · cases s
          · exact hv (Prod.mk.inj (ev_same s1 hs)).1
          · exact hu (Prod.mk.inj (ev_same s3 hs)).1
    · refine ⟨r, Ev.step (fun k => rfl) ?_, more fun s hs => absurd (Prod.mk.inj (ev_same (s1 s) hs)).2 (by decide)⟩
      simp only [atlasref07_Fault.l2, if_pos (show c < 16 by omega)]
      refine Ev.bind s2 ?_
      simp only [if_neg (show ¬ ((70 : Int) = 0) by decide)]
      refine Ev.step (fun k => rfl) ?_
      simp only [atlasref07_Fault.j3, Bool.false_eq_true, if_false, if_neg (show ¬ ((70 : Int) = 0) by decide), ew]
      exact e
theorem ref_l1 (w a : Int) (rest : Prop) (h : ∃ r, Ev (fun k => atlasref07_Fault.l0 k w (wrap64 (a + 1))) r ∧ Sought w r rest) :
    ∀ (n : Nat) (b : Int), 0 ≤ b → b ≤ 3 → (3 - b).toNat = n → ∃ r, Ev (fun k => atlasref07_Fault.l1 k w a b) r ∧ Sought w r (rest ∧ ∀ b' c', b ≤ b' → b' < 3 → 0 ≤ c' → c' < 16 → NoM w a b' c')
  | 0, b, h0, h1, hn => by
    obtain ⟨r, e, t⟩ := h
    refine ⟨r, Ev.step (fun k => rfl) ?_, ?_⟩
    · simp only [atlasref07_Fault.l1, if_neg (show ¬ (b < 3) by omega)]
      exact e
    · rcases t with t | ⟨t, u⟩
      · exact Or.inl t
      · exact Or.inr ⟨t, u, fun b' c' g0 g1 => absurd g1 (by omega)⟩
  | n + 1, b, h0, h1, hn => by
    have ew : wrap64 (b + 1) = b + 1 := IntWalk.wrap64_in _ (by omega)
    have ih := ref_l1 w a rest h n (b + 1) (by omega) (by omega) (by omega)
    obtain ⟨r, e, t⟩ := ref_l2 w a b _ (by rw [ew]; exact ih) 16 0 (by omega) (by omega) (by decide)
    refine ⟨r, Ev.step (fun k => rfl) ?_, ?_⟩
    · simp only [atlasref07_Fault.l1, if_pos (show b < 3 by omega)]
      exact e
    · rcases t with t | ⟨t, ⟨u, v⟩, x⟩
      · exact Or.inl t
      · refine Or.inr ⟨t, u, fun b' c' g0 g1 g2 g3 => ?_⟩
        by_cases hb : b' = b
        · subst hb; exact x c' g2 g3
        · exact v b' c' (by omega) g1 g2 g3
theorem ref_l0 (w : Int) : ∀ (n : Nat) (a : Int), 1 ≤ a → a ≤ 11 → (11 - a).toNat = n → ∃ r, Ev (fun k => atlasref07_Fault.l0 k w a) r ∧ Sought w r (∀ a' b' c', a ≤ a' → a' ≤ 10 → 0 ≤ b' → b' < 3 → 0 ≤ c' → c' < 16 → NoM w a' b' c')
  | 0, a, h0, h1, hn => by
    refine ⟨(0, 0, 0, false, 70), Ev.step (fun k => rfl) ?_, Or.inr ⟨rfl, fun a' b' c' g0 g1 => absurd g1 (by omega)⟩⟩
    simp only [atlasref07_Fault.l0, if_neg (show ¬ (a ≤ 10) by omega)]
    exact Ev.now _
  | n + 1, a, h0, h1, hn => by
    have ew : wrap64 (a + 1) = a + 1 := IntWalk.wrap64_in _ (by omega)
    have ih := ref_l0 w n (a + 1) (by omega) (by omega) (by omega)
    obtain ⟨r, e, t⟩ := ref_l1 w a _ (by rw [ew]; exact ih) 3 0 (by omega) (by omega) (by decide)
    refine ⟨r, Ev.step (fun k => rfl) ?_, ?_⟩
    · simp only [atlasref07_Fault.l0, if_pos (show a ≤ 10 by omega)]
      exact e
    · rcases t with t | ⟨t, u, v⟩
      · exact Or.inl t
      · refine Or.inr ⟨t, fun a' b' c' g0 g1 g2 g3 g4 g5 => ?_⟩
        by_cases ha : a' = a
        · subst ha; exact v b' c' g2 g3 g4 g5
        · exact u a' b' c' (by omega) g1 g2 g3 g4 g5
theorem fault_both (w : Int) : ∃ r, Ev (fun k => rights_Fault.f k w) r ∧ Ev (fun k => atlasref07_Fault.f k w) r := by
  obtain ⟨r, e, t⟩ := ref_l0 w 10 1 (by omega) (by omega) (by decide)
  rcases t with t | ⟨rfl, u⟩
  · exact ⟨r, t, e⟩
  · obtain ⟨q, eq, tq⟩ := fault_told w
    rcases tq with ⟨h1, h2, h3⟩ | rfl
    · rcases status_facts q.1 q.2.1 q.2.2.1 with ⟨hr, _⟩ | ⟨s1, _⟩
      · have h := of_decide_eq_true hr
        exact absurd h3 (u q.1 q.2.1 q.2.2.1 (by omega) (by omega) (by omega) (by omega) (by omega) (by omega) q.2.2.2.1)
      · exact absurd (Prod.mk.inj (ev_same (s1 _) h3)).2 (by decide)
    · exact ⟨_, eq, e⟩
theorem RightsFault : atlaslaw07_RightsFault.Pure := by
  intro a0 _
  refine Ev.rounds (r := true) ?_
  obtain ⟨r, e1, e2⟩ := fault_both a0
  unfold atlaslaw07_RightsFault.f
  refine Ev.bind e1 (Ev.bind e2 ?_)
  simp only [beq_self_eq_true, Bool.and_self, if_true]
  exact Ev.now _
end Go.Proofs.Ytglafffghbhnbaa.Pure
