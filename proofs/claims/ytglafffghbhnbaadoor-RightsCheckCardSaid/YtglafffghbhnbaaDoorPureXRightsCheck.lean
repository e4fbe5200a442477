/-
  The fault of an access to a block is the same by the program and by the document's answer: any translation, any context, both sides, any kind.
  Conditions: none beyond the row's own.
-/
import Derived.Test.YtglafffghbhnbaaDoorS16
import Derived.Test.YtglafffghbhnbaaDoorPureXRightsAllows
import Derived.Laws.BitsLemmas
import Derived.Lib.EndianBits
set_option linter.unusedSimpArgs false
set_option linter.unusedVariables false
namespace Go.Proofs.YtglafffghbhnbaaDoor.Pure
open Go.RowKit Go.Proofs.YtglafffghbhnbaaDoorG Go.Proofs.YtglafffghbhnbaaDoor.S Go.Proofs.YtglafffghbhnbaaDoorW.PrintWords Go.Proofs.YtglafffghbhnbaaDoorW.PrintLast Go.Proofs.YtglafffghbhnbaaDoorW.PrintMore

/-- Does it lie on a multiple of S, below N? -/
def plc (a S N : Int) : Bool := if Int.tmod a S = 0 then decide (a < N) else false
theorem place_eq (a s n S N : Int) (hs : 0 ≤ s) (hS : shl .u64 1 s = S) (hN : shl .u64 1 n = N) (h0 : S ≠ 0) (hn : 0 ≤ n) : desc_place.f a s n = some (plc a S N) := by
  unfold desc_place.f plc
  rw [if_pos hs, hS, if_neg h0, if_pos hn, hN]
  by_cases c : Int.tmod a S = 0
  · rw [if_pos c, if_pos c]
  · rw [if_neg c, if_neg c]
theorem rplace_ev (a s n S N : Int) (hS : Ev (fun k => atlasref05_power.f k s) S) (hN : Ev (fun k => atlasref05_power.f k n) N) (h0 : S ≠ 0) : Ev (fun k => atlasref05_place.f k a s n) (plc a S N) := by
  unfold atlasref05_place.f plc
  refine Ev.bind hS ?_
  simp only [if_neg h0]
  by_cases c : Int.tmod a S = 0
  · simp only [if_pos c]
    exact Ev.bind hN (Ev.now _)
  · simp only [if_neg c]
    exact Ev.now _
def lfOk (ap bits : Int) : Bool := decide (0 ≤ ap ∧ ap ≤ 7 ∧ bits ≤ 63)
theorem leaf_eq (ap bits : Int) (ng xn : Bool) : desc_leaf.f ap bits ng xn = some (lfOk ap bits) := by
  unfold desc_leaf.f lfOk
  by_cases h0 : 0 ≤ ap <;> by_cases h1 : ap ≤ 7 <;> simp [h0, h1]
theorem rleaf_eq (ap bits : Int) (ng xn : Bool) : atlasref05_leaf.f ap bits ng xn = some (lfOk ap bits) := by
  unfold atlasref05_leaf.f lfOk
  by_cases h0 : 0 ≤ ap <;> by_cases h1 : ap ≤ 7 <;> simp [h0, h1]
def dmOk (d : Int) : Bool := decide (0 ≤ d ∧ d ≤ 15)
theorem domain_eq (d : Int) : desc_domain.f d = some (dmOk d) := by
  unfold desc_domain.f dmOk
  by_cases h0 : 0 ≤ d <;> simp [h0]
/-- Is the translation right, at a size and its table's numbers? -/
def rtAt (p1 dm p2 lf zero : Bool) : Bool := p1 && (dm && (zero && (p2 && lf)))
theorem right_at (t s S n N base phys d ap bits : Int) (ng xn : Bool) (h1 : 1 ≤ t) (h4 : t ≤ 4) (hr : rd gt3_0 t = s) (hs : 0 ≤ s) (hS : shl .u64 1 s = S) (h0 : S ≠ 0) (hn : n = if t = 4 then 40 else 32) (hN : shl .u64 1 n = N) :
    desc_Right.f t base phys d ap bits ng xn = some (rtAt (plc (IntKind.u64.wrap base) S 4294967296) (dmOk d) (plc phys S N) (lfOk ap bits) (if t = 4 then d == 0 else true)) := by
  have hz : desc_sized.f t = some true := by
    unfold desc_sized.f
    rw [if_pos (show t ≥ 1 from h1), decide_eq_true h4]
  have h32 : shl .u64 1 32 = 4294967296 := by decide +kernel
  have p1 := place_eq (IntKind.u64.wrap base) s 32 S 4294967296 hs hS h32 h0 (by decide)
  have p2 := place_eq phys s n S N hs hS hN h0 (by subst hn; split <;> decide)
  have hb : desc_block.f 0 phys 0 false ap bits ng xn t = some (plc phys S N && lfOk ap bits) := by
    unfold desc_block.f
    by_cases c : t = 4
    · rw [if_pos c] at hn
      subst hn
      rw [if_pos c, if_pos (show (0 : Int) ≤ t by omega), if_pos (show t < 5 by omega), hr, p2, Option.bind_some, leaf_eq]
      cases plc phys S N <;> simp
    · rw [if_neg c] at hn
      subst hn
      rw [if_neg c, if_pos (show (0 : Int) ≤ t by omega), if_pos (show t < 5 by omega), hr, p2, Option.bind_some, leaf_eq]
      cases plc phys S N <;> simp
  unfold desc_Right.f
  rw [hz, Option.bind_some, if_pos rfl, if_pos (show (0 : Int) ≤ t by omega), if_pos (show t < 5 by omega), hr, p1, Option.bind_some, domain_eq, Option.bind_some, hb]
  generalize plc (IntKind.u64.wrap base) S 4294967296 = a
  generalize dmOk d = b
  generalize plc phys S N = c
  generalize lfOk ap bits = e
  by_cases h : t = 4
  · by_cases hd : d = 0
    · cases a <;> cases b <;> cases c <;> cases e <;> simp [rtAt, h, hd]
    · cases a <;> cases b <;> cases c <;> cases e <;> simp [rtAt, h, hd]
  · cases a <;> cases b <;> cases c <;> cases e <;> simp [rtAt, h]
theorem rright_at (t s S n N base phys d ap bits : Int) (ng xn : Bool) (h1 : 1 ≤ t) (h4 : t ≤ 4) (hr : atlasref05_Shift.f t = some s) (hs : s ≠ 0) (hS : Ev (fun k => atlasref05_power.f k s) S) (h0 : S ≠ 0) (hn : n = if t = 4 then 40 else 32) (hN : Ev (fun k => atlasref05_power.f k n) N) :
    Ev (fun k => atlasref05_Right.f k t base phys d ap bits ng xn) (rtAt (plc (IntKind.u64.wrap base) S 4294967296) (dmOk d) (plc phys S N) (lfOk ap bits) (if t = 4 then d == 0 else true)) := by
  have h32 : Ev (fun k => atlasref05_power.f k 32) 4294967296 := Ev.of (fun k => atlasref05_power.mono _ k) (k := 40) (by decide +kernel)
  have p1 := rplace_ev (IntKind.u64.wrap base) s 32 S 4294967296 hS h32 h0
  have p2 := rplace_ev phys s n S N hS hN h0
  have off : Ev (fun k => atlasref05_Right.j0 k s true t base phys d ap bits ng xn) false := Ev.step (fun k => rfl) (by simp only [atlasref05_Right.j0, if_true]; exact Ev.now _)
  unfold atlasref05_Right.f
  refine Ev.bind (Ev.congr (fun k => hr) (Ev.now _)) ?_
  simp only [if_neg hs]
  refine Ev.bind p1 ?_
  generalize plc (IntKind.u64.wrap base) S 4294967296 = a
  cases a with
  | false => simp only [Bool.false_eq_true, if_false, rtAt, Bool.false_and]; exact off
  | true =>
    simp only [if_true]
    refine Ev.bind (Ev.congr (fun k => rleaf_eq ap bits ng xn) (Ev.now _)) ?_
    generalize lfOk ap bits = e
    cases e with
    | false => simp only [Bool.false_eq_true, if_false, rtAt, Bool.and_false, Bool.true_and]; exact off
    | true =>
      simp only [if_true]
      have main : dmOk d = true → Ev (fun k => atlasref05_Right.j0 k s false t base phys d ap bits ng xn) (rtAt true (dmOk d) (plc phys S N) true (if t = 4 then d == 0 else true)) := fun hd => by
        refine Ev.step (fun k => rfl) ?_
        simp only [atlasref05_Right.j0, Bool.false_eq_true, if_false]
        by_cases c : t = 4
        · rw [if_pos c] at hn
          subst hn
          simp only [if_pos c]
          refine Ev.bind p2 ?_
          generalize plc phys S N = q
          cases q with
          | false => simp only [Bool.false_eq_true, if_false, rtAt, Bool.false_and, Bool.and_false, Bool.true_and]; exact Ev.now _
          | true => simp only [if_true, rtAt, hd, Bool.true_and, Bool.and_true]; exact Ev.now _
        · rw [if_neg c] at hn
          subst hn
          simp only [if_neg c]
          refine Ev.bind p2 ?_
          simp only [rtAt, hd, Bool.true_and, Bool.and_true]
          exact Ev.now _
      by_cases c0 : d < 0
      · simp only [if_pos c0]
        have hd : dmOk d = false := decide_eq_false (by omega)
        simp only [rtAt, hd, Bool.false_and, Bool.true_and]
        exact off
      · simp only [if_neg c0]
        by_cases c1 : d > 15
        · have hd : dmOk d = false := decide_eq_false (by omega)
          simp only [rtAt, hd, Bool.false_and, Bool.true_and, decide_eq_true c1]
          exact off
        · simp only [decide_eq_false c1]
          exact main (decide_eq_true (by omega))
/-- The same answer of both, and what a right translation has. -/
theorem tright_both (t base phys d ap bits : Int) (ng xn : Bool) : ∃ r, desc_Right.f t base phys d ap bits ng xn = some r ∧ Ev (fun k => atlasref05_Right.f k t base phys d ap bits ng xn) r ∧ (r = true → 0 ≤ d ∧ d ≤ 15 ∧ 0 ≤ ap ∧ ap ≤ 7) := by
  have known : ∀ a c z : Bool, rtAt a (dmOk d) c (lfOk ap bits) z = true → 0 ≤ d ∧ d ≤ 15 ∧ 0 ≤ ap ∧ ap ≤ 7 := fun a c z h => by
    simp only [rtAt, Bool.and_eq_true] at h
    have h1 := of_decide_eq_true h.2.1
    have h2 := of_decide_eq_true h.2.2.2.2
    omega
  have pw : ∀ n N, atlasref05_power.f 50 n = some N → Ev (fun k => atlasref05_power.f k n) N := fun n N h => Ev.of (fun k => atlasref05_power.mono _ k) h
  by_cases h0 : t < 1
  · refine ⟨false, ?_, ?_, fun h => by cases h⟩
    · unfold desc_Right.f desc_sized.f
      rw [if_neg (show ¬ (t ≥ 1) by omega), Option.bind_some, if_neg (by decide)]
    · unfold atlasref05_Right.f atlasref05_Shift.f
      simp only [if_pos h0, Option.bind_some, if_true]
      exact Ev.step (fun k => rfl) (by simp only [atlasref05_Right.j0, if_true]; exact Ev.now _)
  by_cases h5 : t > 4
  · refine ⟨false, ?_, ?_, fun h => by cases h⟩
    · unfold desc_Right.f desc_sized.f
      rw [if_pos (show t ≥ 1 by omega), Option.bind_some, decide_eq_false (show ¬ (t ≤ 4) by omega), if_neg (by decide)]
    · unfold atlasref05_Right.f atlasref05_Shift.f
      simp only [if_neg h0, if_pos h5, Option.bind_some, if_true]
      exact Ev.step (fun k => rfl) (by simp only [atlasref05_Right.j0, if_true]; exact Ev.now _)
  have ht : t = 1 ∨ t = 2 ∨ t = 3 ∨ t = 4 := by omega
  rcases ht with rfl | rfl | rfl | rfl
  · exact ⟨_, right_at 1 12 4096 32 4294967296 base phys d ap bits ng xn (by decide) (by decide) (by decide +kernel) (by decide) (by decide +kernel) (by decide) (by decide) (by decide +kernel),
      rright_at 1 12 4096 32 4294967296 base phys d ap bits ng xn (by decide) (by decide) (by decide +kernel) (by decide) (pw _ _ (by decide +kernel)) (by decide) (by decide) (pw _ _ (by decide +kernel)), known _ _ _⟩
  · exact ⟨_, right_at 2 16 65536 32 4294967296 base phys d ap bits ng xn (by decide) (by decide) (by decide +kernel) (by decide) (by decide +kernel) (by decide) (by decide) (by decide +kernel),
      rright_at 2 16 65536 32 4294967296 base phys d ap bits ng xn (by decide) (by decide) (by decide +kernel) (by decide) (pw _ _ (by decide +kernel)) (by decide) (by decide) (pw _ _ (by decide +kernel)), known _ _ _⟩
  · exact ⟨_, right_at 3 20 1048576 32 4294967296 base phys d ap bits ng xn (by decide) (by decide) (by decide +kernel) (by decide) (by decide +kernel) (by decide) (by decide) (by decide +kernel),
      rright_at 3 20 1048576 32 4294967296 base phys d ap bits ng xn (by decide) (by decide) (by decide +kernel) (by decide) (pw _ _ (by decide +kernel)) (by decide) (by decide) (pw _ _ (by decide +kernel)), known _ _ _⟩
  · exact ⟨_, right_at 4 24 16777216 40 1099511627776 base phys d ap bits ng xn (by decide) (by decide) (by decide +kernel) (by decide) (by decide +kernel) (by decide) (by decide) (by decide +kernel),
      rright_at 4 24 16777216 40 1099511627776 base phys d ap bits ng xn (by decide) (by decide) (by decide +kernel) (by decide) (pw _ _ (by decide +kernel)) (by decide) (by decide) (pw _ _ (by decide +kernel)), known _ _ _⟩
theorem level_both (t : Int) : ∃ r, Ev (fun k => rights_Level.f k t) r ∧ Ev (fun k => atlasref07_Level.f k t) r := by
  by_cases h1 : t = 1
  · subst h1
    exact ⟨2, Ev.of (fun k => rights_Level.mono _ k) (k := 2) (by decide +kernel), Ev.of (fun k => atlasref07_Level.mono _ k) (k := 2) (by decide +kernel)⟩
  by_cases h2 : t = 2
  · subst h2
    exact ⟨2, Ev.of (fun k => rights_Level.mono _ k) (k := 2) (by decide +kernel), Ev.of (fun k => atlasref07_Level.mono _ k) (k := 2) (by decide +kernel)⟩
  by_cases h3 : t = 3
  · subst h3
    exact ⟨1, Ev.of (fun k => rights_Level.mono _ k) (k := 2) (by decide +kernel), Ev.of (fun k => atlasref07_Level.mono _ k) (k := 2) (by decide +kernel)⟩
  by_cases h4 : t = 4
  · subst h4
    exact ⟨1, Ev.of (fun k => rights_Level.mono _ k) (k := 2) (by decide +kernel), Ev.of (fun k => atlasref07_Level.mono _ k) (k := 2) (by decide +kernel)⟩
  refine ⟨0, ?_, ?_⟩
  · unfold rights_Level.f
    simp only [if_neg h1]
    refine Ev.step (fun k => rfl) ?_
    simp only [rights_Level.j0, beq_eq_false_iff_ne.2 h2, Bool.false_eq_true, if_false, if_neg h3, if_neg h4]
    exact Ev.now _
  · unfold atlasref07_Level.f
    simp only [if_neg h1]
    refine Ev.step (fun k => rfl) ?_
    simp only [atlasref07_Level.j0, beq_eq_false_iff_ne.2 h2, Bool.false_eq_true, if_false, if_neg h3, if_neg h4]
    exact Ev.now _

section
variable (x2 : Bool) (x3 : Int) (t0 t1 t2 t3 t4 t5 : Int) (t6 t7 c0 c1 c2 : Bool) (c3 : Int) (c4 c5 : Bool) (c6 c7 c8 c9 c10 c11 : Int)
/-- The loop that divides by four, as often as the domain says. -/
theorem field_loop (x h v u : Int) (hx0 : 0 ≤ x) (hx1 : x < 4294967296) (hd0 : 0 ≤ t3) (hd1 : t3 ≤ 15) (r : Int × Int × Int)
    (he : Ev (fun k => atlasref07_Check.l0 k x2 x3 (x / 4 ^ t3.toNat) t3 t0 t1 t2 t3 t4 t5 t6 t7 c0 c1 c2 c3 c4 c5 c6 c7 c8 c9 c10 c11 h v u) r) :
    ∀ (n : Nat) (i : Int), 0 ≤ i → i ≤ t3 → (t3 - i).toNat = n → Ev (fun k => atlasref07_Check.l0 k x2 x3 (x / 4 ^ i.toNat) i t0 t1 t2 t3 t4 t5 t6 t7 c0 c1 c2 c3 c4 c5 c6 c7 c8 c9 c10 c11 h v u) r
  | 0, i, h0, h1, hn => by
    obtain rfl : i = t3 := by omega
    exact he
  | n + 1, i, h0, h1, hn => by
    have ih := field_loop x h v u hx0 hx1 hd0 hd1 r he n (i + 1) (by omega) (by omega) (by omega)
    have ew : wrap64 (i + 1) = i + 1 := IntWalk.wrap64_in _ (by omega)
    have hp : (0 : Int) < 4 ^ i.toNat := Int.pow_pos (by decide)
    have hq0 : 0 ≤ x / 4 ^ i.toNat := Int.ediv_nonneg hx0 (Int.le_of_lt hp)
    have hq1 : x / 4 ^ i.toNat ≤ x := Int.ediv_le_self _ hx0
    have e4 : Int.tdiv (x / 4 ^ i.toNat) 4 % 4294967296 = x / 4 ^ (i + 1).toNat := by
      rw [Int.tdiv_eq_ediv_of_nonneg hq0, show (i + 1).toNat = i.toNat + 1 by omega, Int.pow_succ, ← Int.ediv_ediv_of_nonneg (Int.le_of_lt hp)]
      generalize x / 4 ^ i.toNat = y at hq0 hq1
      omega
    refine Ev.step (fun k => rfl) ?_
    simp only [atlasref07_Check.l0, if_pos (show i < t3 by omega), e4, ew]
    exact ih
theorem check_both (hx0 : 0 ≤ c8) (hx1 : c8 < 4294967296) : ∃ r, Ev (fun k => rights_Check.f k t0 t1 t2 t3 t4 t5 t6 t7 c0 c1 c2 c3 c4 c5 c6 c7 c8 c9 c10 c11 x2 x3) r ∧ Ev (fun k => atlasref07_Check.f k t0 t1 t2 t3 t4 t5 t6 t7 c0 c1 c2 c3 c4 c5 c6 c7 c8 c9 c10 c11 x2 x3) r := by
  have offp : Ev (fun k => rights_Check.j0 k x2 x3 true t0 t1 t2 t3 t4 t5 t6 t7 c0 c1 c2 c3 c4 c5 c6 c7 c8 c9 c10 c11) (0, 0, 0) := Ev.step (fun k => rfl) (by simp only [rights_Check.j0, if_true]; exact Ev.now _)
  have offr : Ev (fun k => atlasref07_Check.j0 k x2 x3 true t0 t1 t2 t3 t4 t5 t6 t7 c0 c1 c2 c3 c4 c5 c6 c7 c8 c9 c10 c11) (0, 0, 0) := Ev.step (fun k => rfl) (by simp only [atlasref07_Check.j0, if_true]; exact Ev.now _)
  cases hc0 : c0 with
  | false =>
    refine ⟨(0, 0, 0), ?_, ?_⟩
    · unfold rights_Check.f
      simp only [Bool.false_eq_true, if_false]
      exact hc0 ▸ offp
    · unfold atlasref07_Check.f
      simp only [Bool.false_eq_true, if_false]
      exact hc0 ▸ offr
  | true =>
    rw [hc0] at offp offr
    obtain ⟨g, gp, gr, gk⟩ := tright_both t0 t1 t2 t3 t4 t5 t6 t7
    have startp : ∀ r, Ev (fun k => rights_Check.j0 k x2 x3 (!g) t0 t1 t2 t3 t4 t5 t6 t7 true c1 c2 c3 c4 c5 c6 c7 c8 c9 c10 c11) r → Ev (fun k => rights_Check.f k t0 t1 t2 t3 t4 t5 t6 t7 true c1 c2 c3 c4 c5 c6 c7 c8 c9 c10 c11 x2 x3) r := fun r h => by
      unfold rights_Check.f
      simp only [if_true]
      exact Ev.bind (Ev.congr (fun k => gp) (Ev.now _)) h
    have startr : ∀ r, Ev (fun k => atlasref07_Check.j0 k x2 x3 (!g) t0 t1 t2 t3 t4 t5 t6 t7 true c1 c2 c3 c4 c5 c6 c7 c8 c9 c10 c11) r → Ev (fun k => atlasref07_Check.f k t0 t1 t2 t3 t4 t5 t6 t7 true c1 c2 c3 c4 c5 c6 c7 c8 c9 c10 c11 x2 x3) r := fun r h => by
      unfold atlasref07_Check.f
      simp only [if_true]
      exact Ev.bind gr h
    cases g with
    | false => exact ⟨(0, 0, 0), startp _ offp, startr _ offr⟩
    | true =>
      obtain ⟨d0, d1, a0, a1⟩ := gk rfl
      obtain ⟨lv, lp, lr⟩ := level_both t0
      obtain ⟨al, ap, ar⟩ := allows_both t4 t5 t6 t7 c2 x2 x3
      have e2 : IntKind.u64.wrap (wrap64 (2 * t3)) = 2 * t3 := by
        rw [IntWalk.wrap64_in _ (by omega), IntKind.wrap_u64]
        omega
      have hp : (0 : Int) < 4 ^ t3.toNat := Int.pow_pos (by decide)
      have hq0 : 0 ≤ c8 / 4 ^ t3.toNat := Int.ediv_nonneg hx0 (Int.le_of_lt hp)
      have hq1 : c8 / 4 ^ t3.toNat ≤ c8 := Int.ediv_le_self _ hx0
      have ef : Go.bits .and .u32 (shr .u32 c8 (2 * t3)) 3 = c8 / 4 ^ t3.toNat % 4 := by
        have es : shr .u32 c8 (2 * t3) = c8 / 4 ^ t3.toNat := by
          unfold shr
          rw [Nat.min_eq_left (show (2 * t3).toNat ≤ IntKind.u32.bits by show _ ≤ 32; omega), show (2 * t3).toNat = 2 * t3.toNat by omega, Int.pow_mul]
          rfl
        rw [es]
        exact bits_mask .u32 32 (by decide) wraps_u32 2 (by decide) _ hq0 (by omega)
      have ea : (Go.bits .and .i64 t4 1 == 0) = (Int.tmod t4 2 == 0) := by
        have h : t4 = 0 ∨ t4 = 1 ∨ t4 = 2 ∨ t4 = 3 ∨ t4 = 4 ∨ t4 = 5 ∨ t4 = 6 ∨ t4 = 7 := by omega
        rcases h with rfl | rfl | rfl | rfl | rfl | rfl | rfl | rfl <;> decide +kernel
      have endp : ∀ b r, Ev (fun k => rights_Check.j1 k x2 x3 (c8 / 4 ^ t3.toNat % 4) b t0 t1 t2 t3 t4 t5 t6 t7 true c1 c2 c3 c4 c5 c6 c7 c8 c9 c10 c11 0 lv t3) r → (b = if c2 = true then Int.tmod t4 2 == 0 else false) → Ev (fun k => rights_Check.f k t0 t1 t2 t3 t4 t5 t6 t7 true c1 c2 c3 c4 c5 c6 c7 c8 c9 c10 c11 x2 x3) r := fun b r h hb => by
        refine startp _ (Ev.step (fun k => rfl) ?_)
        simp only [rights_Check.j0, Bool.not_true, Bool.false_eq_true, if_false]
        refine Ev.bind lp ?_
        simp only [e2, if_pos (show 0 ≤ 2 * t3 by omega), ef, ea]
        cases hc2 : c2 with
        | true => simp only [if_true]; rw [hc2, if_pos rfl] at hb; rw [hc2, hb] at h; exact h
        | false => simp only [Bool.false_eq_true, if_false]; rw [hc2, if_neg (by decide)] at hb; rw [hc2, hb] at h; exact h
      have endr : ∀ b r, Ev (fun k => atlasref07_Check.j2 k x2 x3 (c8 / 4 ^ t3.toNat) b t0 t1 t2 t3 t4 t5 t6 t7 true c1 c2 c3 c4 c5 c6 c7 c8 c9 c10 c11 0 lv t3) r → (b = if c2 = true then Int.tmod t4 2 == 0 else false) → Ev (fun k => atlasref07_Check.f k t0 t1 t2 t3 t4 t5 t6 t7 true c1 c2 c3 c4 c5 c6 c7 c8 c9 c10 c11 x2 x3) r := fun b r h hb => by
        refine startr _ (Ev.step (fun k => rfl) ?_)
        simp only [atlasref07_Check.j0, Bool.not_true, Bool.false_eq_true, if_false]
        refine Ev.bind lr ?_
        have := field_loop x2 x3 t0 t1 t2 t3 t4 t5 t6 t7 true c1 c2 c3 c4 c5 c6 c7 c8 c9 c10 c11 c8 0 lv t3 hx0 hx1 d0 d1 r ?_ t3.toNat 0 (by omega) d0 (by omega)
        · rw [show (0 : Int).toNat = 0 from rfl, Int.pow_zero, Int.ediv_one] at this
          exact this
        · refine Ev.step (fun k => rfl) ?_
          simp only [atlasref07_Check.l0, if_neg (show ¬ (t3 < t3) by omega)]
          cases hc2 : c2 with
          | true => simp only [if_true]; rw [hc2, if_pos rfl] at hb; rw [hc2, hb] at h; exact h
          | false => simp only [Bool.false_eq_true, if_false]; rw [hc2, if_neg (by decide)] at hb; rw [hc2, hb] at h; exact h
      have m2 : Int.tmod (c8 / 4 ^ t3.toNat) 2 = c8 / 4 ^ t3.toNat % 2 := Int.tmod_eq_emod_of_nonneg hq0
      have m4 : Int.tmod (c8 / 4 ^ t3.toNat) 4 = c8 / 4 ^ t3.toNat % 4 := Int.tmod_eq_emod_of_nonneg hq0
      generalize hb : (if c2 = true then Int.tmod t4 2 == 0 else false) = b at endp endr
      generalize c8 / 4 ^ t3.toNat = q at endp endr m2 m4 hq0 hq1
      cases b with
      | true =>
        refine ⟨(7, lv, t3), endp true _ (Ev.step (fun k => rfl) ?_) rfl, endr true _ (Ev.step (fun k => rfl) ?_) rfl⟩
        · simp only [rights_Check.j1, if_true]
          exact Ev.now _
        · simp only [atlasref07_Check.j2, if_true]
          exact Ev.now _
      | false =>
        by_cases h2 : q % 2 = 0
        · refine ⟨(8, lv, t3), endp false _ (Ev.step (fun k => rfl) ?_) rfl, endr false _ (Ev.step (fun k => rfl) ?_) rfl⟩
          · simp only [rights_Check.j1, Bool.false_eq_true, if_false]
            by_cases h0 : q % 4 = 0
            · simp only [if_pos h0]
              refine Ev.step (fun k => rfl) ?_
              simp only [rights_Check.j2, if_true]
              exact Ev.now _
            · simp only [if_neg h0]
              refine Ev.step (fun k => rfl) ?_
              simp only [rights_Check.j2, beq_iff_eq, if_pos (show q % 4 = 2 by omega)]
              exact Ev.now _
          · simp only [atlasref07_Check.j2, Bool.false_eq_true, if_false, m2, if_pos h2]
            exact Ev.now _
        by_cases h3 : q % 4 = 3
        · refine ⟨(0, 0, 0), endp false _ (Ev.step (fun k => rfl) ?_) rfl, endr false _ (Ev.step (fun k => rfl) ?_) rfl⟩
          · simp only [rights_Check.j1, Bool.false_eq_true, if_false, if_neg (show ¬ (q % 4 = 0) by omega)]
            refine Ev.step (fun k => rfl) ?_
            simp only [rights_Check.j2, beq_iff_eq, if_neg (show ¬ (q % 4 = 2) by omega), if_neg (show ¬ (q % 4 = 1) by omega)]
            exact Ev.now _
          · simp only [atlasref07_Check.j2, Bool.false_eq_true, if_false, m2, if_neg h2, m4, if_pos h3]
            exact Ev.now _
        · refine ⟨if al = true then (0, 0, 0) else (9, lv, t3), endp false _ (Ev.step (fun k => rfl) ?_) rfl, endr false _ (Ev.step (fun k => rfl) ?_) rfl⟩
          · simp only [rights_Check.j1, Bool.false_eq_true, if_false, if_neg (show ¬ (q % 4 = 0) by omega)]
            refine Ev.step (fun k => rfl) ?_
            simp only [rights_Check.j2, beq_iff_eq, if_neg (show ¬ (q % 4 = 2) by omega), if_pos (show q % 4 = 1 by omega)]
            refine Ev.bind ap ?_
            cases al
            · exact Ev.now _
            · exact Ev.now _
          · simp only [atlasref07_Check.j2, Bool.false_eq_true, if_false, m2, if_neg h2, m4, if_neg h3]
            refine Ev.bind ar ?_
            cases al
            · exact Ev.now _
            · exact Ev.now _
theorem check_in (x5 : Int) (hx0 : 0 ≤ c8) (hx1 : c8 < 4294967296) (h : Ev (fun k => atlaslaw07_RightsCheck.l0 k x3 (wrap64 (x5 + 1)) t0 t1 t2 t3 t4 t5 t6 t7 c0 c1 c2 c3 c4 c5 c6 c7 c8 c9 c10 c11) true) :
    ∀ (n : Nat) (x : Int), 0 ≤ x → x ≤ 4 → (4 - x).toNat = n → Ev (fun k => atlaslaw07_RightsCheck.l1 k x3 x5 x t0 t1 t2 t3 t4 t5 t6 t7 c0 c1 c2 c3 c4 c5 c6 c7 c8 c9 c10 c11) true
  | 0, x, h0, h1, hn => by
    obtain ⟨r, e1, e2⟩ := check_both (x5 == 1) x3 t0 t1 t2 t3 t4 t5 t6 t7 c0 c1 c2 c3 c4 c5 c6 c7 c8 c9 c10 c11 hx0 hx1
    refine Ev.step (fun k => rfl) ?_
    simp only [atlaslaw07_RightsCheck.l1, if_neg (show ¬ (x < 4) by omega)]
    refine Ev.bind e1 (Ev.bind e2 ?_)
    simp only [beq_self_eq_true, Bool.not_true, Bool.or_self, Bool.false_eq_true, if_false]
    exact h
  | n + 1, x, h0, h1, hn => by
    obtain ⟨r, e1, e2⟩ := check_both (x5 == 1) x t0 t1 t2 t3 t4 t5 t6 t7 c0 c1 c2 c3 c4 c5 c6 c7 c8 c9 c10 c11 hx0 hx1
    refine Ev.step (fun k => rfl) ?_
    simp only [atlaslaw07_RightsCheck.l1, if_pos (show x < 4 by omega)]
    refine Ev.bind e1 (Ev.bind e2 ?_)
    have ew : wrap64 (x + 1) = x + 1 := IntWalk.wrap64_in _ (by omega)
    simp only [beq_self_eq_true, Bool.not_true, Bool.or_self, Bool.false_eq_true, if_false, ew]
    exact check_in x5 hx0 hx1 h n (x + 1) (by omega) (by omega) (by omega)
theorem check_out (hx0 : 0 ≤ c8) (hx1 : c8 < 4294967296) :
    ∀ (n : Nat) (x : Int), 0 ≤ x → x ≤ 2 → (2 - x).toNat = n → Ev (fun k => atlaslaw07_RightsCheck.l0 k x3 x t0 t1 t2 t3 t4 t5 t6 t7 c0 c1 c2 c3 c4 c5 c6 c7 c8 c9 c10 c11) true
  | 0, x, h0, h1, hn => by
    refine Ev.step (fun k => rfl) ?_
    simp only [atlaslaw07_RightsCheck.l0, if_neg (show ¬ (x < 2) by omega)]
    exact Ev.now _
  | n + 1, x, h0, h1, hn => by
    refine Ev.step (fun k => rfl) ?_
    simp only [atlaslaw07_RightsCheck.l0, if_pos (show x < 2 by omega)]
    have ew : wrap64 (x + 1) = x + 1 := IntWalk.wrap64_in _ (by omega)
    exact check_in x3 t0 t1 t2 t3 t4 t5 t6 t7 c0 c1 c2 c3 c4 c5 c6 c7 c8 c9 c10 c11 x hx0 hx1 (by rw [ew]; exact check_out hx0 hx1 n (x + 1) (by omega) (by omega) (by omega)) 4 0 (by omega) (by omega) (by decide)
end
theorem XRightsCheck (a0_0 : Int) (a0_1 : Int) (a0_2 : Int) (a0_3 : Int) (a0_4 : Int) (a0_5 : Int) (a0_6 : Bool) (a0_7 : Bool) (a1_0 : Bool) (a1_1 : Bool) (a1_2 : Bool) (a1_3 : Int) (a1_4 : Bool) (a1_5 : Bool) (a1_6 : Int) (a1_7 : Int) (a1_8 : Int) (a1_9 : Int) (a1_10 : Int) (a1_11 : Int) (a2 : Int) (_w0_0 : (Lit.int .i64 a0_0).wf = true) (_w0_1 : (Lit.int .u32 a0_1).wf = true) (_w0_2 : (Lit.int .u64 a0_2).wf = true) (_w0_3 : (Lit.int .i64 a0_3).wf = true) (_w0_4 : (Lit.int .i64 a0_4).wf = true) (_w0_5 : (Lit.int .u32 a0_5).wf = true) (_w1_3 : (Lit.int .i64 a1_3).wf = true) (_w1_6 : (Lit.int .u64 a1_6).wf = true) (_w1_7 : (Lit.int .u64 a1_7).wf = true) (w1_8 : (Lit.int .u32 a1_8).wf = true) (_w1_9 : (Lit.int .u32 a1_9).wf = true) (_w1_10 : (Lit.int .u32 a1_10).wf = true) (_w1_11 : (Lit.int .i64 a1_11).wf = true) (_w2 : (Lit.int .i64 a2).wf = true) : ∃ k, atlaslaw07_RightsCheck.f k a0_0 a0_1 a0_2 a0_3 a0_4 a0_5 a0_6 a0_7 a1_0 a1_1 a1_2 a1_3 a1_4 a1_5 a1_6 a1_7 a1_8 a1_9 a1_10 a1_11 a2 = some true := by
  have h : 0 ≤ a1_8 ∧ a1_8 < 4294967296 := by
    have := w1_8
    simp only [Lit.wf, Bool.and_eq_true, decide_eq_true_eq, show IntKind.u32.min = 0 from rfl, show IntKind.u32.max = 4294967295 from rfl] at this
    omega
  refine Ev.rounds (r := true) ?_
  exact check_out a2 a0_0 a0_1 a0_2 a0_3 a0_4 a0_5 a0_6 a0_7 a1_0 a1_1 a1_2 a1_3 a1_4 a1_5 a1_6 a1_7 a1_8 a1_9 a1_10 a1_11 h.1 h.2 2 0 (by omega) (by omega) (by decide)
end Go.Proofs.YtglafffghbhnbaaDoor.Pure
