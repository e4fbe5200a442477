/-
  Of a block in a client domain: what a user may do a privileged access may do too; with a domain that is a manager's all may be done, with one that is barred nothing; nobody may do by one kind what the bits do not allow.
  Conditions: none beyond the row's own.
-/
import Derived.Test.YtglafffghbhnbaaDoorS20
import Derived.Laws.BitsLemmas
set_option linter.unusedSimpArgs false
set_option linter.unusedVariables false
namespace Go.Proofs.YtglafffghbhnbaaDoor.Pure
open Go.RowKit Go.Proofs.YtglafffghbhnbaaDoorG Go.Proofs.YtglafffghbhnbaaDoor.S Go.Proofs.YtglafffghbhnbaaDoorW.PrintWords Go.Proofs.YtglafffghbhnbaaDoorW.PrintLast Go.Proofs.YtglafffghbhnbaaDoorW.PrintMore

/-- A kind that is none of the three reads as none. -/
def knd (k : Int) : Int := if k = 1 then 1 else if k = 2 then 2 else if k = 3 then 3 else 0
theorem knd_fin (k : Int) : ∃ x : Fin 4, knd k = (x.val : Int) := by
  unfold knd
  by_cases h1 : k = 1
  · exact ⟨1, by simp [h1]⟩
  by_cases h2 : k = 2
  · exact ⟨2, by simp [h2]⟩
  by_cases h3 : k = 3
  · subst h3; exact ⟨3, rfl⟩
  exact ⟨0, by simp [h1, h2, h3]⟩

theorem allows_norm (m : Nat) (a b : Int) (ng xn afe priv : Bool) (kind : Int) : rights_Allows.f (m + 2) a b ng xn afe priv kind = rights_Allows.f (m + 2) a 0 false xn afe priv (knd kind) := by
  simp only [rights_Allows.f, rights_Allows.j0, rights_Allows.j1, knd]
  by_cases k1 : kind = 1
  · subst k1; rfl
  by_cases k2 : kind = 2
  · subst k2; rfl
  by_cases k3 : kind = 3
  · subst k3; rfl
  simp only [if_neg k1, if_neg k2, if_neg k3, if_neg (show ¬ ((0 : Int) = 1) by decide), if_neg (show ¬ ((0 : Int) = 2) by decide), if_neg (show ¬ ((0 : Int) = 3) by decide)]
/-- Does it lie on a multiple of S, below N? -/
def plc (a S N : Int) : Bool := if Int.tmod a S = 0 then decide (a < N) else false
theorem place_eq (a s n S N : Int) (hs : 0 ≤ s) (hS : shl .u64 1 s = S) (hN : shl .u64 1 n = N) (h0 : S ≠ 0) (hn : 0 ≤ n) : desc_place.f a s n = some (plc a S N) := by
  unfold desc_place.f plc
  rw [if_pos hs, hS, if_neg h0, if_pos hn, hN]
  by_cases c : Int.tmod a S = 0
  · rw [if_pos c, if_pos c]
  · rw [if_neg c, if_neg c]
def lfOk (ap bits : Int) : Bool := decide (0 ≤ ap ∧ ap ≤ 7 ∧ bits ≤ 63)
theorem leaf_eq (ap bits : Int) (ng xn : Bool) : desc_leaf.f ap bits ng xn = some (lfOk ap bits) := by
  unfold desc_leaf.f lfOk
  by_cases h0 : 0 ≤ ap <;> by_cases h1 : ap ≤ 7 <;> simp [h0, h1]
def dmOk (d : Int) : Bool := decide (0 ≤ d ∧ d ≤ 15)
theorem domain_eq (d : Int) : desc_domain.f d = some (dmOk d) := by
  unfold desc_domain.f dmOk
  by_cases h0 : 0 ≤ d <;> simp [h0]
/-- Is the translation right, at a size and its table's numbers? -/
def rtAt (p1 dm p2 lf zero : Bool) : Bool := p1 && (dm && (zero && (p2 && lf)))
theorem right_at (t s S n N base phys d ap bits : Int) (ng xn : Bool) (h1 : 1 ≤ t) (h4 : t ≤ 4) (hr : rd gt3_0 t = s) (hs : 0 ≤ s) (hS : shl .u64 1 s = S) (h0 : S ≠ 0) (hn : n = if t = 4 then 40 else 32) (hN : shl .u64 1 n = N) :
    desc_Right.f t base phys d ap bits ng xn = some (rtAt (plc (IntKind.u64.wrap base) S 4294967296) (dmOk d) (plc phys S N) (lfOk ap bits) (if t = 4 then d == 0 else true)) := by
  have hz : desc_sized.f t = some true := by
    unfold desc_sized.f
    rw [if_pos (show t ≥ 1 from h1), decide_eq_true h4]
  have h32 : shl .u64 1 32 = 4294967296 := by decide +kernel
  have p1 := place_eq (IntKind.u64.wrap base) s 32 S 4294967296 hs hS h32 h0 (by decide)
  have p2 := place_eq phys s n S N hs hS hN h0 (by subst hn; split <;> decide)
  have hb : desc_block.f 0 phys 0 false ap bits ng xn t = some (plc phys S N && lfOk ap bits) := by
    unfold desc_block.f
    by_cases c : t = 4
    · rw [if_pos c] at hn
      subst hn
      rw [if_pos c, if_pos (show (0 : Int) ≤ t by omega), if_pos (show t < 5 by omega), hr, p2, Option.bind_some, leaf_eq]
      cases plc phys S N <;> simp
    · rw [if_neg c] at hn
      subst hn
      rw [if_neg c, if_pos (show (0 : Int) ≤ t by omega), if_pos (show t < 5 by omega), hr, p2, Option.bind_some, leaf_eq]
      cases plc phys S N <;> simp
  unfold desc_Right.f
  rw [hz, Option.bind_some, if_pos rfl, if_pos (show (0 : Int) ≤ t by omega), if_pos (show t < 5 by omega), hr, p1, Option.bind_some, domain_eq, Option.bind_some, hb]
  generalize plc (IntKind.u64.wrap base) S 4294967296 = a
  generalize dmOk d = b
  generalize plc phys S N = c
  generalize lfOk ap bits = e
  by_cases h : t = 4
  · by_cases hd : d = 0
    · cases a <;> cases b <;> cases c <;> cases e <;> simp [rtAt, h, hd]
    · cases a <;> cases b <;> cases c <;> cases e <;> simp [rtAt, h, hd]
  · cases a <;> cases b <;> cases c <;> cases e <;> simp [rtAt, h]
theorem allows_some : ∀ (a : Fin 8) (xn afe priv : Bool) (kd : Fin 4), (rights_Allows.f 2 (a.val : Int) 0 false xn afe priv (kd.val : Int)).isSome = true := by decide +kernel
theorem allows_one (ap bits : Int) (ng xn afe priv : Bool) (kind : Int) (ha : 0 ≤ ap ∧ ap ≤ 7) : ∃ r, Ev (fun k => rights_Allows.f k ap bits ng xn afe priv kind) r := by
  obtain ⟨x, rfl⟩ : ∃ x : Fin 8, ap = (x.val : Int) := ⟨⟨ap.toNat, by omega⟩, by simp; omega⟩
  obtain ⟨kd, hk⟩ := knd_fin kind
  obtain ⟨r, hr⟩ := Option.isSome_iff_exists.1 (allows_some x xn afe priv kd)
  refine ⟨r, 2, fun k hk' => ?_⟩
  obtain ⟨m, rfl⟩ : ∃ m, k = m + 2 := ⟨k - 2, by omega⟩
  show rights_Allows.f (m + 2) _ _ _ _ _ _ _ = _
  rw [allows_norm, hk]
  exact at_rounds (g := fun k => rights_Allows.f k (x.val : Int) 0 false xn afe priv (kd.val : Int)) (fun k => rights_Allows.mono _ _ _ _ _ _ _ k) hk' hr
theorem level_one (t : Int) (h1 : 1 ≤ t) (h4 : t ≤ 4) : ∃ r, Ev (fun k => rights_Level.f k t) r := by
  have h : t = 1 ∨ t = 2 ∨ t = 3 ∨ t = 4 := by omega
  rcases h with rfl | rfl | rfl | rfl
  · exact ⟨2, Ev.of (fun k => rights_Level.mono _ k) (k := 2) (by decide +kernel)⟩
  · exact ⟨2, Ev.of (fun k => rights_Level.mono _ k) (k := 2) (by decide +kernel)⟩
  · exact ⟨1, Ev.of (fun k => rights_Level.mono _ k) (k := 2) (by decide +kernel)⟩
  · exact ⟨1, Ev.of (fun k => rights_Level.mono _ k) (k := 2) (by decide +kernel)⟩

theorem and_i64 (x : Int) (m : Nat) (hm : m < 1024) : 0 ≤ Go.bits .and .i64 x (m : Int) ∧ Go.bits .and .i64 x (m : Int) ≤ m := by
  simp only [Go.bits, BitVec.toNat_and]
  have h : ((BitVec.ofInt IntKind.i64.bits x).toNat &&& (BitVec.ofInt IntKind.i64.bits (m : Int)).toNat) ≤ m := by
    refine Nat.le_trans Nat.and_le_right ?_
    rw [BitVec.ofInt_natCast, BitVec.toNat_ofNat]
    exact Nat.mod_le _ _
  generalize ((BitVec.ofInt IntKind.i64.bits x).toNat &&& (BitVec.ofInt IntKind.i64.bits (m : Int)).toNat) = q at h
  rw [IntKind.wrap_i64]
  omega
theorem and_u32 (x : Int) (m : Nat) (hm : m < 1024) : 0 ≤ Go.bits .and .u32 x (m : Int) ∧ Go.bits .and .u32 x (m : Int) ≤ m := by
  simp only [Go.bits, BitVec.toNat_and]
  have h : ((BitVec.ofInt IntKind.u32.bits x).toNat &&& (BitVec.ofInt IntKind.u32.bits (m : Int)).toNat) ≤ m := by
    refine Nat.le_trans Nat.and_le_right ?_
    rw [BitVec.ofInt_natCast, BitVec.toNat_ofNat]
    exact Nat.mod_le _ _
  generalize ((BitVec.ofInt IntKind.u32.bits x).toNat &&& (BitVec.ofInt IntKind.u32.bits (m : Int)).toNat) = q at h
  rw [IntKind.wrap_u32]
  omega

/-- A translation at nought is right. -/
theorem zero_right (t d ap bits : Int) (ng xn : Bool) (h1 : 1 ≤ t) (h4 : t ≤ 4) (hd : 0 ≤ d ∧ d ≤ 15) (hz : t = 4 → d = 0) (ha : 0 ≤ ap ∧ ap ≤ 7) (hb : bits ≤ 63) : desc_Right.f t 0 0 d ap bits ng xn = some true := by
  have dm : dmOk d = true := decide_eq_true hd
  have lf : lfOk ap bits = true := decide_eq_true ⟨ha.1, ha.2, hb⟩
  have ht : t = 1 ∨ t = 2 ∨ t = 3 ∨ t = 4 := by omega
  rcases ht with rfl | rfl | rfl | rfl
  · rw [right_at 1 12 4096 32 4294967296 0 0 d ap bits ng xn (by decide) (by decide) (by decide +kernel) (by decide) (by decide +kernel) (by decide) (by decide) (by decide +kernel), dm, lf, if_neg (by decide)]
    decide +kernel
  · rw [right_at 2 16 65536 32 4294967296 0 0 d ap bits ng xn (by decide) (by decide) (by decide +kernel) (by decide) (by decide +kernel) (by decide) (by decide) (by decide +kernel), dm, lf, if_neg (by decide)]
    decide +kernel
  · rw [right_at 3 20 1048576 32 4294967296 0 0 d ap bits ng xn (by decide) (by decide) (by decide +kernel) (by decide) (by decide +kernel) (by decide) (by decide) (by decide +kernel), dm, lf, if_neg (by decide)]
    decide +kernel
  · obtain rfl := hz rfl
    rw [right_at 4 24 16777216 40 1099511627776 0 0 0 ap bits ng xn (by decide) (by decide) (by decide +kernel) (by decide) (by decide +kernel) (by decide) (by decide) (by decide +kernel), dm, lf]
    decide +kernel

theorem field_all : ∀ (f : Fin 4) (d : Fin 16), Go.bits .and .u32 (shr .u32 (shl .u32 (f.val : Int) (wrap64 (2 * (d.val : Int)))) (IntKind.u64.wrap (wrap64 (2 * (d.val : Int))))) 3 = (f.val : Int) ∧ 0 ≤ IntKind.u64.wrap (wrap64 (2 * (d.val : Int))) ∧ 0 ≤ wrap64 (2 * (d.val : Int)) := by decide +kernel
theorem field_at (f d : Int) (hf : 0 ≤ f ∧ f ≤ 3) (hd : 0 ≤ d ∧ d ≤ 15) : Go.bits .and .u32 (shr .u32 (shl .u32 f (wrap64 (2 * d))) (IntKind.u64.wrap (wrap64 (2 * d)))) 3 = f ∧ 0 ≤ IntKind.u64.wrap (wrap64 (2 * d)) ∧ 0 ≤ wrap64 (2 * d) := by
  have h := field_all ⟨f.toNat, by omega⟩ ⟨d.toNat, by omega⟩
  simp only [Int.toNat_of_nonneg hf.1, Int.toNat_of_nonneg hd.1] at h
  exact h

/-- What Check tells of a right translation. -/
def told (flag : Bool) (f lv d : Int) (al : Bool) : Int × Int × Int :=
  if flag = true then (7, lv, d) else if f = 0 ∨ f = 2 then (8, lv, d) else if f = 1 then (if al = true then (0, 0, 0) else (9, lv, d)) else (0, 0, 0)
theorem check_told (t d ap bits : Int) (ng xn afe : Bool) (f : Int) (priv : Bool) (kind lv : Int) (al : Bool) (h1 : 1 ≤ t) (h4 : t ≤ 4) (hd : 0 ≤ d ∧ d ≤ 15) (hz : t = 4 → d = 0) (ha : 0 ≤ ap ∧ ap ≤ 7) (hb : bits ≤ 63) (hf : 0 ≤ f ∧ f ≤ 3)
    (hl : Ev (fun k => rights_Level.f k t) lv) (hal : Ev (fun k => rights_Allows.f k ap bits ng xn afe priv kind) al) :
    Ev (fun k => rights_Check.f k t 0 0 d ap bits ng xn true false afe 0 false false 0 0 (shl .u32 f (wrap64 (2 * d))) 0 0 0 priv kind) (told (if afe = true then Go.bits .and .i64 ap 1 == 0 else false) f lv d al) := by
  obtain ⟨e1, e2, e3⟩ := field_at f d hf hd
  unfold rights_Check.f
  simp only [if_true]
  refine Ev.bind (Ev.congr (fun k => zero_right t d ap bits ng xn h1 h4 hd hz ha hb) (Ev.now _)) ?_
  refine Ev.step (fun k => rfl) ?_
  simp only [rights_Check.j0, Bool.not_true, Bool.false_eq_true, if_false]
  refine Ev.bind hl ?_
  simp only [if_pos e2, e1]
  have main : ∀ b, Ev (fun k => rights_Check.j1 k priv kind f b t 0 0 d ap bits ng xn true false afe 0 false false 0 0 (shl .u32 f (wrap64 (2 * d))) 0 0 0 0 lv d) (told b f lv d al) := fun b => by
    refine Ev.step (fun k => rfl) ?_
    simp only [rights_Check.j1]
    cases b with
    | true => simp only [if_true, told]; exact Ev.now _
    | false =>
      simp only [Bool.false_eq_true, if_false, told]
      have hc : f = 0 ∨ f = 1 ∨ f = 2 ∨ f = 3 := by omega
      rcases hc with rfl | rfl | rfl | rfl
      · simp only [if_true]
        refine Ev.step (fun k => rfl) ?_
        simp only [rights_Check.j2, if_true, true_or]
        exact Ev.now _
      · simp only [show ¬ ((1 : Int) = 0) by decide, if_false]
        refine Ev.step (fun k => rfl) ?_
        simp only [rights_Check.j2, show ((1 : Int) == 2) = false by decide, Bool.false_eq_true, if_false, if_true, show ¬ ((1 : Int) = 0) by decide, show ¬ ((1 : Int) = 2) by decide, or_self]
        refine Ev.bind hal ?_
        cases al
        · exact Ev.now _
        · exact Ev.now _
      · simp only [show ¬ ((2 : Int) = 0) by decide, if_false]
        refine Ev.step (fun k => rfl) ?_
        simp only [rights_Check.j2, show ((2 : Int) == 2) = true by decide, if_true, or_true]
        exact Ev.now _
      · simp only [show ¬ ((3 : Int) = 0) by decide, if_false]
        refine Ev.step (fun k => rfl) ?_
        simp only [rights_Check.j2, show ((3 : Int) == 2) = false by decide, Bool.false_eq_true, if_false, show ¬ ((3 : Int) = 0) by decide, show ¬ ((3 : Int) = 1) by decide, show ¬ ((3 : Int) = 2) by decide, or_self]
        exact Ev.now _
  cases afe with
  | true => simp only [if_true]; exact main _
  | false => simp only [Bool.false_eq_true, if_false]; exact main _

/-- What a user may do, the privileged may do. -/
theorem user_priv_all : ∀ (a : Fin 8) (xn afe : Bool) (kd : Fin 4), rights_Allows.f 2 (a.val : Int) 0 false xn afe false (kd.val : Int) = some true → rights_Allows.f 2 (a.val : Int) 0 false xn afe true (kd.val : Int) = some true := by decide +kernel
theorem user_priv (ap bits : Int) (ng xn afe : Bool) (kind : Int) (ha : 0 ≤ ap ∧ ap ≤ 7) : ∃ u p, Ev (fun k => rights_Allows.f k ap bits ng xn afe false kind) u ∧ Ev (fun k => rights_Allows.f k ap bits ng xn afe true kind) p ∧ (u = true → p = true) := by
  obtain ⟨u, hu⟩ := allows_one ap bits ng xn afe false kind ha
  obtain ⟨p, hp⟩ := allows_one ap bits ng xn afe true kind ha
  refine ⟨u, p, hu, hp, fun h => ?_⟩
  subst h
  obtain ⟨x, rfl⟩ : ∃ x : Fin 8, ap = (x.val : Int) := ⟨⟨ap.toNat, by omega⟩, by simp; omega⟩
  obtain ⟨kd, hk⟩ := knd_fin kind
  have two : ∀ (priv r : Bool), Ev (fun k => rights_Allows.f k (x.val : Int) bits ng xn afe priv kind) r → rights_Allows.f 2 (x.val : Int) 0 false xn afe priv (kd.val : Int) = some r := fun priv r hr => by
    have hs := allows_some x xn afe priv kd
    obtain ⟨q, hq⟩ := Option.isSome_iff_exists.1 hs
    obtain ⟨K, hK⟩ := hr
    have h1 := at_rounds (g := fun k => rights_Allows.f k (x.val : Int) 0 false xn afe priv (kd.val : Int)) (fun k => rights_Allows.mono _ _ _ _ _ _ _ k) (show 2 ≤ K + 2 by omega) hq
    have h2 : rights_Allows.f (K + 2) (x.val : Int) bits ng xn afe priv kind = some r := hK (K + 2) (by omega)
    rw [allows_norm, hk] at h2
    rw [hq, ← Option.some.inj (h1.symm.trans h2)]
  have := user_priv_all x xn afe kd (two false true hu)
  exact (Option.some.inj (this.symm.trans (two true p hp))).symm

section
variable (t d ap bits : Int) (ng xn afe : Bool) (lv : Int) (h1 : 1 ≤ t) (h4 : t ≤ 4) (hd : 0 ≤ d ∧ d ≤ 15) (hz : t = 4 → d = 0) (ha : 0 ≤ ap ∧ ap ≤ 7) (hb : bits ≤ 63) (hl : Ev (fun k => rights_Level.f k t) lv)
include h1 h4 hd hz ha hb hl
theorem priv_step (f kind : Int) (hf : 0 ≤ f ∧ f ≤ 3) (hk : kind ≤ 3) (hn : Ev (fun k => atlaslaw07_RightsPriv.l1 k d afe f (wrap64 (kind + 1)) ap bits ng xn t 0 0 d ap bits ng xn true false afe 0 false false 0 0 (shl .u32 f (wrap64 (2 * d))) 0 0 0) true) :
    Ev (fun k => atlaslaw07_RightsPriv.l1 k d afe f kind ap bits ng xn t 0 0 d ap bits ng xn true false afe 0 false false 0 0 (shl .u32 f (wrap64 (2 * d))) 0 0 0) true := by
  obtain ⟨u, p, hu, hp, hup⟩ := user_priv ap bits ng xn afe kind ha
  have cu := check_told t d ap bits ng xn afe f false kind lv u h1 h4 hd hz ha hb hf hl hu
  have cp := check_told t d ap bits ng xn afe f true kind lv p h1 h4 hd hz ha hb hf hl hp
  refine Ev.step (fun k => rfl) ?_
  simp only [atlaslaw07_RightsPriv.l1, if_pos hk]
  refine Ev.bind cu (Ev.bind cp ?_)
  have last : Ev (fun k => atlaslaw07_RightsPriv.j7 k d afe f kind false ap bits ng xn t 0 0 d ap bits ng xn true false afe 0 false false 0 0 (shl .u32 f (wrap64 (2 * d))) 0 0 0) true := by
    refine Ev.step (fun k => rfl) ?_
    simp only [atlaslaw07_RightsPriv.j7, Bool.false_eq_true, if_false]
    exact hn
  have main : ∀ b : Bool, Ev (fun k => atlaslaw07_RightsPriv.j3 k d afe f kind b ap bits ng xn t 0 0 d ap bits ng xn true false afe 0 false false 0 0 (shl .u32 f (wrap64 (2 * d))) 0 0 0 (told b f lv d u).1 (told b f lv d u).2.1 (told b f lv d u).2.2 (told b f lv d p).1 (told b f lv d p).2.1 (told b f lv d p).2.2) true := fun b => by
    cases b with
    | true =>
      refine Ev.step (fun k => rfl) ?_
      simp only [atlaslaw07_RightsPriv.j3, told, if_true, show ¬ ((7 : Int) = 0) by decide, if_false, show (true != ((7 : Int) == 7)) = false by decide, Bool.false_eq_true]
      refine Ev.step (fun k => rfl) ?_
      simp only [atlaslaw07_RightsPriv.j4, if_true, Bool.false_eq_true, if_false]
      exact hn
    | false =>
      have hc : f = 0 ∨ f = 1 ∨ f = 2 ∨ f = 3 := by omega
      have six : ∀ (x278 x274 : Int) (y1 y2 y3 y4 : Int), f ≠ 1 → Ev (fun k => atlaslaw07_RightsPriv.j6 k d afe f kind false ap bits ng xn t 0 0 d ap bits ng xn true false afe 0 false false 0 0 (shl .u32 f (wrap64 (2 * d))) 0 0 0 x274 y1 y2 x278 y3 y4) true := fun x278 x274 y1 y2 y3 y4 hf1 => by
        refine Ev.step (fun k => rfl) ?_
        simp only [atlaslaw07_RightsPriv.j6, Bool.false_eq_true, if_false, if_neg hf1]
        exact last
      rcases hc with rfl | rfl | rfl | rfl
      · simp only [told, Bool.false_eq_true, if_false, true_or, if_true]
        refine Ev.step (fun k => rfl) ?_
        simp only [atlaslaw07_RightsPriv.j3, show ¬ ((8 : Int) = 0) by decide, if_false, show (false != ((8 : Int) == 7)) = false by decide, Bool.false_eq_true]
        refine Ev.step (fun k => rfl) ?_
        simp only [atlaslaw07_RightsPriv.j4, Bool.false_eq_true, if_false, if_true]
        refine Ev.step (fun k => rfl) ?_
        simp only [atlaslaw07_RightsPriv.j5, show (true != ((8 : Int) == 8)) = false by decide, Bool.false_eq_true, if_false, show ¬ ((0 : Int) = 3) by decide]
        exact six _ _ _ _ _ _ (by decide)
      · simp only [told, Bool.false_eq_true, if_false, show ¬ ((1 : Int) = 0) by decide, show ¬ ((1 : Int) = 2) by decide, or_self, if_true]
        cases u with
        | true =>
          obtain rfl := hup rfl
          simp only [if_true]
          refine Ev.step (fun k => rfl) ?_
          simp only [atlaslaw07_RightsPriv.j3, if_true, show (false != ((0 : Int) == 7)) = false by decide, Bool.false_eq_true, if_false]
          refine Ev.step (fun k => rfl) ?_
          simp only [atlaslaw07_RightsPriv.j4, Bool.false_eq_true, if_false, show ¬ ((1 : Int) = 0) by decide, show ((1 : Int) == 2) = false by decide]
          refine Ev.step (fun k => rfl) ?_
          simp only [atlaslaw07_RightsPriv.j5, show (false != ((0 : Int) == 8)) = false by decide, Bool.false_eq_true, if_false, show ¬ ((1 : Int) = 3) by decide]
          refine Ev.step (fun k => rfl) ?_
          simp only [atlaslaw07_RightsPriv.j6, Bool.false_eq_true, if_false, if_true]
          refine Ev.bind hu ?_
          simp only [show (((0 : Int) == 0) != true) = false by decide, Bool.false_eq_true, if_false]
          refine Ev.bind hp ?_
          simp only [show (((0 : Int) == 0) != true) = false by decide]
          exact last
        | false =>
          cases p with
          | true =>
            simp only [Bool.false_eq_true, if_false, if_true]
            refine Ev.step (fun k => rfl) ?_
            simp only [atlaslaw07_RightsPriv.j3, show ¬ ((9 : Int) = 0) by decide, show (false != ((9 : Int) == 7)) = false by decide, show (false != ((0 : Int) == 7)) = false by decide, Bool.false_eq_true, if_false]
            refine Ev.step (fun k => rfl) ?_
            simp only [atlaslaw07_RightsPriv.j4, Bool.false_eq_true, if_false, show ¬ ((1 : Int) = 0) by decide, show ((1 : Int) == 2) = false by decide]
            refine Ev.step (fun k => rfl) ?_
            simp only [atlaslaw07_RightsPriv.j5, show (false != ((9 : Int) == 8)) = false by decide, show (false != ((0 : Int) == 8)) = false by decide, Bool.false_eq_true, if_false, show ¬ ((1 : Int) = 3) by decide]
            refine Ev.step (fun k => rfl) ?_
            simp only [atlaslaw07_RightsPriv.j6, Bool.false_eq_true, if_false, if_true]
            refine Ev.bind hu ?_
            simp only [show (((9 : Int) == 0) != false) = false by decide, Bool.false_eq_true, if_false]
            refine Ev.bind hp ?_
            simp only [show (((0 : Int) == 0) != true) = false by decide]
            exact last
          | false =>
            simp only [Bool.false_eq_true, if_false]
            refine Ev.step (fun k => rfl) ?_
            simp only [atlaslaw07_RightsPriv.j3, show ¬ ((9 : Int) = 0) by decide, show (false != ((9 : Int) == 7)) = false by decide, Bool.false_eq_true, if_false]
            refine Ev.step (fun k => rfl) ?_
            simp only [atlaslaw07_RightsPriv.j4, Bool.false_eq_true, if_false, show ¬ ((1 : Int) = 0) by decide, show ((1 : Int) == 2) = false by decide]
            refine Ev.step (fun k => rfl) ?_
            simp only [atlaslaw07_RightsPriv.j5, show (false != ((9 : Int) == 8)) = false by decide, Bool.false_eq_true, if_false, show ¬ ((1 : Int) = 3) by decide]
            refine Ev.step (fun k => rfl) ?_
            simp only [atlaslaw07_RightsPriv.j6, Bool.false_eq_true, if_false, if_true]
            refine Ev.bind hu ?_
            simp only [show (((9 : Int) == 0) != false) = false by decide, Bool.false_eq_true, if_false]
            refine Ev.bind hp ?_
            simp only [show (((9 : Int) == 0) != false) = false by decide]
            exact last
      · simp only [told, Bool.false_eq_true, if_false, or_true, if_true]
        refine Ev.step (fun k => rfl) ?_
        simp only [atlaslaw07_RightsPriv.j3, show ¬ ((8 : Int) = 0) by decide, if_false, show (false != ((8 : Int) == 7)) = false by decide, Bool.false_eq_true]
        refine Ev.step (fun k => rfl) ?_
        simp only [atlaslaw07_RightsPriv.j4, Bool.false_eq_true, if_false, show ¬ ((2 : Int) = 0) by decide, show ((2 : Int) == 2) = true by decide]
        refine Ev.step (fun k => rfl) ?_
        simp only [atlaslaw07_RightsPriv.j5, show (true != ((8 : Int) == 8)) = false by decide, Bool.false_eq_true, if_false, show ¬ ((2 : Int) = 3) by decide]
        exact six _ _ _ _ _ _ (by decide)
      · simp only [told, Bool.false_eq_true, if_false, show ¬ ((3 : Int) = 0) by decide, show ¬ ((3 : Int) = 2) by decide, show ¬ ((3 : Int) = 1) by decide, or_self]
        refine Ev.step (fun k => rfl) ?_
        simp only [atlaslaw07_RightsPriv.j3, if_true, show (false != ((0 : Int) == 7)) = false by decide, Bool.false_eq_true, if_false]
        refine Ev.step (fun k => rfl) ?_
        simp only [atlaslaw07_RightsPriv.j4, Bool.false_eq_true, if_false, show ¬ ((3 : Int) = 0) by decide, show ((3 : Int) == 2) = false by decide]
        refine Ev.step (fun k => rfl) ?_
        simp only [atlaslaw07_RightsPriv.j5, show (false != ((0 : Int) == 8)) = false by decide, Bool.false_eq_true, if_false, if_true, show ((0 : Int) != 0) = false by decide]
        exact six _ _ _ _ _ _ (by decide)
  cases hafe : afe with
  | true =>
    have := main (Go.bits .and .i64 ap 1 == 0)
    simp only [hafe, if_true] at this ⊢
    exact this
  | false =>
    have := main false
    simp only [hafe, Bool.false_eq_true, if_false] at this ⊢
    exact this
theorem priv_in (f : Int) (hf : 0 ≤ f ∧ f ≤ 3) (h : Ev (fun k => atlaslaw07_RightsPriv.l0 k d afe ((f + 1) % 4294967296) ap bits ng xn t 0 0 d ap bits ng xn) true) : Ev (fun k => atlaslaw07_RightsPriv.l1 k d afe f 1 ap bits ng xn t 0 0 d ap bits ng xn true false afe 0 false false 0 0 (shl .u32 f (wrap64 (2 * d))) 0 0 0) true := by
  have e4 : Ev (fun k => atlaslaw07_RightsPriv.l1 k d afe f 4 ap bits ng xn t 0 0 d ap bits ng xn true false afe 0 false false 0 0 (shl .u32 f (wrap64 (2 * d))) 0 0 0) true := by
    refine Ev.step (fun k => rfl) ?_
    simp only [atlaslaw07_RightsPriv.l1, show ¬ ((4 : Int) ≤ 3) by decide, if_false]
    exact h
  have e3 := priv_step t d ap bits ng xn afe lv h1 h4 hd hz ha hb hl f 3 hf (by decide) (by rw [show wrap64 (3 + 1) = 4 by decide +kernel]; exact e4)
  have e2 := priv_step t d ap bits ng xn afe lv h1 h4 hd hz ha hb hl f 2 hf (by decide) (by rw [show wrap64 (2 + 1) = 3 by decide +kernel]; exact e3)
  exact priv_step t d ap bits ng xn afe lv h1 h4 hd hz ha hb hl f 1 hf (by decide) (by rw [show wrap64 (1 + 1) = 2 by decide +kernel]; exact e2)
theorem priv_out : ∀ (n : Nat) (f : Int), 0 ≤ f → f ≤ 4 → (4 - f).toNat = n → Ev (fun k => atlaslaw07_RightsPriv.l0 k d afe f ap bits ng xn t 0 0 d ap bits ng xn) true
  | 0, f, h0, h5, hn => by
    refine Ev.step (fun k => rfl) ?_
    simp only [atlaslaw07_RightsPriv.l0, if_neg (show ¬ (f < 4) by omega)]
    exact Ev.now _
  | n + 1, f, h0, h5, hn => by
    have ih := priv_out n (f + 1) (by omega) (by omega) (by omega)
    obtain ⟨_, _, e3⟩ := field_at f d (by omega) hd
    refine Ev.step (fun k => rfl) ?_
    simp only [atlaslaw07_RightsPriv.l0, if_pos (show f < 4 by omega), if_pos e3]
    exact priv_in t d ap bits ng xn afe lv h1 h4 hd hz ha hb hl f (by omega) (by rw [show (f + 1) % 4294967296 = f + 1 by omega]; exact ih)
end
theorem alive_ok : Ev (fun k => atlaslaw07_alive.f k) true := Ev.of (fun k => atlaslaw07_alive.mono k) (k := 4) (by decide +kernel)
theorem XRightsPriv (a0_0 : Int) (a0_1 : Int) (a0_2 : Bool) (a0_3 : Bool) (a1 : Int) (a2 : Int) (a3 : Bool) (_w0_0 : (Lit.int .i64 a0_0).wf = true) (_w0_1 : (Lit.int .u32 a0_1).wf = true) (_w1 : (Lit.int .i64 a1).wf = true) (_w2 : (Lit.int .i64 a2).wf = true) : ∃ k, atlaslaw07_RightsPriv.f k a0_0 a0_1 a0_2 a0_3 a1 a2 a3 = some true := by
  refine Ev.rounds (r := true) ?_
  have r1 : 0 ≤ Go.bits .and .i64 a1 3 ∧ Go.bits .and .i64 a1 3 ≤ 3 := and_i64 a1 3 (by decide)
  have r2 : 0 ≤ Go.bits .and .i64 a2 15 ∧ Go.bits .and .i64 a2 15 ≤ 15 := and_i64 a2 15 (by decide)
  have r3 : 0 ≤ Go.bits .and .i64 a0_0 7 ∧ Go.bits .and .i64 a0_0 7 ≤ 7 := and_i64 a0_0 7 (by decide)
  have r4 : 0 ≤ Go.bits .and .u32 a0_1 63 ∧ Go.bits .and .u32 a0_1 63 ≤ 63 := and_u32 a0_1 63 (by decide)
  unfold atlaslaw07_RightsPriv.f
  refine Ev.bind alive_ok ?_
  simp only [if_true]
  have ew : wrap64 (1 + Go.bits .and .i64 a1 3) = 1 + Go.bits .and .i64 a1 3 := IntWalk.wrap64_in _ (by omega)
  rw [ew]
  by_cases c : 1 + Go.bits .and .i64 a1 3 = 4
  · simp only [if_pos c]
    rw [c]
    obtain ⟨lv, hl⟩ := level_one 4 (by decide) (by decide)
    refine Ev.step (fun k => rfl) ?_
    exact priv_out 4 0 _ _ a0_2 a0_3 a3 lv (by decide) (by decide) (by decide) (fun _ => rfl) r3 (by omega) hl 4 0 (by decide) (by decide) (by decide)
  · simp only [if_neg c]
    obtain ⟨lv, hl⟩ := level_one (1 + Go.bits .and .i64 a1 3) (by omega) (by omega)
    refine Ev.step (fun k => rfl) ?_
    exact priv_out _ _ _ _ a0_2 a0_3 a3 lv (by omega) (by omega) r2 (fun h => absurd h c) r3 (by omega) hl 4 0 (by decide) (by decide) (by decide)
end Go.Proofs.YtglafffghbhnbaaDoor.Pure
