/-
  Loops, and pieces of a body, by what is known of them at their heads and at their ends.
  Conditions: none.
-/
import Derived.Test.YtnidnmhcjngmeaaGreatVaPure
set_option linter.unusedVariables false
set_option linter.unusedSimpArgs false
set_option autoImplicit false
namespace Go.Va

/-- Whoever is in the one state is in the other. -/
def Weak (s t : St) : Prop := ∀ (w0 : World) (O : Env) (C : Cx) (a : Act), Rep w0 O C s a → ∃ C' : Cx, Rep w0 O C' t a ∧ C'.w = C.w

theorem CodeOk.weak {P : Program} {c : Code} {s t u : St} {ex : AEx} (h : Weak s t) (hc : CodeOk P c t ex u) : CodeOk P c s ex u := by
  intro w0 O C a hr Q hQ
  obtain ⟨C', hr', hw⟩ := h w0 O C a hr
  rw [← hw]
  exact hc w0 O C' a hr' Q hQ

def lookT (l : List (Nat × AV)) (i : Nat) : AV := match l with
  | [] => .junk
  | p :: l => bif p.1 == i then p.2 else lookT l i

/-- n temporaries, from number i on, of which only these are known. -/
def sparseT (l : List (Nat × AV)) : Nat → Nat → List AV
  | 0, _ => []
  | n + 1, i => lookT l i :: sparseT l n (i + 1)

theorem sparseT_length (l : List (Nat × AV)) (n i : Nat) : (sparseT l n i).length = n := by
  induction n generalizing i with
  | zero => rfl
  | succ n ih => simp only [sparseT, List.length_cons, ih]

theorem gt_sparse (l : List (Nat × AV)) (n i j : Nat) : gt (sparseT l n i) j = if j < n then lookT l (i + j) else .junk := by
  induction n generalizing i j with
  | zero => rfl
  | succ n ih =>
    cases j with
    | zero => simp [sparseT, gt]
    | succ j =>
      simp only [sparseT, gt]
      rw [ih]
      by_cases h : j < n
      · rw [if_pos h, if_pos (by omega), show i + 1 + j = i + (j + 1) by omega]
      · rw [if_neg h, if_neg (by omega)]

/-- What is told of the temporaries is so, or stands for what is so. -/
def LiveOk (s : St) : List (Nat × AV) → Prop
  | [] => True
  | p :: l => Refs (gt s.tm p.1) p.2 ∧ LiveOk s l

theorem LiveOk.look {s : St} {l : List (Nat × AV)} (h : LiveOk s l) (i : Nat) : lookT l i = .junk ∨ Refs (gt s.tm i) (lookT l i) := by
  induction l with
  | nil => exact .inl rfl
  | cons p l ih =>
    simp only [lookT]
    cases hp : (p.1 == i) with
    | true => rw [cond_true]; right; have := beq_iff_eq.1 hp; rw [← this]; exact h.1
    | false => rw [cond_false]; exact ih h.2

theorem RefsL.length {l k : List AV} (h : RefsL l k) : l.length = k.length := by
  induction l generalizing k with
  | nil => cases k with
    | nil => rfl
    | cons u k => exact h.elim
  | cons v l ih => cases k with
    | nil => exact h.elim
    | cons u k => simp only [List.length_cons, ih h.2]

theorem RefsL.gt {l k : List AV} (h : RefsL l k) (j : Nat) : Refs (gt l j) (gt k j) := by
  induction l generalizing k j with
  | nil => cases k with
    | nil => exact Refs.refl _
    | cons u k => exact h.elim
  | cons v l ih => cases k with
    | nil => exact h.elim
    | cons u k => cases j with
      | zero => exact h.1
      | succ j => exact ih h.2 j

/-! ### Blocks by other numbers -/
def ol : List (Option Nat) → Nat → Option Nat
  | [], _ => none
  | x :: _, 0 => x
  | _ :: l, n + 1 => ol l n

/-- The memory with other numbers: i is the block that was `ol l i`; without one, a row that is nil. -/
def Cx.ren (C : Cx) (l : List (Option Nat)) : Cx where
  own := C.own
  al i := i < l.length ∧ ∀ j, ol l i = some j → C.al j
  mu i := match ol l i with
    | some j => C.mu j
    | none => 0
  ka i := match ol l i with
    | some j => C.ka j
    | none => 0
  ln i := match ol l i with
    | some j => C.ln j
    | none => 0
  nl i := match ol l i with
    | some j => C.nl j
    | none => true
  pin := C.pin
  w := C.w

theorem Cx.ren_le0 (C : Cx) (l : List (Option Nat)) : C.Le0 (C.ren l) := ⟨Nat.le_refl _, fun _ _ _ => rfl, fun _ _ h => h⟩

theorem Cx.ren_some {C : Cx} {l : List (Option Nat)} {i j : Nat} (h : ol l i = some j) : (C.ren l).mu i = C.mu j ∧ (C.ren l).ka i = C.ka j ∧ (C.ren l).ln i = C.ln j ∧ (C.ren l).nl i = C.nl j := by
  simp only [Cx.ren, h]; exact ⟨trivial, trivial, trivial, trivial⟩

theorem ol_lt {l : List (Option Nat)} {i j : Nat} (h : ol l i = some j) : i < l.length := by
  induction l generalizing i with
  | nil => cases h
  | cons x l ih => cases i with
    | zero => simp
    | succ i => have := ih (i := i) h; simp; omega

theorem Cx.ren_al {C : Cx} {l : List (Option Nat)} {i j : Nat} (h : ol l i = some j) (ha : C.al j) : (C.ren l).al i := ⟨ol_lt h, fun k hk => by rw [h] at hk; cases hk; exact ha⟩

/-- What stands for the one stands, with the other numbers, for the other. -/
def RefsR (hp : List Blk) (l : List (Option Nat)) (v u : AV) : Prop := ∀ (C : Cx) (c : Value), HRel C hp → VRel C true v c → VRel (C.ren l) true u c

theorem RefsR.plain {hp : List Blk} {l : List (Option Nat)} {v u : AV} (h : Refs v u) (ho : u.only noneb = true) : RefsR hp l v u :=
  fun C c _ hv => (VRel.mono_false (C.ren_le0 l) ((h _ _ _ hv).down ho) rfl).up rfl

theorem RefsR.ptr {hp : List Blk} {l : List (Option Nat)} {i j off : Nat} {v : AV} (h : ol l i = some j) (hv : v = .ptr j off) : RefsR hp l v (.ptr i off) := by
  intro C c _ hv'
  rw [hv] at hv'
  cases hv' with
  | ptr hal => rw [← (Cx.ren_some (C := C) h).1]; exact .ptr (Cx.ren_al h hal)

theorem RefsR.sl {hp : List Blk} {l : List (Option Nat)} {i j off len sz : Nat} {v : AV} (h : ol l i = some j) (hv : v = .sl j off len sz) : RefsR hp l v (.sl i off len sz) := by
  intro C c _ hv'
  rw [hv] at hv'
  obtain ⟨e1, e2, e3, e4⟩ := Cx.ren_some (C := C) h
  cases hv' with
  | sl hal hk hl hmax hln => rw [← e1]; exact .sl (Cx.ren_al h hal) (hk.trans e2.symm) hl hmax (by rw [e3]; exact hln)

theorem RefsR.mpp {hp : List Blk} {l : List (Option Nat)} {i j : Nat} {v : AV} (h : ol l i = some j) (hv : v = .mpp j) : RefsR hp l v (.mpp i) := by
  intro C c _ hv'
  rw [hv] at hv'
  cases hv' with
  | mpp hal => rw [← (Cx.ren_some (C := C) h).1]; exact .mpp (Cx.ren_al h hal)

theorem RefsR.pp {hp : List Blk} {l : List (Option Nat)} {i j off : Nat} {v : AV} (h : ol l i = some j) (hv : v = .pp j off) : RefsR hp l v (.pp i off) := by
  intro C c _ hv'
  rw [hv] at hv'
  obtain ⟨g1, g2, g3, g4⟩ := Cx.ren_some (C := C) h
  cases hv' with
  | pp hal h1 => rw [← g1]; exact .pp (Cx.ren_al h hal) (by rw [g1, g2]; exact h1)

/-- The number of the row of the run's own to which a slice leads. -/
def soN (sz : Nat) (hp : List Blk) (v : AV) : Option (Option Nat) := match v with
  | .so j z => bif z == sz then some (some j) else none
  | .val (.slice none 0 0) => some none
  | .sl j off len z => match gb hp j with
    | .row cs _ _ => bif ((off == 0 && z == sz) && decide (0 < sz)) && len * sz == cs.length then some (some j) else none
    | _ => none
  | _ => none

theorem RefsR.so {hp : List Blk} {l : List (Option Nat)} {i sz : Nat} {v : AV} {b : Option Nat} (h : ol l i = b) (hi : i < l.length) (hv : soN sz hp v = some b) : RefsR hp l v (.so i sz) := by
  intro C c hr hv'
  unfold soN at hv
  split at hv
  · rename_i j z
    cases hz : (z == sz) with
    | false => rw [hz] at hv; cases hv
    | true =>
      rw [hz, cond_true, Option.some.injEq] at hv
      have hz := beq_iff_eq.1 hz
      subst hz
      subst hv
      obtain ⟨e1, e2, e3, e4⟩ := Cx.ren_some (C := C) h
      cases hv' with
      | so hal hnl hz hn hk hl hmax => rw [← e1]; exact .so (Cx.ren_al h hal) (e4.trans hnl) hz (hn.trans e3.symm) (hk.trans e2.symm) hl hmax
      | so0 hal hnl => exact .so0 (Cx.ren_al h hal) (e4.trans hnl)
  · simp only [Option.some.injEq] at hv
    subst hv
    rw [hv'.inv_val]
    exact .so0 ⟨hi, fun j hj => by rw [h] at hj; cases hj⟩ (by simp only [Cx.ren, h])
  · rename_i j off len z
    split at hv
    · rename_i cs t cl hb
      cases hz : (((off == 0 && z == sz) && decide (0 < sz)) && len * sz == cs.length) with
      | false => rw [hz] at hv; cases hv
      | true =>
        rw [hz, cond_true, Option.some.injEq] at hv
        simp only [Bool.and_eq_true, beq_iff_eq, decide_eq_true_eq] at hz
        obtain ⟨⟨⟨rfl, rfl⟩, hpos⟩, hfull⟩ := hz
        subst hv
        obtain ⟨e1, e2, e3, e4⟩ := Cx.ren_some (C := C) h
        obtain ⟨_, _, hln, _⟩ := hr.row j cs t cl hb
        cases hv' with
        | sl hal hk hl hmax _ => rw [← e1]; exact .so (Cx.ren_al h hal) (e4.trans (hr.nnl j _ _ _ hb)) hpos (by rw [e3, hln, hfull]) (by rw [e2, ← hk, Nat.zero_add]) hl hmax
    · cases hv
  · cases hv

def RefsRL (hp : List Blk) (l : List (Option Nat)) : List AV → List AV → Prop
  | [], [] => True
  | v :: k, u :: m => RefsR hp l v u ∧ RefsRL hp l k m
  | _, _ => False

theorem RefsRL.nil {hp : List Blk} {l : List (Option Nat)} : RefsRL hp l [] [] := trivial
theorem RefsRL.cons {hp : List Blk} {l : List (Option Nat)} {v u : AV} {k m : List AV} (h : RefsR hp l v u) (t : RefsRL hp l k m) : RefsRL hp l (v :: k) (u :: m) := ⟨h, t⟩

theorem RefsRL.length {hp : List Blk} {l : List (Option Nat)} {k m : List AV} (h : RefsRL hp l k m) : k.length = m.length := by
  induction k generalizing m with
  | nil => cases m with
    | nil => rfl
    | cons u m => exact h.elim
  | cons v k ih => cases m with
    | nil => exact h.elim
    | cons u m => simp only [List.length_cons, ih h.2]

theorem RefsRL.gt {hp : List Blk} {l : List (Option Nat)} {k m : List AV} (h : RefsRL hp l k m) (j : Nat) : RefsR hp l (gt k j) (gt m j) := by
  induction k generalizing m j with
  | nil => cases m with
    | nil => exact fun _ _ _ _ => .junk _
    | cons u m => exact h.elim
  | cons v k ih => cases m with
    | nil => exact h.elim
    | cons u m => cases j with
      | zero => exact h.1
      | succ j => exact ih h.2 j

/-- What is told of the temporaries. -/
def LiveR (s : St) (l : List (Option Nat)) : List (Nat × AV) → Prop
  | [] => True
  | p :: k => RefsR s.hp l (Va.gt s.tm p.1) p.2 ∧ LiveR s l k
theorem LiveR.nil {s : St} {l : List (Option Nat)} : LiveR s l [] := trivial
theorem LiveR.cons {s : St} {l : List (Option Nat)} {i : Nat} {v : AV} {k : List (Nat × AV)} (h : RefsR s.hp l (Va.gt s.tm i) v) (t : LiveR s l k) : LiveR s l ((i, v) :: k) := ⟨h, t⟩

theorem LiveR.look {s : St} {l : List (Option Nat)} {k : List (Nat × AV)} (h : LiveR s l k) (i : Nat) : lookT k i = .junk ∨ RefsR s.hp l (Va.gt s.tm i) (lookT k i) := by
  induction k with
  | nil => exact .inl rfl
  | cons p k ih =>
    simp only [lookT]
    cases hp : (p.1 == i) with
    | true => rw [cond_true]; right; have := beq_iff_eq.1 hp; rw [← this]; exact h.1
    | false => rw [cond_false]; exact ih h.2

/-- What is told of a block. -/
def BlkR (hp : List Blk) (l : List (Option Nat)) (b : Option Nat) (y : Blk) : Prop := match y with
  | .row cs' t cl => ∃ j cs cl0, b = some j ∧ gb hp j = .row cs t cl0 ∧ RefsRL hp l cs cs' ∧ (cl = true → AV.onlys noneb cs' = true)
  | .rt c k t => (b = none ∧ k = []) ∨ ∃ j, b = some j ∧ (gb hp j = .rt c k t ∨ ∃ cs, gb hp j = .row cs t true ∧ cs.length = k.length * c.sz ∧ c.decN k.length cs = some k)
  | .ob o => ∃ j, b = some j ∧ gb hp j = .ob o
  | .gone => True
  | .free => False

def BlksR (hp : List Blk) (l : List (Option Nat)) : List (Option Nat) → List Blk → Prop
  | [], [] => True
  | b :: k, y :: m => BlkR hp l b y ∧ BlksR hp l k m
  | _, _ => False
theorem BlksR.nil {hp : List Blk} {l : List (Option Nat)} : BlksR hp l [] [] := trivial
theorem BlksR.cons {hp : List Blk} {l : List (Option Nat)} {b : Option Nat} {y : Blk} {k : List (Option Nat)} {m : List Blk} (h : BlkR hp l b y) (t : BlksR hp l k m) : BlksR hp l (b :: k) (y :: m) := ⟨h, t⟩

theorem BlksR.look {hp : List Blk} {l k : List (Option Nat)} {m : List Blk} (h : BlksR hp l k m) (i : Nat) : gb m i = .gone ∨ (i < k.length ∧ BlkR hp l (ol k i) (gb m i)) := by
  induction k generalizing m i with
  | nil => cases m with
    | nil => exact .inl rfl
    | cons y m => exact h.elim
  | cons b k ih => cases m with
    | nil => exact h.elim
    | cons y m => cases i with
      | zero => exact .inr ⟨by simp, h.1⟩
      | succ i => rcases ih h.2 i with h | ⟨h1, h2⟩
                  · exact .inl h
                  · exact .inr ⟨by simpa using h1, h2⟩

theorem BlksR.length {hp : List Blk} {l k : List (Option Nat)} {m : List Blk} (h : BlksR hp l k m) : m.length = k.length := by
  induction k generalizing m with
  | nil => cases m with
    | nil => rfl
    | cons y m => exact h.elim
  | cons b k ih => cases m with
    | nil => exact h.elim
    | cons y m => simp only [List.length_cons, ih h.2]

/-- No block by two numbers. -/
def dist : List (Option Nat) → Bool
  | [] => true
  | x :: l => (match x with
    | some j => l.all fun y => match y with
      | some k => !(k == j)
      | none => true
    | none => true) && dist l

theorem dist_spec {l : List (Option Nat)} (h : dist l = true) {i i' j : Nat} (h1 : ol l i = some j) (h2 : ol l i' = some j) : i = i' := by
  have mem : ∀ {l : List (Option Nat)} {i j : Nat}, ol l i = some j → some j ∈ l := by
    intro l
    induction l with
    | nil => intro i j h; cases h
    | cons x l ih => intro i j h; cases i with
      | zero => simp only [ol] at h; rw [h]; exact List.mem_cons_self
      | succ i => exact List.mem_cons_of_mem _ (ih h)
  induction l generalizing i i' with
  | nil => cases h1
  | cons x l ih =>
    simp only [dist, Bool.and_eq_true] at h
    cases i with
    | zero => cases i' with
      | zero => rfl
      | succ i' =>
        simp only [ol] at h1 h2
        rw [h1] at h
        have := List.all_eq_true.1 h.1 _ (mem h2)
        simp at this
    | succ i => cases i' with
      | zero =>
        simp only [ol] at h1 h2
        rw [h2] at h
        have := List.all_eq_true.1 h.1 _ (mem h1)
        simp at this
      | succ i' => rw [ih h.2 h1 h2]

theorem weak_ren {s : St} {live : List (Nat × AV)} {blks : List Blk} {n : Nat} {l : List (Option Nat)} (h1 : s.tm.length = n) (hd : dist l = true) (ht : LiveR s l live) (hb : BlksR s.hp l l blks) : Weak s ⟨sparseT live n 0, blks⟩ := by
  intro w0 O C a hr
  have le0 := C.ren_le0 l
  -- what stands behind a block that is told
  have src : ∀ i, (gb blks i).live = true → (C.ren l).nl i = false → ∃ j, ol l i = some j ∧ (gb s.hp j).live = true ∧ C.nl j = false := by
    intro i hi hn
    rcases hb.look i with h | ⟨_, h⟩
    · rw [h] at hi; cases hi
    · cases hg : gb blks i with
      | free => rw [hg] at hi; cases hi
      | gone => rw [hg] at hi; cases hi
      | row cs t cl =>
        rw [hg] at h
        obtain ⟨j, cs0, cl0, h2, h3, _⟩ := h
        exact ⟨j, h2, by rw [h3]; rfl, hr.hp.nnl j _ _ _ h3⟩
      | rt c k t =>
        rw [hg] at h
        rcases h with ⟨h2, _⟩ | ⟨j, h2, h3⟩
        · simp only [Cx.ren, h2] at hn; cases hn
        · refine ⟨j, h2, ?_, by rw [← (Cx.ren_some (C := C) h2).2.2.2]; exact hn⟩
          rcases h3 with h3 | ⟨cs, h3, _⟩ <;> rw [h3] <;> rfl
      | ob o =>
        rw [hg] at h
        obtain ⟨j, h2, h3⟩ := h
        exact ⟨j, h2, by rw [h3]; rfl, (hr.hp.ob j o h3).2.1⟩
  refine ⟨C.ren l, ⟨hr.defers, by simp only [sparseT_length]; rw [hr.size, h1], fun t => ?_, ⟨fun b h => ?_, fun b h hal => ?_, fun b cs t cl hg => ?_, fun b cs t cl hg => ?_, fun b c k t hg => ?_, fun b o hg => ?_, fun b b' h h' hn hn' he => ?_, hr.hp.ownlt⟩,
    ⟨hr.kept.os, hr.kept.tape, hr.kept.output, hr.kept.size, hr.kept.block, hr.kept.ban, hr.kept.banlt, hr.kept.banmay, hr.kept.pin, hr.kept.frz⟩, fun b h hn => ?_⟩, rfl⟩
  · rw [gt_sparse]
    split
    · rw [Nat.zero_add]
      rcases ht.look t with h | h
      · rw [h]; exact .junk _
      · exact h _ _ hr.hp (hr.tm t)
    · exact .junk _
  · rw [show (St.mk (sparseT live n 0) blks).hp = blks from rfl, hb.length]; exact h.1
  · rcases hb.look b with h2 | ⟨_, h2⟩
    · rw [show gb (St.mk (sparseT live n 0) blks).hp b = gb blks b from rfl, h2] at h; cases h
    · rw [show gb (St.mk (sparseT live n 0) blks).hp b = gb blks b from rfl] at h
      rw [h] at h2; exact h2
  · rcases hb.look b with h | ⟨_, h⟩
    · rw [show gb (St.mk (sparseT live n 0) blks).hp b = gb blks b from rfl, h] at hg; cases hg
    · rw [show gb (St.mk (sparseT live n 0) blks).hp b = gb blks b from rfl] at hg
      rw [hg] at h
      obtain ⟨j, cs0, cl0, h2, h3, _⟩ := h
      exact (Cx.ren_some (C := C) h2).2.2.2.trans (hr.hp.nnl j _ _ _ h3)
  · rcases hb.look b with h | ⟨_, h⟩
    · rw [show gb (St.mk (sparseT live n 0) blks).hp b = gb blks b from rfl, h] at hg; cases hg
    · rw [show gb (St.mk (sparseT live n 0) blks).hp b = gb blks b from rfl] at hg
      rw [hg] at h
      obtain ⟨j, cs0, cl0, h2, h3, hrf, hcl⟩ := h
      obtain ⟨e1, e2, e3, e4⟩ := Cx.ren_some (C := C) h2
      obtain ⟨h0, h4, hln, cur, h5, h6, h7, h8⟩ := hr.hp.row j cs0 t cl0 h3
      have hlen := hrf.length
      refine ⟨Cx.ren_al h2 h0, by rw [e1]; exact h4, by rw [e3, hln, hlen], cur, by rw [e1]; exact h5, by rw [e2]; exact h6, by rw [e2, ← hlen]; exact h7, fun i hi => ?_⟩
      have h9 := hrf.gt i C _ hr.hp ((h8 i (by omega)).up' (by cases cl0 <;> simp))
      cases cl with
      | true => exact h9.down (AV.onlys_gt (hcl rfl) i)
      | false => exact h9
  · rcases hb.look b with h | ⟨hlt, h⟩
    · rw [show gb (St.mk (sparseT live n 0) blks).hp b = gb blks b from rfl, h] at hg; cases hg
    · rw [show gb (St.mk (sparseT live n 0) blks).hp b = gb blks b from rfl] at hg
      rw [hg] at h
      rcases h with ⟨h2, h3⟩ | ⟨j, h2, h3⟩
      · exact ⟨⟨hlt, fun j hj => by rw [h2] at hj; cases hj⟩, by simp only [Cx.ren, h2, h3]; simp, .inl ⟨by simp only [Cx.ren, h2], h3⟩⟩
      · obtain ⟨e1, e2, e3, e4⟩ := Cx.ren_some (C := C) h2
        rcases h3 with h3 | ⟨cs, h3, h4, h5⟩
        · obtain ⟨h0, hln, h⟩ := hr.hp.rt j c k t h3
          refine ⟨Cx.ren_al h2 h0, e3.trans hln, ?_⟩
          rcases h with ⟨h4, h5⟩ | ⟨h4, h5, cur, h6, h7, h8, h9⟩
          · exact .inl ⟨e4.trans h4, h5⟩
          · exact .inr ⟨e4.trans h4, by rw [e1]; exact h5, cur, by rw [e1]; exact h6, by rw [e2]; exact h7, by rw [e2]; exact h8, fun i hi q hq => VRel.mono_false le0 (h9 i hi q hq) rfl⟩
        · obtain ⟨h0, ho, hln, cur, h6, h7, h8, h9⟩ := hr.hp.row j cs t true h3
          obtain ⟨cur', g1, g2, g3, g4⟩ := hr.hp.cells h3
          rw [h6] at g1
          simp only [Option.some.injEq, Obj.cells.injEq, true_and, and_true] at g1
          subst g1
          refine ⟨Cx.ren_al h2 h0, by rw [e3, hln, h4], .inr ⟨e4.trans (hr.hp.nnl j _ _ _ h3), by rw [e1]; exact ho, cur, by rw [e1]; exact h6, by rw [e2]; exact h7, by rw [e2, ← h4]; exact h8, fun i hi q hq => ?_⟩⟩
          have h10 := (CT.decN_ok h5).2 g4 i hi q hq
          have hrow := row_le (sz := c.sz) hi
          rw [vg_take _ _ _ (by omega)] at h10
          have := VRel.mono_false le0 h10 rfl
          simpa [vg, Array.getD_eq_getD_getElem?] using this
  · rcases hb.look b with h | ⟨_, h⟩
    · rw [show gb (St.mk (sparseT live n 0) blks).hp b = gb blks b from rfl, h] at hg; cases hg
    · rw [show gb (St.mk (sparseT live n 0) blks).hp b = gb blks b from rfl] at hg
      rw [hg] at h
      obtain ⟨j, h2, h3⟩ := h
      obtain ⟨e1, e2, e3, e4⟩ := Cx.ren_some (C := C) h2
      obtain ⟨ha, hn, ho, x, h4, h5⟩ := hr.hp.ob j o h3
      exact ⟨Cx.ren_al h2 ha, e4.trans hn, by rw [e1]; exact ho, x, by rw [e1]; exact h4, h5⟩
  · obtain ⟨j, h2, h3, h4⟩ := src b h hn
    obtain ⟨j', h2', h3', h4'⟩ := src b' h' hn'
    rw [(Cx.ren_some (C := C) h2).1, (Cx.ren_some (C := C) h2').1] at he
    have := hr.hp.inj j j' h3 h3' h4 h4' he
    subst this
    exact dist_spec hd h2 h2'
  · obtain ⟨j, h2, h3, h4⟩ := src b h hn
    rw [(Cx.ren_some (C := C) h2).1]
    exact hr.mine j h3 h4

/-- What is known at a head: how it is read off a state, and the state that it makes. -/
structure Head (α : Type) where
  k : ∀ γ : Type, St → (α → Option γ) → Option γ
  st : α → St
  ok : ∀ (γ : Type) (s : St) (F : α → Option γ) (r : γ), k γ s F = some r → ∃ x, F x = some r ∧ Weak s (st x)

/-- The same end; of panics: what stands for the one stands for the other. -/
def ExRefs (e f : AEx) : Prop := e = f ∨ ∃ v u, e = .panic v ∧ f = .panic u ∧ Refs v u

/-- What is known at the ends. -/
structure Tail (ρ : Type) where
  d : ∀ γ : Type, AEx → St → (ρ → Option γ) → Option γ
  out : ρ → AEx × St
  k : ∀ β : Type, ρ → (AEx → St → Option β) → Option β
  keq : ∀ (β : Type) (y : ρ) (K : AEx → St → Option β), k β y K = K (out y).1 (out y).2
  ok : ∀ (γ : Type) (ex : AEx) (s : St) (F : ρ → Option γ) (r : γ), d γ ex s F = some r → ∃ y, F y = some r ∧ ExRefs ex (out y).1 ∧ Weak s (out y).2

def sameEx : AEx → AEx → Bool
  | .normal, .normal => true
  | .exit i, .exit j => i == j
  | .ret, .ret => true
  | _, _ => false

theorem sameEx_eq {e f : AEx} (h : sameEx e f = true) : e = f := by
  cases e <;> cases f <;> first | rfl | (simp [sameEx] at h; rw [h]) | cases h

/-- One way out. -/
def Tail.one {α : Type} (e : AEx) (H : Head α) : Tail α where
  d γ ex s F := bif sameEx ex e then H.k γ s F else none
  out y := (e, H.st y)
  k β y K := K e (H.st y)
  keq β y K := rfl
  ok γ ex s F r h := by
    cases hs : sameEx ex e with
    | false => rw [hs] at h; cases h
    | true =>
      rw [hs, cond_true] at h
      obtain ⟨x, h1, h2⟩ := H.ok γ s F r h
      exact ⟨x, h1, .inl (sameEx_eq hs), h2⟩

/-- Two ways out: the first by this exit. -/
def Tail.or {α ρ : Type} (e : AEx) (H : Head α) (T : Tail ρ) : Tail (α ⊕ ρ) where
  d γ ex s F := bif sameEx ex e then H.k γ s (fun a => F (.inl a)) else T.d γ ex s (fun b => F (.inr b))
  out y := match y with
    | .inl a => (e, H.st a)
    | .inr b => T.out b
  k β y K := match y with
    | .inl a => K e (H.st a)
    | .inr b => T.k β b K
  keq β y K := by cases y with
    | inl a => rfl
    | inr b => exact T.keq β b K
  ok γ ex s F r h := by
    cases hs : sameEx ex e with
    | false =>
      rw [hs, cond_false] at h
      obtain ⟨b, h1, h2⟩ := T.ok γ ex s _ r h
      exact ⟨.inr b, h1, h2⟩
    | true =>
      rw [hs, cond_true] at h
      obtain ⟨a, h1, h2⟩ := H.ok γ s _ r h
      exact ⟨.inl a, h1, .inl (sameEx_eq hs), h2⟩

/-- The first way out is a panic by what can be read off it. -/
def Tail.pan {π α ρ : Type} (dec : AV → Option π) (enc : π → AV) (hd : ∀ v x, dec v = some x → Refs v (enc x)) (H : Head α) (T : Tail ρ) : Tail ((π × α) ⊕ ρ) where
  d γ ex s F := match ex with
    | .panic v => (dec v).bind fun x => H.k γ s (fun a => F (.inl (x, a)))
    | .normal => T.d γ .normal s (fun b => F (.inr b))
    | .exit i => T.d γ (.exit i) s (fun b => F (.inr b))
    | .ret => T.d γ .ret s (fun b => F (.inr b))
  out y := match y with
    | .inl p => (.panic (enc p.1), H.st p.2)
    | .inr b => T.out b
  k β y K := match y with
    | .inl p => K (.panic (enc p.1)) (H.st p.2)
    | .inr b => T.k β b K
  keq β y K := by cases y with
    | inl a => rfl
    | inr b => exact T.keq β b K
  ok γ ex s F r h := by
    cases ex with
    | panic v =>
      obtain ⟨x, hx, h⟩ := Option.bind_eq_some_iff.1 h
      obtain ⟨a, h1, h2⟩ := H.ok γ s _ r h
      exact ⟨.inl (x, a), h1, .inr ⟨v, enc x, rfl, rfl, hd v x hx⟩, h2⟩
    | normal => obtain ⟨b, h1, h2⟩ := T.ok γ _ s _ r h; exact ⟨.inr b, h1, h2⟩
    | exit i => obtain ⟨b, h1, h2⟩ := T.ok γ _ s _ r h; exact ⟨.inr b, h1, h2⟩
    | ret => obtain ⟨b, h1, h2⟩ := T.ok γ _ s _ r h; exact ⟨.inr b, h1, h2⟩

theorem ExRel.alike {C C' : Cx} {ex ex' : AEx} {e : Exit} (h : ExRel C ex e) (he : ExRefs ex ex') (hx : ∀ v, ex' = .panic v → nomem v = true) : ExRel C' ex' e := by
  rcases he with rfl | ⟨v, u, rfl, rfl, hr⟩
  · cases ex with
    | panic v =>
      cases e <;> first | exact h.elim | skip
      obtain ⟨c, h1, h2⟩ := h
      exact ⟨c, h1, h2.nomem (hx v rfl)⟩
    | normal => cases e <;> exact h
    | exit i => cases e <;> exact h
    | ret => cases e <;> exact h
  · cases e <;> first | exact h.elim | skip
    obtain ⟨c, h1, h2⟩ := h
    exact ⟨c, h1, (hr _ _ _ h2).nomem (hx u rfl)⟩

theorem codeOk_weak {P : Program} {c : Code} {s u v : St} {ex ex' : AEx} (hx : ∀ v, ex' = .panic v → nomem v = true) (he : ExRefs ex ex') (hw : Weak u v) (hc : CodeOk P c s ex u) : CodeOk P c s ex' v := by
  intro w0 O C a hr Q hQ
  refine hc w0 O C a hr Q (fun C' a' e he' hr' => ?_)
  obtain ⟨C2, hr2, hw2⟩ := hw w0 O C' a' hr'
  rw [← hw2]
  exact hQ C2 a' e (he'.alike he hx) hr2

/-- What stands behind a round: another one, or an end. -/
def contD {α ρ γ : Type} (H : Head α) (T : Tail ρ) (F : α → Option γ) (X : ρ → Option γ) (ex : AEx) (t : St) : Option γ := match ex with
  | .normal => H.k γ t F
  | .exit i => T.d γ (.exit i) t X
  | .ret => T.d γ .ret t X
  | .panic v => T.d γ (.panic v) t X

def loopD (P : Program) (G : Gam) (L : Lam) (c : Code) (p : List Bool) {α ρ : Type} (H : Head α) (T : Tail ρ) : Nat → α → Option ρ
  | 0, _ => none
  | n + 1, x => E P G L c (false :: p) (H.st x) (contD H T (loopD P G L c p H T n) some)

theorem loopD_ok {P : Program} {G : Gam} {L : Lam} {body : Code} (hG : GamOk P G) (hL : LamOk P body L) (hm : P.follows .mixedOrders = true) {c : Code} {p : List Bool} (hp : codeAt body p = some (.loop c)) {α ρ : Type} {H : Head α} {T : Tail ρ}
    (hT : ∀ y v, (T.out y).1 = .panic v → nomem v = true) (hTn : ∀ y, (T.out y).1 ≠ .normal) (n : Nat) : ∀ {x : α} {y : ρ}, loopD P G L c p H T n x = some y → CodeOk P (.loop c) (H.st x) (T.out y).1 (T.out y).2 := by
  have hc : codeAt body (false :: p) = some c := by simp [codeAt, hp]
  suffices hs : ∀ {x : α} {y : ρ}, loopD P G L c p H T n x = some y →
      ∀ (w0 : World) (O : Env) (C : Cx) (a : Act), Rep w0 O C (H.st x) a → ∀ Q : Exit → Act → World → Prop, (∀ C' a' e, ExRel C' (T.out y).1 e → Rep w0 O C' (T.out y).2 a' → Q e a' C'.w) → Code.rounds P c Q n a C.w by
    intro x y h w0 O C a hr Q hQ
    exact wp_loop_rounds n (hs h w0 O C a hr Q hQ)
  induction n with
  | zero => intro x y h; cases h
  | succ n ih =>
    intro x y h
    simp only [loopD] at h
    obtain ⟨ex, s1, h1, h2⟩ := E_ok hG hL hm c hc h
    have last : ∀ ex', T.d ρ ex' s1 some = some y → CodeOk P c (H.st x) ex' s1 → ∀ (w0 : World) (O : Env) (C : Cx) (a : Act), Rep w0 O C (H.st x) a → ∀ Q : Exit → Act → World → Prop, (∀ C' a' e, ExRel C' (T.out y).1 e → Rep w0 O C' (T.out y).2 a' → Q e a' C'.w) → Code.rounds P c Q (n + 1) a C.w := by
      intro ex' hd hco w0 O C a hr Q hQ
      rw [rounds_succ]
      obtain ⟨y', e1, e2, e3⟩ := T.ok _ _ _ _ _ hd
      simp only [Option.some.injEq] at e1; subst e1
      refine (codeOk_weak (hT y') e2 e3 hco) w0 O C a hr _ (fun C' a' e he hr' => ?_)
      cases hx : (T.out y').1 with
      | normal => exact absurd hx (hTn y')
      | exit i => rw [hx] at he; cases e <;> first | exact he.elim | exact hQ C' a' _ (by rw [hx]; exact he) hr'
      | ret => rw [hx] at he; cases e <;> first | exact he.elim | exact hQ C' a' _ (by rw [hx]; exact he) hr'
      | panic v => rw [hx] at he; cases e <;> first | exact he.elim | exact hQ C' a' _ (by rw [hx]; exact he) hr'
    cases ex with
    | normal =>
      simp only [contD] at h1
      obtain ⟨x', h3, hx'⟩ := H.ok _ _ _ _ h1
      intro w0 O C a hr Q hQ
      rw [rounds_succ]
      refine h2 w0 O C a hr _ (fun C' a' e he hr' => ?_)
      cases e <;> first | exact he.elim | skip
      obtain ⟨C2, hr2, hw2⟩ := hx' w0 O C' a' hr'
      show Code.rounds P c Q n a' C'.w
      rw [← hw2]
      exact ih h3 w0 O C2 a' hr2 Q hQ
    | exit i => exact last _ h1 h2
    | ret => exact last _ h1 h2
    | panic v => exact last _ h1 h2

/-- A typed loop that goes round as the body does is the loop. -/
theorem loopD_eq {P : Program} {G : Gam} {L : Lam} {c : Code} {p : List Bool} {α ρ : Type} {H : Head α} {T : Tail ρ} {l : Nat → α → Option ρ} (h0 : ∀ x, l 0 x = none)
    (h1 : ∀ n x, E P G L c (false :: p) (H.st x) (contD H T (l n) some) = l (n + 1) x) (n : Nat) : loopD P G L c p H T n = l n := by
  induction n with
  | zero => funext x; rw [h0]; rfl
  | succ n ih => funext x; simp only [loopD]; rw [ih, h1]

/-- A piece that is not gone round: what stands behind another piece. -/
def pieceD (P : Program) (G : Gam) (L : Lam) (c : Code) (p : List Bool) {α ρ : Type} (H : Head α) (T : Tail ρ) (x : α) : Option ρ := E P G L c p (H.st x) (fun ex t => T.d ρ ex t some)

theorem pieceD_ok {P : Program} {G : Gam} {L : Lam} {body : Code} (hG : GamOk P G) (hL : LamOk P body L) (hm : P.follows .mixedOrders = true) {c : Code} {p : List Bool} (hp : codeAt body p = some c) {α ρ : Type} {H : Head α} {T : Tail ρ}
    (hT : ∀ y v, (T.out y).1 = .panic v → nomem v = true) {x : α} {y : ρ} (h : pieceD P G L c p H T x = some y) : CodeOk P c (H.st x) (T.out y).1 (T.out y).2 := by
  obtain ⟨ex, s1, h1, h2⟩ := E_ok hG hL hm c hp h
  obtain ⟨y', e1, e2, e3⟩ := T.ok _ _ _ _ _ h1
  simp only [Option.some.injEq] at e1; subst e1
  exact codeOk_weak (hT y') e2 e3 h2

/-! ### What is known of pieces, by their places -/
structure Piece where
  at_ : List Bool
  α : Type
  ρ : Type
  H : Head α
  T : Tail ρ
  l : α → Option ρ

def pieceK (x : Piece) {β : Type} (s : St) (K : AEx → St → Option β) : Option β := x.H.k β s fun a => (x.l a).bind fun y => x.T.k β y K

def lamOf : List Piece → Lam
  | [] => noLam
  | x :: l => ⟨fun p => bif p == x.at_ then true else (lamOf l).has p, fun β p s K => bif p == x.at_ then pieceK x s K else (lamOf l).k β p s K⟩

def PieceOk (P : Program) (body : Code) (x : Piece) : Prop := ∀ c, codeAt body x.at_ = some c → ∀ a y, x.l a = some y → CodeOk P c (x.H.st a) (x.T.out y).1 (x.T.out y).2

theorem lamOf_nil (P : Program) (body : Code) : LamOk P body (lamOf []) := noLam_ok P body

theorem lamOf_cons {P : Program} {body : Code} {x : Piece} {l : List Piece} (hx : PieceOk P body x) (hl : LamOk P body (lamOf l)) : LamOk P body (lamOf (x :: l)) := by
  intro p c hp β s K r h
  simp only [lamOf] at h
  cases he : (p == x.at_) with
  | true =>
    rw [he, cond_true] at h
    have e := eq_of_beq he
    subst e
    obtain ⟨a, h, h1⟩ := x.H.ok _ _ _ _ h
    obtain ⟨y, h2, h3⟩ := Option.bind_eq_some_iff.1 h
    rw [x.T.keq] at h3
    exact ⟨_, _, h3, (hx c hp a y h2).weak h1⟩
  | false => rw [he, cond_false] at h; exact hl p c hp β s K r h

def loopBody (body : Code) (p : List Bool) : Code := match codeAt body p with
  | some (.loop c) => c
  | _ => .skip

def codeOf (body : Code) (p : List Bool) : Code := match codeAt body p with
  | some c => c
  | _ => .skip

theorem piece_loop {P : Program} {G : Gam} {L : Lam} {body : Code} (hG : GamOk P G) (hL : LamOk P body L) (hm : P.follows .mixedOrders = true) {p : List Bool} (hp : codeAt body p = some (.loop (loopBody body p))) {α ρ : Type} {H : Head α} {T : Tail ρ}
    (hT : ∀ y v, (T.out y).1 = .panic v → nomem v = true) (hTn : ∀ y, (T.out y).1 ≠ .normal) {l : Nat → α → Option ρ} (h0 : ∀ x, l 0 x = none)
    (h1 : ∀ n x, E P G L (loopBody body p) (false :: p) (H.st x) (contD H T (l n) some) = l (n + 1) x) (k : Nat) : PieceOk P body ⟨p, α, ρ, H, T, l k⟩ := by
  intro c hc a y h
  have e : c = .loop (loopBody body p) := by rw [hp] at hc; exact (Option.some.inj hc).symm
  subst e
  have h' : l k a = some y := h
  rw [← loopD_eq (H := H) (T := T) h0 h1 k] at h'
  exact loopD_ok hG hL hm hp hT hTn k h'

theorem piece_code {P : Program} {G : Gam} {L : Lam} {body : Code} (hG : GamOk P G) (hL : LamOk P body L) (hm : P.follows .mixedOrders = true) {p : List Bool} (hp : codeAt body p = some (codeOf body p)) {α ρ : Type} {H : Head α} {T : Tail ρ}
    (hT : ∀ y v, (T.out y).1 = .panic v → nomem v = true) {l : α → Option ρ} (h1 : ∀ x, E P G L (codeOf body p) p (H.st x) (fun ex t => T.d ρ ex t some) = l x) : PieceOk P body ⟨p, α, ρ, H, T, l⟩ := by
  intro c hc a y h
  have e : c = codeOf body p := by rw [hp] at hc; exact (Option.some.inj hc).symm
  subst e
  exact pieceD_ok hG hL hm hp hT ((h1 a).trans h)
/-! ### Reading off a state -/
/-- A list of known length, place by place. -/
def GtRefs (l : List AV) : Nat → List AV → Prop
  | _, [] => True
  | i, u :: k => Refs (gt l i) u ∧ GtRefs l (i + 1) k
theorem GtRefs.nil {l : List AV} {i : Nat} : GtRefs l i [] := trivial
theorem GtRefs.cons {l : List AV} {i : Nat} {u : AV} {k : List AV} (h : Refs (gt l i) u) (t : GtRefs l (i + 1) k) : GtRefs l i (u :: k) := ⟨h, t⟩

theorem refs_agg {l k : List AV} (h : RefsL l k) : Refs (.agg l) (.agg k) := by
  intro C m c hv
  cases hv with
  | agg vs hl hr => have := h.cells (vs := vs) ⟨hl, hr⟩; exact .agg vs this.1 this.2
/-! ### Reading off a state with other numbers -/
def ptrN (off : Nat) (v : AV) : Option Nat := match v with
  | .ptr c o => bif o == off then some c else none
  | _ => none
def itN (hp : List Blk) (j : Nat) : Option (ByteArray × Nat) := match gb hp j with
  | .ob (.it s p) => some (s, p)
  | _ => none
theorem itN_blk {hp : List Blk} {l : List (Option Nat)} {j : Nat} {q : ByteArray × Nat} (h : itN hp j = some q) : BlkR hp l (some j) (.ob (.it q.1 q.2)) := by
  unfold itN at h
  split at h
  · rename_i s p hg
    simp only [Option.some.injEq] at h; subst h
    exact ⟨j, rfl, hg⟩
  · cases h
def rowN (t : TypeId) (n : Nat) (hp : List Blk) (j : Nat) : Option (List AV) := match gb hp j with
  | .row cs u _ => bif u == t && cs.length == n then some cs else none
  | _ => none
def rtN (c : CT) (t : TypeId) (hp : List Blk) (b : Option Nat) : Option (List c.D) := match b with
  | none => some []
  | some j => match gb hp j with
    | .rt c' l u => match CT.same c' c with
      | some h => bif u == t then some (h.down ▸ l) else none
      | none => none
    | .row cs u cl => bif (u == t && cl) && cs.length == cs.length / c.sz * c.sz then c.decN (cs.length / c.sz) cs else none
    | _ => none
def distO (l : List (Option Nat)) : Option Unit := bif dist l then some () else none
def vtO (c : CT) (v : AV) : Option (List c.D) := (CT.vec c).decA [v]

theorem distO_ok {l : List (Option Nat)} {x : Unit} (h : distO l = some x) : dist l = true := by
  unfold distO at h
  cases hd : dist l with
  | false => rw [hd] at h; cases h
  | true => rfl
theorem ptrN_eq {off c : Nat} {v : AV} (h : ptrN off v = some c) : v = .ptr c off := by
  unfold ptrN at h
  split at h
  · rename_i c' o
    cases hc : (o == off) with
    | false => rw [hc] at h; cases h
    | true => rw [hc, cond_true, Option.some.injEq] at h; rw [h, beq_iff_eq.1 hc]
  · cases h
theorem vtO_refs {c : CT} {v : AV} {l : List c.D} (h : vtO c v = some l) : Refs v (.vt c l) := by
  intro C m cv hv
  exact (CT.decA_ok (c := .vec c) h (C := C) (m := m) (vs := [cv]) ⟨rfl, fun j => by cases j with
    | zero => exact hv
    | succ j => exact .junk _⟩).2 0

theorem rowN_blk {hp : List Blk} {l : List (Option Nat)} {t : TypeId} {n j : Nat} {cs k : List AV} {cl : Bool} (h : rowN t n hp j = some cs) (hk : RefsRL hp l cs k) (hcl : cl = true → AV.onlys noneb k = true) : BlkR hp l (some j) (.row k t cl) := by
  unfold rowN at h
  split at h
  · rename_i cs' u cl' hg
    cases hc : (u == t && cs'.length == n) with
    | false => rw [hc] at h; cases h
    | true =>
      rw [hc, cond_true, Option.some.injEq] at h
      simp only [Bool.and_eq_true, beq_iff_eq] at hc
      subst h
      obtain ⟨rfl, _⟩ := hc
      exact ⟨j, cs', cl', rfl, hg, hk, hcl⟩
  · cases h
theorem rowN_len {hp : List Blk} {t : TypeId} {n j : Nat} {cs : List AV} (h : rowN t n hp j = some cs) : cs.length = n := by
  unfold rowN at h
  split at h
  · rename_i cs' u cl' hg
    cases hc : (u == t && cs'.length == n) with
    | false => rw [hc] at h; cases h
    | true =>
      rw [hc, cond_true, Option.some.injEq] at h
      simp only [Bool.and_eq_true, beq_iff_eq] at hc
      rw [← h]; exact hc.2
  · cases h

theorem rtN_blk {hp : List Blk} {l : List (Option Nat)} {c : CT} {t : TypeId} {b : Option Nat} {k : List c.D} (h : rtN c t hp b = some k) : BlkR hp l b (.rt c k t) := by
  unfold rtN at h
  split at h
  · simp only [Option.some.injEq] at h
    exact .inl ⟨rfl, h.symm⟩
  · rename_i j
    split at h
    · rename_i c' l' u hg
      split at h
      · rename_i hs _
        obtain ⟨e⟩ := hs
        subst e
        cases hu : (u == t) with
        | false => rw [hu] at h; cases h
        | true =>
          rw [hu, cond_true, Option.some.injEq] at h
          have hk : l' = k := h
          subst hk
          have hu := beq_iff_eq.1 hu
          subst hu
          exact .inr ⟨j, rfl, .inl hg⟩
      · cases h
    · rename_i cs u cl hg
      cases hu : ((u == t && cl) && cs.length == cs.length / c.sz * c.sz) with
      | false => rw [hu] at h; cases h
      | true =>
        rw [hu, cond_true] at h
        simp only [Bool.and_eq_true, beq_iff_eq] at hu
        obtain ⟨⟨rfl, rfl⟩, h2⟩ := hu
        have h3 := (CT.decN_ok h).1
        exact .inr ⟨j, rfl, .inr ⟨cs, hg, by rw [h3]; exact h2, by rw [h3]; exact h⟩⟩
    · cases h

def GtRefsR (hp : List Blk) (b : List (Option Nat)) (l : List AV) : Nat → List AV → Prop
  | _, [] => True
  | i, u :: k => RefsR hp b (gt l i) u ∧ GtRefsR hp b l (i + 1) k
theorem GtRefsR.nil {hp : List Blk} {b : List (Option Nat)} {l : List AV} {i : Nat} : GtRefsR hp b l i [] := trivial
theorem GtRefsR.cons {hp : List Blk} {b : List (Option Nat)} {l : List AV} {i : Nat} {u : AV} {k : List AV} (h : RefsR hp b (gt l i) u) (t : GtRefsR hp b l (i + 1) k) : GtRefsR hp b l i (u :: k) := ⟨h, t⟩

theorem refsRL_of_gt {hp : List Blk} {b : List (Option Nat)} {l k : List AV} (hl : l.length = k.length) (h : GtRefsR hp b l 0 k) : RefsRL hp b l k := by
  suffices hs : ∀ (l k : List AV) (m : List AV) (i : Nat), l.length = k.length → (∀ j, gt m (i + j) = gt l j) → GtRefsR hp b m i k → RefsRL hp b l k from hs l k l 0 hl (fun j => by rw [Nat.zero_add]) h
  intro l
  induction l with
  | nil => intro k m i hl _ _; cases k with
    | nil => trivial
    | cons u k => simp at hl
  | cons v l ih => intro k m i hl hm h; cases k with
    | nil => simp at hl
    | cons u k =>
      refine ⟨?_, ih k m (i + 1) (by simpa using hl) (fun j => by have := hm (j + 1); rw [show i + 1 + j = i + (j + 1) by omega]; exact this) h.2⟩
      have h0 := hm 0
      rw [Nat.add_zero] at h0
      have h1 := h.1
      rw [h0] at h1; exact h1

theorem RefsRL.cells {hp : List Blk} {b : List (Option Nat)} {l k : List AV} (h : RefsRL hp b l k) {C : Cx} (hr : HRel C hp) {vs : List Value} (hc : vs.length = l.length ∧ ∀ j, VRel C true (Va.gt l j) (vg vs j)) : vs.length = k.length ∧ ∀ j, VRel (C.ren b) true (Va.gt k j) (vg vs j) :=
  ⟨by rw [← h.length]; exact hc.1, fun j => h.gt j C _ hr (hc.2 j)⟩

theorem rowN_refs {hp : List Blk} {b : List (Option Nat)} {t : TypeId} {n j : Nat} {l k : List AV} {cl : Bool} (h : rowN t n hp j = some l) (hk : k.length = n) (hg : GtRefsR hp b l 0 k) (hcl : (!cl || AV.onlys noneb k) = true) : BlkR hp b (some j) (.row k t cl) :=
  rowN_blk h (refsRL_of_gt (by rw [rowN_len h, hk]) hg) (fun e => by subst e; simpa using hcl)

def sizedN (n : Nat) (s : St) : Option Unit := bif s.tm.length == n then some () else none
theorem sizedN_ok {n : Nat} {s : St} {x : Unit} (h : sizedN n s = some x) : s.tm.length = n := by
  unfold sizedN at h
  cases hc : (s.tm.length == n) with
  | false => rw [hc] at h; cases h
  | true => simpa using hc

/-! ### Short names -/
theorem pI {hp : List Blk} {l : List (Option Nat)} {k : IntKind} {v : AV} {x : Int} (h : intO k v = some x) : RefsR hp l v (.val (.int k x)) := .plain (Refs.of_eq (intO_eq h)) rfl
theorem pB {hp : List Blk} {l : List (Option Nat)} {v : AV} {x : Bool} (h : boolO v = some x) : RefsR hp l v (.val (.bool x)) := .plain (Refs.of_eq (boolO_eq h)) rfl
theorem pS {hp : List Blk} {l : List (Option Nat)} {v : AV} {x : ByteArray} (h : strO v = some x) : RefsR hp l v (.val (.string x)) := .plain (Refs.of_eq (strO_eq h)) rfl
theorem pV {hp : List Blk} {l : List (Option Nat)} {c : CT} {v : AV} {x : List c.D} (h : vtO c v = some x) : RefsR hp l v (.vt c x) := .plain (vtO_refs h) rfl
end Go.Va
