/-
  A region that draws its order: reckoned in the text's order; what has no order between it must not meet.
  Conditions: none.
-/
import Derived.Test.YtnidnmhcjngmeaaGreatVaSeq
import Derived.Orders
set_option linter.unusedVariables false
set_option linter.unusedSimpArgs false
set_option autoImplicit false
namespace Go.Va

/-- An operation of the region with what it came to (none: its guard left it out). -/
abbrev Ent := Oper × Option ORes

def Ent.app (e : Ent) (s : St) : St := match e.2 with
  | some q => q.st e.1.dst s
  | none => ⟨putA s.tm e.1.dst (.tup []), s.hp⟩

def Ent.keys (e : Ent) : List Nat := match e.2 with
  | some q => q.upd.map (·.1)
  | none => []

def Ent.foot (e : Ent) : List Nat := match e.2 with
  | some q => q.foot
  | none => []

def Ent.noKill (e : Ent) : Bool := match e.2 with
  | some q => q.kill.isNone
  | none => true

def looksA (ops : List Oper) (o : Oper) : List Tmp :=
  (o.op.operands.toList.filterMap fun x => match x with
    | .tmp t => some t
    | _ => none) ++ match o.guard with
    | some g => (dstOf ops g.1).toList
    | none => []

def disj (l k : List Nat) : Bool := l.all fun x => !(k.contains x)

/-- Neither looks at, or writes, what the other writes. -/
def apartE (ops : List Oper) (e f : Ent) : Bool :=
  ((e.noKill && f.noKill) && disj e.1.dst.toList (looksA ops f.1 ++ f.1.dst.toList)) && (disj f.1.dst.toList (looksA ops e.1) && (disj e.keys (f.foot ++ f.keys) && disj f.keys e.foot))

theorem disj_spec {l k : List Nat} (h : disj l k = true) {x : Nat} (hx : x ∈ l) : x ∉ k := by
  have := List.all_eq_true.1 h x hx
  simpa using this

/-- What stands ahead of each operation, by the edges that bind. -/
def ancs : List Oper → List (List Nat) → List (List Nat)
  | [], acc => acc
  | o :: l, acc => ancs l (acc ++ [o.after.toList.flatMap fun e => bif Region.binds .any e then e.on :: acc.getD e.on [] else []])

def edgesOk : List Oper → Nat → Bool
  | [], _ => true
  | o :: l, i => (o.after.toList.all fun e => !Region.binds .any e || decide (e.on < i)) && edgesOk l (i + 1)

def pairsOk (ops : List Oper) (an : List (List Nat)) : List Ent → Nat → Bool
  | [], _ => true
  | e :: l, i => (l.zipIdx (i + 1)).all (fun f => (an.getD f.2 []).contains i || apartE ops e f.1) && pairsOk ops an l (i + 1)

def allE : List Ent → St → St
  | [], s => s
  | e :: l, s => allE l (e.app s)

def someE (S : Nat → Bool) : List Ent → Nat → St → St
  | [], _, s => s
  | e :: l, i, s => someE S l (i + 1) (bif S i then e.app s else s)

def GuardIs (ops : List Oper) (o : Oper) (tm : List AV) (w : Bool) : Prop := match o.guard with
  | none => w = true
  | some g => ∃ d, dstOf ops g.1 = some d ∧ ((∃ b, gt tm d = .val (.bool b) ∧ (b == g.2) = w) ∨ (∃ l, gt tm d = .tup l) ∧ w = false)

def EntOk (P : Program) (ops : List Oper) (e : Ent) (s : St) : Prop := match e.2 with
  | some q => OpOk P e.1 s.tm s.hp q ∧ GuardIs ops e.1 s.tm true
  | none => GuardIs ops e.1 s.tm false

/-! ### What commutes -/
theorem st_comm (l : List AV) (i j : Nat) (u v : AV) (h : i ≠ j) : Va.st (Va.st l i u) j v = Va.st (Va.st l j v) i u := by
  simp only [st_eq]; exact List.set_comm _ _ h

theorem putA_comm (tm : List AV) (d e : Option Tmp) (u v : AV) (h : ∀ x, d = some x → e ≠ some x) : putA (putA tm d u) e v = putA (putA tm e v) d u := by
  cases d with
  | none => rfl
  | some x => cases e with
    | none => rfl
    | some y => exact st_comm _ _ _ _ _ (fun e => h x rfl (e ▸ rfl))

theorem sb_comm (l : List Blk) (i j : Nat) (u v : Blk) (h : i ≠ j) : sb (sb l i u) j v = sb (sb l j v) i u := by
  induction l generalizing i j with
  | nil => rfl
  | cons x l ih =>
    cases i <;> cases j
    · exact absurd rfl h
    · rfl
    · rfl
    · rename_i i j; exact congrArg (x :: ·) (ih i j (fun e => h (by rw [e])))

theorem upds_sb (l : List Blk) (us : List (Nat × Blk)) (j : Nat) (v : Blk) (h : j ∉ us.map (·.1)) : upds (sb l j v) us = sb (upds l us) j v := by
  induction us generalizing l with
  | nil => rfl
  | cons x us ih =>
    simp only [List.map_cons, List.mem_cons, not_or] at h
    simp only [upds]
    rw [sb_comm _ _ _ _ _ h.1, ih _ h.2]

theorem upds_comm (l : List Blk) (us vs : List (Nat × Blk)) (h : disj (us.map (·.1)) (vs.map (·.1)) = true) : upds (upds l us) vs = upds (upds l vs) us := by
  induction us generalizing l with
  | nil => rfl
  | cons x us ih =>
    simp only [upds]
    have h1 : x.1 ∉ vs.map (·.1) := disj_spec h (by simp)
    have h2 : disj (us.map (·.1)) (vs.map (·.1)) = true := by
      simp only [disj, List.map_cons, List.all_cons, Bool.and_eq_true] at h ⊢; exact h.2
    rw [ih _ h2, upds_sb _ _ _ _ h1]

theorem app_comm {ops : List Oper} {e f : Ent} (h : apartE ops e f = true) (s : St) : e.app (f.app s) = f.app (e.app s) := by
  simp only [apartE, Bool.and_eq_true] at h
  obtain ⟨⟨⟨hk1, hk2⟩, hd⟩, hd2, hw, hw2⟩ := h
  have hdst : ∀ x, f.1.dst = some x → e.1.dst ≠ some x := fun x hx hex => by
    have := disj_spec hd (x := x) (by simp [hex])
    exact this (List.mem_append.2 (.inr (by simp [hx])))
  obtain ⟨oe, qe⟩ := e
  obtain ⟨of, qf⟩ := f
  have hw' : disj (Ent.keys (oe, qe)) (Ent.keys (of, qf)) = true := by
    refine List.all_eq_true.2 fun x hx => ?_
    have := disj_spec hw hx
    simp only [List.mem_append, not_or] at this
    simpa using this.2
  cases qe with
  | none => cases qf with
    | none => simp only [Ent.app, putA_comm _ _ _ _ _ hdst]
    | some q =>
      simp only [Ent.noKill, Option.isNone_iff_eq_none] at hk2
      simp only [Ent.app, ORes.st, hk2, killT, killH, putA_comm _ _ _ _ _ hdst]
  | some p =>
    simp only [Ent.noKill, Option.isNone_iff_eq_none] at hk1
    cases qf with
    | none => simp only [Ent.app, ORes.st, hk1, killT, killH, putA_comm _ _ _ _ _ hdst]
    | some q =>
      simp only [Ent.noKill, Option.isNone_iff_eq_none] at hk2
      simp only [Ent.app, ORes.st, hk1, hk2, killT, killH, putA_comm _ _ _ _ _ hdst]
      rw [upds_comm _ _ _ hw']

theorem someE_app (S : Nat → Bool) (e : Ent) (l : List Ent) : ∀ (i : Nat) (s : St), (∀ k f, l[k]? = some f → S (i + k) = true → ∀ s, e.app (f.app s) = f.app (e.app s)) → someE S l i (e.app s) = e.app (someE S l i s) := by
  induction l with
  | nil => intro i s h; rfl
  | cons f l ih =>
    intro i s h
    simp only [someE]
    have h' : ∀ k g, l[k]? = some g → S (i + 1 + k) = true → ∀ s, e.app (g.app s) = g.app (e.app s) := fun k g hk hS => h (k + 1) g (by simpa using hk) (by rw [← hS]; congr 1; omega)
    cases hS : S i with
    | false => simp only [cond_false]; exact ih (i + 1) s h'
    | true =>
      simp only [cond_true]
      rw [← ih (i + 1) (f.app s) h', h 0 f rfl (by simpa using hS)]

theorem someE_congr {S T : Nat → Bool} (l : List Ent) : ∀ (i : Nat) (s : St), (∀ k, k < l.length → S (i + k) = T (i + k)) → someE S l i s = someE T l i s := by
  induction l with
  | nil => intro i s h; rfl
  | cons f l ih =>
    intro i s h
    simp only [someE]
    have h0 : S i = T i := by simpa using h 0 (by simp)
    rw [h0, ih (i + 1) _ (fun k hk => by have := h (k + 1) (by simpa using hk); rw [show i + 1 + k = i + (k + 1) by omega]; exact this)]

def put (S : Nat → Bool) (j : Nat) : Nat → Bool := fun k => k == j || S k

/-- One more operation, behind all that came up. -/
theorem someE_put (S : Nat → Bool) (j : Nat) (l : List Ent) : ∀ (i : Nat) (s : St) (e : Ent), i ≤ j → l[j - i]? = some e → S j = false →
    (∀ k f, j < k → l[k - i]? = some f → S k = true → ∀ s, e.app (f.app s) = f.app (e.app s)) → someE (put S j) l i s = e.app (someE S l i s) := by
  induction l with
  | nil => intro i s e hi he; simp at he
  | cons f l ih =>
    intro i s e hi he hS hc
    simp only [someE]
    by_cases hij : i = j
    · subst hij
      simp only [Nat.sub_self, List.getElem?_cons_zero, Option.some.injEq] at he
      subst he
      have h1 : put S i i = true := by simp [put]
      rw [h1, hS, cond_true, cond_false]
      rw [someE_congr (S := put S i) (T := S) l (i + 1) _ (fun k _ => by simp [put]; omega)]
      exact someE_app S f l (i + 1) s (fun k g hk hSk => hc (i + 1 + k) g (by omega) (by rw [show i + 1 + k - i = k + 1 by omega]; simpa using hk) hSk)
    · have h1 : put S j i = S i := by simp [put]; omega
      rw [h1]
      exact ih (i + 1) _ e (by omega) (by rw [show j - i = (j - (i + 1)) + 1 by omega] at he; simpa using he) hS
        (fun k g hk hg hSk => hc k g hk (by rw [show k - i = (k - (i + 1)) + 1 by omega]; simpa using hg) hSk)

theorem someE_all (l : List Ent) (S : Nat → Bool) : ∀ (i : Nat) (s : St), (∀ k, k < l.length → S (i + k) = true) → someE S l i s = allE l s := by
  induction l with
  | nil => intro i s h; rfl
  | cons f l ih =>
    intro i s h
    simp only [someE, allE]
    have h0 := h 0 (by simp)
    simp only [Nat.add_zero] at h0
    rw [h0, cond_true]
    exact ih (i + 1) _ (fun k hk => by have := h (k + 1) (by simpa using hk); rw [show i + 1 + k = i + (k + 1) by omega]; exact this)

theorem someE_none (l : List Ent) : ∀ (i : Nat) (s : St), someE (fun _ => false) l i s = s := by
  induction l with
  | nil => intro i s; rfl
  | cons f l ih => intro i s; exact ih (i + 1) s

/-! ### What an operation sees -/
structure Sees (lk : List Tmp) (ft : List Nat) (s t : St) : Prop where
  tm : ∀ x ∈ lk, gt s.tm x = gt t.tm x
  hp : ∀ b ∈ ft, gb s.hp b = gb t.hp b
  tl : s.tm.length = t.tm.length
  hl : s.hp.length = t.hp.length

theorem gt_map (f : AV → AV) (hf : f .junk = .junk) (l : List AV) (n : Nat) : gt (l.map f) n = f (gt l n) := by
  induction l generalizing n with
  | nil => exact hf.symm
  | cons v l ih => cases n with
    | zero => rfl
    | succ n => exact ih n

theorem gb_map (f : Blk → Blk) (hf : f .gone = .gone) (l : List Blk) (n : Nat) : gb (l.map f) n = f (gb l n) := by
  induction l generalizing n with
  | nil => exact hf.symm
  | cons v l ih => cases n with
    | zero => rfl
    | succ n => exact ih n

theorem gb_sb (l : List Blk) (n k : Nat) (u : Blk) : gb (sb l n u) k = if k = n ∧ n < l.length then u else gb l k := by
  by_cases h : k = n
  · subst h
    by_cases h2 : k < l.length
    · rw [gb_sb_same _ _ _ h2, if_pos ⟨rfl, h2⟩]
    · rw [if_neg (by simp [h2])]
      have e1 : ∀ (l : List Blk), ¬ k < l.length → gb l k = .gone := fun l hl => by
        by_cases hg : gb l k = .gone
        · exact hg
        · exact absurd (gb_len' hg) hl
      rw [e1 _ (by rw [sb_length]; exact h2), e1 _ h2]
  · rw [gb_sb_ne _ _ _ _ h, if_neg (fun h' => h h'.1)]

theorem upds_length (l : List Blk) (us : List (Nat × Blk)) : (upds l us).length = l.length := by
  induction us generalizing l with
  | nil => rfl
  | cons x us ih => simp only [upds]; rw [ih, sb_length]

theorem gb_upds_congr {l k : List Blk} (us : List (Nat × Blk)) (hlen : l.length = k.length) {b : Nat} (h : gb l b = gb k b) : gb (upds l us) b = gb (upds k us) b := by
  induction us generalizing l k with
  | nil => exact h
  | cons x us ih =>
    simp only [upds]
    refine ih (by simp [sb_length, hlen]) ?_
    rw [gb_sb, gb_sb, hlen, h]

theorem gb_upds_other {l : List Blk} (us : List (Nat × Blk)) {b : Nat} (h : b ∉ us.map (·.1)) : gb (upds l us) b = gb l b := by
  induction us generalizing l with
  | nil => rfl
  | cons x us ih =>
    simp only [List.map_cons, List.mem_cons, not_or] at h
    simp only [upds]
    rw [ih h.2, gb_sb_ne _ _ _ _ h.1]

theorem killT_length (k : Option Nat) (l : List AV) : (killT k l).length = l.length := by cases k <;> simp [killT]
theorem killH_length (k : Option Nat) (l : List Blk) : (killH k l).length = l.length := by cases k <;> simp [killH]
theorem gt_killT (k : Option Nat) {l m : List AV} {n : Nat} (h : gt l n = gt m n) : gt (killT k l) n = gt (killT k m) n := by
  cases k with
  | none => exact h
  | some b => simp only [killT]; rw [gt_map _ rfl, gt_map _ rfl, h]
theorem gb_killH (k : Option Nat) {l m : List Blk} {n : Nat} (h : gb l n = gb m n) : gb (killH k l) n = gb (killH k m) n := by
  cases k with
  | none => exact h
  | some b => simp only [killH]; rw [gb_map _ rfl, gb_map _ rfl, h]

theorem Sees.both {lk : List Tmp} {ft : List Nat} {s t : St} (h : Sees lk ft s t) (e : Ent) : Sees lk ft (e.app s) (e.app t) := by
  obtain ⟨o, q⟩ := e
  cases q with
  | none => exact ⟨fun x hx => by simp only [Ent.app, gt_put, h.tm x hx, h.tl], h.hp, by simp only [Ent.app, putA_length]; exact h.tl, h.hl⟩
  | some q =>
    refine ⟨fun x hx => ?_, fun b hb => ?_, ?_, ?_⟩
    · simp only [Ent.app, ORes.st, gt_put, killT_length, h.tl]
      rw [gt_killT q.kill (h.tm x hx)]
    · simp only [Ent.app, ORes.st]
      exact gb_upds_congr _ (by rw [killH_length, killH_length]; exact h.hl) (gb_killH q.kill (h.hp b hb))
    · simp only [Ent.app, ORes.st, putA_length, killT_length]; exact h.tl
    · simp only [Ent.app, ORes.st, upds_length, killH_length]; exact h.hl

theorem sees_app {lk : List Tmp} {ft : List Nat} (s : St) {e : Ent} (hk : e.noKill = true) (hd : ∀ x ∈ lk, e.1.dst ≠ some x) (hw : ∀ b ∈ ft, b ∉ e.keys) : Sees lk ft (e.app s) s := by
  obtain ⟨o, q⟩ := e
  cases q with
  | none => exact ⟨fun x hx => by simp only [Ent.app, gt_put]; rw [if_neg (fun h => hd x hx h.1)], fun _ _ => rfl, by simp only [Ent.app, putA_length], rfl⟩
  | some q =>
    simp only [Ent.noKill, Option.isNone_iff_eq_none] at hk
    refine ⟨fun x hx => ?_, fun b hb => ?_, ?_, ?_⟩
    · simp only [Ent.app, ORes.st, gt_put, hk, killT]; rw [if_neg (fun h => hd x hx h.1)]
    · simp only [Ent.app, ORes.st, hk, killH]; exact gb_upds_other _ (hw b hb)
    · simp only [Ent.app, ORes.st, putA_length, killT_length]
    · simp only [Ent.app, ORes.st, upds_length, killH_length]

theorem Sees.trans {lk : List Tmp} {ft : List Nat} {s t u : St} (h : Sees lk ft s t) (k : Sees lk ft t u) : Sees lk ft s u :=
  ⟨fun x hx => (h.tm x hx).trans (k.tm x hx), fun b hb => (h.hp b hb).trans (k.hp b hb), h.tl.trans k.tl, h.hl.trans k.hl⟩
theorem Sees.symm {lk : List Tmp} {ft : List Nat} {s t : St} (h : Sees lk ft s t) : Sees lk ft t s := ⟨fun x hx => (h.tm x hx).symm, fun b hb => (h.hp b hb).symm, h.tl.symm, h.hl.symm⟩
theorem Sees.refl (lk : List Tmp) (ft : List Nat) (s : St) : Sees lk ft s s := ⟨fun _ _ => rfl, fun _ _ => rfl, rfl, rfl⟩

/-- What one operation sees of the others, in whatever order they came up so far. -/
theorem sees_some (S : Nat → Bool) (lk : List Tmp) (ft : List Nat) (j : Nat) (l : List Ent) : ∀ (i : Nat) (s t : St), Sees lk ft s t →
    (∀ k f, l[k]? = some f → (i + k < j ∧ S (i + k) = false) ∨ (j ≤ i + k ∧ S (i + k) = true) → f.noKill = true ∧ (∀ x ∈ lk, f.1.dst ≠ some x) ∧ ∀ b ∈ ft, b ∉ f.keys) →
    Sees lk ft (someE S l i s) (allE (l.take (j - i)) t) := by
  induction l with
  | nil => intro i s t h hc; simpa [someE, allE] using h
  | cons f l ih =>
    intro i s t h hc
    have hc' : ∀ k g, l[k]? = some g → (i + 1 + k < j ∧ S (i + 1 + k) = false) ∨ (j ≤ i + 1 + k ∧ S (i + 1 + k) = true) → g.noKill = true ∧ (∀ x ∈ lk, g.1.dst ≠ some x) ∧ ∀ b ∈ ft, b ∉ g.keys :=
      fun k g hk hS => hc (k + 1) g (by simpa using hk) (by rw [show i + (k + 1) = i + 1 + k by omega]; exact hS)
    have h0 := hc 0 f rfl
    simp only [Nat.add_zero] at h0
    simp only [someE]
    by_cases hij : i < j
    · rw [show j - i = (j - (i + 1)) + 1 by omega, List.take_succ_cons]
      simp only [allE]
      refine ih (i + 1) _ _ ?_ hc'
      cases hS : S i with
      | true => exact h.both f
      | false =>
        obtain ⟨h1, h2, h3⟩ := h0 (.inl ⟨hij, hS⟩)
        exact h.trans (sees_app t h1 h2 h3).symm
    · have e0 : j - i = 0 := by omega
      have e1 : j - (i + 1) = 0 := by omega
      have := ih (i + 1) (bif S i then f.app s else s) t ?_ hc'
      · rw [e1] at this; rw [e0]; simpa [allE] using this
      · cases hS : S i with
        | false => exact h
        | true =>
          obtain ⟨h1, h2, h3⟩ := h0 (.inr ⟨by omega, hS⟩)
          exact (sees_app s h1 h2 h3).trans h
end Go.Va
