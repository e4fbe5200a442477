/-
  Loops, and pieces of a body, by what is known of them at their heads and at their ends.
  Conditions: none.
-/
import Derived.Test.YtjlbmdcljikojaaVaPure
set_option linter.unusedVariables false
set_option linter.unusedSimpArgs false
set_option autoImplicit false
namespace Go.Va

/-- Whoever is in the one state is in the other. -/
def Weak (s t : St) : Prop := ∀ (w0 : World) (O : Env) (C : Cx) (a : Act), Rep w0 O C s a → ∃ C' : Cx, Rep w0 O C' t a ∧ C'.w = C.w

theorem CodeOk.weak {P : Program} {c : Code} {s t u : St} {ex : AEx} (h : Weak s t) (hc : CodeOk P c t ex u) : CodeOk P c s ex u := by
  intro w0 O C a hr Q hQ
  obtain ⟨C', hr', hw⟩ := h w0 O C a hr
  rw [← hw]
  exact hc w0 O C' a hr' Q hQ

def lookT (l : List (Nat × AV)) (i : Nat) : AV := match l with
  | [] => .junk
  | p :: l => bif p.1 == i then p.2 else lookT l i

/-- n temporaries, from number i on, of which only these are known. -/
def sparseT (l : List (Nat × AV)) : Nat → Nat → List AV
  | 0, _ => []
  | n + 1, i => lookT l i :: sparseT l n (i + 1)

theorem sparseT_length (l : List (Nat × AV)) (n i : Nat) : (sparseT l n i).length = n := by
  induction n generalizing i with
  | zero => rfl
  | succ n ih => simp only [sparseT, List.length_cons, ih]

theorem gt_sparse (l : List (Nat × AV)) (n i j : Nat) : gt (sparseT l n i) j = if j < n then lookT l (i + j) else .junk := by
  induction n generalizing i j with
  | zero => rfl
  | succ n ih =>
    cases j with
    | zero => simp [sparseT, gt]
    | succ j =>
      simp only [sparseT, gt]
      rw [ih]
      by_cases h : j < n
      · rw [if_pos h, if_pos (by omega), show i + 1 + j = i + (j + 1) by omega]
      · rw [if_neg h, if_neg (by omega)]

def lookB (l : List (Nat × Blk)) (i : Nat) : Blk := match l with
  | [] => .gone
  | p :: l => bif p.1 == i then p.2 else lookB l i

def sparseB (l : List (Nat × Blk)) : Nat → Nat → List Blk
  | 0, _ => []
  | n + 1, i => lookB l i :: sparseB l n (i + 1)

theorem sparseB_length (l : List (Nat × Blk)) (n i : Nat) : (sparseB l n i).length = n := by
  induction n generalizing i with
  | zero => rfl
  | succ n ih => simp only [sparseB, List.length_cons, ih]

theorem gb_sparse (l : List (Nat × Blk)) (n i j : Nat) : gb (sparseB l n i) j = if j < n then lookB l (i + j) else .gone := by
  induction n generalizing i j with
  | zero => rfl
  | succ n ih =>
    cases j with
    | zero => simp [sparseB, gb]
    | succ j =>
      simp only [sparseB, gb]
      rw [ih]
      by_cases h : j < n
      · rw [if_pos h, if_pos (by omega), show i + 1 + j = i + (j + 1) by omega]
      · rw [if_neg h, if_neg (by omega)]

/-- What is told of the temporaries is so, or stands for what is so. -/
def LiveOk (s : St) : List (Nat × AV) → Prop
  | [] => True
  | p :: l => Refs (gt s.tm p.1) p.2 ∧ LiveOk s l

theorem LiveOk.look {s : St} {l : List (Nat × AV)} (h : LiveOk s l) (i : Nat) : lookT l i = .junk ∨ Refs (gt s.tm i) (lookT l i) := by
  induction l with
  | nil => exact .inl rfl
  | cons p l ih =>
    simp only [lookT]
    cases hp : (p.1 == i) with
    | true => rw [cond_true]; right; have := beq_iff_eq.1 hp; rw [← this]; exact h.1
    | false => rw [cond_false]; exact ih h.2

/-- The block is there, and what is told of its cells stands for what is there. -/
def RefsB (x y : Blk) : Prop := ∃ cs cs' t cl, x = .row cs t cl ∧ y = .row cs' t cl ∧ RefsL cs cs'

def BlksOk (s : St) : List (Nat × Blk) → Prop
  | [] => True
  | p :: l => RefsB (gb s.hp p.1) p.2 ∧ BlksOk s l

theorem RefsL.length {l k : List AV} (h : RefsL l k) : l.length = k.length := by
  induction l generalizing k with
  | nil => cases k with
    | nil => rfl
    | cons u k => exact h.elim
  | cons v l ih => cases k with
    | nil => exact h.elim
    | cons u k => simp only [List.length_cons, ih h.2]

theorem RefsL.gt {l k : List AV} (h : RefsL l k) (j : Nat) : Refs (gt l j) (gt k j) := by
  induction l generalizing k j with
  | nil => cases k with
    | nil => exact Refs.refl _
    | cons u k => exact h.elim
  | cons v l ih => cases k with
    | nil => exact h.elim
    | cons u k => cases j with
      | zero => exact h.1
      | succ j => exact ih h.2 j

theorem BlksOk.look {s : St} {l : List (Nat × Blk)} (h : BlksOk s l) (i : Nat) : lookB l i = .gone ∨ RefsB (gb s.hp i) (lookB l i) := by
  induction l with
  | nil => exact .inl rfl
  | cons p l ih =>
    simp only [lookB]
    cases hp : (p.1 == i) with
    | true => rw [cond_true]; right; have := beq_iff_eq.1 hp; rw [← this]; exact h.1
    | false => rw [cond_false]; exact ih h.2

def onlyLive (nb : Nat) : List (Nat × AV) → Bool
  | [] => true
  | p :: l => p.2.only (fun b => decide (b < nb)) && onlyLive nb l

def onlyBlks (nb : Nat) : List (Nat × Blk) → Bool
  | [] => true
  | p :: l => (match p.2 with
    | .row cs _ cl => cl || AV.onlys (fun b => decide (b < nb)) cs
    | .free => false
    | .gone => true) && onlyBlks nb l

theorem onlyLive_look {nb : Nat} {l : List (Nat × AV)} (h : onlyLive nb l = true) (i : Nat) : (lookT l i).only (fun b => decide (b < nb)) = true := by
  induction l with
  | nil => rfl
  | cons p l ih =>
    simp only [onlyLive, Bool.and_eq_true] at h
    simp only [lookT]
    cases hp : (p.1 == i) with
    | true => exact h.1
    | false => exact ih h.2

theorem onlyBlks_look {nb : Nat} {l : List (Nat × Blk)} (h : onlyBlks nb l = true) (i : Nat) : lookB l i ≠ .free ∧ ∀ cs t cl, lookB l i = .row cs t cl → (cl || AV.onlys (fun b => decide (b < nb)) cs) = true := by
  induction l with
  | nil => exact ⟨by simp [lookB], fun cs t cl h => by simp [lookB] at h⟩
  | cons p l ih =>
    simp only [onlyBlks, Bool.and_eq_true] at h
    simp only [lookB]
    cases hp : (p.1 == i) with
    | true =>
      rw [cond_true]
      obtain ⟨h1, _⟩ := h
      split at h1
      · rename_i cs t cl hq
        rw [hq]
        exact ⟨by simp, fun cs' t' cl' he => by cases he; exact h1⟩
      · cases h1
      · rename_i hq
        rw [hq]
        exact ⟨by simp, fun cs' t' cl' he => by cases he⟩
    | false => exact ih h.2

theorem weak_sparse {s : St} {live : List (Nat × AV)} {blks : List (Nat × Blk)} {n nb : Nat} (h1 : s.tm.length = n) (h2 : nb ≤ s.hp.length) (ht : LiveOk s live) (hb : BlksOk s blks)
    (ho : onlyLive nb live = true) (hob : onlyBlks nb blks = true) : Weak s ⟨sparseT live n 0, sparseB blks nb 0⟩ := by
  intro w0 O C a hr
  have row : ∀ b cs t cl, gb (sparseB blks nb 0) b = .row cs t cl → b < nb ∧ (∃ cs0, gb s.hp b = .row cs0 t cl ∧ RefsL cs0 cs) ∧ (cl || AV.onlys (fun b => decide (b < nb)) cs) = true := by
    intro b cs t cl hg
    rw [gb_sparse] at hg
    split at hg
    · rename_i hlt
      rw [Nat.zero_add] at hg
      refine ⟨hlt, ?_, (onlyBlks_look hob b).2 cs t cl hg⟩
      rcases hb.look b with h | ⟨c1, c2, t2, cl2, h, h', h''⟩
      · rw [h] at hg; cases hg
      · rw [h'] at hg; cases hg; exact ⟨c1, h, h''⟩
    · cases hg
  have lv : ∀ x, (gb (sparseB blks nb 0) x).live = true → (gb s.hp x).live = true := fun x hx => by
    cases hg : gb (sparseB blks nb 0) x with
    | row cs t cl => obtain ⟨_, ⟨c0, h0, _⟩, _⟩ := row x cs t cl hg; rw [h0]; rfl
    | gone => rw [hg] at hx; cases hx
    | free => rw [hg] at hx; cases hx
  refine ⟨C.cut nb, ⟨hr.defers, by simp only [sparseT_length]; rw [hr.size, h1], fun t => ?_, ⟨fun b h => ?_, fun b h hal => ?_, fun b cs t cl hg => ?_, fun b b' h h' he => hr.hp.inj b b' (lv b h) (lv b' h') he, hr.hp.ownlt⟩,
    ⟨hr.kept.os, hr.kept.tape, hr.kept.output, hr.kept.size, hr.kept.block, hr.kept.ban⟩, fun b h => hr.mine b (lv b h)⟩, rfl⟩
  · rw [gt_sparse]
    split
    · rw [Nat.zero_add]
      rcases ht.look t with h | h
      · rw [h]; exact .junk _
      · exact (h _ _ _ (hr.tm t)).cut (onlyLive_look ho t)
    · exact .junk _
  · have := h.2; rw [sparseB_length]; exact this
  · exfalso
    rw [gb_sparse] at h
    split at h
    · exact (onlyBlks_look hob _).1 h
    · cases h
  · obtain ⟨hbn, ⟨c0, hb', hrf⟩, h3⟩ := row b cs t cl hg
    obtain ⟨h0, h4, hln, cur, h5, h6, h7, h8⟩ := hr.hp.row b c0 t cl hb'
    have hlen := hrf.length
    refine ⟨⟨h0, hbn⟩, h4, by rw [← hlen]; exact hln, cur, h5, h6, by rw [← hlen]; exact h7, fun j hj => ?_⟩
    have h9 := hrf.gt j _ _ _ (h8 j (by omega))
    cases cl with
    | true => exact VRel.mono_false (C := C) (D := C.cut nb) ⟨Nat.le_refl _, fun _ _ _ => rfl, fun _ _ h => h⟩ h9 rfl
    | false => exact h9.cut (AV.onlys_gt (by simpa using h3) j)

/-- What is known at a head: how it is read off a state, and the state that it makes. -/
structure Head (α : Type) where
  k : ∀ γ : Type, St → (α → Option γ) → Option γ
  st : α → St
  ok : ∀ (γ : Type) (s : St) (F : α → Option γ) (r : γ), k γ s F = some r → ∃ x, F x = some r ∧ Weak s (st x)

/-- What is known at the ends. -/
structure Tail (ρ : Type) where
  d : ∀ γ : Type, AEx → St → (ρ → Option γ) → Option γ
  out : ρ → AEx × St
  k : ∀ β : Type, ρ → (AEx → St → Option β) → Option β
  keq : ∀ (β : Type) (y : ρ) (K : AEx → St → Option β), k β y K = K (out y).1 (out y).2
  ok : ∀ (γ : Type) (ex : AEx) (s : St) (F : ρ → Option γ) (r : γ), d γ ex s F = some r → ∃ y, F y = some r ∧ ex = (out y).1 ∧ Weak s (out y).2

def sameEx : AEx → AEx → Bool
  | .normal, .normal => true
  | .exit i, .exit j => i == j
  | .ret, .ret => true
  | _, _ => false

theorem sameEx_eq {e f : AEx} (h : sameEx e f = true) : e = f := by
  cases e <;> cases f <;> first | rfl | (simp [sameEx] at h; rw [h]) | cases h

/-- One way out. -/
def Tail.one {α : Type} (e : AEx) (H : Head α) : Tail α where
  d γ ex s F := bif sameEx ex e then H.k γ s F else none
  out y := (e, H.st y)
  k β y K := K e (H.st y)
  keq β y K := rfl
  ok γ ex s F r h := by
    cases hs : sameEx ex e with
    | false => rw [hs] at h; cases h
    | true =>
      rw [hs, cond_true] at h
      obtain ⟨x, h1, h2⟩ := H.ok γ s F r h
      exact ⟨x, h1, sameEx_eq hs, h2⟩

/-- Two ways out: the first by this exit. -/
def Tail.or {α ρ : Type} (e : AEx) (H : Head α) (T : Tail ρ) : Tail (α ⊕ ρ) where
  d γ ex s F := bif sameEx ex e then H.k γ s (fun a => F (.inl a)) else T.d γ ex s (fun b => F (.inr b))
  out y := match y with
    | .inl a => (e, H.st a)
    | .inr b => T.out b
  k β y K := match y with
    | .inl a => K e (H.st a)
    | .inr b => T.k β b K
  keq β y K := by cases y with
    | inl a => rfl
    | inr b => exact T.keq β b K
  ok γ ex s F r h := by
    cases hs : sameEx ex e with
    | false =>
      rw [hs, cond_false] at h
      obtain ⟨b, h1, h2⟩ := T.ok γ ex s _ r h
      exact ⟨.inr b, h1, h2⟩
    | true =>
      rw [hs, cond_true] at h
      obtain ⟨a, h1, h2⟩ := H.ok γ s _ r h
      exact ⟨.inl a, h1, sameEx_eq hs, h2⟩

theorem ExRel.alike {C C' : Cx} {ex : AEx} {e : Exit} (h : ExRel C ex e) (hx : ∀ v, ex ≠ .panic v) : ExRel C' ex e := by
  cases ex <;> cases e <;> first | exact h | exact absurd rfl (hx _)

theorem codeOk_weak {P : Program} {c : Code} {s u v : St} {ex ex' : AEx} (hx : ∀ v, ex' ≠ .panic v) (he : ex = ex') (hw : Weak u v) (hc : CodeOk P c s ex u) : CodeOk P c s ex' v := by
  subst he
  intro w0 O C a hr Q hQ
  refine hc w0 O C a hr Q (fun C' a' e he hr' => ?_)
  obtain ⟨C2, hr2, hw2⟩ := hw w0 O C' a' hr'
  rw [← hw2]
  exact hQ C2 a' e (he.alike hx) hr2

/-- What stands behind a round: another one, or an end. -/
def contD {α ρ γ : Type} (H : Head α) (T : Tail ρ) (F : α → Option γ) (X : ρ → Option γ) (ex : AEx) (t : St) : Option γ := match ex with
  | .normal => H.k γ t F
  | .exit i => T.d γ (.exit i) t X
  | .ret => T.d γ .ret t X
  | .panic v => T.d γ (.panic v) t X

def loopD (P : Program) (G : Gam) (L : Lam) (c : Code) (p : List Bool) {α ρ : Type} (H : Head α) (T : Tail ρ) : Nat → α → Option ρ
  | 0, _ => none
  | n + 1, x => E P G L c (false :: p) (H.st x) (contD H T (loopD P G L c p H T n) some)

theorem loopD_ok {P : Program} {G : Gam} {L : Lam} {body : Code} (hG : GamOk P G) (hL : LamOk P body L) (hm : P.follows .mixedOrders = true) {c : Code} {p : List Bool} (hp : codeAt body p = some (.loop c)) {α ρ : Type} {H : Head α} {T : Tail ρ}
    (hT : ∀ y v, (T.out y).1 ≠ .panic v) (hTn : ∀ y, (T.out y).1 ≠ .normal) (n : Nat) : ∀ {x : α} {y : ρ}, loopD P G L c p H T n x = some y → CodeOk P (.loop c) (H.st x) (T.out y).1 (T.out y).2 := by
  have hc : codeAt body (false :: p) = some c := by simp [codeAt, hp]
  suffices hs : ∀ {x : α} {y : ρ}, loopD P G L c p H T n x = some y →
      ∀ (w0 : World) (O : Env) (C : Cx) (a : Act), Rep w0 O C (H.st x) a → ∀ Q : Exit → Act → World → Prop, (∀ C' a' e, ExRel C' (T.out y).1 e → Rep w0 O C' (T.out y).2 a' → Q e a' C'.w) → Code.rounds P c Q n a C.w by
    intro x y h w0 O C a hr Q hQ
    exact wp_loop_rounds n (hs h w0 O C a hr Q hQ)
  induction n with
  | zero => intro x y h; cases h
  | succ n ih =>
    intro x y h
    simp only [loopD] at h
    obtain ⟨ex, s1, h1, h2⟩ := E_ok hG hL hm c hc h
    have last : ∀ ex', T.d ρ ex' s1 some = some y → CodeOk P c (H.st x) ex' s1 → ∀ (w0 : World) (O : Env) (C : Cx) (a : Act), Rep w0 O C (H.st x) a → ∀ Q : Exit → Act → World → Prop, (∀ C' a' e, ExRel C' (T.out y).1 e → Rep w0 O C' (T.out y).2 a' → Q e a' C'.w) → Code.rounds P c Q (n + 1) a C.w := by
      intro ex' hd hco w0 O C a hr Q hQ
      rw [rounds_succ]
      obtain ⟨y', e1, e2, e3⟩ := T.ok _ _ _ _ _ hd
      simp only [Option.some.injEq] at e1; subst e1
      refine (codeOk_weak (hT y') e2 e3 hco) w0 O C a hr _ (fun C' a' e he hr' => ?_)
      cases hx : (T.out y').1 with
      | normal => exact absurd hx (hTn y')
      | exit i => rw [hx] at he; cases e <;> first | exact he.elim | exact hQ C' a' _ (by rw [hx]; exact he) hr'
      | ret => rw [hx] at he; cases e <;> first | exact he.elim | exact hQ C' a' _ (by rw [hx]; exact he) hr'
      | panic v => exact absurd hx (hT y' v)
    cases ex with
    | normal =>
      simp only [contD] at h1
      obtain ⟨x', h3, hx'⟩ := H.ok _ _ _ _ h1
      intro w0 O C a hr Q hQ
      rw [rounds_succ]
      refine h2 w0 O C a hr _ (fun C' a' e he hr' => ?_)
      cases e <;> first | exact he.elim | skip
      obtain ⟨C2, hr2, hw2⟩ := hx' w0 O C' a' hr'
      show Code.rounds P c Q n a' C'.w
      rw [← hw2]
      exact ih h3 w0 O C2 a' hr2 Q hQ
    | exit i => exact last _ h1 h2
    | ret => exact last _ h1 h2
    | panic v => exact last _ h1 h2

/-- A typed loop that goes round as the body does is the loop. -/
theorem loopD_eq {P : Program} {G : Gam} {L : Lam} {c : Code} {p : List Bool} {α ρ : Type} {H : Head α} {T : Tail ρ} {l : Nat → α → Option ρ} (h0 : ∀ x, l 0 x = none)
    (h1 : ∀ n x, E P G L c (false :: p) (H.st x) (contD H T (l n) some) = l (n + 1) x) (n : Nat) : loopD P G L c p H T n = l n := by
  induction n with
  | zero => funext x; rw [h0]; rfl
  | succ n ih => funext x; simp only [loopD]; rw [ih, h1]

/-- A piece that is not gone round: what stands behind another piece. -/
def pieceD (P : Program) (G : Gam) (L : Lam) (c : Code) (p : List Bool) {α ρ : Type} (H : Head α) (T : Tail ρ) (x : α) : Option ρ := E P G L c p (H.st x) (fun ex t => T.d ρ ex t some)

theorem pieceD_ok {P : Program} {G : Gam} {L : Lam} {body : Code} (hG : GamOk P G) (hL : LamOk P body L) (hm : P.follows .mixedOrders = true) {c : Code} {p : List Bool} (hp : codeAt body p = some c) {α ρ : Type} {H : Head α} {T : Tail ρ}
    (hT : ∀ y v, (T.out y).1 ≠ .panic v) {x : α} {y : ρ} (h : pieceD P G L c p H T x = some y) : CodeOk P c (H.st x) (T.out y).1 (T.out y).2 := by
  obtain ⟨ex, s1, h1, h2⟩ := E_ok hG hL hm c hp h
  obtain ⟨y', e1, e2, e3⟩ := T.ok _ _ _ _ _ h1
  simp only [Option.some.injEq] at e1; subst e1
  exact codeOk_weak (hT y') e2 e3 h2

/-! ### What is known of pieces, by their places -/
structure Piece where
  at_ : List Bool
  α : Type
  ρ : Type
  H : Head α
  T : Tail ρ
  l : α → Option ρ

def pieceK (x : Piece) {β : Type} (s : St) (K : AEx → St → Option β) : Option β := x.H.k β s fun a => (x.l a).bind fun y => x.T.k β y K

def lamOf : List Piece → Lam
  | [] => noLam
  | x :: l => ⟨fun p => bif p == x.at_ then true else (lamOf l).has p, fun β p s K => bif p == x.at_ then pieceK x s K else (lamOf l).k β p s K⟩

def PieceOk (P : Program) (body : Code) (x : Piece) : Prop := ∀ c, codeAt body x.at_ = some c → ∀ a y, x.l a = some y → CodeOk P c (x.H.st a) (x.T.out y).1 (x.T.out y).2

theorem lamOf_nil (P : Program) (body : Code) : LamOk P body (lamOf []) := noLam_ok P body

theorem lamOf_cons {P : Program} {body : Code} {x : Piece} {l : List Piece} (hx : PieceOk P body x) (hl : LamOk P body (lamOf l)) : LamOk P body (lamOf (x :: l)) := by
  intro p c hp β s K r h
  simp only [lamOf] at h
  cases he : (p == x.at_) with
  | true =>
    rw [he, cond_true] at h
    have e := eq_of_beq he
    subst e
    obtain ⟨a, h, h1⟩ := x.H.ok _ _ _ _ h
    obtain ⟨y, h2, h3⟩ := Option.bind_eq_some_iff.1 h
    rw [x.T.keq] at h3
    exact ⟨_, _, h3, (hx c hp a y h2).weak h1⟩
  | false => rw [he, cond_false] at h; exact hl p c hp β s K r h

def loopBody (body : Code) (p : List Bool) : Code := match codeAt body p with
  | some (.loop c) => c
  | _ => .skip

def codeOf (body : Code) (p : List Bool) : Code := match codeAt body p with
  | some c => c
  | _ => .skip

theorem piece_loop {P : Program} {G : Gam} {L : Lam} {body : Code} (hG : GamOk P G) (hL : LamOk P body L) (hm : P.follows .mixedOrders = true) {p : List Bool} (hp : codeAt body p = some (.loop (loopBody body p))) {α ρ : Type} {H : Head α} {T : Tail ρ}
    (hT : ∀ y v, (T.out y).1 ≠ .panic v) (hTn : ∀ y, (T.out y).1 ≠ .normal) {l : Nat → α → Option ρ} (h0 : ∀ x, l 0 x = none)
    (h1 : ∀ n x, E P G L (loopBody body p) (false :: p) (H.st x) (contD H T (l n) some) = l (n + 1) x) (k : Nat) : PieceOk P body ⟨p, α, ρ, H, T, l k⟩ := by
  intro c hc a y h
  have e : c = .loop (loopBody body p) := by rw [hp] at hc; exact (Option.some.inj hc).symm
  subst e
  have h' : l k a = some y := h
  rw [← loopD_eq (H := H) (T := T) h0 h1 k] at h'
  exact loopD_ok hG hL hm hp hT hTn k h'

theorem piece_code {P : Program} {G : Gam} {L : Lam} {body : Code} (hG : GamOk P G) (hL : LamOk P body L) (hm : P.follows .mixedOrders = true) {p : List Bool} (hp : codeAt body p = some (codeOf body p)) {α ρ : Type} {H : Head α} {T : Tail ρ}
    (hT : ∀ y v, (T.out y).1 ≠ .panic v) {l : α → Option ρ} (h1 : ∀ x, E P G L (codeOf body p) p (H.st x) (fun ex t => T.d ρ ex t some) = l x) : PieceOk P body ⟨p, α, ρ, H, T, l⟩ := by
  intro c hc a y h
  have e : c = codeOf body p := by rw [hp] at hc; exact (Option.some.inj hc).symm
  subst e
  exact pieceD_ok hG hL hm hp hT ((h1 a).trans h)
/-! ### Reading off a state -/
def ptrO (b off : Nat) (v : AV) : Option Unit := match v with
  | .ptr c o => bif c == b && o == off then some () else none
  | _ => none
def slO (b off len sz : Nat) (v : AV) : Option Unit := match v with
  | .sl c o n z => bif (c == b && o == off) && (n == len && z == sz) then some () else none
  | _ => none
def aggO (n : Nat) (v : AV) : Option (List AV) := match v with
  | .agg l => bif l.length == n then some l else none
  | _ => none
def tupO (n : Nat) (v : AV) : Option (List AV) := match v with
  | .tup l => bif l.length == n then some l else none
  | _ => none
def fnO (f n : Nat) (v : AV) : Option (List AV) := match v with
  | .fn g l => bif g == f && l.length == n then some l else none
  | _ => none
def ifaceO (t : Nat) (v : AV) : Option AV := match v with
  | .iface u x => bif u == t then some x else none
  | _ => none
def cellO (n : Nat) (v : AV) : Option (List AV) := match v with
  | .cell l => bif l.length == n then some l else none
  | _ => none
def nilO (k : Nat) (v : AV) : Option Unit := match v with
  | .val (.pointer none) => bif k == 0 then some () else none
  | .val (.slice none 0 0) => bif k == 1 then some () else none
  | .val .nilIface => bif k == 2 then some () else none
  | .val .nilFunc => bif k == 3 then some () else none
  | .val (.map none) => bif k == 4 then some () else none
  | _ => none
def nilV : Nat → Value
  | 0 => .pointer none
  | 1 => .slice none 0 0
  | 2 => .nilIface
  | 3 => .nilFunc
  | _ => .map none
def rowO (t : TypeId) (cl : Bool) (n : Nat) (x : Blk) : Option (List AV) := match x with
  | .row cs u c => bif (u == t && c == cl) && cs.length == n then some cs else none
  | _ => none

theorem ptrO_eq {b off : Nat} {v : AV} {x : Unit} (h : ptrO b off v = some x) : v = .ptr b off := by
  unfold ptrO at h
  split at h
  · rename_i c o
    cases hc : (c == b && o == off) with
    | false => rw [hc] at h; cases h
    | true => simp only [Bool.and_eq_true, beq_iff_eq] at hc; rw [hc.1, hc.2]
  · cases h
theorem slO_eq {b off len sz : Nat} {v : AV} {x : Unit} (h : slO b off len sz v = some x) : v = .sl b off len sz := by
  unfold slO at h
  split at h
  · rename_i c o n z
    cases hc : ((c == b && o == off) && (n == len && z == sz)) with
    | false => rw [hc] at h; cases h
    | true => simp only [Bool.and_eq_true, beq_iff_eq] at hc; rw [hc.1.1, hc.1.2, hc.2.1, hc.2.2]
  · cases h
theorem nilO_eq {k : Nat} {v : AV} {x : Unit} (h : nilO k v = some x) : v = .val (nilV k) := by
  unfold nilO at h
  split at h <;> first
    | cases h; done
    | (rename_i hk; skip)
    | skip
  all_goals first
    | (cases hc : (k == 0) with
       | false => rw [hc] at h; cases h
       | true => have := beq_iff_eq.1 hc; subst this; rfl)
    | (cases hc : (k == 1) with
       | false => rw [hc] at h; cases h
       | true => have := beq_iff_eq.1 hc; subst this; rfl)
    | (cases hc : (k == 2) with
       | false => rw [hc] at h; cases h
       | true => have := beq_iff_eq.1 hc; subst this; rfl)
    | (cases hc : (k == 3) with
       | false => rw [hc] at h; cases h
       | true => have := beq_iff_eq.1 hc; subst this; rfl)
    | (cases hc : (k == 4) with
       | false => rw [hc] at h; cases h
       | true => have := beq_iff_eq.1 hc; subst this; rfl)

/-- A list of known length, place by place. -/
def GtRefs (l : List AV) : Nat → List AV → Prop
  | _, [] => True
  | i, u :: k => Refs (gt l i) u ∧ GtRefs l (i + 1) k
theorem GtRefs.nil {l : List AV} {i : Nat} : GtRefs l i [] := trivial
theorem GtRefs.cons {l : List AV} {i : Nat} {u : AV} {k : List AV} (h : Refs (gt l i) u) (t : GtRefs l (i + 1) k) : GtRefs l i (u :: k) := ⟨h, t⟩

theorem refsL_of_gt {l k : List AV} (hl : l.length = k.length) (h : GtRefs l 0 k) : RefsL l k := by
  suffices hs : ∀ (l k : List AV) (m : List AV) (i : Nat), l.length = k.length → (∀ j, gt m (i + j) = gt l j) → GtRefs m i k → RefsL l k from hs l k l 0 hl (fun j => by rw [Nat.zero_add]) h
  intro l
  induction l with
  | nil => intro k m i hl _ _; cases k with
    | nil => trivial
    | cons u k => simp at hl
  | cons v l ih => intro k m i hl hm h; cases k with
    | nil => simp at hl
    | cons u k =>
      refine ⟨?_, ih k m (i + 1) (by simpa using hl) (fun j => by have := hm (j + 1); rw [show i + 1 + j = i + (j + 1) by omega]; exact this) h.2⟩
      have h0 := hm 0
      rw [Nat.add_zero] at h0
      have h1 := h.1
      rw [h0] at h1; exact h1

theorem refs_agg {l k : List AV} (h : RefsL l k) : Refs (.agg l) (.agg k) := by
  intro C m c hv
  cases hv with
  | agg vs hl hr => have := h.cells (vs := vs) ⟨hl, hr⟩; exact .agg vs this.1 this.2
theorem refs_tup {l k : List AV} (h : RefsL l k) : Refs (.tup l) (.tup k) := by
  intro C m c hv
  cases hv with
  | tup vs hl hr => have := h.cells (vs := vs) ⟨hl, hr⟩; exact .tup vs this.1 this.2
theorem refs_fn {f : FuncId} {l k : List AV} (h : RefsL l k) : Refs (.fn f l) (.fn f k) := by
  intro C m c hv
  cases hv with
  | fn vs hl hr => have := h.cells (vs := vs) ⟨hl, hr⟩; exact .fn vs this.1 this.2
theorem refs_iface {t : TypeId} {v u : AV} (h : Refs v u) : Refs (.iface t v) (.iface t u) := by
  intro C m c hv
  cases hv with
  | iface hv => exact .iface (h _ _ _ hv)
theorem refs_cell {l k : List AV} (h : RefsL l k) : Refs (.cell l) (.cell k) := by
  intro C m c hv
  have hlen := h.length
  cases hv with
  | cell vs hB hn hl hc hr => have := h.cells (C := C) (m := false) (vs := vs) ⟨hl, hr⟩; exact .cell vs hB hn this.1 (fun j hj => hc j (by omega)) this.2

theorem aggO_refs {n : Nat} {v : AV} {l k : List AV} (h : aggO n v = some l) (hk : k.length = n) (hg : GtRefs l 0 k) : Refs v (.agg k) := by
  unfold aggO at h
  split at h
  · rename_i l'
    cases hc : (l'.length == n) with
    | false => rw [hc] at h; cases h
    | true => rw [hc, cond_true, Option.some.injEq] at h; subst h; exact refs_agg (refsL_of_gt (by rw [beq_iff_eq.1 hc, hk]) hg)
  · cases h
theorem tupO_refs {n : Nat} {v : AV} {l k : List AV} (h : tupO n v = some l) (hk : k.length = n) (hg : GtRefs l 0 k) : Refs v (.tup k) := by
  unfold tupO at h
  split at h
  · rename_i l'
    cases hc : (l'.length == n) with
    | false => rw [hc] at h; cases h
    | true => rw [hc, cond_true, Option.some.injEq] at h; subst h; exact refs_tup (refsL_of_gt (by rw [beq_iff_eq.1 hc, hk]) hg)
  · cases h
theorem cellO_refs {n : Nat} {v : AV} {l k : List AV} (h : cellO n v = some l) (hk : k.length = n) (hg : GtRefs l 0 k) : Refs v (.cell k) := by
  unfold cellO at h
  split at h
  · rename_i l'
    cases hc : (l'.length == n) with
    | false => rw [hc] at h; cases h
    | true => rw [hc, cond_true, Option.some.injEq] at h; subst h; exact refs_cell (refsL_of_gt (by rw [beq_iff_eq.1 hc, hk]) hg)
  · cases h
theorem fnO_refs {f n : Nat} {v : AV} {l k : List AV} (h : fnO f n v = some l) (hk : k.length = n) (hg : GtRefs l 0 k) : Refs v (.fn f k) := by
  unfold fnO at h
  split at h
  · rename_i g l'
    cases hc : (g == f && l'.length == n) with
    | false => rw [hc] at h; cases h
    | true =>
      rw [hc, cond_true, Option.some.injEq] at h
      simp only [Bool.and_eq_true, beq_iff_eq] at hc
      subst h
      rw [hc.1]; exact refs_fn (refsL_of_gt (by rw [hc.2, hk]) hg)
  · cases h
theorem ifaceO_refs {t : Nat} {v x u : AV} (h : ifaceO t v = some x) (hu : Refs x u) : Refs v (.iface t u) := by
  unfold ifaceO at h
  split at h
  · rename_i t' x'
    cases hc : (t' == t) with
    | false => rw [hc] at h; cases h
    | true => rw [hc, cond_true, Option.some.injEq] at h; subst h; rw [beq_iff_eq.1 hc]; exact refs_iface hu
  · cases h
theorem rowO_refs {t : TypeId} {cl : Bool} {n : Nat} {x : Blk} {l k : List AV} (h : rowO t cl n x = some l) (hk : k.length = n) (hg : GtRefs l 0 k) : RefsB x (.row k t cl) := by
  unfold rowO at h
  split at h
  · rename_i cs u c
    cases hc : ((u == t && c == cl) && cs.length == n) with
    | false => rw [hc] at h; cases h
    | true =>
      rw [hc, cond_true, Option.some.injEq] at h
      simp only [Bool.and_eq_true, beq_iff_eq] at hc
      subst h
      exact ⟨cs, k, t, cl, by rw [hc.1.1, hc.1.2], rfl, refsL_of_gt (by rw [hc.2, hk]) hg⟩
  · cases h

def sizedO (n nb : Nat) (s : St) : Option Unit := bif s.tm.length == n && decide (nb ≤ s.hp.length) then some () else none
theorem sizedO_ok {n nb : Nat} {s : St} {x : Unit} (h : sizedO n nb s = some x) : s.tm.length = n ∧ nb ≤ s.hp.length := by
  unfold sizedO at h
  cases hc : (s.tm.length == n && decide (nb ≤ s.hp.length)) with
  | false => rw [hc] at h; cases h
  | true => simpa using hc

theorem LiveOk.nil {s : St} : LiveOk s [] := trivial
theorem LiveOk.cons {s : St} {i : Nat} {v : AV} {l : List (Nat × AV)} (h : Refs (gt s.tm i) v) (t : LiveOk s l) : LiveOk s ((i, v) :: l) := ⟨h, t⟩
theorem BlksOk.nil {s : St} : BlksOk s [] := trivial
theorem BlksOk.cons {s : St} {i : Nat} {v : Blk} {l : List (Nat × Blk)} (h : RefsB (gb s.hp i) v) (t : BlksOk s l) : BlksOk s ((i, v) :: l) := ⟨h, t⟩
end Go.Va
