/-
  The state of an abstract run, and when a frame and a world are in it.
  Conditions: none.
-/
import Derived.Test.YtjlbmdcljikojaaVaRel
import Derived.Laws.Rows
import Derived.Laws.Tables
import Derived.Laws.Cells
import Derived.Laws.NewBlocks
import Derived.Laws.CopyRow
set_option linter.unusedVariables false
set_option autoImplicit false
namespace Go.Va

/-- A block that the run owns: its cells, the type of its elements, and whether no address of an owned block occurs in it. -/
inductive Blk where
  | free
  | gone
  | row (cs : List AV) (t : TypeId) (cl : Bool)

def Blk.live : Blk → Bool
  | .row .. => true
  | _ => false

def gb : List Blk → Nat → Blk
  | [], _ => .gone
  | v :: _, 0 => v
  | _ :: l, n + 1 => gb l n

def sb : List Blk → Nat → Blk → List Blk
  | [], _, _ => []
  | _ :: l, 0, u => u :: l
  | v :: l, n + 1, u => v :: sb l n u

theorem gb_len' {l : List Blk} {n : Nat} (h : gb l n ≠ .gone) : n < l.length := by
  induction l generalizing n with
  | nil => exact absurd rfl h
  | cons v l ih => cases n with
    | zero => simp
    | succ n => simp only [List.length_cons]; have := ih h; omega

theorem gb_len {l : List Blk} {n : Nat} (h : (gb l n).live = true) : n < l.length := gb_len' (fun e => by rw [e] at h; cases h)

theorem gb_append (l k : List Blk) (n : Nat) (h : n < l.length) : gb (l ++ k) n = gb l n := by
  induction l generalizing n with
  | nil => simp at h
  | cons v l ih => cases n with
    | zero => rfl
    | succ n => exact ih n (by simpa using h)

theorem gb_append_new (l k : List Blk) (n : Nat) : gb (l ++ k) (l.length + n) = gb k n := by
  induction l with
  | nil => simp
  | cons v l ih => simp only [List.cons_append, List.length_cons, Nat.add_right_comm]; exact ih

theorem sb_length (l : List Blk) (n : Nat) (u : Blk) : (sb l n u).length = l.length := by
  induction l generalizing n with
  | nil => rfl
  | cons v l ih => cases n with
    | zero => rfl
    | succ n => simp only [sb, List.length_cons, ih]

theorem gb_sb_same (l : List Blk) (n : Nat) (u : Blk) (h : n < l.length) : gb (sb l n u) n = u := by
  induction l generalizing n with
  | nil => simp at h
  | cons v l ih => cases n with
    | zero => rfl
    | succ n => exact ih n (by simpa using h)

theorem gb_sb_ne (l : List Blk) (n k : Nat) (u : Blk) (h : k ≠ n) : gb (sb l n u) k = gb l k := by
  induction l generalizing n k with
  | nil => rfl
  | cons v l ih => cases n with
    | zero => cases k with
      | zero => exact absurd rfl h
      | succ k => rfl
    | succ n => cases k with
      | zero => rfl
      | succ k => exact ih n k (by omega)

theorem gt_len {l : List AV} {n : Nat} (h : l.length ≤ n) : gt l n = .junk := by rw [gt_eq]; simp [List.getD, List.getElem?_eq_none h]

theorem st_length (l : List AV) (n : Nat) (u : AV) : (st l n u).length = l.length := by rw [st_eq]; simp

theorem gt_st (l : List AV) (n k : Nat) (u : AV) : gt (st l n u) k = if k = n ∧ n < l.length then u else gt l k := by
  simp only [gt_eq, st_eq, List.getD_eq_getElem?_getD, List.getElem?_set]
  by_cases h : n = k
  · subst h
    by_cases h2 : n < l.length <;> simp [h2]
  · have : ¬ k = n := fun e => h e.symm
    simp [h, this]

structure St where
  tm : List AV
  hp : List Blk

/-- Which blocks of the world in which it began the run may write, and which are banned. -/
structure Env where
  may : Nat → Prop
  ban : Nat → Prop

/-- What the run keeps of the world in which it began: everything but the blocks that it was given to write. -/
structure Kept (w0 : World) (O : Env) (C : Cx) : Prop where
  os : C.w.os = w0.os
  tape : C.w.tape = w0.tape
  output : C.w.output = w0.output
  size : w0.heap.size ≤ C.w.heap.size
  block : ∀ B, B < w0.heap.size → ¬ O.may B → C.w.heap[B]? = w0.heap[B]?
  ban : ∀ B, O.ban B → C.own B

structure HRel (C : Cx) (hp : List Blk) : Prop where
  al : ∀ b, C.al b → b < hp.length
  free : ∀ b, gb hp b = .free → ¬ C.al b
  row : ∀ b cs t cl, gb hp b = .row cs t cl → C.al b ∧ C.own (C.mu b) ∧ C.ln b = cs.length ∧ ∃ cur : Array Value, C.w.heap[C.mu b]? = some (.cells cur t (0, 0)) ∧ cur.size = C.ka b ∧ cs.length ≤ C.ka b ∧
    ∀ j, j < cs.length → VRel C (!cl) (gt cs j) (cur.getD j undef)
  inj : ∀ b b', (gb hp b).live = true → (gb hp b').live = true → C.mu b = C.mu b' → b = b'
  ownlt : ∀ B, C.own B → B < C.w.heap.size

structure Rep (w0 : World) (O : Env) (C : Cx) (s : St) (a : Act) : Prop where
  defers : a.defers = []
  size : a.tmps.size = s.tm.length
  tm : ∀ t, VRel C true (gt s.tm t) (a.tmps.getD t undef)
  hp : HRel C s.hp
  kept : Kept w0 O C
  mine : ∀ b, (gb s.hp b).live = true → O.may (C.mu b) ∨ w0.heap.size ≤ C.mu b

def Cx.drew (C : Cx) : Cx := { C with w := C.w.drew }
def Cx.at (C : Cx) (w : World) : Cx := { C with w := w }

/-- A world with the same heap and the same doors. -/
structure Alike (w w' : World) : Prop where
  heap : w'.heap = w.heap
  os : w'.os = w.os
  tape : w'.tape = w.tape
  output : w'.output = w.output

theorem Alike.le {C : Cx} {w' : World} (h : Alike C.w w') : C.Le anyb (C.at w') := ⟨by simp [Cx.at, h.heap], fun B _ _ => by simp [Cx.at, h.heap], fun _ _ h => h, fun _ h => h, fun _ _ _ => ⟨rfl, rfl, Nat.le_refl _⟩⟩

theorem HRel.alike {C : Cx} {hp : List Blk} {w' : World} (hr : HRel C hp) (h : Alike C.w w') : HRel (C.at w') hp where
  al := hr.al
  free := hr.free
  row b cs t cl hb := by
    obtain ⟨ha, h1, hln, cur, h2, h3, h4, h5⟩ := hr.row b cs t cl hb
    exact ⟨ha, h1, hln, cur, by simpa [Cx.at, h.heap] using h2, h3, h4, fun j hj => (h5 j hj).le h.le⟩
  inj := hr.inj
  ownlt B hB := by simpa [Cx.at, h.heap] using hr.ownlt B hB

theorem Kept.alike {w0 : World} {O : Env} {C : Cx} {w' : World} (hk : Kept w0 O C) (h : Alike C.w w') : Kept w0 O (C.at w') :=
  ⟨h.os.trans hk.os, h.tape.trans hk.tape, h.output.trans hk.output, by simpa [Cx.at, h.heap] using hk.size, fun B hB hO => by simpa [Cx.at, h.heap] using hk.block B hB hO, hk.ban⟩

theorem Rep.alike {w0 : World} {O : Env} {C : Cx} {s : St} {a : Act} {w' : World} (hr : Rep w0 O C s a) (h : Alike C.w w') : Rep w0 O (C.at w') s a :=
  ⟨hr.defers, hr.size, fun t => (hr.tm t).le h.le, hr.hp.alike h, hr.kept.alike h, hr.mine⟩

def putA (tm : List AV) : Option Tmp → AV → List AV
  | some d, v => st tm d v
  | none, _ => tm

theorem putA_length (tm : List AV) (d : Option Tmp) (v : AV) : (putA tm d v).length = tm.length := by cases d <;> simp [putA, st_length]

theorem getD_put (a : Act) (d : Option Tmp) (c : Value) (t : Tmp) : (a.put d c).tmps.getD t undef = if d = some t ∧ t < a.tmps.size then c else a.tmps.getD t undef := by
  cases d with
  | none => simp [Act.put]
  | some d =>
    simp only [Act.put, Array.getD_eq_getD_getElem?, Array.getElem?_setIfInBounds, Option.some.injEq]
    by_cases h : d = t
    · subst h
      by_cases h2 : d < a.tmps.size <;> simp [h2]
    · simp [h]

theorem gt_put (tm : List AV) (d : Option Tmp) (v : AV) (t : Tmp) : gt (putA tm d v) t = if d = some t ∧ t < tm.length then v else gt tm t := by
  cases d with
  | none => simp [putA]
  | some d =>
    simp only [putA, gt_st, Option.some.injEq]
    by_cases h : d = t
    · subst h; simp
    · have : ¬ t = d := fun e => h e.symm
      simp [h, this]

/-- The value goes into its temporary. -/
theorem Rep.put {w0 : World} {O : Env} {C : Cx} {s : St} {a : Act} (hr : Rep w0 O C s a) (d : Option Tmp) {v : AV} {c : Value} (hv : VRel C true v c) :
    Rep w0 O C ⟨putA s.tm d v, s.hp⟩ (a.put d c) where
  defers := by cases d <;> exact hr.defers
  size := by cases d <;> simp [Act.put, putA, st_length, hr.size]
  tm t := by
    rw [getD_put, gt_put, hr.size]
    split
    · exact hv
    · exact hr.tm t
  hp := hr.hp
  kept := hr.kept
  mine := hr.mine

/-- The memory behind one more block, which gets the number `p`. -/
def Cx.alloc (C : Cx) (p n : Nat) (ob : Obj) : Cx where
  own B := C.own B ∨ B = C.w.heap.size
  al b := C.al b ∨ b = p
  mu b := if b = p then C.w.heap.size else C.mu b
  ka b := if b = p then n else C.ka b
  ln b := if b = p then n else C.ln b
  w := C.w.alloc ob

theorem Cx.alloc_le (C : Cx) (p n : Nat) (ob : Obj) (hp : ¬ C.al p) : C.Le anyb (C.alloc p n ob) where
  size := by simp [Cx.alloc]
  block B hB _ := by simp only [Cx.alloc]; exact heap_alloc_old _ _ hB
  own B hB h := h.resolve_right (by omega)
  al b h := .inl h
  mu b hb _ := by
    have : b ≠ p := fun e => hp (e ▸ hb)
    simp only [Cx.alloc]; rw [if_neg this, if_neg this, if_neg this]; exact ⟨rfl, rfl, Nat.le_refl _⟩

theorem Kept.alloc {w0 : World} {O : Env} {C : Cx} (hk : Kept w0 O C) (p n : Nat) (ob : Obj) : Kept w0 O (C.alloc p n ob) where
  os := hk.os
  tape := hk.tape
  output := hk.output
  size := by simp only [Cx.alloc]; have := hk.size; simp; omega
  block B hB hO := by simp only [Cx.alloc]; rw [heap_alloc_old _ _ (Nat.lt_of_lt_of_le hB hk.size)]; exact hk.block B hB hO
  ban B hB := .inl (hk.ban B hB)

theorem HRel.lt {C : Cx} {hp : List Blk} (hr : HRel C hp) {b : Nat} (h : (gb hp b).live = true) : C.mu b < C.w.heap.size := by
  cases hg : gb hp b with
  | gone => rw [hg] at h; cases h
  | free => rw [hg] at h; cases h
  | row c1 t1 l1 => obtain ⟨_, _, _, cur, h2, _⟩ := hr.row b c1 t1 l1 hg; exact (Array.getElem?_eq_some_iff.1 h2).1

theorem HRel.alloc {C : Cx} {hp : List Blk} (hr : HRel C hp) (p : Nat) (hf : gb hp p = .free) (cs : List AV) (cells : Array Value) (t : TypeId) (cl : Bool) (hl : cells.size = cs.length)
    (hv : ∀ j, j < cs.length → VRel C (!cl) (gt cs j) (cells.getD j undef)) : HRel (C.alloc p cells.size (.cells cells t (0, 0))) (sb hp p (.row cs t cl)) := by
  have hpl : p < hp.length := gb_len' (fun e => by rw [e] at hf; cases hf)
  have hle := C.alloc_le p cells.size (.cells cells t (0, 0)) (hr.free p hf)
  refine ⟨fun b hb => ?_, fun b hb => ?_, fun b cs' t' cl' hb => ?_, fun b b' hb hb' he => ?_, fun B hB => ?_⟩
  · rw [sb_length]
    rcases hb with hb | hb
    · exact hr.al b hb
    · exact hb ▸ hpl
  · have hne : b ≠ p := fun e => by subst e; rw [gb_sb_same _ _ _ hpl] at hb; cases hb
    rw [gb_sb_ne _ _ _ _ hne] at hb
    rintro (h | h)
    · exact hr.free b hb h
    · exact hne h
  · by_cases e : b = p
    · subst e
      rw [gb_sb_same _ _ _ hpl] at hb
      simp only [Blk.row.injEq] at hb
      obtain ⟨rfl, rfl, rfl⟩ := hb
      refine ⟨.inr rfl, .inr (by simp [Cx.alloc]), by simp [Cx.alloc, hl], cells, ?_, by simp [Cx.alloc], by simp [Cx.alloc, hl], fun j hj => (hv j hj).le hle⟩
      simp only [Cx.alloc, if_true]; exact heap_alloc_new _ _
    · rw [gb_sb_ne _ _ _ _ e] at hb
      obtain ⟨ha, h1, hln, cur, h2, h3, h4, h5⟩ := hr.row b cs' t' cl' hb
      refine ⟨.inl ha, ?_, ?_, cur, ?_, ?_, ?_, fun j hj => (h5 j hj).le hle⟩
      · simp only [Cx.alloc, if_neg e]; exact .inl h1
      · simp only [Cx.alloc, if_neg e]; exact hln
      · simp only [Cx.alloc, if_neg e]; rw [heap_alloc_old _ _ (Array.getElem?_eq_some_iff.1 h2).1]; exact h2
      · simp only [Cx.alloc, if_neg e]; exact h3
      · simp only [Cx.alloc, if_neg e]; exact h4
  · by_cases e : b = p <;> by_cases e' : b' = p
    · omega
    · rw [gb_sb_ne _ _ _ _ e'] at hb'
      have := hr.lt hb'
      simp only [Cx.alloc, if_pos e, if_neg e'] at he; omega
    · rw [gb_sb_ne _ _ _ _ e] at hb
      have := hr.lt hb
      simp only [Cx.alloc, if_neg e, if_pos e'] at he; omega
    · rw [gb_sb_ne _ _ _ _ e] at hb
      rw [gb_sb_ne _ _ _ _ e'] at hb'
      simp only [Cx.alloc, if_neg e, if_neg e'] at he
      exact hr.inj b b' hb hb' he
  · simp only [Cx.alloc] at hB ⊢
    have : (C.w.alloc (.cells cells t (0, 0))).heap.size = C.w.heap.size + 1 := by simp
    rcases hB with hB | hB
    · have := hr.ownlt B hB; omega
    · omega

/-- One more block: the run's own. -/
theorem Rep.alloc {w0 : World} {O : Env} {C : Cx} {s : St} {a : Act} (hr : Rep w0 O C s a) (p : Nat) (hf : gb s.hp p = .free) (cs : List AV) (cells : Array Value) (t : TypeId) (cl : Bool) (hl : cells.size = cs.length)
    (hv : ∀ j, j < cs.length → VRel C (!cl) (gt cs j) (cells.getD j undef)) :
    Rep w0 O (C.alloc p cells.size (.cells cells t (0, 0))) ⟨s.tm, sb s.hp p (.row cs t cl)⟩ a :=
  ⟨hr.defers, hr.size, fun t' => (hr.tm t').le (C.alloc_le _ _ _ (hr.hp.free p hf)), hr.hp.alloc p hf cs cells t cl hl hv, hr.kept.alloc _ _ _, fun b hb => by
    by_cases e : b = p
    · refine .inr ?_
      simp only [Cx.alloc, if_pos e]; exact hr.kept.size
    · rw [gb_sb_ne _ _ _ _ e] at hb
      simp only [Cx.alloc, if_neg e]; exact hr.mine b hb⟩

/-- The memory behind a write into an owned block. -/
def Cx.setRow (C : Cx) (b : Nat) (cur : Array Value) : Cx := { C with w := C.w.setRow (C.mu b) cur }

theorem Cx.setRow_le (C : Cx) (b : Nat) (cur : Array Value) (ho : C.own (C.mu b)) : C.Le anyb (C.setRow b cur) where
  size := by simp [Cx.setRow]
  block B hB hn := by simp only [Cx.setRow]; exact setRow_other _ _ _ _ (fun e => hn (e ▸ ho))
  own B _ h := h
  al b h := h
  mu b _ _ := ⟨rfl, rfl, Nat.le_refl _⟩

theorem Rep.setRow {w0 : World} {O : Env} {C : Cx} {s : St} {a : Act} (hr : Rep w0 O C s a) (b : Nat) (cs0 : List AV) (t : TypeId) (cl0 cl : Bool) (hb : gb s.hp b = .row cs0 t cl0) (cs : List AV) (cur : Array Value)
    (hl : cur.size = C.ka b) (hcs : cs.length = cs0.length) (hv : ∀ j, j < cs.length → VRel C (!cl) (gt cs j) (cur.getD j undef)) :
    Rep w0 O (C.setRow b cur) ⟨s.tm, sb s.hp b (.row cs t cl)⟩ a := by
  obtain ⟨hal, ho, hln, cur0, hcur0, -, hle0, -⟩ := hr.hp.row b cs0 t cl0 hb
  have hle := C.setRow_le b cur ho
  have hlive : (gb s.hp b).live = true := by rw [hb]; rfl
  refine ⟨hr.defers, hr.size, fun t' => (hr.tm t').le hle, ⟨fun x hx => by rw [sb_length]; exact hr.hp.al x hx, ?_, ?_, ?_, fun B hB => by simpa [Cx.setRow] using hr.hp.ownlt B hB⟩, ⟨hr.kept.os, hr.kept.tape, hr.kept.output, by simpa [Cx.setRow] using hr.kept.size, ?_, hr.kept.ban⟩, ?_⟩
  · intro x hx
    have hne : x ≠ b := fun e => by subst e; rw [gb_sb_same _ _ _ (gb_len hlive)] at hx; cases hx
    rw [gb_sb_ne _ _ _ _ hne] at hx
    exact hr.hp.free x hx
  · intro b' cs' t' cl' hb'
    by_cases e : b' = b
    · subst e
      rw [gb_sb_same _ _ _ (gb_len hlive)] at hb'
      simp only [Blk.row.injEq] at hb'
      obtain ⟨rfl, rfl, rfl⟩ := hb'
      exact ⟨hal, ho, hln.trans hcs.symm, cur, setRow_heap _ _ _ _ _ _ hcur0, hl, by rw [hcs]; exact hle0, fun j hj => (hv j hj).le hle⟩
    · rw [gb_sb_ne _ _ _ _ e] at hb'
      obtain ⟨ha1, h1, hln1, c1, h2, h3, h4, h5⟩ := hr.hp.row b' cs' t' cl' hb'
      refine ⟨ha1, h1, hln1, c1, ?_, h3, h4, fun j hj => (h5 j hj).le hle⟩
      have hne : C.mu b' ≠ C.mu b := fun e' => e (hr.hp.inj b' b (by rw [hb']; rfl) hlive e')
      simp only [Cx.setRow]
      rw [setRow_other _ _ _ _ hne]; exact h2
  · intro b1 b2 h1 h2 he
    have lv : ∀ x, (gb (sb s.hp b (.row cs t cl)) x).live = true → (gb s.hp x).live = true := fun x hx => by
      by_cases e : x = b
      · subst e; exact hlive
      · rwa [gb_sb_ne _ _ _ _ e] at hx
    exact hr.hp.inj b1 b2 (lv _ h1) (lv _ h2) he
  · intro B hB hO
    have hne : B ≠ C.mu b := fun e => by
      subst e
      rcases hr.mine _ hlive with h | h
      · exact hO h
      · omega
    simp only [Cx.setRow]
    rw [setRow_other _ _ _ _ hne]; exact hr.kept.block B hB hO
  · intro x hx
    have : (gb s.hp x).live = true := by
      by_cases e : x = b
      · subst e; exact hlive
      · rwa [gb_sb_ne _ _ _ _ e] at hx
    exact hr.mine x this
end Go.Va
