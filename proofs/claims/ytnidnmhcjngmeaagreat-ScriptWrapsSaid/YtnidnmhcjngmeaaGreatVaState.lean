/-
  The state of an abstract run, and when a frame and a world are in it.
  Conditions: none.
-/
import Derived.Test.YtnidnmhcjngmeaaGreatVaRel
import Derived.Laws.Rows
import Derived.Laws.Tables
import Derived.Laws.Cells
import Derived.Laws.NewBlocks
import Derived.Laws.CopyRow
set_option linter.unusedVariables false
set_option autoImplicit false
namespace Go.Va

/-- The one cell of a plain kind. -/
def CT.v1 : (c : CT) → c.D → Value
  | .int k, x => .int k x
  | .bool, x => .bool x
  | .str, x => .string x
  | _, _ => undef

/-- A block that is no row: the place in a string that is gone through; a map, its entries in their order. -/
inductive OB where
  | it (s : ByteArray) (pos : Nat)
  | mp (k v : CT) (l : List (k.D × v.D))

def OB.holds : OB → Obj → Prop
  | .it s pos, x => x = .stringIter s pos
  | .mp k v l, x => ∃ es clock, x = .map es clock ∧ es.toList.map (fun e => (e.key, e.val)) = l.map (fun p => (k.v1 p.1, v.v1 p.2))

theorem OB.nocells {o : OB} {c : Array Value} {t : TypeId} {fr : Nat × Nat} (h : o.holds (.cells c t fr)) : False := by
  cases o with
  | it s pos => exact absurd (show Obj.cells c t fr = .stringIter s pos from h) (by intro e; cases e)
  | mp k v l => obtain ⟨es, clock, e, _⟩ := h; cases e

/-- A block that the run owns: its cells, the type of its elements, and whether no address of an owned block occurs in it. -/
inductive Blk where
  | free
  | gone
  | row (cs : List AV) (t : TypeId) (cl : Bool)
  | rt (c : CT) (l : List c.D) (t : TypeId)
  | ob (o : OB)

def Blk.live : Blk → Bool
  | .row .. => true
  | .rt .. => true
  | .ob .. => true
  | _ => false

def gb : List Blk → Nat → Blk
  | [], _ => .gone
  | v :: _, 0 => v
  | _ :: l, n + 1 => gb l n

def sb : List Blk → Nat → Blk → List Blk
  | [], _, _ => []
  | _ :: l, 0, u => u :: l
  | v :: l, n + 1, u => v :: sb l n u

theorem gb_len' {l : List Blk} {n : Nat} (h : gb l n ≠ .gone) : n < l.length := by
  induction l generalizing n with
  | nil => exact absurd rfl h
  | cons v l ih => cases n with
    | zero => simp
    | succ n => simp only [List.length_cons]; have := ih h; omega

theorem gb_len {l : List Blk} {n : Nat} (h : (gb l n).live = true) : n < l.length := gb_len' (fun e => by rw [e] at h; cases h)

theorem gb_append (l k : List Blk) (n : Nat) (h : n < l.length) : gb (l ++ k) n = gb l n := by
  induction l generalizing n with
  | nil => simp at h
  | cons v l ih => cases n with
    | zero => rfl
    | succ n => exact ih n (by simpa using h)

theorem gb_append_new (l k : List Blk) (n : Nat) : gb (l ++ k) (l.length + n) = gb k n := by
  induction l with
  | nil => simp
  | cons v l ih => simp only [List.cons_append, List.length_cons, Nat.add_right_comm]; exact ih

theorem sb_length (l : List Blk) (n : Nat) (u : Blk) : (sb l n u).length = l.length := by
  induction l generalizing n with
  | nil => rfl
  | cons v l ih => cases n with
    | zero => rfl
    | succ n => simp only [sb, List.length_cons, ih]

theorem gb_sb_same (l : List Blk) (n : Nat) (u : Blk) (h : n < l.length) : gb (sb l n u) n = u := by
  induction l generalizing n with
  | nil => simp at h
  | cons v l ih => cases n with
    | zero => rfl
    | succ n => exact ih n (by simpa using h)

theorem gb_sb_ne (l : List Blk) (n k : Nat) (u : Blk) (h : k ≠ n) : gb (sb l n u) k = gb l k := by
  induction l generalizing n k with
  | nil => rfl
  | cons v l ih => cases n with
    | zero => cases k with
      | zero => exact absurd rfl h
      | succ k => rfl
    | succ n => cases k with
      | zero => rfl
      | succ k => exact ih n k (by omega)

theorem gt_len {l : List AV} {n : Nat} (h : l.length ≤ n) : gt l n = .junk := by rw [gt_eq]; simp [List.getD, List.getElem?_eq_none h]

theorem st_length (l : List AV) (n : Nat) (u : AV) : (st l n u).length = l.length := by rw [st_eq]; simp

theorem gt_st (l : List AV) (n k : Nat) (u : AV) : gt (st l n u) k = if k = n ∧ n < l.length then u else gt l k := by
  simp only [gt_eq, st_eq, List.getD_eq_getElem?_getD, List.getElem?_set]
  by_cases h : n = k
  · subst h
    by_cases h2 : n < l.length <;> simp [h2]
  · have : ¬ k = n := fun e => h e.symm
    simp [h, this]

structure St where
  tm : List AV
  hp : List Blk

/-- Which blocks of the world in which it began the run may write, and which are banned. -/
structure Env where
  may : Nat → Prop
  ban : Nat → Prop
  pin : Nat → Nat → Prop
  dfs : List Deferred

/-- No block from n on is frozen. -/
def Unf (n : Nat) (w : World) : Prop := ∀ B, n ≤ B → ∀ cur t fr, w.heap[B]? = some (.cells cur t fr) → fr = (0, 0)

/-- What the run keeps of the world in which it began: everything but the blocks that it was given to write. -/
structure Kept (w0 : World) (O : Env) (C : Cx) : Prop where
  os : C.w.os = w0.os
  tape : C.w.tape = w0.tape
  output : C.w.output = w0.output
  size : w0.heap.size ≤ C.w.heap.size
  block : ∀ B, B < w0.heap.size → ¬ O.may B → C.w.heap[B]? = w0.heap[B]?
  ban : ∀ B, O.ban B → C.own B
  banlt : ∀ B, O.ban B → B < w0.heap.size
  banmay : ∀ B, O.ban B → ¬ O.may B
  pin : C.pin = O.pin
  frz : ∀ B, w0.heap.size ≤ B ∨ O.may B → ∀ cur t fr, C.w.heap[B]? = some (.cells cur t fr) → fr = (0, 0)

/-- A typed row in its block. -/
def RtOk (C : Cx) (c : CT) (l : List c.D) (t : TypeId) (b : Nat) : Prop :=
  C.own (C.mu b) ∧ ∃ cur : Array Value, C.w.heap[C.mu b]? = some (.cells cur t (0, 0)) ∧ cur.size = C.ka b ∧ l.length * c.sz ≤ C.ka b ∧
    ∀ j, j < l.length → ∀ i, i < c.sz → VRel C false (gt (c.enc (l.getD j c.df)) i) (cur.getD (j * c.sz + i) undef)

/-- An object in its block. -/
def ObOk (C : Cx) (o : OB) (b : Nat) : Prop := C.al b ∧ C.nl b = false ∧ C.own (C.mu b) ∧ ∃ x, C.w.heap[C.mu b]? = some x ∧ o.holds x

structure HRel (C : Cx) (hp : List Blk) : Prop where
  al : ∀ b, C.al b → b < hp.length
  free : ∀ b, gb hp b = .free → ¬ C.al b
  nnl : ∀ b cs t cl, gb hp b = .row cs t cl → C.nl b = false
  row : ∀ b cs t cl, gb hp b = .row cs t cl → C.al b ∧ C.own (C.mu b) ∧ C.ln b = cs.length ∧ ∃ cur : Array Value, C.w.heap[C.mu b]? = some (.cells cur t (0, 0)) ∧ cur.size = C.ka b ∧ cs.length ≤ C.ka b ∧
    ∀ j, j < cs.length → VRel C (!cl) (gt cs j) (cur.getD j undef)
  rt : ∀ b c l t, gb hp b = .rt c l t → C.al b ∧ C.ln b = l.length * c.sz ∧ ((C.nl b = true ∧ l = []) ∨ (C.nl b = false ∧ RtOk C c l t b))
  ob : ∀ b o, gb hp b = .ob o → ObOk C o b
  inj : ∀ b b', (gb hp b).live = true → (gb hp b').live = true → C.nl b = false → C.nl b' = false → C.mu b = C.mu b' → b = b'
  ownlt : ∀ B, C.own B → B < C.w.heap.size

/-- From one memory to another with the same numbers. -/
theorem HRel.move {C D : Cx} {hp : List Blk} (hr : HRel C hp) (hle : C.Le anyb D) (hal : ∀ b, D.al b → C.al b)
    (hown : ∀ B, C.own B → D.own B) (hheap : ∀ B, C.own B → D.w.heap[B]? = C.w.heap[B]?) (hlt : ∀ B, D.own B → B < D.w.heap.size) : HRel D hp where
  al b h := hr.al b (hal b h)
  free b h := fun h' => hr.free b h (hal b h')
  nnl b cs t cl h := by
    obtain ⟨ha, _⟩ := hr.row b cs t cl h
    exact (hle.mu b ha rfl).2.2.2.trans (hr.nnl b cs t cl h)
  row b cs t cl hb := by
    obtain ⟨ha, h1, hln, cur, h2, h3, h4, h5⟩ := hr.row b cs t cl hb
    obtain ⟨e1, e2, e3, e4⟩ := hle.mu b ha rfl
    exact ⟨hle.al b ha, by rw [e1]; exact hown _ h1, e3.trans hln, cur, by rw [e1, hheap _ h1]; exact h2, h3.trans e2.symm, by rw [e2]; exact h4, fun j hj => (h5 j hj).le hle⟩
  rt b c l t hb := by
    obtain ⟨ha, hln, h⟩ := hr.rt b c l t hb
    obtain ⟨e1, e2, e3, e4⟩ := hle.mu b ha rfl
    refine ⟨hle.al b ha, e3.trans hln, ?_⟩
    rcases h with ⟨h1, h2⟩ | ⟨h1, h2, cur, h3, h4, h5, h6⟩
    · exact .inl ⟨e4.trans h1, h2⟩
    · exact .inr ⟨e4.trans h1, by rw [e1]; exact hown _ h2, cur, by rw [e1, hheap _ h2]; exact h3, h4.trans e2.symm, by rw [e2]; exact h5, fun j hj i hi => (h6 j hj i hi).le hle⟩
  ob b o hb := by
    obtain ⟨ha, hn, ho, x, h1, h2⟩ := hr.ob b o hb
    obtain ⟨e1, e2, e3, e4⟩ := hle.mu b ha rfl
    exact ⟨hle.al b ha, e4.trans hn, by rw [e1]; exact hown _ ho, x, by rw [e1, hheap _ ho]; exact h1, h2⟩
  inj b b' hb hb' hn hn' he := by
    have al : ∀ x, (gb hp x).live = true → C.al x := fun x hx => by
      cases hg : gb hp x with
      | row cs t cl => exact (hr.row x cs t cl hg).1
      | rt c l t => exact (hr.rt x c l t hg).1
      | ob o => exact (hr.ob x o hg).1
      | _ => rw [hg] at hx; cases hx
    obtain ⟨e1, _, _, e4⟩ := hle.mu b (al b hb) rfl
    obtain ⟨e1', _, _, e4'⟩ := hle.mu b' (al b' hb') rfl
    exact hr.inj b b' hb hb' (e4.symm.trans hn) (e4'.symm.trans hn') (by rw [← e1, ← e1', he])
  ownlt := hlt

structure Rep (w0 : World) (O : Env) (C : Cx) (s : St) (a : Act) : Prop where
  defers : a.defers = O.dfs
  size : a.tmps.size = s.tm.length
  tm : ∀ t, VRel C true (gt s.tm t) (a.tmps.getD t undef)
  hp : HRel C s.hp
  kept : Kept w0 O C
  mine : ∀ b, (gb s.hp b).live = true → C.nl b = false → O.may (C.mu b) ∨ w0.heap.size ≤ C.mu b

def Cx.drew (C : Cx) : Cx := { C with w := C.w.drew }
def Cx.at (C : Cx) (w : World) : Cx := { C with w := w }

/-- A world with the same heap and the same doors. -/
structure Alike (w w' : World) : Prop where
  heap : w'.heap = w.heap
  os : w'.os = w.os
  tape : w'.tape = w.tape
  output : w'.output = w.output

theorem Alike.le {C : Cx} {w' : World} (h : Alike C.w w') : C.Le anyb (C.at w') := ⟨by simp [Cx.at, h.heap], fun B _ _ => by simp [Cx.at, h.heap], fun _ _ h => h, fun _ h => h, fun _ _ _ => ⟨rfl, rfl, rfl, rfl⟩, rfl⟩

theorem HRel.alike {C : Cx} {hp : List Blk} {w' : World} (hr : HRel C hp) (h : Alike C.w w') : HRel (C.at w') hp :=
  hr.move h.le (fun _ h => h) (fun _ h => h) (fun B _ => by simp [Cx.at, h.heap]) (fun B hB => by simpa [Cx.at, h.heap] using hr.ownlt B hB)

theorem Kept.alike {w0 : World} {O : Env} {C : Cx} {w' : World} (hk : Kept w0 O C) (h : Alike C.w w') : Kept w0 O (C.at w') :=
  ⟨h.os.trans hk.os, h.tape.trans hk.tape, h.output.trans hk.output, by simpa [Cx.at, h.heap] using hk.size, fun B hB hO => by simpa [Cx.at, h.heap] using hk.block B hB hO, hk.ban, hk.banlt, hk.banmay, hk.pin, fun B hB cur t fr hh => hk.frz B hB cur t fr (by simpa [Cx.at, h.heap] using hh)⟩

theorem Rep.alike {w0 : World} {O : Env} {C : Cx} {s : St} {a : Act} {w' : World} (hr : Rep w0 O C s a) (h : Alike C.w w') : Rep w0 O (C.at w') s a :=
  ⟨hr.defers, hr.size, fun t => (hr.tm t).le h.le, hr.hp.alike h, hr.kept.alike h, hr.mine⟩

def putA (tm : List AV) : Option Tmp → AV → List AV
  | some d, v => st tm d v
  | none, _ => tm

theorem putA_length (tm : List AV) (d : Option Tmp) (v : AV) : (putA tm d v).length = tm.length := by cases d <;> simp [putA, st_length]

theorem getD_put (a : Act) (d : Option Tmp) (c : Value) (t : Tmp) : (a.put d c).tmps.getD t undef = if d = some t ∧ t < a.tmps.size then c else a.tmps.getD t undef := by
  cases d with
  | none => simp [Act.put]
  | some d =>
    simp only [Act.put, Array.getD_eq_getD_getElem?, Array.getElem?_setIfInBounds, Option.some.injEq]
    by_cases h : d = t
    · subst h
      by_cases h2 : d < a.tmps.size <;> simp [h2]
    · simp [h]

theorem gt_put (tm : List AV) (d : Option Tmp) (v : AV) (t : Tmp) : gt (putA tm d v) t = if d = some t ∧ t < tm.length then v else gt tm t := by
  cases d with
  | none => simp [putA]
  | some d =>
    simp only [putA, gt_st, Option.some.injEq]
    by_cases h : d = t
    · subst h; simp
    · have : ¬ t = d := fun e => h e.symm
      simp [h, this]

/-- The value goes into its temporary. -/
theorem Rep.put {w0 : World} {O : Env} {C : Cx} {s : St} {a : Act} (hr : Rep w0 O C s a) (d : Option Tmp) {v : AV} {c : Value} (hv : VRel C true v c) :
    Rep w0 O C ⟨putA s.tm d v, s.hp⟩ (a.put d c) where
  defers := by cases d <;> exact hr.defers
  size := by cases d <;> simp [Act.put, putA, st_length, hr.size]
  tm t := by
    rw [getD_put, gt_put, hr.size]
    split
    · exact hv
    · exact hr.tm t
  hp := hr.hp
  kept := hr.kept
  mine := hr.mine

/-- The memory behind one more block, which gets the number `p`: `n` cells, the first `m` of them told. -/
def Cx.alloc (C : Cx) (p n m : Nat) (ob : Obj) : Cx where
  own B := C.own B ∨ B = C.w.heap.size
  al b := C.al b ∨ b = p
  mu b := if b = p then C.w.heap.size else C.mu b
  ka b := if b = p then n else C.ka b
  ln b := if b = p then m else C.ln b
  nl b := if b = p then false else C.nl b
  pin := C.pin
  w := C.w.alloc ob

theorem Cx.alloc_le (C : Cx) (p n m : Nat) (ob : Obj) (hp : ¬ C.al p) : C.Le anyb (C.alloc p n m ob) where
  size := by simp [Cx.alloc]
  block B hB _ := by simp only [Cx.alloc]; exact heap_alloc_old _ _ hB
  own B hB h := h.resolve_right (by omega)
  al b h := .inl h
  mu b hb _ := by
    have : b ≠ p := fun e => hp (e ▸ hb)
    simp only [Cx.alloc]; rw [if_neg this, if_neg this, if_neg this, if_neg this]; exact ⟨rfl, rfl, rfl, rfl⟩
  pin := rfl

theorem Kept.alloc {w0 : World} {O : Env} {C : Cx} (hk : Kept w0 O C) (p n m : Nat) (ob : Obj) (hob : ∀ cur t fr, ob = .cells cur t fr → fr = (0, 0)) : Kept w0 O (C.alloc p n m ob) where
  os := hk.os
  tape := hk.tape
  output := hk.output
  size := by simp only [Cx.alloc]; have := hk.size; simp; omega
  block B hB hO := by simp only [Cx.alloc]; rw [heap_alloc_old _ _ (Nat.lt_of_lt_of_le hB hk.size)]; exact hk.block B hB hO
  ban B hB := .inl (hk.ban B hB)
  banlt := hk.banlt
  banmay := hk.banmay
  pin := hk.pin
  frz B hB cur t fr h := by
    simp only [Cx.alloc] at h
    rcases Nat.lt_trichotomy B C.w.heap.size with hl | hl | hl
    · rw [heap_alloc_old _ _ hl] at h; exact hk.frz B hB cur t fr h
    · subst hl
      rw [heap_alloc_new] at h
      exact hob cur t fr (Option.some.inj h)
    · have := (Array.getElem?_eq_some_iff.1 h).1
      simp at this; omega

theorem HRel.ownsB {C : Cx} {hp : List Blk} (hr : HRel C hp) {b : Nat} (h : (gb hp b).live = true) (hn : C.nl b = false) : C.own (C.mu b) := by
  cases hg : gb hp b with
  | gone => rw [hg] at h; cases h
  | free => rw [hg] at h; cases h
  | row c1 t1 l1 => exact (hr.row b c1 t1 l1 hg).2.1
  | rt c l t =>
    obtain ⟨_, _, h3⟩ := hr.rt b c l t hg
    rcases h3 with ⟨h4, _⟩ | ⟨_, h5⟩
    · rw [hn] at h4; cases h4
    · exact h5.1
  | ob o => exact (hr.ob b o hg).2.2.1

theorem HRel.lt {C : Cx} {hp : List Blk} (hr : HRel C hp) {b : Nat} (h : (gb hp b).live = true) (hn : C.nl b = false) : C.mu b < C.w.heap.size := hr.ownlt _ (hr.ownsB h hn)

/-- Does the block hold this? (What a new one is.) -/
def BlkHolds (C : Cx) (x : Blk) (cells : Array Value) (t : TypeId) (m : Nat) : Prop := match x with
  | .row cs u cl => u = t ∧ m = cs.length ∧ cs.length ≤ cells.size ∧ ∀ j, j < cs.length → VRel C (!cl) (gt cs j) (cells.getD j undef)
  | .rt c l u => u = t ∧ m = l.length * c.sz ∧ l.length * c.sz ≤ cells.size ∧ ∀ j, j < l.length → ∀ i, i < c.sz → VRel C false (gt (c.enc (l.getD j c.df)) i) (cells.getD (j * c.sz + i) undef)
  | _ => False

theorem HRel.alloc {C : Cx} {hp : List Blk} (hr : HRel C hp) (p m : Nat) (hf : gb hp p = .free) (x : Blk) (cells : Array Value) (t : TypeId)
    (hx : BlkHolds C x cells t m) : HRel (C.alloc p cells.size m (.cells cells t (0, 0))) (sb hp p x) := by
  have hpl : p < hp.length := gb_len' (fun e => by rw [e] at hf; cases hf)
  have hle := C.alloc_le p cells.size m (.cells cells t (0, 0)) (hr.free p hf)
  have hold : ∀ B, B < C.w.heap.size → (C.alloc p cells.size m (.cells cells t (0, 0))).w.heap[B]? = C.w.heap[B]? := fun B hB => by
    simp only [Cx.alloc]; rw [heap_alloc_old _ _ hB]
  have hnew : (C.alloc p cells.size m (.cells cells t (0, 0))).w.heap[C.w.heap.size]? = some (.cells cells t (0, 0)) := by simp only [Cx.alloc]; exact heap_alloc_new _ _
  have mup : (C.alloc p cells.size m (.cells cells t (0, 0))).mu p = C.w.heap.size := by simp [Cx.alloc]
  have kap : (C.alloc p cells.size m (.cells cells t (0, 0))).ka p = cells.size := by simp [Cx.alloc]
  have lnp : (C.alloc p cells.size m (.cells cells t (0, 0))).ln p = m := by simp [Cx.alloc]
  have nlp : (C.alloc p cells.size m (.cells cells t (0, 0))).nl p = false := by simp [Cx.alloc]
  have alp : (C.alloc p cells.size m (.cells cells t (0, 0))).al p := .inr rfl
  have ownp : (C.alloc p cells.size m (.cells cells t (0, 0))).own C.w.heap.size := .inr rfl
  have hsize : (C.alloc p cells.size m (.cells cells t (0, 0))).w.heap.size = C.w.heap.size + 1 := by simp [Cx.alloc]
  have lv : ∀ y, y ≠ p → (gb (sb hp p x) y).live = true → (gb hp y).live = true := fun y hy h => by rwa [gb_sb_ne _ _ _ _ hy] at h
  have alive : ∀ y, (gb hp y).live = true → C.al y := fun y hy => by
    cases hg : gb hp y with
    | row cs t cl => exact (hr.row y cs t cl hg).1
    | rt c l t => exact (hr.rt y c l t hg).1
    | ob o => exact (hr.ob y o hg).1
    | _ => rw [hg] at hy; cases hy
  refine ⟨fun b hb => ?_, fun b hb => ?_, fun b cs' t' cl' hb => ?_, fun b cs' t' cl' hb => ?_, fun b c l t' hb => ?_, fun b o hb => ?_, fun b b' hb hb' hn hn' he => ?_, fun B hB => ?_⟩
  · rw [sb_length]
    rcases hb with hb | hb
    · exact hr.al b hb
    · exact hb ▸ hpl
  · have hne : b ≠ p := fun e => by
      subst e; rw [gb_sb_same _ _ _ hpl] at hb; rw [hb] at hx; exact hx
    rw [gb_sb_ne _ _ _ _ hne] at hb
    rintro (h | h)
    · exact hr.free b hb h
    · exact hne h
  · by_cases e : b = p
    · subst e; exact nlp
    · rw [gb_sb_ne _ _ _ _ e] at hb
      exact (hle.mu b (hr.row b cs' t' cl' hb).1 rfl).2.2.2.trans (hr.nnl b cs' t' cl' hb)
  · by_cases e : b = p
    · subst e
      rw [gb_sb_same _ _ _ hpl] at hb
      rw [hb] at hx
      obtain ⟨rfl, h1, h2, h3⟩ := hx
      exact ⟨alp, by rw [mup]; exact ownp, lnp.trans h1, cells, by rw [mup]; exact hnew, kap.symm, by rw [kap]; exact h2, fun j hj => (h3 j hj).le hle⟩
    · rw [gb_sb_ne _ _ _ _ e] at hb
      obtain ⟨ha, h1, hln, cur, h2, h3, h4, h5⟩ := hr.row b cs' t' cl' hb
      obtain ⟨e1, e2, e3, e4⟩ := hle.mu b ha rfl
      exact ⟨.inl ha, by rw [e1]; exact .inl h1, e3.trans hln, cur, by rw [e1, hold _ (hr.ownlt _ h1)]; exact h2, h3.trans e2.symm, by rw [e2]; exact h4, fun j hj => (h5 j hj).le hle⟩
  · by_cases e : b = p
    · subst e
      rw [gb_sb_same _ _ _ hpl] at hb
      rw [hb] at hx
      obtain ⟨rfl, h1, h2, h3⟩ := hx
      exact ⟨alp, lnp.trans h1, .inr ⟨nlp, by rw [mup]; exact ownp, cells, by rw [mup]; exact hnew, kap.symm, by rw [kap]; exact h2, fun j hj i hi => (h3 j hj i hi).le hle⟩⟩
    · rw [gb_sb_ne _ _ _ _ e] at hb
      obtain ⟨ha, hln, h⟩ := hr.rt b c l t' hb
      obtain ⟨e1, e2, e3, e4⟩ := hle.mu b ha rfl
      refine ⟨.inl ha, e3.trans hln, ?_⟩
      rcases h with ⟨h1, h2⟩ | ⟨h1, h2, cur, h3, h4, h5, h6⟩
      · exact .inl ⟨e4.trans h1, h2⟩
      · exact .inr ⟨e4.trans h1, by rw [e1]; exact .inl h2, cur, by rw [e1, hold _ (hr.ownlt _ h2)]; exact h3, h4.trans e2.symm, by rw [e2]; exact h5, fun j hj i hi => (h6 j hj i hi).le hle⟩
  · by_cases e : b = p
    · subst e; rw [gb_sb_same _ _ _ hpl] at hb; rw [hb] at hx; exact hx.elim
    · rw [gb_sb_ne _ _ _ _ e] at hb
      obtain ⟨ha, hn, ho, x', h1, h2⟩ := hr.ob b o hb
      obtain ⟨e1, e2, e3, e4⟩ := hle.mu b ha rfl
      exact ⟨.inl ha, e4.trans hn, by rw [e1]; exact .inl ho, x', by rw [e1, hold _ (hr.ownlt _ ho)]; exact h1, h2⟩
  · by_cases e : b = p <;> by_cases e' : b' = p
    · omega
    · have l2 := lv b' e' hb'
      obtain ⟨e1, _, _, e4⟩ := hle.mu b' (alive b' l2) rfl
      have := hr.lt l2 (e4.symm.trans hn')
      rw [e, mup, e1] at he; omega
    · have l2 := lv b e hb
      obtain ⟨e1, _, _, e4⟩ := hle.mu b (alive b l2) rfl
      have := hr.lt l2 (e4.symm.trans hn)
      rw [e', mup, e1] at he; omega
    · have l1 := lv b e hb
      have l2 := lv b' e' hb'
      obtain ⟨e1, _, _, e4⟩ := hle.mu b (alive b l1) rfl
      obtain ⟨e1', _, _, e4'⟩ := hle.mu b' (alive b' l2) rfl
      exact hr.inj b b' l1 l2 (e4.symm.trans hn) (e4'.symm.trans hn') (by rw [← e1, ← e1', he])
  · rw [hsize]
    rcases hB with hB | hB
    · have := hr.ownlt B hB; omega
    · omega

/-- One more block: the run's own. -/
theorem Rep.allocB {w0 : World} {O : Env} {C : Cx} {s : St} {a : Act} (hr : Rep w0 O C s a) (p m : Nat) (hf : gb s.hp p = .free) (x : Blk) (cells : Array Value) (t : TypeId)
    (hx : BlkHolds C x cells t m) : Rep w0 O (C.alloc p cells.size m (.cells cells t (0, 0))) ⟨s.tm, sb s.hp p x⟩ a :=
  ⟨hr.defers, hr.size, fun t' => (hr.tm t').le (C.alloc_le _ _ _ _ (hr.hp.free p hf)), hr.hp.alloc p m hf x cells t hx, hr.kept.alloc _ _ _ _ (fun _ _ _ h => by cases h; rfl), fun b hb hn => by
    by_cases e : b = p
    · refine .inr ?_
      simp only [Cx.alloc, if_pos e]; exact hr.kept.size
    · rw [gb_sb_ne _ _ _ _ e] at hb
      simp only [Cx.alloc, if_neg e] at hn
      simp only [Cx.alloc, if_neg e]; exact hr.mine b hb hn⟩

theorem Rep.alloc {w0 : World} {O : Env} {C : Cx} {s : St} {a : Act} (hr : Rep w0 O C s a) (p : Nat) (hf : gb s.hp p = .free) (cs : List AV) (cells : Array Value) (t : TypeId) (cl : Bool) (hl : cells.size = cs.length)
    (hv : ∀ j, j < cs.length → VRel C (!cl) (gt cs j) (cells.getD j undef)) :
    Rep w0 O (C.alloc p cells.size cs.length (.cells cells t (0, 0))) ⟨s.tm, sb s.hp p (.row cs t cl)⟩ a :=
  hr.allocB p cs.length hf (.row cs t cl) cells t ⟨rfl, rfl, by omega, hv⟩

/-- The memory behind a write into an owned block. -/
def Cx.setRow (C : Cx) (b : Nat) (cur : Array Value) : Cx := { C with w := C.w.setRow (C.mu b) cur }

theorem Cx.setRow_le (C : Cx) (b : Nat) (cur : Array Value) (ho : C.own (C.mu b)) : C.Le anyb (C.setRow b cur) where
  size := by simp [Cx.setRow]
  block B hB hn := by simp only [Cx.setRow]; exact setRow_other _ _ _ _ (fun e => hn (e ▸ ho))
  own B _ h := h
  al b h := h
  mu b _ _ := ⟨rfl, rfl, rfl, rfl⟩
  pin := rfl

/-- A write into an owned block: it holds other things then, and as many. -/
theorem Rep.setB {w0 : World} {O : Env} {C : Cx} {s : St} {a : Act} (hr : Rep w0 O C s a) (b : Nat) (t : TypeId) (hlive : (gb s.hp b).live = true) (hnl : C.nl b = false) (hty : ∃ cur0, C.w.heap[C.mu b]? = some (.cells cur0 t (0, 0)))
    (x : Blk) (cur : Array Value) (hl : cur.size = C.ka b) (hx : BlkHolds C x cur t (C.ln b)) :
    Rep w0 O (C.setRow b cur) ⟨s.tm, sb s.hp b x⟩ a := by
  obtain ⟨cur0, hcur0⟩ := hty
  have ho := hr.hp.ownsB hlive hnl
  have hle := C.setRow_le b cur ho
  have hal : C.al b := by
    cases hg : gb s.hp b with
    | row cs t cl => exact (hr.hp.row b cs t cl hg).1
    | rt c l t => exact (hr.hp.rt b c l t hg).1
    | ob o => exact (hr.hp.ob b o hg).1
    | _ => rw [hg] at hlive; cases hlive
  have hxl : x.live = true := by cases x <;> first | rfl | exact hx.elim
  have lv : ∀ y, (gb (sb s.hp b x) y).live = true → (gb s.hp y).live = true := fun y hy => by
    by_cases e : y = b
    · subst e; exact hlive
    · rwa [gb_sb_ne _ _ _ _ e] at hy
  have hcur : (C.setRow b cur).w.heap[C.mu b]? = some (.cells cur t (0, 0)) := setRow_heap _ _ _ _ _ _ hcur0
  have other : ∀ y, y ≠ b → (gb s.hp y).live = true → C.nl y = false → (C.setRow b cur).w.heap[C.mu y]? = C.w.heap[C.mu y]? := fun y hy h hn => by
    have hne : C.mu y ≠ C.mu b := fun e' => hy (hr.hp.inj y b h hlive hn hnl e')
    simp only [Cx.setRow]
    rw [setRow_other _ _ _ _ hne]
  refine ⟨hr.defers, hr.size, fun t' => (hr.tm t').le hle, ⟨fun y hy => by rw [sb_length]; exact hr.hp.al y hy, ?_, ?_, ?_, ?_, ?_, ?_, fun B hB => by simpa [Cx.setRow] using hr.hp.ownlt B hB⟩,
    ⟨hr.kept.os, hr.kept.tape, hr.kept.output, by simpa [Cx.setRow] using hr.kept.size, ?_, hr.kept.ban, hr.kept.banlt, hr.kept.banmay, hr.kept.pin, ?_⟩, ?_⟩
  · intro y hy
    have hne : y ≠ b := fun e => by subst e; rw [gb_sb_same _ _ _ (gb_len hlive)] at hy; rw [hy] at hxl; cases hxl
    rw [gb_sb_ne _ _ _ _ hne] at hy
    exact hr.hp.free y hy
  · intro b' cs' t' cl' hb'
    by_cases e : b' = b
    · subst e; exact hnl
    · rw [gb_sb_ne _ _ _ _ e] at hb'
      exact hr.hp.nnl b' cs' t' cl' hb'
  · intro b' cs' t' cl' hb'
    by_cases e : b' = b
    · subst e
      rw [gb_sb_same _ _ _ (gb_len hlive)] at hb'
      rw [hb'] at hx
      obtain ⟨rfl, h1, h2, h3⟩ := hx
      exact ⟨hal, ho, h1, cur, hcur, hl, by rw [show (C.setRow b' cur).ka b' = C.ka b' from rfl, ← hl]; exact h2, fun j hj => (h3 j hj).le hle⟩
    · rw [gb_sb_ne _ _ _ _ e] at hb'
      obtain ⟨ha1, h1, hln1, c1, h2, h3, h4, h5⟩ := hr.hp.row b' cs' t' cl' hb'
      exact ⟨ha1, h1, hln1, c1, (other b' e (by rw [hb']; rfl) (hr.hp.nnl b' cs' t' cl' hb')).trans h2, h3, h4, fun j hj => (h5 j hj).le hle⟩
  · intro b' c l t' hb'
    by_cases e : b' = b
    · subst e
      rw [gb_sb_same _ _ _ (gb_len hlive)] at hb'
      rw [hb'] at hx
      obtain ⟨rfl, h1, h2, h3⟩ := hx
      exact ⟨hal, h1, .inr ⟨hnl, ho, cur, hcur, hl, by rw [show (C.setRow b' cur).ka b' = C.ka b' from rfl, ← hl]; exact h2, fun j hj i hi => (h3 j hj i hi).le hle⟩⟩
    · rw [gb_sb_ne _ _ _ _ e] at hb'
      obtain ⟨ha1, hln1, h⟩ := hr.hp.rt b' c l t' hb'
      refine ⟨ha1, hln1, ?_⟩
      rcases h with h | ⟨h1, h2, c1, h3, h4, h5, h6⟩
      · exact .inl h
      · exact .inr ⟨h1, h2, c1, (other b' e (by rw [hb']; rfl) h1).trans h3, h4, h5, fun j hj i hi => (h6 j hj i hi).le hle⟩
  · intro b' o hb'
    by_cases e : b' = b
    · subst e; rw [gb_sb_same _ _ _ (gb_len hlive)] at hb'; rw [hb'] at hx; exact hx.elim
    · rw [gb_sb_ne _ _ _ _ e] at hb'
      obtain ⟨ha1, hn1, ho1, x', h1, h2⟩ := hr.hp.ob b' o hb'
      exact ⟨ha1, hn1, ho1, x', (other b' e (by rw [hb']; rfl) hn1).trans h1, h2⟩
  · intro b1 b2 h1 h2 n1 n2 he
    exact hr.hp.inj b1 b2 (lv _ h1) (lv _ h2) n1 n2 he
  · intro B hB hO
    have hne : B ≠ C.mu b := fun e => by
      subst e
      rcases hr.mine _ hlive hnl with h | h
      · exact hO h
      · omega
    simp only [Cx.setRow]
    rw [setRow_other _ _ _ _ hne]; exact hr.kept.block B hB hO
  · intro B hB c2 t2 fr h
    by_cases e : B = C.mu b
    · subst e; rw [hcur] at h; cases h; rfl
    · simp only [Cx.setRow] at h; rw [setRow_other _ _ _ _ e] at h; exact hr.kept.frz B hB c2 t2 fr h
  · intro y hy hn
    exact hr.mine y (lv y hy) hn

theorem Rep.setRow {w0 : World} {O : Env} {C : Cx} {s : St} {a : Act} (hr : Rep w0 O C s a) (b : Nat) (cs0 : List AV) (t : TypeId) (cl0 cl : Bool) (hb : gb s.hp b = .row cs0 t cl0) (cs : List AV) (cur : Array Value)
    (hl : cur.size = C.ka b) (hcs : cs.length = cs0.length) (hv : ∀ j, j < cs.length → VRel C (!cl) (gt cs j) (cur.getD j undef)) :
    Rep w0 O (C.setRow b cur) ⟨s.tm, sb s.hp b (.row cs t cl)⟩ a := by
  obtain ⟨hal, ho, hln, cur0, hcur0, -, hle0, -⟩ := hr.hp.row b cs0 t cl0 hb
  exact hr.setB b t (by rw [hb]; rfl) (hr.hp.nnl b _ _ _ hb) ⟨cur0, hcur0⟩ (.row cs t cl) cur hl ⟨rfl, by rw [hln, hcs], by rw [hl, hcs]; exact hle0, hv⟩

/-- One more block that is no row. -/
theorem HRel.allocOb {C : Cx} {hp : List Blk} (hr : HRel C hp) (p : Nat) (hf : gb hp p = .free) (o : OB) (ob : Obj) (hx : o.holds ob) : HRel (C.alloc p 0 0 ob) (sb hp p (.ob o)) := by
  have hpl : p < hp.length := gb_len' (fun e => by rw [e] at hf; cases hf)
  have hle := C.alloc_le p 0 0 ob (hr.free p hf)
  have hold : ∀ B, B < C.w.heap.size → (C.alloc p 0 0 ob).w.heap[B]? = C.w.heap[B]? := fun B hB => by
    simp only [Cx.alloc]; rw [heap_alloc_old _ _ hB]
  have hnew : (C.alloc p 0 0 ob).w.heap[C.w.heap.size]? = some ob := by simp only [Cx.alloc]; exact heap_alloc_new _ _
  have mup : (C.alloc p 0 0 ob).mu p = C.w.heap.size := by simp [Cx.alloc]
  have nlp : (C.alloc p 0 0 ob).nl p = false := by simp [Cx.alloc]
  have alp : (C.alloc p 0 0 ob).al p := .inr rfl
  have ownp : (C.alloc p 0 0 ob).own C.w.heap.size := .inr rfl
  have hsize : (C.alloc p 0 0 ob).w.heap.size = C.w.heap.size + 1 := by simp [Cx.alloc]
  have lv : ∀ y, y ≠ p → (gb (sb hp p (.ob o)) y).live = true → (gb hp y).live = true := fun y hy h => by rwa [gb_sb_ne _ _ _ _ hy] at h
  have alive : ∀ y, (gb hp y).live = true → C.al y := fun y hy => by
    cases hg : gb hp y with
    | row cs t cl => exact (hr.row y cs t cl hg).1
    | rt c l t => exact (hr.rt y c l t hg).1
    | ob o => exact (hr.ob y o hg).1
    | _ => rw [hg] at hy; cases hy
  refine ⟨fun b hb => ?_, fun b hb => ?_, fun b cs' t' cl' hb => ?_, fun b cs' t' cl' hb => ?_, fun b c l t' hb => ?_, fun b o' hb => ?_, fun b b' hb hb' hn hn' he => ?_, fun B hB => ?_⟩
  · rw [sb_length]
    rcases hb with hb | hb
    · exact hr.al b hb
    · exact hb ▸ hpl
  · have hne : b ≠ p := fun e => by
      subst e; rw [gb_sb_same _ _ _ hpl] at hb; cases hb
    rw [gb_sb_ne _ _ _ _ hne] at hb
    rintro (h | h)
    · exact hr.free b hb h
    · exact hne h
  · by_cases e : b = p
    · subst e; exact nlp
    · rw [gb_sb_ne _ _ _ _ e] at hb
      exact (hle.mu b (hr.row b cs' t' cl' hb).1 rfl).2.2.2.trans (hr.nnl b cs' t' cl' hb)
  · by_cases e : b = p
    · subst e; rw [gb_sb_same _ _ _ hpl] at hb; cases hb
    · rw [gb_sb_ne _ _ _ _ e] at hb
      obtain ⟨ha, h1, hln, cur, h2, h3, h4, h5⟩ := hr.row b cs' t' cl' hb
      obtain ⟨e1, e2, e3, e4⟩ := hle.mu b ha rfl
      exact ⟨.inl ha, by rw [e1]; exact .inl h1, e3.trans hln, cur, by rw [e1, hold _ (hr.ownlt _ h1)]; exact h2, h3.trans e2.symm, by rw [e2]; exact h4, fun j hj => (h5 j hj).le hle⟩
  · by_cases e : b = p
    · subst e; rw [gb_sb_same _ _ _ hpl] at hb; cases hb
    · rw [gb_sb_ne _ _ _ _ e] at hb
      obtain ⟨ha, hln, h⟩ := hr.rt b c l t' hb
      obtain ⟨e1, e2, e3, e4⟩ := hle.mu b ha rfl
      refine ⟨.inl ha, e3.trans hln, ?_⟩
      rcases h with ⟨h1, h2⟩ | ⟨h1, h2, cur, h3, h4, h5, h6⟩
      · exact .inl ⟨e4.trans h1, h2⟩
      · exact .inr ⟨e4.trans h1, by rw [e1]; exact .inl h2, cur, by rw [e1, hold _ (hr.ownlt _ h2)]; exact h3, h4.trans e2.symm, by rw [e2]; exact h5, fun j hj i hi => (h6 j hj i hi).le hle⟩
  · by_cases e : b = p
    · subst e
      rw [gb_sb_same _ _ _ hpl] at hb
      cases hb
      exact ⟨alp, nlp, by rw [mup]; exact ownp, ob, by rw [mup]; exact hnew, hx⟩
    · rw [gb_sb_ne _ _ _ _ e] at hb
      obtain ⟨ha, hn, ho, x', h1, h2⟩ := hr.ob b o' hb
      obtain ⟨e1, e2, e3, e4⟩ := hle.mu b ha rfl
      exact ⟨.inl ha, e4.trans hn, by rw [e1]; exact .inl ho, x', by rw [e1, hold _ (hr.ownlt _ ho)]; exact h1, h2⟩
  · by_cases e : b = p <;> by_cases e' : b' = p
    · omega
    · have l2 := lv b' e' hb'
      obtain ⟨e1, _, _, e4⟩ := hle.mu b' (alive b' l2) rfl
      have := hr.lt l2 (e4.symm.trans hn')
      rw [e, mup, e1] at he; omega
    · have l1 := lv b e hb
      obtain ⟨e1, _, _, e4⟩ := hle.mu b (alive b l1) rfl
      have := hr.lt l1 (e4.symm.trans hn)
      rw [e', mup, e1] at he; omega
    · have l1 := lv b e hb
      have l2 := lv b' e' hb'
      obtain ⟨e1, _, _, e4⟩ := hle.mu b (alive b l1) rfl
      obtain ⟨e1', _, _, e4'⟩ := hle.mu b' (alive b' l2) rfl
      exact hr.inj b b' l1 l2 (e4.symm.trans hn) (e4'.symm.trans hn') (by rw [← e1, ← e1', he])
  · rw [hsize]
    rcases hB with hB | hB
    · have := hr.ownlt B hB; omega
    · omega

theorem Rep.allocOb {w0 : World} {O : Env} {C : Cx} {s : St} {a : Act} (hr : Rep w0 O C s a) (p : Nat) (hf : gb s.hp p = .free) (o : OB) (ob : Obj) (hx : o.holds ob) :
    Rep w0 O (C.alloc p 0 0 ob) ⟨s.tm, sb s.hp p (.ob o)⟩ a :=
  ⟨hr.defers, hr.size, fun t' => (hr.tm t').le (C.alloc_le _ _ _ _ (hr.hp.free p hf)), hr.hp.allocOb p hf o ob hx, hr.kept.alloc _ _ _ _ (fun _ _ _ h => (OB.nocells (h ▸ hx)).elim), fun b hb hn => by
    by_cases e : b = p
    · refine .inr ?_
      simp only [Cx.alloc, if_pos e]; exact hr.kept.size
    · rw [gb_sb_ne _ _ _ _ e] at hb
      simp only [Cx.alloc, if_neg e] at hn
      simp only [Cx.alloc, if_neg e]; exact hr.mine b hb hn⟩

/-- A write into an owned block that is no row. -/
def Cx.setOb (C : Cx) (b : Nat) (ob : Obj) : Cx := { C with w := { C.w with heap := C.w.heap.setIfInBounds (C.mu b) ob } }

theorem Rep.setOb {w0 : World} {O : Env} {C : Cx} {s : St} {a : Act} (hr : Rep w0 O C s a) (b : Nat) (o : OB) (hb0 : gb s.hp b = .ob o) (o' : OB) (ob : Obj) (hx : o'.holds ob) :
    Rep w0 O (C.setOb b ob) ⟨s.tm, sb s.hp b (.ob o')⟩ a := by
  obtain ⟨hal, hnl, ho, x0, hx0, _⟩ := hr.hp.ob b o hb0
  have hlive : (gb s.hp b).live = true := by rw [hb0]; rfl
  have hother : ∀ B, B ≠ C.mu b → (C.setOb b ob).w.heap[B]? = C.w.heap[B]? := fun B hB => by
    simp only [Cx.setOb]; rw [Array.getElem?_setIfInBounds_ne (Ne.symm hB)]
  have hsize : (C.setOb b ob).w.heap.size = C.w.heap.size := by simp [Cx.setOb]
  have hle : C.Le anyb (C.setOb b ob) := ⟨by rw [hsize]; exact Nat.le_refl _, fun B hB hn => hother B (fun e => hn (e ▸ ho)), fun _ _ h => h, fun _ h => h, fun _ _ _ => ⟨rfl, rfl, rfl, rfl⟩, rfl⟩
  have hnew : (C.setOb b ob).w.heap[C.mu b]? = some ob := by
    have hlt := (Array.getElem?_eq_some_iff.1 hx0).1
    simp [Cx.setOb, hlt]
  have lv : ∀ y, (gb (sb s.hp b (.ob o')) y).live = true → (gb s.hp y).live = true := fun y hy => by
    by_cases e : y = b
    · subst e; exact hlive
    · rwa [gb_sb_ne _ _ _ _ e] at hy
  have other : ∀ y, y ≠ b → (gb s.hp y).live = true → C.nl y = false → (C.setOb b ob).w.heap[C.mu y]? = C.w.heap[C.mu y]? := fun y hy h hn =>
    hother _ (fun e' => hy (hr.hp.inj y b h hlive hn hnl e'))
  refine ⟨hr.defers, hr.size, fun t' => (hr.tm t').le hle, ⟨fun y hy => by rw [sb_length]; exact hr.hp.al y hy, ?_, ?_, ?_, ?_, ?_, ?_, fun B hB => by rw [hsize]; exact hr.hp.ownlt B hB⟩,
    ⟨hr.kept.os, hr.kept.tape, hr.kept.output, by rw [hsize]; exact hr.kept.size, ?_, hr.kept.ban, hr.kept.banlt, hr.kept.banmay, hr.kept.pin, ?_⟩, ?_⟩
  · intro y hy
    have hne : y ≠ b := fun e => by subst e; rw [gb_sb_same _ _ _ (gb_len hlive)] at hy; cases hy
    rw [gb_sb_ne _ _ _ _ hne] at hy
    exact hr.hp.free y hy
  · intro b' cs' t' cl' hb'
    by_cases e : b' = b
    · subst e; exact hnl
    · rw [gb_sb_ne _ _ _ _ e] at hb'
      exact hr.hp.nnl b' cs' t' cl' hb'
  · intro b' cs' t' cl' hb'
    by_cases e : b' = b
    · subst e; rw [gb_sb_same _ _ _ (gb_len hlive)] at hb'; cases hb'
    · rw [gb_sb_ne _ _ _ _ e] at hb'
      obtain ⟨ha1, h1, hln1, c1, h2, h3, h4, h5⟩ := hr.hp.row b' cs' t' cl' hb'
      exact ⟨ha1, h1, hln1, c1, (other b' e (by rw [hb']; rfl) (hr.hp.nnl b' cs' t' cl' hb')).trans h2, h3, h4, fun j hj => (h5 j hj).le hle⟩
  · intro b' c l t' hb'
    by_cases e : b' = b
    · subst e; rw [gb_sb_same _ _ _ (gb_len hlive)] at hb'; cases hb'
    · rw [gb_sb_ne _ _ _ _ e] at hb'
      obtain ⟨ha1, hln1, h⟩ := hr.hp.rt b' c l t' hb'
      refine ⟨ha1, hln1, ?_⟩
      rcases h with h | ⟨h1, h2, c1, h3, h4, h5, h6⟩
      · exact .inl h
      · exact .inr ⟨h1, h2, c1, (other b' e (by rw [hb']; rfl) h1).trans h3, h4, h5, fun j hj i hi => (h6 j hj i hi).le hle⟩
  · intro b' o2 hb'
    by_cases e : b' = b
    · subst e
      rw [gb_sb_same _ _ _ (gb_len hlive)] at hb'
      cases hb'
      exact ⟨hal, hnl, ho, ob, hnew, hx⟩
    · rw [gb_sb_ne _ _ _ _ e] at hb'
      obtain ⟨ha1, hn1, ho1, x', h1, h2⟩ := hr.hp.ob b' o2 hb'
      exact ⟨ha1, hn1, ho1, x', (other b' e (by rw [hb']; rfl) hn1).trans h1, h2⟩
  · intro b1 b2 h1 h2 n1 n2 he
    exact hr.hp.inj b1 b2 (lv _ h1) (lv _ h2) n1 n2 he
  · intro B hB hO
    have hne : B ≠ C.mu b := fun e => by
      subst e
      rcases hr.mine _ hlive hnl with h | h
      · exact hO h
      · omega
    rw [hother B hne]; exact hr.kept.block B hB hO
  · intro B hB c2 t2 fr h
    by_cases e : B = C.mu b
    · subst e; rw [hnew] at h; cases h; exact (OB.nocells hx).elim
    · rw [hother B e] at h; exact hr.kept.frz B hB c2 t2 fr h
  · intro y hy hn
    exact hr.mine y (lv y hy) hn
end Go.Va
