/-
  Abstract values and what it is that a value of the model stands for one, in a world.
  Conditions: none.
-/
import Derived.WalkKit
import Derived.Below
set_option linter.unusedVariables false
set_option autoImplicit false
namespace Go.Va

/-- What the elements of a row are made of. -/
inductive CT where
  | int (k : IntKind)
  | bool
  | str
  | unit
  | vec (c : CT)
  | pair (a b : CT)

/-- Are the two the same? -/
def CT.same : (a b : CT) → Option (PLift (a = b))
  | .int k, .int k' => if h : k = k' then some ⟨congrArg CT.int h⟩ else none
  | .bool, .bool => some ⟨rfl⟩
  | .str, .str => some ⟨rfl⟩
  | .unit, .unit => some ⟨rfl⟩
  | .vec a, .vec b => match CT.same a b with
    | some h => some ⟨congrArg CT.vec h.down⟩
    | none => none
  | .pair a b, .pair a' b' => match CT.same a a', CT.same b b' with
    | some h, some g => some ⟨h.down ▸ g.down ▸ rfl⟩
    | _, _ => none
  | _, _ => none

/-- The typed values of a kind. -/
@[reducible] def CT.D : CT → Type
  | .int _ => Int
  | .bool => Bool
  | .str => ByteArray
  | .unit => Unit
  | .vec c => List c.D
  | .pair a b => a.D × b.D

def CT.sz : CT → Nat
  | .int _ => 1
  | .bool => 1
  | .str => 1
  | .unit => 0
  | .vec _ => 1
  | .pair a b => a.sz + b.sz

def CT.df : (c : CT) → c.D
  | .int _ => (0 : Int)
  | .bool => false
  | .str => ByteArray.empty
  | .unit => ()
  | .vec _ => []
  | .pair a b => (a.df, b.df)

/-- An abstract value. `val`: one cell that holds no address of this run's. `ptr`, `sl`: into a block that the run owns (by its number). `cell`, `vec`: into memory that nobody writes, with what stands there. -/
inductive AV where
  | junk
  | val (v : Value)
  | ptr (b off : Nat)
  | cell (cs : List AV)
  | vec (n sz : Nat) (g : Nat → List AV)
  | sl (b off len sz : Nat)
  | fn (f : FuncId) (cap : List AV)
  | iface (t : TypeId) (v : AV)
  | agg (cs : List AV)
  | tup (vs : List AV)
  | vt (c : CT) (l : List c.D)
  | so (b sz : Nat)
  | pe (b i off sz : Nat)
  | mpp (b : Nat)
  | pp (b off : Nat)

/-- The cells of a typed value. -/
def CT.enc : (c : CT) → c.D → List AV
  | .int k, x => [.val (.int k x)]
  | .bool, x => [.val (.bool x)]
  | .str, x => [.val (.string x)]
  | .unit, _ => []
  | .vec c, l => [.vt c l]
  | .pair a b, x => a.enc x.1 ++ b.enc x.2

/-- The element, or nothing known. -/
def gt : List AV → Nat → AV
  | [], _ => .junk
  | v :: _, 0 => v
  | _ :: l, n + 1 => gt l n

theorem gt_eq (l : List AV) (n : Nat) : gt l n = l.getD n .junk := by
  induction l generalizing n with
  | nil => rfl
  | cons v l ih => cases n with
    | zero => rfl
    | succ n => exact ih n

def st : List AV → Nat → AV → List AV
  | [], _, _ => []
  | _ :: l, 0, u => u :: l
  | v :: l, n + 1, u => v :: st l n u

theorem st_eq (l : List AV) (n : Nat) (u : AV) : st l n u = l.set n u := by
  induction l generalizing n with
  | nil => rfl
  | cons v l ih => cases n with
    | zero => rfl
    | succ n => exact congrArg (v :: ·) (ih n)

/-- The memory as the run knows it: which blocks of the world are not to be taken for still ones, which numbers the run has given to blocks, where its block b lies, how many cells that has, how many of them are told, whether there is no block at all behind its number; a place of the world (with its size) to which pointers may be known to lead; the world. -/
structure Cx where
  own : Nat → Prop
  al : Nat → Prop
  mu : Nat → Nat
  ka : Nat → Nat
  ln : Nat → Nat
  nl : Nat → Bool
  pin : Nat → Nat → Prop
  w : World

def vg (l : List Value) (n : Nat) : Value := l.getD n undef

/-- The value `c` stands for the abstract value. `m`: may addresses of owned blocks occur? -/
inductive VRel (C : Cx) : Bool → AV → Value → Prop
  | junk {m} (c : Value) : VRel C m .junk c
  | val {m} (v : Value) : VRel C m (.val v) v
  | ptr {b off : Nat} (h : C.al b) : VRel C true (.ptr b off) (.pointer (some ⟨C.mu b, off, none⟩))
  | cell {m} {cs : List AV} {B off : Nat} (vs : List Value) (hB : B < C.w.heap.size) (hn : ¬ C.own B) (hl : vs.length = cs.length)
      (hc : ∀ j, j < cs.length → C.w.cell? ⟨B, off + j, none⟩ = some (vg vs j)) (hr : ∀ j, VRel C false (gt cs j) (vg vs j)) :
      VRel C m (.cell cs) (.pointer (some ⟨B, off, none⟩))
  | vec0 {m} {sz : Nat} {g : Nat → List AV} {o : Option Addr} : VRel C m (.vec 0 sz g) (.slice o 0 0)
  | vec {m} {n sz : Nat} {g : Nat → List AV} {B off cap : Nat} (f : Nat → List Value) (hB : B < C.w.heap.size) (hn : ¬ C.own B) (hcap : n ≤ cap) (hmax : cap ≤ maxLen)
      (hl : ∀ j, j < n → (f j).length = sz ∧ (g j).length = sz)
      (hc : ∀ j, j < n → ∀ c, c < sz → C.w.cell? ⟨B, off + j * sz + c, none⟩ = some (vg (f j) c)) (hr : ∀ j, j < n → ∀ c, VRel C false (gt (g j) c) (vg (f j) c)) :
      VRel C m (.vec n sz g) (.slice (some ⟨B, off, none⟩) n cap)
  | sl {b off len sz cap : Nat} (h : C.al b) (hk : off + cap * sz = C.ka b) (hl : len ≤ cap) (hmax : cap ≤ maxLen) (hln : off + len * sz ≤ C.ln b) :
      VRel C true (.sl b off len sz) (.slice (some ⟨C.mu b, off, none⟩) len cap)
  | fn {m} {f : FuncId} {cap : List AV} (vs : List Value) (hl : vs.length = cap.length) (hr : ∀ j, VRel C m (gt cap j) (vg vs j)) :
      VRel C m (.fn f cap) (.func (.func f) #[] vs.toArray)
  | iface {m} {t : TypeId} {v : AV} {c : Value} (h : VRel C m v c) : VRel C m (.iface t v) (.iface t c)
  | agg {m} {cs : List AV} (vs : List Value) (hl : vs.length = cs.length) (hr : ∀ j, VRel C m (gt cs j) (vg vs j)) : VRel C m (.agg cs) (.agg vs.toArray)
  | tup {m} {cs : List AV} (vs : List Value) (hl : vs.length = cs.length) (hr : ∀ j, VRel C m (gt cs j) (vg vs j)) : VRel C m (.tup cs) (.tuple vs.toArray)
  | vt {m} {c : CT} {l : List c.D} {v : Value} (h : VRel C m (.vec l.length c.sz (fun j => c.enc (l.getD j c.df))) v) : VRel C m (.vt c l) v
  | so {b sz n cap : Nat} (h : C.al b) (hnl : C.nl b = false) (hz : 0 < sz) (hn : n * sz = C.ln b) (hk : cap * sz = C.ka b) (hl : n ≤ cap) (hmax : cap ≤ maxLen) :
      VRel C true (.so b sz) (.slice (some ⟨C.mu b, 0, none⟩) n cap)
  | so0 {b sz : Nat} (h : C.al b) (hnl : C.nl b = true) : VRel C true (.so b sz) (.slice none 0 0)
  | pe {b i off sz : Nat} (h : C.al b) (hnl : C.nl b = false) : VRel C true (.pe b i off sz) (.pointer (some ⟨C.mu b, i * sz + off, none⟩))
  | mpp {b : Nat} (h : C.al b) : VRel C true (.mpp b) (.map (some (C.mu b)))
  | pp {b off : Nat} (h : C.al b) (h1 : C.pin (C.mu b) (C.ka b)) : VRel C true (.pp b off) (.pointer (some ⟨C.mu b, off, none⟩))

/-- What still values ask. -/
structure Cx.Le0 (C D : Cx) : Prop where
  size : C.w.heap.size ≤ D.w.heap.size
  block : ∀ B, B < C.w.heap.size → ¬ C.own B → D.w.heap[B]? = C.w.heap[B]?
  own : ∀ B, B < C.w.heap.size → D.own B → C.own B

/-- From one state of the memory to a later one: blocks that the run does not own stay as they are; what it owns anew was not there before; the blocks that `ok` tells keep their places. -/
structure Cx.Le (ok : Nat → Bool) (C D : Cx) : Prop where
  size : C.w.heap.size ≤ D.w.heap.size
  block : ∀ B, B < C.w.heap.size → ¬ C.own B → D.w.heap[B]? = C.w.heap[B]?
  own : ∀ B, B < C.w.heap.size → D.own B → C.own B
  al : ∀ b, C.al b → D.al b
  mu : ∀ b, C.al b → ok b = true → D.mu b = C.mu b ∧ D.ka b = C.ka b ∧ D.ln b = C.ln b ∧ D.nl b = C.nl b
  pin : D.pin = C.pin

def anyb : Nat → Bool := fun _ => true

theorem Cx.Le.le0 {C D : Cx} {ok : Nat → Bool} (h : C.Le ok D) : C.Le0 D := ⟨h.size, h.block, h.own⟩

theorem Cx.Le.refl (C : Cx) (ok : Nat → Bool) : C.Le ok C := ⟨Nat.le_refl _, fun _ _ _ => rfl, fun _ _ h => h, fun _ h => h, fun _ _ _ => ⟨rfl, rfl, rfl, rfl⟩, rfl⟩

mutual
/-- Are all blocks that the value's addresses name among these? -/
def AV.only (ok : Nat → Bool) : AV → Bool
  | .junk => true
  | .val _ => true
  | .ptr b _ => ok b
  | .cell _ => true
  | .vec _ _ _ => true
  | .sl b _ _ _ => ok b
  | .fn _ l => AV.onlys ok l
  | .iface _ v => v.only ok
  | .agg l => AV.onlys ok l
  | .tup l => AV.onlys ok l
  | .vt _ _ => true
  | .so b _ => ok b
  | .pe b _ _ _ => ok b
  | .mpp b => ok b
  | .pp b _ => ok b
def AV.onlys (ok : Nat → Bool) : List AV → Bool
  | [] => true
  | v :: l => v.only ok && AV.onlys ok l
end

theorem AV.onlys_gt {ok : Nat → Bool} {l : List AV} (h : AV.onlys ok l = true) (j : Nat) : (gt l j).only ok = true := by
  induction l generalizing j with
  | nil => rfl
  | cons v l ih =>
    simp only [AV.onlys, Bool.and_eq_true] at h
    cases j with
    | zero => exact h.1
    | succ j => exact ih h.2 j

theorem cell_of_block {w w' : World} {B o : Nat} {v : Value} (h : w'.heap[B]? = w.heap[B]?) (hc : w.cell? ⟨B, o, none⟩ = some v) : w'.cell? ⟨B, o, none⟩ = some v :=
  (World.cell?_of_block (a := ⟨B, o, none⟩) h).trans hc

/-- What no address of an owned block occurs in stays related whatever becomes of the owned blocks. -/
theorem VRel.mono_false {C D : Cx} (hle : C.Le0 D) {v : AV} {c : Value} {m : Bool} (h : VRel C m v c) : m = false → VRel D false v c := by
  induction h with
  | junk c => intro _; exact .junk c
  | val v => intro _; exact .val v
  | ptr => intro h; cases h
  | cell vs hB hn hl hc hr ih =>
    intro _
    exact .cell vs (Nat.lt_of_lt_of_le hB hle.size) (fun h => hn (hle.own _ hB h)) hl (fun j hj => cell_of_block (hle.block _ hB hn) (hc j hj)) (fun j => ih j rfl)
  | vec0 => intro _; exact .vec0
  | vec f hB hn hcap hmax hl hc hr ih =>
    intro _
    exact .vec f (Nat.lt_of_lt_of_le hB hle.size) (fun h => hn (hle.own _ hB h)) hcap hmax hl (fun j hj c hc' => cell_of_block (hle.block _ hB hn) (hc j hj c hc')) (fun j hj c => ih j hj c rfl)
  | sl => intro h; cases h
  | fn vs hl hr ih => intro hm; subst hm; exact .fn vs hl (fun j => ih j rfl)
  | iface h ih => intro hm; subst hm; exact .iface (ih rfl)
  | agg vs hl hr ih => intro hm; subst hm; exact .agg vs hl (fun j => ih j rfl)
  | tup vs hl hr ih => intro hm; subst hm; exact .tup vs hl (fun j => ih j rfl)
  | vt h ih => intro hm; exact .vt (ih hm)
  | so => intro h; cases h
  | so0 => intro h; cases h
  | pe => intro h; cases h
  | mpp => intro h; cases h
  | pp => intro h; cases h

theorem VRel.mono {C D : Cx} {ok : Nat → Bool} (hle : C.Le ok D) {v : AV} {c : Value} {m : Bool} (h : VRel C m v c) : v.only ok = true → VRel D m v c := by
  induction h with
  | junk c => intro _; exact .junk c
  | val v => intro _; exact .val v
  | @ptr b off hb => intro h; obtain ⟨h1, h2, h3, h4⟩ := hle.mu b hb h; rw [← h1]; exact .ptr (hle.al _ hb)
  | cell vs hB hn hl hc hr ih =>
    intro _
    exact .cell vs (Nat.lt_of_lt_of_le hB hle.size) (fun h => hn (hle.own _ hB h)) hl (fun j hj => cell_of_block (hle.block _ hB hn) (hc j hj)) (fun j => (hr j).mono_false hle.le0 rfl)
  | vec0 => intro _; exact .vec0
  | vec f hB hn hcap hmax hl hc hr ih =>
    intro _
    exact .vec f (Nat.lt_of_lt_of_le hB hle.size) (fun h => hn (hle.own _ hB h)) hcap hmax hl (fun j hj c hc' => cell_of_block (hle.block _ hB hn) (hc j hj c hc')) (fun j hj c => (hr j hj c).mono_false hle.le0 rfl)
  | @sl b off len sz cap hb hk hl hmax hln => intro h; obtain ⟨h1, h2, h3, h4⟩ := hle.mu b hb h; rw [← h1]; exact .sl (hle.al _ hb) (hk.trans h2.symm) hl hmax (h3 ▸ hln)
  | fn vs hl hr ih => intro h; exact .fn vs hl (fun j => ih j (AV.onlys_gt h j))
  | iface h ih => intro h'; exact .iface (ih h')
  | agg vs hl hr ih => intro h; exact .agg vs hl (fun j => ih j (AV.onlys_gt h j))
  | tup vs hl hr ih => intro h; exact .tup vs hl (fun j => ih j (AV.onlys_gt h j))
  | vt h ih => intro _; exact .vt (ih rfl)
  | @so b sz n cap hb hnl hz hn hk hl hmax => intro h; obtain ⟨h1, h2, h3, h4⟩ := hle.mu b hb h; rw [← h1]; exact .so (hle.al _ hb) (h4.trans hnl) hz (hn.trans h3.symm) (hk.trans h2.symm) hl hmax
  | @so0 b sz hb hnl => intro h; obtain ⟨h1, h2, h3, h4⟩ := hle.mu b hb h; exact .so0 (hle.al _ hb) (h4.trans hnl)
  | @pe b i off sz hb hnl => intro h; obtain ⟨h1, h2, h3, h4⟩ := hle.mu b hb h; rw [← h1]; exact .pe (hle.al _ hb) (h4.trans hnl)
  | @mpp b hb => intro h; obtain ⟨h1, h2, h3, h4⟩ := hle.mu b hb h; rw [← h1]; exact .mpp (hle.al _ hb)
  | @pp b off hb e1 => intro h; obtain ⟨h1, h2, h3, h4⟩ := hle.mu b hb h; rw [← h1]; exact .pp (hle.al _ hb) (by rw [hle.pin, h1, h2]; exact e1)

mutual
theorem AV.only_any (v : AV) : v.only anyb = true := by
  cases v with
  | fn f l => exact AV.onlys_any l
  | agg l => exact AV.onlys_any l
  | tup l => exact AV.onlys_any l
  | iface t v => exact AV.only_any v
  | _ => rfl
theorem AV.onlys_any (l : List AV) : AV.onlys anyb l = true := by
  cases l with
  | nil => rfl
  | cons v l => simp only [AV.onlys, Bool.and_eq_true]; exact ⟨AV.only_any v, AV.onlys_any l⟩
end

theorem VRel.le {C D : Cx} (hle : C.Le anyb D) {v : AV} {c : Value} {m : Bool} (h : VRel C m v c) : VRel D m v c := h.mono hle v.only_any

/-- Without addresses of owned blocks it is also one that may have some. -/
theorem VRel.up {C : Cx} {v : AV} {c : Value} {m m' : Bool} (h : VRel C m v c) : m = false → VRel C m' v c := by
  induction h with
  | junk c => intro _; exact .junk c
  | val v => intro _; exact .val v
  | ptr => intro h; cases h
  | cell vs hB hn hl hc hr ih => intro _; exact .cell vs hB hn hl hc hr
  | vec0 => intro _; exact .vec0
  | vec f hB hn hcap hmax hl hc hr ih => intro _; exact .vec f hB hn hcap hmax hl hc hr
  | sl => intro h; cases h
  | fn vs hl hr ih => intro hm; exact .fn vs hl (fun j => ih j hm)
  | iface h ih => intro hm; exact .iface (ih hm)
  | agg vs hl hr ih => intro hm; exact .agg vs hl (fun j => ih j hm)
  | tup vs hl hr ih => intro hm; exact .tup vs hl (fun j => ih j hm)
  | vt h ih => intro hm; exact .vt (ih hm)
  | so => intro h; cases h
  | so0 => intro h; cases h
  | pe => intro h; cases h
  | mpp => intro h; cases h
  | pp => intro h; cases h

theorem VRel.up' {C : Cx} {v : AV} {c : Value} {m m' : Bool} (h : VRel C m v c) (hm : m = false ∨ m = m') : VRel C m' v c := by
  rcases hm with hm | hm
  · exact h.up hm
  · subst hm; exact h

def noneb : Nat → Bool := fun _ => false

/-- Where no address of an owned block is named, none occurs. -/
theorem VRel.down {C : Cx} {v : AV} {c : Value} {m : Bool} (h : VRel C m v c) : v.only noneb = true → VRel C false v c := by
  induction h with
  | junk c => intro _; exact .junk c
  | val v => intro _; exact .val v
  | ptr => intro h; cases h
  | cell vs hB hn hl hc hr ih => intro _; exact .cell vs hB hn hl hc hr
  | vec0 => intro _; exact .vec0
  | vec f hB hn hcap hmax hl hc hr ih => intro _; exact .vec f hB hn hcap hmax hl hc hr
  | sl => intro h; cases h
  | fn vs hl hr ih => intro h; exact .fn vs hl (fun j => ih j (AV.onlys_gt h j))
  | iface h ih => intro h'; exact .iface (ih h')
  | agg vs hl hr ih => intro h; exact .agg vs hl (fun j => ih j (AV.onlys_gt h j))
  | tup vs hl hr ih => intro h; exact .tup vs hl (fun j => ih j (AV.onlys_gt h j))
  | vt h ih => intro _; exact .vt (ih rfl)
  | so => intro h; cases h
  | so0 => intro h; cases h
  | pe => intro h; cases h
  | mpp => intro h; cases h
  | pp => intro h; cases h

theorem VRel.inv_val {C : Cx} {m : Bool} {v c : Value} (h : VRel C m (.val v) c) : c = v := by cases h; rfl
end Go.Va
