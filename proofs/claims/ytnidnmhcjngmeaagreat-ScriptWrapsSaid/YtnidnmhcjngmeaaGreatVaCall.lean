/-
  Calls of functions, abstractly: what it is that a function comes to, by abstract values alone.
  Conditions: none.
-/
import Derived.Test.YtnidnmhcjngmeaaGreatVaIndex
set_option linter.unusedVariables false
set_option linter.unusedSimpArgs false
set_option autoImplicit false
namespace Go.Va

inductive Out where
  | ret (v : AV)
  | pan (v : AV)

/-- A memory of which nothing is owned; the blocks of `ban` are not to be taken for still ones. -/
def cx0 (ban : Nat → Prop) (w : World) : Cx := ⟨ban, fun _ => False, fun _ => 0, fun _ => 0, fun _ => 0, fun _ => false, fun _ _ => False, w⟩

def OutRel (ban : Nat → Prop) (out : Out) (e : Ending) (w' : World) : Prop :=
  match out with
  | .ret v => ∃ c, e = .returned c ∧ VRel (cx0 ban w') false v c
  | .pan v => ∃ c, e = .panicked [{ v := c, recovered := false }] ∧ VRel (cx0 ban w') false v c

/-- Whatever was there stays; what is new is not frozen. -/
structure FB (w w' : World) : Prop where
  b : RowKit.Below w.heap.size w w'
  u : Unf w.heap.size w'

/-- The function, called with what stands for these, comes to this, and writes to nothing that was there. -/
def SimP (P : Program) (f : FuncId) (args : List AV) (out : Out) : Prop :=
  ∀ (w : World) (ban : Nat → Prop) (vs : List Value), (∀ B, ban B → B < w.heap.size) → Cells (cx0 ban w) false args vs →
    Calls P f vs.toArray w fun e w' => FB w w' ∧ OutRel ban out e w'

def callable (P : Program) (f : FuncId) : Bool := match P.funcs[f]? with
  | some fn => fn.body.isSome && fn.name != "runtime.NumGoroutine"
  | none => false

/-- Whatever stands for the one stands for the other, cell by cell. -/
def CellsRef (l k : List AV) : Prop := ∀ (C : Cx) (m : Bool) (vs : List Value), Cells C m l vs → Cells C m k vs

/-- A function that writes through its first argument: the struct's type, the type and the kind of its row's elements; the other arguments, as they are read and as they stand; what the row comes to. -/
structure WFun where
  T : TypeId
  t : TypeId
  c : CT
  α : Type
  rd : List AV → Option α
  st : α → List AV
  ok : ∀ l a, rd l = some a → CellsRef l (st a)
  l : List c.D → α → Option (List c.D)

/-- Cells without addresses. -/
def CT.plain : CT → Bool
  | .int _ => true
  | .bool => true
  | .str => true
  | .unit => true
  | .vec _ => false
  | .pair a b => a.plain && b.plain

def wHp (W : WFun) (x : List W.c.D) : List Blk := [.row [.so 1 W.c.sz] W.T false, .rt W.c x W.t]

/-- The world behind it is the one before but for what may be written, and the row holds what it is told to. -/
def WOk (P : Program) (f : FuncId) (W : WFun) : Prop :=
  W.c.plain = true ∧ ∀ (x : List W.c.D) (a : W.α) (y : List W.c.D), W.l x a = some y → ∀ (O : Env) (D : Cx) (vs : List Value), Rep D.w O D ⟨.pp 0 0 :: W.st a, wHp W x⟩ { tmps := vs.toArray, defers := [] } →
    Calls P f vs.toArray D.w fun e w' => e = .returned (.tuple #[]) ∧ ∃ (D' : Cx) (a' : Act), D'.w = w' ∧ Rep D.w O D' ⟨[.pp 0 0], wHp W y⟩ a'

/-- What is known of the functions that are called: in the style of continuations; of those that write. -/
structure Gam where
  g : ∀ β : Type, FuncId → List AV → (Out → Option β) → Option β
  w : FuncId → Option WFun

def GamOk (P : Program) (G : Gam) : Prop := (∀ (β : Type) (f : FuncId) (args : List AV) (K : Out → Option β) (r : β), G.g β f args K = some r → ∃ out, K out = some r ∧ SimP P f args out ∧ callable P f = true) ∧
  ∀ f W, G.w f = some W → WOk P f W ∧ callable P f = true

inductive Res where
  | ok (q : ORes)
  | pan (v : AV) (foot : List Nat)

def PanOk (P : Program) (o : Oper) (tm : List AV) (hp : List Blk) (v : AV) (foot : List Nat) : Prop :=
  ∀ (w0 : World) (O : Env) (C : Cx) (tm' : List AV) (hp' : List Blk) (a : Act), Rep w0 O C ⟨tm', hp'⟩ a → Agree o tm hp ⟨.junk, foot, [], none⟩ tm' hp' →
    ∀ (K : Act → World → Prop) (Q : Exit → Act → World → Prop), (∀ C' c, Rep w0 O C' ⟨tm', hp'⟩ a → VRel C' true v c → Q (.panic [{ v := c, recovered := false }]) a C'.w) → o.wp P a C.w K Q

/-! ### Owned blocks as still ones, for the time of a call -/
mutual
def immV (hp : List Blk) : AV → AV
  | .junk => .junk
  | .val v => .val v
  | .cell cs => .cell cs
  | .vec n sz g => .vec n sz g
  | .ptr b off => match gb hp b with
    | .row cs _ cl => bif cl then .cell (cs.drop off) else .junk
    | _ => .junk
  | .sl b off len sz => match gb hp b with
    | .row cs _ cl => bif cl then .vec len sz (fun j => (cs.drop (off + j * sz)).take sz) else .junk
    | _ => .junk
  | .fn f l => .fn f (immL hp l)
  | .iface t v => .iface t (immV hp v)
  | .agg l => .agg (immL hp l)
  | .tup l => .tup (immL hp l)
  | .vt c l => .vt c l
  | .so b sz => match gb hp b with
    | .rt c l _ => bif c.sz == sz then .vt c l else .junk
    | _ => .junk
  | .pe b i off sz => match gb hp b with
    | .rt c l _ => bif c.sz == sz && decide (i < l.length) then .cell ((c.enc (l.getD i c.df)).drop off) else .junk
    | _ => .junk
  | .mpp _ => .junk
  | .pp _ _ => .junk
def immL (hp : List Blk) : List AV → List AV
  | [] => []
  | v :: l => immV hp v :: immL hp l
end

mutual
def refsV : AV → List Nat
  | .junk => []
  | .val _ => []
  | .cell _ => []
  | .vec _ _ _ => []
  | .ptr b _ => [b]
  | .sl b _ _ _ => [b]
  | .fn _ l => refsL l
  | .iface _ v => refsV v
  | .agg l => refsL l
  | .tup l => refsL l
  | .vt _ _ => []
  | .so b _ => [b]
  | .pe b _ _ _ => [b]
  | .mpp b => [b]
  | .pp b _ => [b]
def refsL : List AV → List Nat
  | [] => []
  | v :: l => refsV v ++ refsL l
end

mutual
def nomem : AV → Bool
  | .junk => true
  | .val _ => true
  | .iface _ v => nomem v
  | .fn _ l => nomemL l
  | .agg l => nomemL l
  | .tup l => nomemL l
  | _ => false
def nomemL : List AV → Bool
  | [] => true
  | v :: l => nomem v && nomemL l
end

theorem nomemL_gt {l : List AV} (h : nomemL l = true) (j : Nat) : nomem (gt l j) = true := by
  induction l generalizing j with
  | nil => rfl
  | cons v l ih =>
    simp only [nomemL, Bool.and_eq_true] at h
    cases j with
    | zero => exact h.1
    | succ j => exact ih h.2 j

theorem VRel.nomem {C D : Cx} {m m' : Bool} {v : AV} {c : Value} (h : VRel C m v c) : Va.nomem v = true → VRel D m' v c := by
  induction h with
  | junk c => intro _; exact .junk c
  | val v => intro _; exact .val v
  | ptr => intro h; cases h
  | cell => intro h; cases h
  | vec0 => intro h; cases h
  | vec => intro h; cases h
  | sl => intro h; cases h
  | fn vs hl hr ih => intro h; exact .fn vs hl (fun j => ih j (nomemL_gt h j))
  | iface h ih => intro h'; exact .iface (ih h')
  | agg vs hl hr ih => intro h; exact .agg vs hl (fun j => ih j (nomemL_gt h j))
  | tup vs hl hr ih => intro h; exact .tup vs hl (fun j => ih j (nomemL_gt h j))
  | vt h ih => intro h; cases h
  | so => intro h; cases h
  | so0 => intro h; cases h
  | pe => intro h; cases h
  | mpp => intro h; cases h
  | pp => intro h; cases h

theorem immL_length (hp : List Blk) (l : List AV) : (immL hp l).length = l.length := by
  induction l with
  | nil => rfl
  | cons v l ih => simp only [immL, List.length_cons, ih]

theorem immL_gt (hp : List Blk) (l : List AV) (j : Nat) : gt (immL hp l) j = immV hp (gt l j) := by
  induction l generalizing j with
  | nil => rfl
  | cons v l ih => cases j with
    | zero => rfl
    | succ j => exact ih j

theorem refsL_gt {l : List AV} {j b : Nat} (h : b ∈ refsV (gt l j)) : b ∈ refsL l := by
  induction l generalizing j with
  | nil => simp [gt, refsV] at h
  | cons v l ih =>
    simp only [refsL, List.mem_append]
    cases j with
    | zero => exact .inl h
    | succ j => exact .inr (ih h)

/-- To the eyes of somebody to whom nothing is banned but what he is not handed. -/
theorem immV_rel {C : Cx} {hp : List Blk} (hr : HRel C hp) {ban : Nat → Prop} (hban : ∀ B, ban B → C.own B) {m : Bool} {v : AV} {c : Value} (h : VRel C m v c) :
    (∀ b ∈ refsV v, (gb hp b).live = true → C.nl b = false → ¬ ban (C.mu b)) → VRel (cx0 ban C.w) false (immV hp v) c := by
  have toC0 : ∀ {v : AV} {c : Value}, VRel C false v c → VRel (cx0 ban C.w) false v c := fun h =>
    VRel.mono_false (C := C) (D := cx0 ban C.w) ⟨Nat.le_refl _, fun _ _ _ => rfl, fun B _ h => hban B h⟩ h rfl
  have toCells : ∀ {cs : List AV} {vs : List Value}, Cells C false cs vs → Cells (cx0 ban C.w) false cs vs := fun h => ⟨h.1, fun j => toC0 (h.2 j)⟩
  induction h with
  | junk c => intro _; exact .junk c
  | val v => intro _; exact .val v
  | @ptr b off hb =>
    intro hn
    simp only [immV]
    split
    · rename_i cs t cl hg
      cases cl with
      | false => exact .junk _
      | true =>
        obtain ⟨cur, h2, h3, h4, h5⟩ := hr.cells hg
        have hc := toCells (h5.drop off)
        refine .cell _ (Array.getElem?_eq_some_iff.1 h2).1 (hn b (by simp [refsV]) (by rw [hg]; rfl) (hr.nnl b _ _ _ hg)) hc.1 (fun j hj => ?_) hc.2
        have hj' : off + j < cs.length := by simp at hj; omega
        show C.w.cell? _ = _
        rw [cell_of_row C.w (C.mu b) (off + j) cur t (0, 0) h2, vg_drop, vg_take _ _ _ hj']
        have hlt : off + j < cur.size := by omega
        simp [vg, hlt]
    · exact .junk _
  | cell vs hB hn hl hc hrel ih => intro _; exact toC0 (.cell vs hB hn hl hc hrel)
  | vec0 => intro _; exact .vec0
  | vec f hB hn hcap hmax hl hc hrel ih => intro _; exact toC0 (.vec f hB hn hcap hmax hl hc hrel)
  | @sl b off len sz cap hb hk hl hmax hln =>
    intro hn
    simp only [immV]
    split
    · rename_i cs t cl hg
      cases cl with
      | false => exact .junk _
      | true =>
        obtain ⟨_, _, hlen, _⟩ := hr.row b cs t true hg
        obtain ⟨cur, h2, h3, h4, h5⟩ := hr.cells hg
        rw [hlen] at hln
        have hsz : ∀ j, j < len → off + j * sz + sz ≤ cs.length := fun j hj => by
          have := Nat.mul_le_mul_right sz (show j + 1 ≤ len from hj)
          rw [Nat.add_mul, Nat.one_mul] at this; omega
        refine .vec (fun j => ((cur.toList.take cs.length).drop (off + j * sz)).take sz) (Array.getElem?_eq_some_iff.1 h2).1 (hn b (by simp [refsV]) (by rw [hg]; rfl) (hr.nnl b _ _ _ hg)) hl hmax (fun j hj => ?_) (fun j hj c hc => ?_) (fun j hj c => ?_)
        · have := hsz j hj
          simp only [List.length_take, List.length_drop, Array.length_toList]; omega
        · have := hsz j hj
          show C.w.cell? _ = _
          rw [cell_of_row C.w (C.mu b) (off + j * sz + c) cur t (0, 0) h2, vg_take _ _ _ hc, vg_drop, vg_take _ _ _ (by omega)]
          have hlt : off + j * sz + c < cur.size := by omega
          simp [vg, hlt]
        · have := toCells ((h5.drop (off + j * sz)).take sz)
          exact this.2 c
    · exact .junk _
  | fn vs hl hrel ih => intro hn; exact .fn vs (by rw [immL_length]; exact hl) (fun j => by rw [immL_gt]; exact ih j (fun b hb => hn b (refsL_gt hb)))
  | iface h ih => intro hn; exact .iface (ih hn)
  | agg vs hl hrel ih => intro hn; exact .agg vs (by rw [immL_length]; exact hl) (fun j => by rw [immL_gt]; exact ih j (fun b hb => hn b (refsL_gt hb)))
  | tup vs hl hrel ih => intro hn; exact .tup vs (by rw [immL_length]; exact hl) (fun j => by rw [immL_gt]; exact ih j (fun b hb => hn b (refsL_gt hb)))
  | vt h ih => intro _; exact .vt (ih (fun b hb => by simp [refsV] at hb))
  | @so b sz n cap hal hnl hz hn' hk hl hmax =>
    intro hn
    simp only [immV]
    split
    · rename_i c l t hg
      cases hs : (c.sz == sz) with
      | false => exact .junk _
      | true =>
        have hs := beq_iff_eq.1 hs
        subst hs
        obtain ⟨_, hln, _⟩ := hr.rt b c l t hg
        obtain ⟨cur, h2, h3, h4, h5⟩ := hr.cells_rt hg hnl
        have hnn : n = l.length := Nat.eq_of_mul_eq_mul_right hz (hn'.trans hln)
        subst hnn
        refine .vt (.vec (fun j => (cur.toList.drop (j * c.sz)).take c.sz) (Array.getElem?_eq_some_iff.1 h2).1 (hn b (by simp [refsV]) (by rw [hg]; rfl) hnl) hl hmax (fun j hj => ?_) (fun j hj i hi => ?_) (fun j hj i => (toCells (h5 j hj)).2 i))
        · exact ⟨(h5 j hj).1.trans (CT.enc_len _ _), CT.enc_len _ _⟩
        · have := row_le (sz := c.sz) hj
          show C.w.cell? _ = _
          rw [cell_of_row C.w (C.mu b) (0 + j * c.sz + i) cur t (0, 0) h2, vg_take _ _ _ hi, vg_drop]
          have hlt : j * c.sz + i < cur.size := by omega
          simp [vg, hlt]
    · exact .junk _
  | @so0 b sz hal hnl =>
    intro hn
    simp only [immV]
    split
    · rename_i c l t hg
      cases hs : (c.sz == sz) with
      | false => exact .junk _
      | true =>
        obtain ⟨_, hln, hor⟩ := hr.rt b c l t hg
        rcases hor with ⟨_, rfl⟩ | ⟨h3, _⟩
        · exact .vt .vec0
        · rw [hnl] at h3; cases h3
    · exact .junk _
  | @pe b i off sz hal hnl =>
    intro hn
    simp only [immV]
    split
    · rename_i c l t hg
      cases hs : (c.sz == sz && decide (i < l.length)) with
      | false => exact .junk _
      | true =>
        simp only [Bool.and_eq_true, decide_eq_true_eq, beq_iff_eq] at hs
        obtain ⟨rfl, hi⟩ := hs
        obtain ⟨cur, h2, h3, h4, h5⟩ := hr.cells_rt hg hnl
        have hc := toCells ((h5 i hi).drop off)
        refine .cell _ (Array.getElem?_eq_some_iff.1 h2).1 (hn b (by simp [refsV]) (by rw [hg]; rfl) hnl) hc.1 (fun j hj => ?_) hc.2
        have hj' : off + j < c.sz := by rw [List.length_drop, CT.enc_len] at hj; omega
        have := row_le (sz := c.sz) hi
        show C.w.cell? _ = _
        rw [cell_of_row C.w (C.mu b) (i * c.sz + off + j) cur t (0, 0) h2, vg_drop, vg_take _ _ _ hj', vg_drop]
        have hlt : i * c.sz + (off + j) < cur.size := by omega
        simp [vg, hlt, Nat.add_assoc]
    · exact .junk _
  | mpp h => intro _; exact .junk _
  | pp h _ => intro _; exact .junk _

mutual
/-- The owned blocks as still ones, for good: also those that others lead to. -/
def immW (hp : List Blk) : AV → AV
  | .ptr b off => match gb hp b with
    | .row cs _ cl => bif cl then .cell (cs.drop off) else .cell (immL hp (cs.drop off))
    | _ => .junk
  | .sl b off len sz => match gb hp b with
    | .row cs _ cl => bif cl then .vec len sz (fun j => (cs.drop (off + j * sz)).take sz) else .vec len sz (fun j => immL hp ((cs.drop (off + j * sz)).take sz))
    | _ => .junk
  | .fn f l => .fn f (immWL hp l)
  | .iface t v => .iface t (immW hp v)
  | .agg l => .agg (immWL hp l)
  | .tup l => .tup (immWL hp l)
  | .junk => .junk
  | .val v => .val v
  | .cell cs => .cell cs
  | .vec n sz g => .vec n sz g
  | .vt c l => .vt c l
  | .so b sz => immV hp (.so b sz)
  | .pe b i off sz => immV hp (.pe b i off sz)
  | .mpp _ => .junk
  | .pp _ _ => .junk
def immWL (hp : List Blk) : List AV → List AV
  | [] => []
  | v :: l => immW hp v :: immWL hp l
end

theorem immWL_length (hp : List Blk) (l : List AV) : (immWL hp l).length = l.length := by
  induction l with
  | nil => rfl
  | cons v l ih => simp only [immWL, List.length_cons, ih]

theorem immWL_gt (hp : List Blk) (l : List AV) (j : Nat) : gt (immWL hp l) j = immW hp (gt l j) := by
  induction l generalizing j with
  | nil => rfl
  | cons v l ih => cases j with
    | zero => rfl
    | succ j => exact ih j

theorem immW_rel {C : Cx} {hp : List Blk} (hr : HRel C hp) {ban : Nat → Prop} (hban : ∀ B, ban B → C.own B) {m : Bool} {v : AV} {c : Value} (h : VRel C m v c)
    (hn : ∀ b, (gb hp b).live = true → C.nl b = false → ¬ ban (C.mu b)) : VRel (cx0 ban C.w) false (immW hp v) c := by
  have old : ∀ {m : Bool} {v : AV} {c : Value}, VRel C m v c → VRel (cx0 ban C.w) false (immV hp v) c := fun h => immV_rel hr hban h (fun b _ h1 h2 => hn b h1 h2)
  have oldL : ∀ {m : Bool} {cs : List AV} {vs : List Value}, Cells C m cs vs → Cells (cx0 ban C.w) false (immL hp cs) vs := fun h => ⟨by rw [immL_length]; exact h.1, fun j => by rw [immL_gt]; exact old (h.2 j)⟩
  induction h with
  | junk c => exact .junk c
  | val v => exact .val v
  | @ptr b off hb =>
    have h1 := old (VRel.ptr (off := off) hb)
    simp only [immV] at h1
    simp only [immW]
    split
    · rename_i cs t cl hg
      cases cl with
      | true => simpa [hg] using h1
      | false =>
        obtain ⟨cur, h2, h3, h4, h5⟩ := hr.cells hg
        have hc := oldL (h5.drop off)
        refine .cell _ (Array.getElem?_eq_some_iff.1 h2).1 (hn b (by rw [hg]; rfl) (hr.nnl b _ _ _ hg)) hc.1 (fun j hj => ?_) hc.2
        have hj' : off + j < cs.length := by rw [immL_length] at hj; simp at hj; omega
        show C.w.cell? _ = _
        rw [cell_of_row C.w (C.mu b) (off + j) cur t (0, 0) h2, vg_drop, vg_take _ _ _ hj']
        have hlt : off + j < cur.size := by omega
        simp [vg, hlt]
    · exact .junk _
  | cell vs hB hnn hl hc hrel ih => exact old (.cell (m := true) vs hB hnn hl hc hrel)
  | vec0 => exact .vec0
  | vec f hB hnn hcap hmax hl hc hrel ih => exact old (.vec (m := true) f hB hnn hcap hmax hl hc hrel)
  | @sl b off len sz cap hb hk hl hmax hln =>
    have h1 := old (VRel.sl hb hk hl hmax hln)
    simp only [immV] at h1
    simp only [immW]
    split
    · rename_i cs t cl hg
      cases cl with
      | true => simpa [hg] using h1
      | false =>
        obtain ⟨_, _, hlen, _⟩ := hr.row b cs t false hg
        obtain ⟨cur, h2, h3, h4, h5⟩ := hr.cells hg
        rw [hlen] at hln
        have hsz : ∀ j, j < len → off + j * sz + sz ≤ cs.length := fun j hj => by have := row_le (sz := sz) hj; omega
        refine .vec (fun j => ((cur.toList.take cs.length).drop (off + j * sz)).take sz) (Array.getElem?_eq_some_iff.1 h2).1 (hn b (by rw [hg]; rfl) (hr.nnl b _ _ _ hg)) hl hmax (fun j hj => ?_) (fun j hj c hc => ?_) (fun j hj c => ?_)
        · have := hsz j hj
          rw [immL_length]
          simp only [List.length_take, List.length_drop, Array.length_toList]; omega
        · have := hsz j hj
          show C.w.cell? _ = _
          rw [cell_of_row C.w (C.mu b) (off + j * sz + c) cur t (0, 0) h2, vg_take _ _ _ hc, vg_drop, vg_take _ _ _ (by omega)]
          have hlt : off + j * sz + c < cur.size := by omega
          simp [vg, hlt]
        · exact (oldL ((h5.drop (off + j * sz)).take sz)).2 c
    · exact .junk _
  | fn vs hl hrel ih => exact .fn vs (by rw [immWL_length]; exact hl) (fun j => by rw [immWL_gt]; exact ih j)
  | iface h ih => exact .iface ih
  | agg vs hl hrel ih => exact .agg vs (by rw [immWL_length]; exact hl) (fun j => by rw [immWL_gt]; exact ih j)
  | tup vs hl hrel ih => exact .tup vs (by rw [immWL_length]; exact hl) (fun j => by rw [immWL_gt]; exact ih j)
  | vt h ih => exact old (.vt (m := true) (h.up' (by cases ‹Bool› <;> simp)))
  | so hal hnl hz hn' hk hl hmax => exact old (.so hal hnl hz hn' hk hl hmax)
  | so0 hal hnl => exact old (.so0 hal hnl)
  | pe hal hnl => exact old (.pe hal hnl)
  | mpp hal => exact .junk _
  | pp h _ => exact .junk _

mutual
theorem immV_agree {hp hp' : List Blk} (v : AV) (h : ∀ b ∈ refsV v, gb hp' b = gb hp b) : immV hp' v = immV hp v := by
  cases v with
  | ptr b off => simp only [immV, h b (by simp [refsV])]
  | sl b off len sz => simp only [immV, h b (by simp [refsV])]
  | so b sz => simp only [immV, h b (by simp [refsV])]
  | pe b i off sz => simp only [immV, h b (by simp [refsV])]
  | fn f l => simp only [immV]; rw [immL_agree l h]
  | iface t v => simp only [immV]; rw [immV_agree v h]
  | agg l => simp only [immV]; rw [immL_agree l h]
  | tup l => simp only [immV]; rw [immL_agree l h]
  | _ => rfl
theorem immL_agree {hp hp' : List Blk} (l : List AV) (h : ∀ b ∈ refsL l, gb hp' b = gb hp b) : immL hp' l = immL hp l := by
  cases l with
  | nil => rfl
  | cons v l =>
    simp only [immL]
    rw [immV_agree v (fun b hb => h b (by simp [refsL, hb])), immL_agree l (fun b hb => h b (by simp [refsL, hb]))]
end

/-! ### The world behind a call -/
theorem Cx.below_le {C : Cx} {w' : World} (hb : RowKit.Below C.w.heap.size C.w w') : C.Le anyb (C.at w') :=
  ⟨hb.size, fun B hB _ => hb.block B hB, fun _ _ h => h, fun _ h => h, fun _ _ _ => ⟨rfl, rfl, rfl, rfl⟩, rfl⟩

theorem Rep.below {w0 : World} {O : Env} {C : Cx} {s : St} {a : Act} {w' : World} (hr : Rep w0 O C s a) (hf : FB C.w w') : Rep w0 O (C.at w') s a where
  defers := hr.defers
  size := hr.size
  tm t := (hr.tm t).le (Cx.below_le hf.b)
  hp := hr.hp.move (Cx.below_le hf.b) (fun _ h => h) (fun _ h => h) (fun B hB => hf.b.block _ (hr.hp.ownlt B hB)) (fun B hB => Nat.lt_of_lt_of_le (hr.hp.ownlt B hB) hf.b.size)
  kept := ⟨hf.b.os.trans hr.kept.os, hf.b.tape.trans hr.kept.tape, hf.b.output.trans hr.kept.output, Nat.le_trans hr.kept.size hf.b.size, fun B hB hO => by
    simp only [Cx.at]; rw [hf.b.block _ (Nat.lt_of_lt_of_le hB hr.kept.size)]; exact hr.kept.block B hB hO, hr.kept.ban, hr.kept.banlt, hr.kept.banmay, hr.kept.pin, fun B hB cur t fr h => by
    rcases Nat.lt_or_ge B C.w.heap.size with hl | hl
    · simp only [Cx.at] at h; rw [hf.b.block _ hl] at h; exact hr.kept.frz B hB cur t fr h
    · exact hf.u B hl cur t fr h⟩
  mine := hr.mine

section
variable {β : Type} (P : Program) (G : Gam) (tm : List AV) (hp : List Blk) (K : Res → Option β)

def callK (f : AV) (args : List AV) : Option β := match f with
  | .fn g cap => bif AV.onlys noneb (args ++ cap) then G.g β g (args ++ cap) (fun out => match out with
      | .ret v => K (.ok ⟨v, [], [], none⟩)
      | .pan v => K (.pan v []))
    else G.g β g (immL hp (args ++ cap)) (fun out => match out with
      | .ret v => bif nomem v then K (.ok ⟨v, refsL (args ++ cap), [], none⟩) else none
      | .pan v => bif nomem v then K (.pan v (refsL (args ++ cap))) else none)
  | _ => none
end

/-- What an operation with a call in it comes to. -/
def EndsR (P : Program) (o : Oper) (tm : List AV) (hp : List Blk) {β : Type} (K : Res → Option β) (r : β) : Prop :=
  ∃ q, K q = some r ∧ match q with
    | .ok q => OpOk P o tm hp q
    | .pan v ft => PanOk P o tm hp v ft

theorem Cells.of_ops {C : Cx} {tm : List AV} {ev : Operand → Value} (l : List Operand) (h : ∀ x ∈ l, VRel C true (evA tm x) (ev x)) : Cells C true (l.map (evA tm)) (l.map ev) := by
  refine ⟨by simp, fun j => ?_⟩
  by_cases hj : j < l.length
  · have e1 : gt (l.map (evA tm)) j = evA tm l[j] := by rw [gt_eq]; simp [hj]
    have e2 : vg (l.map ev) j = ev l[j] := by simp [vg, hj]
    rw [e1, e2]; exact h _ (List.getElem_mem hj)
  · rw [gt_len (by simp; omega)]; exact .junk _

theorem run_call {P : Program} {o : Oper} {f : Operand} {args : Array Operand} {ats : Array TypeId} (ho : o.op = .call { callee := .value f, args := args, argTypes := ats }) {a : Act} {g : FuncId} {cap : Array Value}
    (hf : a.eval f = .func (.func g) #[] cap) (hc : callable P g = true) (w : World) : (execOp a.eval o).run P w = .ok (.enter g (args.map a.eval ++ cap)) w := by
  unfold callable at hc
  split at hc
  · rename_i fn hfn
    simp only [Bool.and_eq_true, bne_iff_ne, ne_eq] at hc
    obtain ⟨hb, hname⟩ := hc
    unfold execOp
    simp only [ho]
    simp only [resolve, hf, Deferred.ofValue, Sem.run_bind, Sem.run_pure, Result.andThen_ok, invoke, Array.empty_append, callFunc, program, Sem.run, hfn]
    have hn : (fn.name == "runtime.NumGoroutine") = false := by simpa using hname
    have hbn : fn.body.isNone = false := by
      cases h : fn.body with
      | none => rw [h] at hb; cases hb
      | some b => rfl
    simp [hn, hbn]
  · cases hc

theorem call_ok {P : Program} {G : Gam} (hG : GamOk P G) {β : Type} {tm : List AV} {hp : List Blk} {K : Res → Option β} {o : Oper} {r : β} {f : Operand} {args : Array Operand} {ats : Array TypeId}
    (ho : o.op = .call { callee := .value f, args := args, argTypes := ats }) (h : callK G hp K (evA tm f) (args.toList.map (evA tm)) = some r) : EndsR P o tm hp K r := by
  unfold callK at h
  split at h <;> try cases h
  rename_i g cap hf
  have hmf : f ∈ o.op.operands := by simp [ho, Op.operands, Call.operands]
  have hma : ∀ x ∈ args.toList, x ∈ o.op.operands := fun x hx => by simp only [ho, Op.operands, Call.operands]; exact Array.mem_append.2 (.inr (Array.mem_toList_iff.1 hx))
  have opened : ∀ {C : Cx} {a : Act}, (∀ x ∈ o.op.operands, VRel C true (evA tm x) (a.eval x)) → callable P g = true →
      ∃ vs : List Value, Cells C true (args.toList.map (evA tm) ++ cap) vs ∧ ∀ w, (execOp a.eval o).run P w = .ok (.enter g vs.toArray) w := by
    intro C a hv hc
    have h1 := hv f hmf
    rw [hf] at h1
    generalize hcf : a.eval f = cf at h1
    cases h1 with
    | fn us hl hrel =>
      refine ⟨args.toList.map a.eval ++ us, (Cells.of_ops _ (fun x hx => hv x (hma x hx))).append ⟨hl, hrel⟩, fun w => ?_⟩
      rw [run_call ho hcf hc w]
      congr 2
      apply Array.toList_inj.1; simp
  cases hcl : AV.onlys noneb (args.toList.map (evA tm) ++ cap) with
  | true =>
    rw [hcl, cond_true] at h
    obtain ⟨out, hK, hS, hc⟩ := hG.1 _ _ _ _ _ h
    have go : ∀ (C : Cx) (tm' : List AV) (hp' : List Blk) (w0 : World) (O : Env) (a : Act), Rep w0 O C ⟨tm', hp'⟩ a → (∀ x ∈ o.op.operands, evA tm' x = evA tm x) →
        ∃ vs : List Value, (∀ w, (execOp a.eval o).run P w = .ok (.enter g vs.toArray) w) ∧ Calls P g vs.toArray C.w fun e w' => FB C.w w' ∧ OutRel C.own out e w' := by
      intro C tm' hp' w0 O a hr ha
      obtain ⟨vs, h1, h2⟩ := opened (C := C) (a := a) (fun x hx => by rw [← ha x hx]; exact hr.ev x) hc
      refine ⟨vs, h2, hS C.w C.own vs hr.hp.ownlt ?_⟩
      have := h1.down hcl
      exact ⟨this.1, fun j => VRel.mono_false (C := C) (D := cx0 C.own C.w) ⟨Nat.le_refl _, fun _ _ _ => rfl, fun _ _ h => h⟩ (this.2 j) rfl⟩
    have back : ∀ {C : Cx} {w' : World} {v : AV} {c : Value}, VRel (cx0 C.own w') false v c → VRel (C.at w') true v c := fun {C w' v c} h =>
      (VRel.mono_false (C := cx0 C.own w') (D := C.at w') ⟨Nat.le_refl _, fun _ _ _ => rfl, fun _ _ h => h⟩ h rfl).up rfl
    cases out with
    | ret v =>
      refine ⟨_, hK, ?_⟩
      intro w0 O C tm' hp' a hr ha KK Q hKK
      obtain ⟨vs, h1, h2⟩ := go C tm' hp' w0 O a hr ha.ops
      unfold Oper.wp
      rw [h1]
      refine h2.mono fun e w' he => ?_
      obtain ⟨hb, c, rfl, hv⟩ := he
      exact hKK _ _ ((hr.below hb).put o.dst (back hv))
    | pan v =>
      refine ⟨_, hK, ?_⟩
      intro w0 O C tm' hp' a hr ha KK Q hQ
      obtain ⟨vs, h1, h2⟩ := go C tm' hp' w0 O a hr ha.ops
      unfold Oper.wp
      rw [h1]
      refine h2.mono fun e w' he => ?_
      obtain ⟨hb, c, rfl, hv⟩ := he
      exact hQ _ c (hr.below hb) (back hv)
  | false =>
    rw [hcl, cond_false] at h
    obtain ⟨out, hK, hS, hc⟩ := hG.1 _ _ _ _ _ h
    have go : ∀ (C : Cx) (tm' : List AV) (hp' : List Blk) (w0 : World) (O : Env) (a : Act), Rep w0 O C ⟨tm', hp'⟩ a → (∀ x ∈ o.op.operands, evA tm' x = evA tm x) →
        (∀ b ∈ refsL (args.toList.map (evA tm) ++ cap), gb hp' b = gb hp b) →
        ∃ (vs : List Value) (ban : Nat → Prop), (∀ w, (execOp a.eval o).run P w = .ok (.enter g vs.toArray) w) ∧ Calls P g vs.toArray C.w fun e w' => FB C.w w' ∧ OutRel ban out e w' := by
      intro C tm' hp' w0 O a hr ha hag
      obtain ⟨vs, h1, h2⟩ := opened (C := C) (a := a) (fun x hx => by rw [← ha x hx]; exact hr.ev x) hc
      refine ⟨vs, fun B => C.own B ∧ ∀ b ∈ refsL (args.toList.map (evA tm) ++ cap), B ≠ C.mu b, h2, hS C.w _ vs (fun B hB => hr.hp.ownlt B hB.1) ?_⟩
      rw [← immL_agree _ hag]
      refine ⟨by rw [immL_length]; exact h1.1, fun j => ?_⟩
      rw [immL_gt]
      exact immV_rel hr.hp (fun B h => h.1) (h1.2 j) (fun b hb _ _ hban => hban.2 b (refsL_gt hb) rfl)
    cases out with
    | ret v =>
      simp only at hK
      cases hnm : nomem v with
      | false => rw [hnm] at hK; cases hK
      | true =>
        rw [hnm, cond_true] at hK
        refine ⟨_, hK, ?_⟩
        intro w0 O C tm' hp' a hr ha KK Q hKK
        obtain ⟨vs, ban, h1, h2⟩ := go C tm' hp' w0 O a hr ha.ops ha.foot
        unfold Oper.wp
        rw [h1]
        refine h2.mono fun e w' he => ?_
        obtain ⟨hb, c, rfl, hv⟩ := he
        exact hKK _ _ ((hr.below hb).put o.dst (hv.nomem hnm))
    | pan v =>
      simp only at hK
      cases hnm : nomem v with
      | false => rw [hnm] at hK; cases hK
      | true =>
        rw [hnm, cond_true] at hK
        refine ⟨_, hK, ?_⟩
        intro w0 O C tm' hp' a hr ha KK Q hQ
        obtain ⟨vs, ban, h1, h2⟩ := go C tm' hp' w0 O a hr ha.ops ha.foot
        unfold Oper.wp
        rw [h1]
        refine h2.mono fun e w' he => ?_
        obtain ⟨hb, c, rfl, hv⟩ := he
        exact hQ _ c (hr.below hb) (hv.nomem hnm)
end Go.Va
