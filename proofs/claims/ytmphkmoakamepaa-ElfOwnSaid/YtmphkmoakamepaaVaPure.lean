/-
  What the printed functions are made of; how typed values stand as abstract ones; from a function's run to what its callers may know of it.
  Conditions: none.
-/
import Derived.Test.YtmphkmoakamepaaVaRun
set_option linter.unusedVariables false
set_option linter.unusedSimpArgs false
set_option autoImplicit false
namespace Go.Va

def andI (k : IntKind) (x y : Int) : Int := k.wrap ((BitVec.ofInt k.bits x &&& BitVec.ofInt k.bits y).toNat : Int)
def orI (k : IntKind) (x y : Int) : Int := k.wrap ((BitVec.ofInt k.bits x ||| BitVec.ofInt k.bits y).toNat : Int)
def xorI (k : IntKind) (x y : Int) : Int := k.wrap ((BitVec.ofInt k.bits x ^^^ BitVec.ofInt k.bits y).toNat : Int)
def andNotI (k : IntKind) (x y : Int) : Int := k.wrap ((BitVec.ofInt k.bits x &&& ~~~BitVec.ofInt k.bits y).toNat : Int)
def shlI (k : IntKind) (x n : Int) : Int := k.wrap (x * 2 ^ (min n.toNat k.bits))
def shrI (k : IntKind) (x n : Int) : Int := x.fdiv (2 ^ (min n.toNat k.bits))

theorem cond_bind {α β : Type} (b : Bool) (x y : Option α) (f : α → Option β) : (bif b then x else y).bind f = bif b then x.bind f else y.bind f := by cases b <;> rfl

theorem elim_bind {α β γ δ : Type} (f : α → Option γ) (g : β → Option γ) (x : α ⊕ β) (h : γ → Option δ) : (Sum.elim f g x).bind h = Sum.elim (fun a => (f a).bind h) (fun b => (g b).bind h) x := by cases x <;> rfl

theorem bs {α β : Type} {x : Option α} {f : α → Option β} {y : β} (h : x.bind f = some y) : ∃ a, x = some a ∧ f a = some y := Option.bind_eq_some_iff.1 h

/-- Whatever stands for the one stands for the other. -/
def Refs (v u : AV) : Prop := ∀ (C : Cx) (m : Bool) (c : Value), VRel C m v c → VRel C m u c

theorem Refs.refl (v : AV) : Refs v v := fun _ _ _ h => h
theorem Refs.of_eq {v u : AV} (h : v = u) : Refs v u := h ▸ Refs.refl v

def RefsL : List AV → List AV → Prop
  | [], [] => True
  | v :: l, u :: k => Refs v u ∧ RefsL l k
  | _, _ => False

theorem RefsL.nil : RefsL [] [] := trivial
theorem RefsL.cons {v u : AV} {l k : List AV} (h : Refs v u) (t : RefsL l k) : RefsL (v :: l) (u :: k) := ⟨h, t⟩

theorem RefsL.cells {C : Cx} {m : Bool} {l k : List AV} (h : RefsL l k) {vs : List Value} (hc : Cells C m l vs) : Cells C m k vs := by
  induction l generalizing k vs with
  | nil => cases k with
    | nil => exact hc
    | cons u k => exact h.elim
  | cons v l ih => cases k with
    | nil => exact h.elim
    | cons u k =>
      cases vs with
      | nil => have := hc.1; simp at this
      | cons c vs =>
        have ht := ih h.2 (hc.drop 1)
        refine ⟨by have := ht.1; simpa using this, fun j => ?_⟩
        cases j with
        | zero => exact h.1 _ _ _ (hc.2 0)
        | succ j => exact ht.2 j

def intO (k : IntKind) (v : AV) : Option Int := match v with
  | .val (.int j x) => if j = k then some x else none
  | _ => none

def boolO (v : AV) : Option Bool := match v with
  | .val (.bool x) => some x
  | _ => none

def strO (v : AV) : Option ByteArray := match v with
  | .val (.string x) => some x
  | _ => none

/-- This text. -/
def constO (b : ByteArray) (v : AV) : Option Unit := match v with
  | .val (.string x) => if x.data.toList = b.data.toList then some () else none
  | _ => none
theorem constO_eq {b : ByteArray} {v : AV} {x : Unit} (h : constO b v = some x) : v = .val (.string b) := by
  unfold constO at h
  split at h
  · rename_i y
    split at h
    · rename_i e
      have : y = b := by
        cases y; cases b
        simp only at e
        congr 1
        exact Array.toList_inj.1 e
      rw [this]
    · cases h
  · cases h

theorem intO_eq {k : IntKind} {v : AV} {x : Int} (h : intO k v = some x) : v = .val (.int k x) := by
  unfold intO at h
  split at h
  · split at h
    · rename_i e; simp only [Option.some.injEq] at h; rw [e, h]
    · cases h
  · cases h

theorem boolO_eq {v : AV} {x : Bool} (h : boolO v = some x) : v = .val (.bool x) := by
  unfold boolO at h
  split at h
  · simp only [Option.some.injEq] at h; rw [h]
  · cases h

theorem strO_eq {v : AV} {x : ByteArray} (h : strO v = some x) : v = .val (.string x) := by
  unfold strO at h
  split at h
  · simp only [Option.some.injEq] at h; rw [h]
  · cases h

/-- A still slice of elements of so many cells, out of a list. -/
def vecA {α : Type} (sz : Nat) (d : α) (cells : α → List AV) (l : List α) : AV := .vec l.length sz (fun j => cells (l.getD j d))

/-- The list out of a still slice. -/
def vecO {α : Type} (sz : Nat) (d : α) (dec : List AV → Option α) (v : AV) : Option (List α) := match v with
  | .vec n s g => bif s == sz && allB n (fun j => (dec (g j)).isSome) then some (vecL n fun j => (dec (g j)).getD d) else none
  | .val (.slice none 0 0) => some []
  | _ => none

/-- What `vecO` comes to at a list that is one. -/
def vecG {α : Type} (s sz n : Nat) (l : List α) : Option (List α) := bif s == sz && allB n (fun _ => true) then some l else none
@[simp] theorem vecG_same {α : Type} (s n : Nat) (l : List α) : vecG s s n l = some l := by simp [vecG]

theorem vecO_refs {α : Type} {sz : Nat} {d : α} {dec : List AV → Option α} {cells : α → List AV} (hd : ∀ l x, dec l = some x → l = cells x) {v : AV} {l : List α} (h : vecO sz d dec v = some l) : Refs v (vecA sz d cells l) := by
  unfold vecO at h
  split at h
  · rename_i n s g
    cases hc : (s == sz && allB n fun j => (dec (g j)).isSome) with
    | false => rw [hc] at h; cases h
    | true =>
      rw [hc, cond_true, Option.some.injEq] at h
      simp only [Bool.and_eq_true, beq_iff_eq] at hc
      obtain ⟨rfl, hall⟩ := hc
      have hg : ∀ j, j < n → g j = cells (l.getD j d) := fun j hj => by
        have h1 := List.all_eq_true.1 hall j (by simpa using hj)
        obtain ⟨x, hx⟩ := Option.isSome_iff_exists.1 h1
        rw [hd _ _ hx, ← h]
        simp [vecL, List.getD_eq_getElem?_getD, hj, hx]
      have hlen : l.length = n := by rw [← h]; simp [vecL]
      intro C m c hv
      unfold vecA
      rw [hlen]
      cases hv with
      | vec0 => exact .vec0
      | vec f hB hn hcap hmax hl hcl hr =>
        exact .vec f hB hn hcap hmax (fun j hj => by rw [← hg j hj]; exact hl j hj) hcl (fun j hj c => by rw [← hg j hj]; exact hr j hj c)
  · simp only [Option.some.injEq] at h
    subst h
    intro C m c hv
    rw [hv.inv_val]
    exact .vec0
  · cases h

def intC (k : IntKind) (x : Int) : List AV := [.val (.int k x)]
def strC (x : ByteArray) : List AV := [.val (.string x)]
def boolC (x : Bool) : List AV := [.val (.bool x)]
def oneO {α : Type} (f : AV → Option α) (l : List AV) : Option α := match l with
  | [v] => f v
  | _ => none
theorem oneO_int {k : IntKind} (l : List AV) (x : Int) (h : oneO (intO k) l = some x) : l = intC k x := by
  unfold oneO at h
  split at h
  · rw [intO_eq h]; rfl
  · cases h
theorem oneO_str (l : List AV) (x : ByteArray) (h : oneO strO l = some x) : l = strC x := by
  unfold oneO at h
  split at h
  · rw [strO_eq h]; rfl
  · cases h

/-! ### What callers may know -/
abbrev GFun := ∀ β : Type, List AV → (Out → Option β) → Option β

def GOk (P : Program) (f : FuncId) (g : GFun) : Prop := ∀ (β : Type) (args : List AV) (K : Out → Option β) (r : β), g β args K = some r → ∃ out, K out = some r ∧ SimP P f args out

def gamG : List (Nat × GFun) → ∀ β : Type, FuncId → List AV → (Out → Option β) → Option β
  | [] => fun _ _ _ _ => none
  | e :: l => fun β f args K => bif f == e.1 then e.2 β args K else gamG l β f args K

def gamOf (l : List (Nat × GFun)) : Gam := ⟨gamG l, fun _ => none⟩

theorem gamOf_nil (P : Program) : GamOk P (gamOf []) := ⟨fun β f args K r h => (by cases h), fun f W h => (by cases h)⟩

theorem gamOf_cons {P : Program} {f : FuncId} {g : GFun} {l : List (Nat × GFun)} (h : GOk P f g) (hc : callable P f = true) (hl : GamOk P (gamOf l)) : GamOk P (gamOf ((f, g) :: l)) := by
  refine ⟨fun β f' args K r hr => ?_, fun f W h => by cases h⟩
  simp only [gamOf, gamG] at hr
  cases he : (f' == f) with
  | true =>
    rw [he, cond_true] at hr
    have := beq_iff_eq.1 he
    subst this
    obtain ⟨out, h1, h2⟩ := h β args K r hr
    exact ⟨out, h1, h2, hc⟩
  | false => rw [he, cond_false] at hr; exact hl.1 β f' args K r hr

/-- With functions that write. -/
def wOf : List (Nat × WFun) → FuncId → Option WFun
  | [], _ => none
  | e :: l, f => bif f == e.1 then some e.2 else wOf l f
def gamW (G : Gam) (l : List (Nat × WFun)) : Gam := ⟨G.g, wOf l⟩
def WsOk (P : Program) (l : List (Nat × WFun)) : Prop := ∀ f W, wOf l f = some W → WOk P f W ∧ callable P f = true
theorem wsOk_nil (P : Program) : WsOk P [] := fun f W h => by cases h
theorem wsOk_cons {P : Program} {f : FuncId} {W : WFun} {l : List (Nat × WFun)} (h : WOk P f W) (hc : callable P f = true) (hl : WsOk P l) : WsOk P ((f, W) :: l) := by
  intro f' W' hw
  simp only [wOf] at hw
  cases he : (f' == f) with
  | true =>
    rw [he, cond_true, Option.some.injEq] at hw
    have := beq_iff_eq.1 he
    subst this; subst hw
    exact ⟨h, hc⟩
  | false => rw [he, cond_false] at hw; exact hl f' W' hw
theorem gamW_ok {P : Program} {G : Gam} {l : List (Nat × WFun)} (hG : GamOk P G) (hl : WsOk P l) : GamOk P (gamW G l) := ⟨hG.1, hl⟩

theorem callable_of {P : Program} {f : FuncId} {fn : Func} (hf : P.funcs[f]? = some fn) (h : (fn.body.isSome && fn.name != "runtime.NumGoroutine") = true) : callable P f = true := by
  unfold callable; rw [hf]; exact h

theorem SimP.refs {P : Program} {f : FuncId} {args args' : List AV} {out : Out} (h : SimP P f args' out) (hr : RefsL args args') : SimP P f args out :=
  fun w ban vs hban hc => h w ban vs hban (hr.cells hc)

theorem sim_of_run {P : Program} {G : Gam} {L : Lam} {f : FuncId} {fn : Func} (hf : P.funcs[f]? = some fn) (hs : fn.body.isSome = true) (hm : P.follows .mixedOrders = true) (hG : GamOk P G) (hL : LamOk P (bodyOf fn) L)
    {β : Type} {args args' : List AV} {K : Out → Option β} {r : β} (hr : RefsL args args') (h : runF P G L fn args' K = some r) : ∃ out, K out = some r ∧ SimP P f args out := by
  obtain ⟨out, h1, h2⟩ := runF_ok hf hs hG hL hm h
  exact ⟨out, h1, h2.refs hr⟩
end Go.Va
