/-
  What the printed functions are made of; how typed values stand as abstract ones; from a function's run to what its callers may know of it.
  Conditions: none.
-/
import Derived.Test.YtnidnmhcjngmeaaGreatVaRun
set_option linter.unusedVariables false
set_option linter.unusedSimpArgs false
set_option autoImplicit false
namespace Go.Va

theorem cond_bind {α β : Type} (b : Bool) (x y : Option α) (f : α → Option β) : (bif b then x else y).bind f = bif b then x.bind f else y.bind f := by cases b <;> rfl

theorem elim_bind {α β γ δ : Type} (f : α → Option γ) (g : β → Option γ) (x : α ⊕ β) (h : γ → Option δ) : (Sum.elim f g x).bind h = Sum.elim (fun a => (f a).bind h) (fun b => (g b).bind h) x := by cases x <;> rfl

theorem bs {α β : Type} {x : Option α} {f : α → Option β} {y : β} (h : x.bind f = some y) : ∃ a, x = some a ∧ f a = some y := Option.bind_eq_some_iff.1 h

/-- Whatever stands for the one stands for the other. -/
def Refs (v u : AV) : Prop := ∀ (C : Cx) (m : Bool) (c : Value), VRel C m v c → VRel C m u c

theorem Refs.refl (v : AV) : Refs v v := fun _ _ _ h => h
theorem Refs.of_eq {v u : AV} (h : v = u) : Refs v u := h ▸ Refs.refl v

def RefsL : List AV → List AV → Prop
  | [], [] => True
  | v :: l, u :: k => Refs v u ∧ RefsL l k
  | _, _ => False

theorem RefsL.nil : RefsL [] [] := trivial
theorem RefsL.cons {v u : AV} {l k : List AV} (h : Refs v u) (t : RefsL l k) : RefsL (v :: l) (u :: k) := ⟨h, t⟩

theorem RefsL.cells {C : Cx} {m : Bool} {l k : List AV} (h : RefsL l k) {vs : List Value} (hc : Cells C m l vs) : Cells C m k vs := by
  induction l generalizing k vs with
  | nil => cases k with
    | nil => exact hc
    | cons u k => exact h.elim
  | cons v l ih => cases k with
    | nil => exact h.elim
    | cons u k =>
      cases vs with
      | nil => have := hc.1; simp at this
      | cons c vs =>
        have ht := ih h.2 (hc.drop 1)
        refine ⟨by have := ht.1; simpa using this, fun j => ?_⟩
        cases j with
        | zero => exact h.1 _ _ _ (hc.2 0)
        | succ j => exact ht.2 j

def intO (k : IntKind) (v : AV) : Option Int := match v with
  | .val (.int j x) => if j = k then some x else none
  | _ => none

def boolO (v : AV) : Option Bool := match v with
  | .val (.bool x) => some x
  | _ => none

def strO (v : AV) : Option ByteArray := match v with
  | .val (.string x) => some x
  | _ => none

theorem intO_eq {k : IntKind} {v : AV} {x : Int} (h : intO k v = some x) : v = .val (.int k x) := by
  unfold intO at h
  split at h
  · split at h
    · rename_i e; simp only [Option.some.injEq] at h; rw [e, h]
    · cases h
  · cases h

theorem boolO_eq {v : AV} {x : Bool} (h : boolO v = some x) : v = .val (.bool x) := by
  unfold boolO at h
  split at h
  · simp only [Option.some.injEq] at h; rw [h]
  · cases h

theorem strO_eq {v : AV} {x : ByteArray} (h : strO v = some x) : v = .val (.string x) := by
  unfold strO at h
  split at h
  · simp only [Option.some.injEq] at h; rw [h]
  · cases h

/-- The list out of a still slice. -/
def vecO {α : Type} (sz : Nat) (d : α) (dec : List AV → Option α) (v : AV) : Option (List α) := match v with
  | .vec n s g => bif s == sz && allB n (fun j => (dec (g j)).isSome) then some (vecL n fun j => (dec (g j)).getD d) else none
  | .val (.slice none 0 0) => some []
  | _ => none

/-- What `vecO` comes to at a list that is one. -/
def vecG {α : Type} (s sz n : Nat) (l : List α) : Option (List α) := bif s == sz && allB n (fun _ => true) then some l else none
@[simp] theorem vecG_same {α : Type} (s n : Nat) (l : List α) : vecG s s n l = some l := by simp [vecG]

/-! ### What callers may know -/
abbrev GFun := ∀ β : Type, List AV → (Out → Option β) → Option β

def GOk (P : Program) (f : FuncId) (g : GFun) : Prop := ∀ (β : Type) (args : List AV) (K : Out → Option β) (r : β), g β args K = some r → ∃ out, K out = some r ∧ SimP P f args out

def gamG : List (Nat × GFun) → ∀ β : Type, FuncId → List AV → (Out → Option β) → Option β
  | [] => fun _ _ _ _ => none
  | e :: l => fun β f args K => bif f == e.1 then e.2 β args K else gamG l β f args K

def gamOf (l : List (Nat × GFun)) : Gam := ⟨gamG l, fun _ => none⟩

theorem gamOf_nil (P : Program) : GamOk P (gamOf []) := ⟨fun β f args K r h => (by cases h), fun f W h => (by cases h)⟩

theorem gamOf_cons {P : Program} {f : FuncId} {g : GFun} {l : List (Nat × GFun)} (h : GOk P f g) (hc : callable P f = true) (hl : GamOk P (gamOf l)) : GamOk P (gamOf ((f, g) :: l)) := by
  refine ⟨fun β f' args K r hr => ?_, fun f W h => by cases h⟩
  simp only [gamOf, gamG] at hr
  cases he : (f' == f) with
  | true =>
    rw [he, cond_true] at hr
    have := beq_iff_eq.1 he
    subst this
    obtain ⟨out, h1, h2⟩ := h β args K r hr
    exact ⟨out, h1, h2, hc⟩
  | false => rw [he, cond_false] at hr; exact hl.1 β f' args K r hr

theorem callable_of {P : Program} {f : FuncId} {fn : Func} (hf : P.funcs[f]? = some fn) (h : (fn.body.isSome && fn.name != "runtime.NumGoroutine") = true) : callable P f = true := by
  unfold callable; rw [hf]; exact h

theorem SimP.refs {P : Program} {f : FuncId} {args args' : List AV} {out : Out} (h : SimP P f args' out) (hr : RefsL args args') : SimP P f args out :=
  fun w ban vs hban hc => h w ban vs hban (hr.cells hc)

theorem sim_of_run {P : Program} {G : Gam} {L : Lam} {f : FuncId} {fn : Func} (hf : P.funcs[f]? = some fn) (hs : fn.body.isSome = true) (hm : P.follows .mixedOrders = true) (hG : GamOk P G) (hL : LamOk P (bodyOf fn) L)
    {β : Type} {args args' : List AV} {K : Out → Option β} {r : β} (hr : RefsL args args') (h : runF P G L fn args' K = some r) : ∃ out, K out = some r ∧ SimP P f args out := by
  obtain ⟨out, h1, h2⟩ := runF_ok hf hs hG hL hm h
  exact ⟨out, h1, h2.refs hr⟩
end Go.Va
