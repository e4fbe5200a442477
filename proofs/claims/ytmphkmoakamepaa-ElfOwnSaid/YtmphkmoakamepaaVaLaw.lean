/-
  From what is known of a function to the law's row: what it answers when called with these values.
  Conditions: none.
-/
import Derived.Test.YtmphkmoakamepaaVaLoop
set_option linter.unusedVariables false
set_option linter.unusedSimpArgs false
set_option autoImplicit false
namespace Go.Va
open Go.RowKit

theorem cells_nil {C : Cx} {m : Bool} : Cells C m [] [] := ⟨rfl, fun _ => .junk _⟩

theorem cells_cons {C : Cx} {m : Bool} {v : AV} {c : Value} {vs : List AV} {cs : List Value} (h : VRel C m v c) (t : Cells C m vs cs) : Cells C m (v :: vs) (c :: cs) :=
  ⟨by simp [t.1], fun j => by cases j with
    | zero => exact h
    | succ j => exact t.2 j⟩

theorem rel_agg {C : Cx} {m : Bool} {l : List AV} {vs : List Value} (h : Cells C m l vs) : VRel C m (.agg l) (.agg vs.toArray) := .agg vs h.1 h.2

/-- The contract of a function that answers a plain value, at a world. -/
theorem calls_of {P : Program} {f : FuncId} {g : GFun} (hg : GOk P f g) {args : List AV} {v : Value} (h : g Out args some = some (.ret (.val v))) (w : World) {vs : List Value}
    (hc : Cells (cx0 (fun _ => False) w) false args vs) : Calls P f vs.toArray w fun e w' => e = .returned v ∧ Below w.heap.size w w' := by
  obtain ⟨out, e, hs⟩ := hg Out args some _ h
  cases e
  refine (hs w (fun _ => False) vs (fun _ h => h.elim) hc).mono fun e w' ⟨hb, ho⟩ => ?_
  obtain ⟨c, rfl, hv⟩ := ho
  cases hv
  exact ⟨rfl, hb.b⟩
end Go.Va
