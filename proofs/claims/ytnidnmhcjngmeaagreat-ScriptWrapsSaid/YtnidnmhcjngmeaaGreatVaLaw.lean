/-
  From what is known of a function to the law's row: what it answers when called with these values.
  Conditions: none.
-/
import Derived.Test.YtnidnmhcjngmeaaGreatVaLoop
set_option linter.unusedVariables false
set_option linter.unusedSimpArgs false
set_option autoImplicit false
namespace Go.Va
open Go.RowKit

theorem cells_nil {C : Cx} {m : Bool} : Cells C m [] [] := ⟨rfl, fun _ => .junk _⟩

theorem cells_cons {C : Cx} {m : Bool} {v : AV} {c : Value} {vs : List AV} {cs : List Value} (h : VRel C m v c) (t : Cells C m vs cs) : Cells C m (v :: vs) (c :: cs) :=
  ⟨by simp [t.1], fun j => by cases j with
    | zero => exact h
    | succ j => exact t.2 j⟩

end Go.Va
