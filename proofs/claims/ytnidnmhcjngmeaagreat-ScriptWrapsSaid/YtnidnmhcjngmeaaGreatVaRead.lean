/-
  A function that defers a closure which catches panics, and answers by two variables that the closure may write.
  Conditions: none.
-/
import Derived.Test.YtnidnmhcjngmeaaGreatVaWo
import Derived.Recover
set_option linter.unusedVariables false
set_option linter.unusedSimpArgs false
set_option autoImplicit false
namespace Go.Va

/-! ### Other pins -/
/-! ### A frame's beginning and its results -/
/-! ### The run -/
/-! ### The shapes -/
end Go.Va
