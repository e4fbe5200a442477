/-
  Functions that write through a pointer: from a body's run to what callers may know.
  Conditions: none.
-/
import Derived.Test.YtnidnmhcjngmeaaGreatVaLoop
set_option linter.unusedVariables false
set_option linter.unusedSimpArgs false
set_option autoImplicit false
namespace Go.Va

end Go.Va
