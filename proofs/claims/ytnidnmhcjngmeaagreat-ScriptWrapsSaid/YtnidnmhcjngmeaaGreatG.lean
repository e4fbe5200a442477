/-
  Small lemmas that the printed texts of this seat use: an array that is a value, indexed.
  Conditions: none.
-/
import Derived.Test.YtnidnmhcjngmeaaGreatWWords
namespace Go.Proofs.YtnidnmhcjngmeaaGreatG
open Go.RowKit Go.Proofs.YtnidnmhcjngmeaaGreatW.PrintWords
end Go.Proofs.YtnidnmhcjngmeaaGreatG
