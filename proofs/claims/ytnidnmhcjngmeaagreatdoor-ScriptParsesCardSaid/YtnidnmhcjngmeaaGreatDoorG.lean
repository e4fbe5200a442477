/-
  Small lemmas that the printed texts of this seat use: an array that is a value, indexed.
  Conditions: none.
-/
import Derived.Test.YtnidnmhcjngmeaaGreatDoorWWords
namespace Go.Proofs.YtnidnmhcjngmeaaGreatDoorG
open Go.RowKit Go.Proofs.YtnidnmhcjngmeaaGreatDoorW.PrintWords
end Go.Proofs.YtnidnmhcjngmeaaGreatDoorG
