/-
  Small lemmas that the printed texts of this seat use: an array that is a value, indexed.
  Conditions: none.
-/
import Derived.Test.YtglafffghbhnbaaDoorWWords
namespace Go.Proofs.YtglafffghbhnbaaDoorG
open Go.RowKit Go.Proofs.YtglafffghbhnbaaDoorW.PrintWords
/-- An array of whole numbers that is a value, indexed within its bounds. -/
theorem ix_run {P : Program} {t e : TypeId} {n : Nat} {k : IntKind} (xs : List Int) (ht : P.underlying t = some (.array n e)) (he : P.underlying e = some (.int k)) (hs : (P.info? e).map (·.size) = some 1) (hl : xs.length = n) (ki : IntKind) (j : Int) (h0 : 0 ≤ j) (h1 : j < n) (w : World) :
    (Instr.index t (.agg (nums k xs).toArray) (.int ki j)).run P w = .ok (.int k (rd xs j)) w := by
  obtain ⟨i, hi, hi1⟩ := Option.map_eq_some_iff.1 hs
  have hj : j.toNat < xs.length := by omega
  simp [Instr.index, run_underlying ht, asIntOf, h0, h1, part, isAgg, run_underlying he, sizeOf, hi, hi1, typeInfo, nums, rd, hj]
theorem isEmpty_ne (l : List UInt8) : l.isEmpty = !(l != []) := by cases l <;> rfl
/-- An array of bools that is a value, indexed within its bounds. -/
theorem ix_runb {P : Program} {t e : TypeId} {n : Nat} (xs : List Bool) (ht : P.underlying t = some (.array n e)) (he : P.underlying e = some .bool) (hs : (P.info? e).map (·.size) = some 1) (hl : xs.length = n) (ki : IntKind) (j : Int) (h0 : 0 ≤ j) (h1 : j < n) (w : World) :
    (Instr.index t (.agg (xs.map Value.bool).toArray) (.int ki j)).run P w = .ok (.bool (rdOf false xs j)) w := by
  obtain ⟨i, hi, hi1⟩ := Option.map_eq_some_iff.1 hs
  have hj : j.toNat < xs.length := by omega
  simp [Instr.index, run_underlying ht, asIntOf, h0, h1, part, isAgg, run_underlying he, sizeOf, hi, hi1, typeInfo, rdOf, hj]
end Go.Proofs.YtglafffghbhnbaaDoorG
