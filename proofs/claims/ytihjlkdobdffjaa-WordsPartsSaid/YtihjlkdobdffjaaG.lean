/-
  Small lemmas that the printed texts of this seat use: an array that is a value, indexed.
  Conditions: none.
-/
import Derived.Test.YtihjlkdobdffjaaWWords
namespace Go.Proofs.YtihjlkdobdffjaaG
open Go.RowKit Go.Proofs.YtihjlkdobdffjaaW.PrintWords
/-- An array of whole numbers that is a value, indexed within its bounds. -/
theorem ix_run {P : Program} {t e : TypeId} {n : Nat} {k : IntKind} (xs : List Int) (ht : P.underlying t = some (.array n e)) (he : P.underlying e = some (.int k)) (hs : (P.info? e).map (·.size) = some 1) (hl : xs.length = n) (ki : IntKind) (j : Int) (h0 : 0 ≤ j) (h1 : j < n) (w : World) :
    (Instr.index t (.agg (nums k xs).toArray) (.int ki j)).run P w = .ok (.int k (rd xs j)) w := by
  obtain ⟨i, hi, hi1⟩ := Option.map_eq_some_iff.1 hs
  have hj : j.toNat < xs.length := by omega
  simp [Instr.index, run_underlying ht, asIntOf, h0, h1, part, isAgg, run_underlying he, sizeOf, hi, hi1, typeInfo, nums, rd, hj]
theorem isEmpty_ne (l : List UInt8) : l.isEmpty = !(l != []) := by cases l <;> rfl
/-- An array of bools that is a value, indexed within its bounds. -/
theorem ix_runb {P : Program} {t e : TypeId} {n : Nat} (xs : List Bool) (ht : P.underlying t = some (.array n e)) (he : P.underlying e = some .bool) (hs : (P.info? e).map (·.size) = some 1) (hl : xs.length = n) (ki : IntKind) (j : Int) (h0 : 0 ≤ j) (h1 : j < n) (w : World) :
    (Instr.index t (.agg (xs.map Value.bool).toArray) (.int ki j)).run P w = .ok (.bool (rdOf false xs j)) w := by
  obtain ⟨i, hi, hi1⟩ := Option.map_eq_some_iff.1 hs
  have hj : j.toNat < xs.length := by omega
  simp [Instr.index, run_underlying ht, asIntOf, h0, h1, part, isAgg, run_underlying he, sizeOf, hi, hi1, typeInfo, rdOf, hj]
/-- A small array in memory, read by index. -/
theorem blk_ixb {w : World} {g : Nat} {t : TypeId} {xs : List Bool} {j : Int} (h : w.heap[g]? = some (.cells (xs.map Value.bool).toArray t (0, 0))) (h0 : 0 ≤ j) (h1 : j < (xs.length : Int)) : w.cell? ⟨g, j.toNat, none⟩ = some (.bool (rdOf false xs j)) := by
  rw [blk_cell h]
  have hj : j.toNat < xs.length := by omega
  simp [rdOf, hj]
theorem blk_ix {w : World} {g : Nat} {t : TypeId} {k : IntKind} {xs : List Int} {j : Int} (h : w.heap[g]? = some (.cells (nums k xs).toArray t (0, 0))) (h0 : 0 ≤ j) (h1 : j < (xs.length : Int)) : w.cell? ⟨g, j.toNat, none⟩ = some (.int k (rd xs j)) := by
  rw [blk_cell h]
  have hj : j.toNat < xs.length := by omega
  simp [rd, nums, hj]
/-- An array of strings that is a value, indexed within its bounds. -/
theorem ix_runs {P : Program} {t e : TypeId} {n : Nat} (xs : List ByteArray) (ht : P.underlying t = some (.array n e)) (he : P.underlying e = some .string) (hs : (P.info? e).map (·.size) = some 1) (hl : xs.length = n) (ki : IntKind) (j : Int) (h0 : 0 ≤ j) (h1 : j < n) (w : World) :
    (Instr.index t (.agg (xs.map Value.string).toArray) (.int ki j)).run P w = .ok (.string (rdOf ByteArray.empty xs j)) w := by
  obtain ⟨i, hi, hi1⟩ := Option.map_eq_some_iff.1 hs
  have hj : j.toNat < xs.length := by omega
  simp [Instr.index, run_underlying ht, asIntOf, h0, h1, part, isAgg, run_underlying he, sizeOf, hi, hi1, typeInfo, rdOf, hj]
theorem ba_lit (l : List UInt8) : (⟨l.toArray⟩ : ByteArray).size = l.length := rfl
theorem bnn1 (x y : Bool) : (x == !y) = (x != y) := by cases x <;> cases y <;> rfl
end Go.Proofs.YtihjlkdobdffjaaG
