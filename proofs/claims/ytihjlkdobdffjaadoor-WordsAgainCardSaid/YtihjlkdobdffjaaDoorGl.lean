/-
  The package-level tables that this seat's functions read, as lists, and what it is that a world holds them.
  Conditions: none.
-/
import Derived.Test.YtihjlkdobdffjaaDoorGLaid
import Derived.Test.YtihjlkdobdffjaaDoorG
import Derived.Test.YtihjlkdobdffjaaDoorRows
set_option linter.unusedVariables false
namespace Go.Proofs.YtihjlkdobdffjaaDoorG
open Go.RowKit Go.Proofs.YtihjlkdobdffjaaDoorW.PrintWords
def gt0_0 : List Int := [1, 10, 100, 1000, 10000, 100000, 1000000, 10000000, 100000000, 1000000000, 10000000000, 100000000000, 1000000000000, 10000000000000, 100000000000000, 1000000000000000, 10000000000000000, 100000000000000000, 1000000000000000000, 10000000000000000000]
/-- The world holds the table internal/strconv.uint64pow10. -/
structure G0 (w : World) : Prop where
  c0 : ∀ i0 : Int, 0 ≤ i0 → i0 < 20 → w.cell? ⟨0, i0.toNat, none⟩ = some (.int .u64 (rd gt0_0 i0))
theorem G0.below {w w1 : World} (h : G0 w) (hb : Below w.heap.size w w1) : G0 w1 := ⟨fun i0 a0 b0 => pw_cell_below hb (h.c0 i0 a0 b0)⟩
theorem G0.drawn {w w1 : World} (h : G0 w) (hd : Drawn0 w w1) : G0 w1 := h.below hd.below
theorem G0.name : Go.Proofs.Tryd.prog.globalNamed "internal/strconv.uint64pow10" = some 0 := by kernel_rfl
theorem G0.type : (Go.Proofs.Tryd.prog.globals[0]?).map (·.type) = some 47 := by kernel_rfl
theorem G0.plain : plainT Go.Proofs.Tryd.prog 9 47 = some 20 := by kernel_rfl
set_option maxRecDepth 100000 in
theorem G0.flat : flatD (Go.Proofs.YtihjlkdobdffjaaDoor.Rows.laid_internal_strconv_uint64pow10 (H := Unit)) = gt0_0.map (fun z : Int => (.int .u64 (z) : Value)) := by rfl
theorem G0.at0 (i : Nat) (h : i < 20) : (gt0_0.map (fun z : Int => (.int .u64 (z) : Value)))[i]? = some (.int .u64 (gt0_0.getD i 0)) := map_at _ _ _ i (Nat.lt_of_lt_of_eq h (by rfl))
theorem G0.of_laid {w : World} {l : List (String × DataW Unit)} (h : laidMet Go.Proofs.Tryd.prog l w) (hm : ("internal/strconv.uint64pow10", Go.Proofs.YtihjlkdobdffjaaDoor.Rows.laid_internal_strconv_uint64pow10) ∈ l) : G0 w := by
  have hc := laid_cells G0.name G0.type G0.plain h hm
  rw [G0.flat] at hc
  refine ⟨?_⟩
  · intro i0 a0 b0
    have e : i0.toNat = (i0).toNat := by omega
    rw [e, hc]
    exact G0.at0 (i0).toNat (by omega)
def gt1_0 : List Int := [0, 1, 28, 2, 29, 14, 24, 3, 30, 22, 20, 15, 25, 17, 4, 8, 31, 27, 13, 23, 21, 19, 16, 7, 26, 12, 18, 6, 11, 5, 10, 9]
/-- The world holds the table math/bits.deBruijn32tab. -/
structure G1 (w : World) : Prop where
  c0 : ∀ i0 : Int, 0 ≤ i0 → i0 < 32 → w.cell? ⟨1, i0.toNat, none⟩ = some (.int .u8 (rd gt1_0 i0))
theorem G1.below {w w1 : World} (h : G1 w) (hb : Below w.heap.size w w1) : G1 w1 := ⟨fun i0 a0 b0 => pw_cell_below hb (h.c0 i0 a0 b0)⟩
theorem G1.drawn {w w1 : World} (h : G1 w) (hd : Drawn0 w w1) : G1 w1 := h.below hd.below
theorem G1.name : Go.Proofs.Tryd.prog.globalNamed "math/bits.deBruijn32tab" = some 1 := by kernel_rfl
theorem G1.type : (Go.Proofs.Tryd.prog.globals[1]?).map (·.type) = some 54 := by kernel_rfl
theorem G1.plain : plainT Go.Proofs.Tryd.prog 9 54 = some 32 := by kernel_rfl
set_option maxRecDepth 100000 in
theorem G1.flat : flatD (Go.Proofs.YtihjlkdobdffjaaDoor.Rows.laid_math_bits_deBruijn32tab (H := Unit)) = gt1_0.map (fun z : Int => (.int .u8 (z) : Value)) := by rfl
theorem G1.at0 (i : Nat) (h : i < 32) : (gt1_0.map (fun z : Int => (.int .u8 (z) : Value)))[i]? = some (.int .u8 (gt1_0.getD i 0)) := map_at _ _ _ i (Nat.lt_of_lt_of_eq h (by rfl))
theorem G1.of_laid {w : World} {l : List (String × DataW Unit)} (h : laidMet Go.Proofs.Tryd.prog l w) (hm : ("math/bits.deBruijn32tab", Go.Proofs.YtihjlkdobdffjaaDoor.Rows.laid_math_bits_deBruijn32tab) ∈ l) : G1 w := by
  have hc := laid_cells G1.name G1.type G1.plain h hm
  rw [G1.flat] at hc
  refine ⟨?_⟩
  · intro i0 a0 b0
    have e : i0.toNat = (i0).toNat := by omega
    rw [e, hc]
    exact G1.at0 (i0).toNat (by omega)
def gt2_0 : List Int := [0, 1, 56, 2, 57, 49, 28, 3, 61, 58, 42, 50, 38, 29, 17, 4, 62, 47, 59, 36, 45, 43, 51, 22, 53, 39, 33, 30, 24, 18, 12, 5, 63, 55, 48, 27, 60, 41, 37, 16, 46, 35, 44, 21, 52, 32, 23, 11, 54, 26, 40, 15, 34, 20, 31, 10, 25, 14, 19, 9, 13, 8, 7, 6]
/-- The world holds the table math/bits.deBruijn64tab. -/
structure G2 (w : World) : Prop where
  c0 : ∀ i0 : Int, 0 ≤ i0 → i0 < 64 → w.cell? ⟨2, i0.toNat, none⟩ = some (.int .u8 (rd gt2_0 i0))
theorem G2.below {w w1 : World} (h : G2 w) (hb : Below w.heap.size w w1) : G2 w1 := ⟨fun i0 a0 b0 => pw_cell_below hb (h.c0 i0 a0 b0)⟩
theorem G2.drawn {w w1 : World} (h : G2 w) (hd : Drawn0 w w1) : G2 w1 := h.below hd.below
theorem G2.name : Go.Proofs.Tryd.prog.globalNamed "math/bits.deBruijn64tab" = some 2 := by kernel_rfl
theorem G2.type : (Go.Proofs.Tryd.prog.globals[2]?).map (·.type) = some 55 := by kernel_rfl
theorem G2.plain : plainT Go.Proofs.Tryd.prog 9 55 = some 64 := by kernel_rfl
set_option maxRecDepth 100000 in
theorem G2.flat : flatD (Go.Proofs.YtihjlkdobdffjaaDoor.Rows.laid_math_bits_deBruijn64tab (H := Unit)) = gt2_0.map (fun z : Int => (.int .u8 (z) : Value)) := by rfl
theorem G2.at0 (i : Nat) (h : i < 64) : (gt2_0.map (fun z : Int => (.int .u8 (z) : Value)))[i]? = some (.int .u8 (gt2_0.getD i 0)) := map_at _ _ _ i (Nat.lt_of_lt_of_eq h (by rfl))
theorem G2.of_laid {w : World} {l : List (String × DataW Unit)} (h : laidMet Go.Proofs.Tryd.prog l w) (hm : ("math/bits.deBruijn64tab", Go.Proofs.YtihjlkdobdffjaaDoor.Rows.laid_math_bits_deBruijn64tab) ∈ l) : G2 w := by
  have hc := laid_cells G2.name G2.type G2.plain h hm
  rw [G2.flat] at hc
  refine ⟨?_⟩
  · intro i0 a0 b0
    have e : i0.toNat = (i0).toNat := by omega
    rw [e, hc]
    exact G2.at0 (i0).toNat (by omega)
end Go.Proofs.YtihjlkdobdffjaaDoorG
