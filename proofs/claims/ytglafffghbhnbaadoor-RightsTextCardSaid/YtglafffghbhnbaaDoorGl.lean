/-
  The package-level tables that this seat's functions read, as lists, and what it is that a world holds them.
  Conditions: none.
-/
import Derived.Test.YtglafffghbhnbaaDoorGLaid
import Derived.Test.YtglafffghbhnbaaDoorG
import Derived.Test.YtglafffghbhnbaaDoorRows
set_option linter.unusedVariables false
namespace Go.Proofs.YtglafffghbhnbaaDoorG
open Go.RowKit Go.Proofs.YtglafffghbhnbaaDoorW.PrintWords
def gt0_0 : List Int := [0, 0, 0, 3, 1, 3, 3, 3, 0, 0, 0, 1, 1, 1, 1, 1]
/-- The world holds the table atlas/rights.plain. -/
structure G0 (w : World) : Prop where
  c0 : ∀ i0 i1 : Int, 0 ≤ i0 → i0 < 8 → 0 ≤ i1 → i1 < 2 → w.cell? ⟨0, i0.toNat * 2 + i1.toNat, none⟩ = some (.int .i64 (rd gt0_0 (i0 * 2 + i1)))
theorem G0.below {w w1 : World} (h : G0 w) (hb : Below w.heap.size w w1) : G0 w1 := ⟨fun i0 i1 a0 b0 a1 b1 => pw_cell_below hb (h.c0 i0 i1 a0 b0 a1 b1)⟩
theorem G0.drawn {w w1 : World} (h : G0 w) (hd : Drawn0 w w1) : G0 w1 := h.below hd.below
theorem G0.name : Go.Proofs.Tryd.prog.globalNamed "atlas/rights.plain" = some 0 := by kernel_rfl
theorem G0.type : (Go.Proofs.Tryd.prog.globals[0]?).map (·.type) = some 56 := by kernel_rfl
theorem G0.plain : plainT Go.Proofs.Tryd.prog 9 56 = some 16 := by kernel_rfl
set_option maxRecDepth 100000 in
theorem G0.flat : flatD (Go.Proofs.YtglafffghbhnbaaDoor.Rows.laid_atlas_rights_plain (H := Unit)) = gt0_0.map (fun z : Int => (.int .i64 (z) : Value)) := by rfl
theorem G0.at0 (i : Nat) (h : i < 16) : (gt0_0.map (fun z : Int => (.int .i64 (z) : Value)))[i]? = some (.int .i64 (gt0_0.getD i 0)) := map_at _ _ _ i (Nat.lt_of_lt_of_eq h (by rfl))
theorem G0.of_laid {w : World} {l : List (String × DataW Unit)} (h : laidMet Go.Proofs.Tryd.prog l w) (hm : ("atlas/rights.plain", Go.Proofs.YtglafffghbhnbaaDoor.Rows.laid_atlas_rights_plain) ∈ l) : G0 w := by
  have hc := laid_cells G0.name G0.type G0.plain h hm
  rw [G0.flat] at hc
  refine ⟨?_⟩
  · intro i0 i1 a0 b0 a1 b1
    have e : i0.toNat * 2 + i1.toNat = (i0 * 2 + i1).toNat := by omega
    rw [e, hc]
    exact G0.at0 (i0 * 2 + i1).toNat (by omega)
def gt1_0 : List Int := [0, 3, 3, 3, 0, 1, 1, 1]
/-- The world holds the table atlas/rights.flagged. -/
structure G1 (w : World) : Prop where
  c0 : ∀ i0 i1 : Int, 0 ≤ i0 → i0 < 4 → 0 ≤ i1 → i1 < 2 → w.cell? ⟨1, i0.toNat * 2 + i1.toNat, none⟩ = some (.int .i64 (rd gt1_0 (i0 * 2 + i1)))
theorem G1.below {w w1 : World} (h : G1 w) (hb : Below w.heap.size w w1) : G1 w1 := ⟨fun i0 i1 a0 b0 a1 b1 => pw_cell_below hb (h.c0 i0 i1 a0 b0 a1 b1)⟩
theorem G1.drawn {w w1 : World} (h : G1 w) (hd : Drawn0 w w1) : G1 w1 := h.below hd.below
theorem G1.name : Go.Proofs.Tryd.prog.globalNamed "atlas/rights.flagged" = some 1 := by kernel_rfl
theorem G1.type : (Go.Proofs.Tryd.prog.globals[1]?).map (·.type) = some 58 := by kernel_rfl
theorem G1.plain : plainT Go.Proofs.Tryd.prog 9 58 = some 8 := by kernel_rfl
set_option maxRecDepth 100000 in
theorem G1.flat : flatD (Go.Proofs.YtglafffghbhnbaaDoor.Rows.laid_atlas_rights_flagged (H := Unit)) = gt1_0.map (fun z : Int => (.int .i64 (z) : Value)) := by rfl
theorem G1.at0 (i : Nat) (h : i < 8) : (gt1_0.map (fun z : Int => (.int .i64 (z) : Value)))[i]? = some (.int .i64 (gt1_0.getD i 0)) := map_at _ _ _ i (Nat.lt_of_lt_of_eq h (by rfl))
theorem G1.of_laid {w : World} {l : List (String × DataW Unit)} (h : laidMet Go.Proofs.Tryd.prog l w) (hm : ("atlas/rights.flagged", Go.Proofs.YtglafffghbhnbaaDoor.Rows.laid_atlas_rights_flagged) ∈ l) : G1 w := by
  have hc := laid_cells G1.name G1.type G1.plain h hm
  rw [G1.flat] at hc
  refine ⟨?_⟩
  · intro i0 i1 a0 b0 a1 b1
    have e : i0.toNat * 2 + i1.toNat = (i0 * 2 + i1).toNat := by omega
    rw [e, hc]
    exact G1.at0 (i0 * 2 + i1).toNat (by omega)
def gt2_0 : List ByteArray := [(⟨#[110, 111, 110, 101]⟩ : ByteArray), (⟨#[97, 108, 105, 103, 110, 109, 101, 110, 116]⟩ : ByteArray), (⟨#[119, 97, 108, 107, 32, 49]⟩ : ByteArray), (⟨#[116, 114, 97, 110, 115, 108, 97, 116, 105, 111, 110, 32, 49]⟩ : ByteArray), (⟨#[119, 97, 108, 107, 32, 50]⟩ : ByteArray), (⟨#[116, 114, 97, 110, 115, 108, 97, 116, 105, 111, 110, 32, 50]⟩ : ByteArray), (⟨#[99, 111, 110, 102, 108, 105, 99, 116]⟩ : ByteArray), (⟨#[97, 99, 99, 101, 115, 115]⟩ : ByteArray), (⟨#[100, 111, 109, 97, 105, 110]⟩ : ByteArray), (⟨#[112, 101, 114, 109, 105, 115, 115, 105, 111, 110]⟩ : ByteArray), (⟨#[98, 117, 115]⟩ : ByteArray)]
/-- The world holds the table atlas/rights.texts. -/
structure G2 (w : World) : Prop where
  c0 : ∀ i0 : Int, 0 ≤ i0 → i0 < 11 → w.cell? ⟨2, i0.toNat, none⟩ = some (.string (rdOf ByteArray.empty gt2_0 i0))
theorem G2.below {w w1 : World} (h : G2 w) (hb : Below w.heap.size w w1) : G2 w1 := ⟨fun i0 a0 b0 => pw_cell_below hb (h.c0 i0 a0 b0)⟩
theorem G2.drawn {w w1 : World} (h : G2 w) (hd : Drawn0 w w1) : G2 w1 := h.below hd.below
theorem G2.name : Go.Proofs.Tryd.prog.globalNamed "atlas/rights.texts" = some 2 := by kernel_rfl
theorem G2.type : (Go.Proofs.Tryd.prog.globals[2]?).map (·.type) = some 64 := by kernel_rfl
theorem G2.plain : plainT Go.Proofs.Tryd.prog 9 64 = some 11 := by kernel_rfl
set_option maxRecDepth 100000 in
theorem G2.flat : flatD (Go.Proofs.YtglafffghbhnbaaDoor.Rows.laid_atlas_rights_texts (H := Unit)) = gt2_0.map (fun z : ByteArray => (.string (z) : Value)) := by rfl
theorem G2.at0 (i : Nat) (h : i < 11) : (gt2_0.map (fun z : ByteArray => (.string (z) : Value)))[i]? = some (.string (gt2_0.getD i ByteArray.empty)) := map_at _ _ _ i (Nat.lt_of_lt_of_eq h (by rfl))
theorem G2.of_laid {w : World} {l : List (String × DataW Unit)} (h : laidMet Go.Proofs.Tryd.prog l w) (hm : ("atlas/rights.texts", Go.Proofs.YtglafffghbhnbaaDoor.Rows.laid_atlas_rights_texts) ∈ l) : G2 w := by
  have hc := laid_cells G2.name G2.type G2.plain h hm
  rw [G2.flat] at hc
  refine ⟨?_⟩
  · intro i0 a0 b0
    have e : i0.toNat = (i0).toNat := by omega
    rw [e, hc]
    exact G2.at0 (i0).toNat (by omega)
def gt3_0 : List Int := [0, 12, 16, 20, 24]
/-- The world holds the table atlas/desc.shifts. -/
structure G3 (w : World) : Prop where
  c0 : ∀ i0 : Int, 0 ≤ i0 → i0 < 5 → w.cell? ⟨3, i0.toNat, none⟩ = some (.int .u64 (rd gt3_0 i0))
theorem G3.below {w w1 : World} (h : G3 w) (hb : Below w.heap.size w w1) : G3 w1 := ⟨fun i0 a0 b0 => pw_cell_below hb (h.c0 i0 a0 b0)⟩
theorem G3.drawn {w w1 : World} (h : G3 w) (hd : Drawn0 w w1) : G3 w1 := h.below hd.below
theorem G3.name : Go.Proofs.Tryd.prog.globalNamed "atlas/desc.shifts" = some 3 := by kernel_rfl
theorem G3.type : (Go.Proofs.Tryd.prog.globals[3]?).map (·.type) = some 68 := by kernel_rfl
theorem G3.plain : plainT Go.Proofs.Tryd.prog 9 68 = some 5 := by kernel_rfl
set_option maxRecDepth 100000 in
theorem G3.flat : flatD (Go.Proofs.YtglafffghbhnbaaDoor.Rows.laid_atlas_desc_shifts (H := Unit)) = gt3_0.map (fun z : Int => (.int .u64 (z) : Value)) := by rfl
theorem G3.at0 (i : Nat) (h : i < 5) : (gt3_0.map (fun z : Int => (.int .u64 (z) : Value)))[i]? = some (.int .u64 (gt3_0.getD i 0)) := map_at _ _ _ i (Nat.lt_of_lt_of_eq h (by rfl))
theorem G3.of_laid {w : World} {l : List (String × DataW Unit)} (h : laidMet Go.Proofs.Tryd.prog l w) (hm : ("atlas/desc.shifts", Go.Proofs.YtglafffghbhnbaaDoor.Rows.laid_atlas_desc_shifts) ∈ l) : G3 w := by
  have hc := laid_cells G3.name G3.type G3.plain h hm
  rw [G3.flat] at hc
  refine ⟨?_⟩
  · intro i0 a0 b0
    have e : i0.toNat = (i0).toNat := by omega
    rw [e, hc]
    exact G3.at0 (i0).toNat (by omega)
def gt4_0 : List Int := [1, 10, 100, 1000, 10000, 100000, 1000000, 10000000, 100000000, 1000000000, 10000000000, 100000000000, 1000000000000, 10000000000000, 100000000000000, 1000000000000000, 10000000000000000, 100000000000000000, 1000000000000000000, 10000000000000000000]
/-- The world holds the table internal/strconv.uint64pow10. -/
structure G4 (w : World) : Prop where
  c0 : ∀ i0 : Int, 0 ≤ i0 → i0 < 20 → w.cell? ⟨4, i0.toNat, none⟩ = some (.int .u64 (rd gt4_0 i0))
theorem G4.below {w w1 : World} (h : G4 w) (hb : Below w.heap.size w w1) : G4 w1 := ⟨fun i0 a0 b0 => pw_cell_below hb (h.c0 i0 a0 b0)⟩
theorem G4.drawn {w w1 : World} (h : G4 w) (hd : Drawn0 w w1) : G4 w1 := h.below hd.below
theorem G4.name : Go.Proofs.Tryd.prog.globalNamed "internal/strconv.uint64pow10" = some 4 := by kernel_rfl
theorem G4.type : (Go.Proofs.Tryd.prog.globals[4]?).map (·.type) = some 82 := by kernel_rfl
theorem G4.plain : plainT Go.Proofs.Tryd.prog 9 82 = some 20 := by kernel_rfl
set_option maxRecDepth 100000 in
theorem G4.flat : flatD (Go.Proofs.YtglafffghbhnbaaDoor.Rows.laid_internal_strconv_uint64pow10 (H := Unit)) = gt4_0.map (fun z : Int => (.int .u64 (z) : Value)) := by rfl
theorem G4.at0 (i : Nat) (h : i < 20) : (gt4_0.map (fun z : Int => (.int .u64 (z) : Value)))[i]? = some (.int .u64 (gt4_0.getD i 0)) := map_at _ _ _ i (Nat.lt_of_lt_of_eq h (by rfl))
theorem G4.of_laid {w : World} {l : List (String × DataW Unit)} (h : laidMet Go.Proofs.Tryd.prog l w) (hm : ("internal/strconv.uint64pow10", Go.Proofs.YtglafffghbhnbaaDoor.Rows.laid_internal_strconv_uint64pow10) ∈ l) : G4 w := by
  have hc := laid_cells G4.name G4.type G4.plain h hm
  rw [G4.flat] at hc
  refine ⟨?_⟩
  · intro i0 a0 b0
    have e : i0.toNat = (i0).toNat := by omega
    rw [e, hc]
    exact G4.at0 (i0).toNat (by omega)
def gt5_0 : List Int := [0, 1, 28, 2, 29, 14, 24, 3, 30, 22, 20, 15, 25, 17, 4, 8, 31, 27, 13, 23, 21, 19, 16, 7, 26, 12, 18, 6, 11, 5, 10, 9]
/-- The world holds the table math/bits.deBruijn32tab. -/
structure G5 (w : World) : Prop where
  c0 : ∀ i0 : Int, 0 ≤ i0 → i0 < 32 → w.cell? ⟨5, i0.toNat, none⟩ = some (.int .u8 (rd gt5_0 i0))
theorem G5.below {w w1 : World} (h : G5 w) (hb : Below w.heap.size w w1) : G5 w1 := ⟨fun i0 a0 b0 => pw_cell_below hb (h.c0 i0 a0 b0)⟩
theorem G5.drawn {w w1 : World} (h : G5 w) (hd : Drawn0 w w1) : G5 w1 := h.below hd.below
theorem G5.name : Go.Proofs.Tryd.prog.globalNamed "math/bits.deBruijn32tab" = some 5 := by kernel_rfl
theorem G5.type : (Go.Proofs.Tryd.prog.globals[5]?).map (·.type) = some 86 := by kernel_rfl
theorem G5.plain : plainT Go.Proofs.Tryd.prog 9 86 = some 32 := by kernel_rfl
set_option maxRecDepth 100000 in
theorem G5.flat : flatD (Go.Proofs.YtglafffghbhnbaaDoor.Rows.laid_math_bits_deBruijn32tab (H := Unit)) = gt5_0.map (fun z : Int => (.int .u8 (z) : Value)) := by rfl
theorem G5.at0 (i : Nat) (h : i < 32) : (gt5_0.map (fun z : Int => (.int .u8 (z) : Value)))[i]? = some (.int .u8 (gt5_0.getD i 0)) := map_at _ _ _ i (Nat.lt_of_lt_of_eq h (by rfl))
theorem G5.of_laid {w : World} {l : List (String × DataW Unit)} (h : laidMet Go.Proofs.Tryd.prog l w) (hm : ("math/bits.deBruijn32tab", Go.Proofs.YtglafffghbhnbaaDoor.Rows.laid_math_bits_deBruijn32tab) ∈ l) : G5 w := by
  have hc := laid_cells G5.name G5.type G5.plain h hm
  rw [G5.flat] at hc
  refine ⟨?_⟩
  · intro i0 a0 b0
    have e : i0.toNat = (i0).toNat := by omega
    rw [e, hc]
    exact G5.at0 (i0).toNat (by omega)
def gt6_0 : List Int := [0, 1, 56, 2, 57, 49, 28, 3, 61, 58, 42, 50, 38, 29, 17, 4, 62, 47, 59, 36, 45, 43, 51, 22, 53, 39, 33, 30, 24, 18, 12, 5, 63, 55, 48, 27, 60, 41, 37, 16, 46, 35, 44, 21, 52, 32, 23, 11, 54, 26, 40, 15, 34, 20, 31, 10, 25, 14, 19, 9, 13, 8, 7, 6]
/-- The world holds the table math/bits.deBruijn64tab. -/
structure G6 (w : World) : Prop where
  c0 : ∀ i0 : Int, 0 ≤ i0 → i0 < 64 → w.cell? ⟨6, i0.toNat, none⟩ = some (.int .u8 (rd gt6_0 i0))
theorem G6.below {w w1 : World} (h : G6 w) (hb : Below w.heap.size w w1) : G6 w1 := ⟨fun i0 a0 b0 => pw_cell_below hb (h.c0 i0 a0 b0)⟩
theorem G6.drawn {w w1 : World} (h : G6 w) (hd : Drawn0 w w1) : G6 w1 := h.below hd.below
theorem G6.name : Go.Proofs.Tryd.prog.globalNamed "math/bits.deBruijn64tab" = some 6 := by kernel_rfl
theorem G6.type : (Go.Proofs.Tryd.prog.globals[6]?).map (·.type) = some 87 := by kernel_rfl
theorem G6.plain : plainT Go.Proofs.Tryd.prog 9 87 = some 64 := by kernel_rfl
set_option maxRecDepth 100000 in
theorem G6.flat : flatD (Go.Proofs.YtglafffghbhnbaaDoor.Rows.laid_math_bits_deBruijn64tab (H := Unit)) = gt6_0.map (fun z : Int => (.int .u8 (z) : Value)) := by rfl
theorem G6.at0 (i : Nat) (h : i < 64) : (gt6_0.map (fun z : Int => (.int .u8 (z) : Value)))[i]? = some (.int .u8 (gt6_0.getD i 0)) := map_at _ _ _ i (Nat.lt_of_lt_of_eq h (by rfl))
theorem G6.of_laid {w : World} {l : List (String × DataW Unit)} (h : laidMet Go.Proofs.Tryd.prog l w) (hm : ("math/bits.deBruijn64tab", Go.Proofs.YtglafffghbhnbaaDoor.Rows.laid_math_bits_deBruijn64tab) ∈ l) : G6 w := by
  have hc := laid_cells G6.name G6.type G6.plain h hm
  rw [G6.flat] at hc
  refine ⟨?_⟩
  · intro i0 a0 b0
    have e : i0.toNat = (i0).toNat := by omega
    rw [e, hc]
    exact G6.at0 (i0).toNat (by omega)
end Go.Proofs.YtglafffghbhnbaaDoorG
