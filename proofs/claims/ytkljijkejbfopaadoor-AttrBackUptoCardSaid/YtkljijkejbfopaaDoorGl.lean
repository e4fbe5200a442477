/-
  The package-level tables that this seat's functions read, as lists, and what it is that a world holds them.
  Conditions: none.
-/
import Derived.Test.YtkljijkejbfopaaDoorGLaid
import Derived.Test.YtkljijkejbfopaaDoorG
import Derived.Test.YtkljijkejbfopaaDoorRows
set_option linter.unusedVariables false
namespace Go.Proofs.YtkljijkejbfopaaDoorG
open Go.RowKit Go.Proofs.YtkljijkejbfopaaDoorW.PrintWords
def gt0_0 : List Bool := [true, true, true, true, true, false, false, true, true, false, false, false, false, false, false, false]
def gt0_1 : List Int := [0, 1, 2, 2, 2, 0, 0, 2, 1, 0, 0, 0, 0, 0, 0, 0]
def gt0_2 : List Int := [0, 0, 2, 3, 0, 0, 0, 1, 0, 0, 0, 0, 0, 0, 0, 0]
def gt0_3 : List Int := [0, 0, 2, 3, 0, 0, 0, 1, 0, 0, 0, 0, 0, 0, 0, 0]
def gt0_4 : List Int := [2, 2, 0, 0, 0, 0, 0, 0, 0, 0, 0, 0, 0, 0, 0, 0]
/-- The world holds the table atlas/attr.plain. -/
structure G0 (w : World) : Prop where
  c0 : ∀ i0 : Int, 0 ≤ i0 → i0 < 16 → w.cell? ⟨0, i0.toNat * 5, none⟩ = some (.bool (rdOf false gt0_0 i0))
  c1 : ∀ i0 : Int, 0 ≤ i0 → i0 < 16 → w.cell? ⟨0, i0.toNat * 5 + 1, none⟩ = some (.int .i64 (rd gt0_1 i0))
  c2 : ∀ i0 : Int, 0 ≤ i0 → i0 < 16 → w.cell? ⟨0, i0.toNat * 5 + 2, none⟩ = some (.int .i64 (rd gt0_2 i0))
  c3 : ∀ i0 : Int, 0 ≤ i0 → i0 < 16 → w.cell? ⟨0, i0.toNat * 5 + 3, none⟩ = some (.int .i64 (rd gt0_3 i0))
  c4 : ∀ i0 : Int, 0 ≤ i0 → i0 < 16 → w.cell? ⟨0, i0.toNat * 5 + 4, none⟩ = some (.int .i64 (rd gt0_4 i0))
theorem G0.below {w w1 : World} (h : G0 w) (hb : Below w.heap.size w w1) : G0 w1 := ⟨fun i0 a0 b0 => pw_cell_below hb (h.c0 i0 a0 b0), fun i0 a0 b0 => pw_cell_below hb (h.c1 i0 a0 b0), fun i0 a0 b0 => pw_cell_below hb (h.c2 i0 a0 b0), fun i0 a0 b0 => pw_cell_below hb (h.c3 i0 a0 b0), fun i0 a0 b0 => pw_cell_below hb (h.c4 i0 a0 b0)⟩
theorem G0.drawn {w w1 : World} (h : G0 w) (hd : Drawn0 w w1) : G0 w1 := h.below hd.below
theorem G0.name : Go.Proofs.Tryd.prog.globalNamed "atlas/attr.plain" = some 0 := by kernel_rfl
theorem G0.type : (Go.Proofs.Tryd.prog.globals[0]?).map (·.type) = some 52 := by kernel_rfl
theorem G0.plain : plainT Go.Proofs.Tryd.prog 9 52 = some 80 := by kernel_rfl
set_option maxRecDepth 100000 in
theorem G0.flat : flatD (Go.Proofs.YtkljijkejbfopaaDoor.Rows.laid_atlas_attr_plain (H := Unit)) = [.bool (true), .int .i64 (0), .int .i64 (0), .int .i64 (0), .int .i64 (2), .bool (true), .int .i64 (1), .int .i64 (0), .int .i64 (0), .int .i64 (2), .bool (true), .int .i64 (2), .int .i64 (2), .int .i64 (2), .int .i64 (0), .bool (true), .int .i64 (2), .int .i64 (3), .int .i64 (3), .int .i64 (0), .bool (true), .int .i64 (2), .int .i64 (0), .int .i64 (0), .int .i64 (0), .bool (false), .int .i64 (0), .int .i64 (0), .int .i64 (0), .int .i64 (0), .bool (false), .int .i64 (0), .int .i64 (0), .int .i64 (0), .int .i64 (0), .bool (true), .int .i64 (2), .int .i64 (1), .int .i64 (1), .int .i64 (0), .bool (true), .int .i64 (1), .int .i64 (0), .int .i64 (0), .int .i64 (0), .bool (false), .int .i64 (0), .int .i64 (0), .int .i64 (0), .int .i64 (0), .bool (false), .int .i64 (0), .int .i64 (0), .int .i64 (0), .int .i64 (0), .bool (false), .int .i64 (0), .int .i64 (0), .int .i64 (0), .int .i64 (0), .bool (false), .int .i64 (0), .int .i64 (0), .int .i64 (0), .int .i64 (0), .bool (false), .int .i64 (0), .int .i64 (0), .int .i64 (0), .int .i64 (0), .bool (false), .int .i64 (0), .int .i64 (0), .int .i64 (0), .int .i64 (0), .bool (false), .int .i64 (0), .int .i64 (0), .int .i64 (0), .int .i64 (0)] := by rfl
set_option maxRecDepth 100000 in
theorem G0.at0 : ∀ i : Nat, i < 16 → ([.bool (true), .int .i64 (0), .int .i64 (0), .int .i64 (0), .int .i64 (2), .bool (true), .int .i64 (1), .int .i64 (0), .int .i64 (0), .int .i64 (2), .bool (true), .int .i64 (2), .int .i64 (2), .int .i64 (2), .int .i64 (0), .bool (true), .int .i64 (2), .int .i64 (3), .int .i64 (3), .int .i64 (0), .bool (true), .int .i64 (2), .int .i64 (0), .int .i64 (0), .int .i64 (0), .bool (false), .int .i64 (0), .int .i64 (0), .int .i64 (0), .int .i64 (0), .bool (false), .int .i64 (0), .int .i64 (0), .int .i64 (0), .int .i64 (0), .bool (true), .int .i64 (2), .int .i64 (1), .int .i64 (1), .int .i64 (0), .bool (true), .int .i64 (1), .int .i64 (0), .int .i64 (0), .int .i64 (0), .bool (false), .int .i64 (0), .int .i64 (0), .int .i64 (0), .int .i64 (0), .bool (false), .int .i64 (0), .int .i64 (0), .int .i64 (0), .int .i64 (0), .bool (false), .int .i64 (0), .int .i64 (0), .int .i64 (0), .int .i64 (0), .bool (false), .int .i64 (0), .int .i64 (0), .int .i64 (0), .int .i64 (0), .bool (false), .int .i64 (0), .int .i64 (0), .int .i64 (0), .int .i64 (0), .bool (false), .int .i64 (0), .int .i64 (0), .int .i64 (0), .int .i64 (0), .bool (false), .int .i64 (0), .int .i64 (0), .int .i64 (0), .int .i64 (0)] : List Value)[i * 5]? = some (.bool (gt0_0.getD i false))
  | 0, _ => rfl
  | 1, _ => rfl
  | 2, _ => rfl
  | 3, _ => rfl
  | 4, _ => rfl
  | 5, _ => rfl
  | 6, _ => rfl
  | 7, _ => rfl
  | 8, _ => rfl
  | 9, _ => rfl
  | 10, _ => rfl
  | 11, _ => rfl
  | 12, _ => rfl
  | 13, _ => rfl
  | 14, _ => rfl
  | 15, _ => rfl
  | i + 16, h => absurd h (by omega)
set_option maxRecDepth 100000 in
theorem G0.at1 : ∀ i : Nat, i < 16 → ([.bool (true), .int .i64 (0), .int .i64 (0), .int .i64 (0), .int .i64 (2), .bool (true), .int .i64 (1), .int .i64 (0), .int .i64 (0), .int .i64 (2), .bool (true), .int .i64 (2), .int .i64 (2), .int .i64 (2), .int .i64 (0), .bool (true), .int .i64 (2), .int .i64 (3), .int .i64 (3), .int .i64 (0), .bool (true), .int .i64 (2), .int .i64 (0), .int .i64 (0), .int .i64 (0), .bool (false), .int .i64 (0), .int .i64 (0), .int .i64 (0), .int .i64 (0), .bool (false), .int .i64 (0), .int .i64 (0), .int .i64 (0), .int .i64 (0), .bool (true), .int .i64 (2), .int .i64 (1), .int .i64 (1), .int .i64 (0), .bool (true), .int .i64 (1), .int .i64 (0), .int .i64 (0), .int .i64 (0), .bool (false), .int .i64 (0), .int .i64 (0), .int .i64 (0), .int .i64 (0), .bool (false), .int .i64 (0), .int .i64 (0), .int .i64 (0), .int .i64 (0), .bool (false), .int .i64 (0), .int .i64 (0), .int .i64 (0), .int .i64 (0), .bool (false), .int .i64 (0), .int .i64 (0), .int .i64 (0), .int .i64 (0), .bool (false), .int .i64 (0), .int .i64 (0), .int .i64 (0), .int .i64 (0), .bool (false), .int .i64 (0), .int .i64 (0), .int .i64 (0), .int .i64 (0), .bool (false), .int .i64 (0), .int .i64 (0), .int .i64 (0), .int .i64 (0)] : List Value)[i * 5 + 1]? = some (.int .i64 (gt0_1.getD i 0))
  | 0, _ => rfl
  | 1, _ => rfl
  | 2, _ => rfl
  | 3, _ => rfl
  | 4, _ => rfl
  | 5, _ => rfl
  | 6, _ => rfl
  | 7, _ => rfl
  | 8, _ => rfl
  | 9, _ => rfl
  | 10, _ => rfl
  | 11, _ => rfl
  | 12, _ => rfl
  | 13, _ => rfl
  | 14, _ => rfl
  | 15, _ => rfl
  | i + 16, h => absurd h (by omega)
set_option maxRecDepth 100000 in
theorem G0.at2 : ∀ i : Nat, i < 16 → ([.bool (true), .int .i64 (0), .int .i64 (0), .int .i64 (0), .int .i64 (2), .bool (true), .int .i64 (1), .int .i64 (0), .int .i64 (0), .int .i64 (2), .bool (true), .int .i64 (2), .int .i64 (2), .int .i64 (2), .int .i64 (0), .bool (true), .int .i64 (2), .int .i64 (3), .int .i64 (3), .int .i64 (0), .bool (true), .int .i64 (2), .int .i64 (0), .int .i64 (0), .int .i64 (0), .bool (false), .int .i64 (0), .int .i64 (0), .int .i64 (0), .int .i64 (0), .bool (false), .int .i64 (0), .int .i64 (0), .int .i64 (0), .int .i64 (0), .bool (true), .int .i64 (2), .int .i64 (1), .int .i64 (1), .int .i64 (0), .bool (true), .int .i64 (1), .int .i64 (0), .int .i64 (0), .int .i64 (0), .bool (false), .int .i64 (0), .int .i64 (0), .int .i64 (0), .int .i64 (0), .bool (false), .int .i64 (0), .int .i64 (0), .int .i64 (0), .int .i64 (0), .bool (false), .int .i64 (0), .int .i64 (0), .int .i64 (0), .int .i64 (0), .bool (false), .int .i64 (0), .int .i64 (0), .int .i64 (0), .int .i64 (0), .bool (false), .int .i64 (0), .int .i64 (0), .int .i64 (0), .int .i64 (0), .bool (false), .int .i64 (0), .int .i64 (0), .int .i64 (0), .int .i64 (0), .bool (false), .int .i64 (0), .int .i64 (0), .int .i64 (0), .int .i64 (0)] : List Value)[i * 5 + 2]? = some (.int .i64 (gt0_2.getD i 0))
  | 0, _ => rfl
  | 1, _ => rfl
  | 2, _ => rfl
  | 3, _ => rfl
  | 4, _ => rfl
  | 5, _ => rfl
  | 6, _ => rfl
  | 7, _ => rfl
  | 8, _ => rfl
  | 9, _ => rfl
  | 10, _ => rfl
  | 11, _ => rfl
  | 12, _ => rfl
  | 13, _ => rfl
  | 14, _ => rfl
  | 15, _ => rfl
  | i + 16, h => absurd h (by omega)
set_option maxRecDepth 100000 in
theorem G0.at3 : ∀ i : Nat, i < 16 → ([.bool (true), .int .i64 (0), .int .i64 (0), .int .i64 (0), .int .i64 (2), .bool (true), .int .i64 (1), .int .i64 (0), .int .i64 (0), .int .i64 (2), .bool (true), .int .i64 (2), .int .i64 (2), .int .i64 (2), .int .i64 (0), .bool (true), .int .i64 (2), .int .i64 (3), .int .i64 (3), .int .i64 (0), .bool (true), .int .i64 (2), .int .i64 (0), .int .i64 (0), .int .i64 (0), .bool (false), .int .i64 (0), .int .i64 (0), .int .i64 (0), .int .i64 (0), .bool (false), .int .i64 (0), .int .i64 (0), .int .i64 (0), .int .i64 (0), .bool (true), .int .i64 (2), .int .i64 (1), .int .i64 (1), .int .i64 (0), .bool (true), .int .i64 (1), .int .i64 (0), .int .i64 (0), .int .i64 (0), .bool (false), .int .i64 (0), .int .i64 (0), .int .i64 (0), .int .i64 (0), .bool (false), .int .i64 (0), .int .i64 (0), .int .i64 (0), .int .i64 (0), .bool (false), .int .i64 (0), .int .i64 (0), .int .i64 (0), .int .i64 (0), .bool (false), .int .i64 (0), .int .i64 (0), .int .i64 (0), .int .i64 (0), .bool (false), .int .i64 (0), .int .i64 (0), .int .i64 (0), .int .i64 (0), .bool (false), .int .i64 (0), .int .i64 (0), .int .i64 (0), .int .i64 (0), .bool (false), .int .i64 (0), .int .i64 (0), .int .i64 (0), .int .i64 (0)] : List Value)[i * 5 + 3]? = some (.int .i64 (gt0_3.getD i 0))
  | 0, _ => rfl
  | 1, _ => rfl
  | 2, _ => rfl
  | 3, _ => rfl
  | 4, _ => rfl
  | 5, _ => rfl
  | 6, _ => rfl
  | 7, _ => rfl
  | 8, _ => rfl
  | 9, _ => rfl
  | 10, _ => rfl
  | 11, _ => rfl
  | 12, _ => rfl
  | 13, _ => rfl
  | 14, _ => rfl
  | 15, _ => rfl
  | i + 16, h => absurd h (by omega)
set_option maxRecDepth 100000 in
theorem G0.at4 : ∀ i : Nat, i < 16 → ([.bool (true), .int .i64 (0), .int .i64 (0), .int .i64 (0), .int .i64 (2), .bool (true), .int .i64 (1), .int .i64 (0), .int .i64 (0), .int .i64 (2), .bool (true), .int .i64 (2), .int .i64 (2), .int .i64 (2), .int .i64 (0), .bool (true), .int .i64 (2), .int .i64 (3), .int .i64 (3), .int .i64 (0), .bool (true), .int .i64 (2), .int .i64 (0), .int .i64 (0), .int .i64 (0), .bool (false), .int .i64 (0), .int .i64 (0), .int .i64 (0), .int .i64 (0), .bool (false), .int .i64 (0), .int .i64 (0), .int .i64 (0), .int .i64 (0), .bool (true), .int .i64 (2), .int .i64 (1), .int .i64 (1), .int .i64 (0), .bool (true), .int .i64 (1), .int .i64 (0), .int .i64 (0), .int .i64 (0), .bool (false), .int .i64 (0), .int .i64 (0), .int .i64 (0), .int .i64 (0), .bool (false), .int .i64 (0), .int .i64 (0), .int .i64 (0), .int .i64 (0), .bool (false), .int .i64 (0), .int .i64 (0), .int .i64 (0), .int .i64 (0), .bool (false), .int .i64 (0), .int .i64 (0), .int .i64 (0), .int .i64 (0), .bool (false), .int .i64 (0), .int .i64 (0), .int .i64 (0), .int .i64 (0), .bool (false), .int .i64 (0), .int .i64 (0), .int .i64 (0), .int .i64 (0), .bool (false), .int .i64 (0), .int .i64 (0), .int .i64 (0), .int .i64 (0)] : List Value)[i * 5 + 4]? = some (.int .i64 (gt0_4.getD i 0))
  | 0, _ => rfl
  | 1, _ => rfl
  | 2, _ => rfl
  | 3, _ => rfl
  | 4, _ => rfl
  | 5, _ => rfl
  | 6, _ => rfl
  | 7, _ => rfl
  | 8, _ => rfl
  | 9, _ => rfl
  | 10, _ => rfl
  | 11, _ => rfl
  | 12, _ => rfl
  | 13, _ => rfl
  | 14, _ => rfl
  | 15, _ => rfl
  | i + 16, h => absurd h (by omega)
theorem G0.of_laid {w : World} {l : List (String × DataW Unit)} (h : laidMet Go.Proofs.Tryd.prog l w) (hm : ("atlas/attr.plain", Go.Proofs.YtkljijkejbfopaaDoor.Rows.laid_atlas_attr_plain) ∈ l) : G0 w := by
  have hc := laid_cells G0.name G0.type G0.plain h hm
  rw [G0.flat] at hc
  refine ⟨?_, ?_, ?_, ?_, ?_⟩
  · intro i0 a0 b0
    have e : i0.toNat * 5 = (i0).toNat * 5 := by omega
    rw [e, hc]
    exact G0.at0 (i0).toNat (by omega)
  · intro i0 a0 b0
    have e : i0.toNat * 5 + 1 = (i0).toNat * 5 + 1 := by omega
    rw [e, hc]
    exact G0.at1 (i0).toNat (by omega)
  · intro i0 a0 b0
    have e : i0.toNat * 5 + 2 = (i0).toNat * 5 + 2 := by omega
    rw [e, hc]
    exact G0.at2 (i0).toNat (by omega)
  · intro i0 a0 b0
    have e : i0.toNat * 5 + 3 = (i0).toNat * 5 + 3 := by omega
    rw [e, hc]
    exact G0.at3 (i0).toNat (by omega)
  · intro i0 a0 b0
    have e : i0.toNat * 5 + 4 = (i0).toNat * 5 + 4 := by omega
    rw [e, hc]
    exact G0.at4 (i0).toNat (by omega)
def gt1_0 : List ByteArray := [(⟨#[112, 114, 105, 118, 97, 116, 101]⟩ : ByteArray), (⟨#[105, 110, 110, 101, 114]⟩ : ByteArray), (⟨#[111, 117, 116, 101, 114]⟩ : ByteArray)]
/-- The world holds the table atlas/attr.shares. -/
structure G1 (w : World) : Prop where
  c0 : ∀ i0 : Int, 0 ≤ i0 → i0 < 3 → w.cell? ⟨1, i0.toNat, none⟩ = some (.string (rdOf ByteArray.empty gt1_0 i0))
theorem G1.below {w w1 : World} (h : G1 w) (hb : Below w.heap.size w w1) : G1 w1 := ⟨fun i0 a0 b0 => pw_cell_below hb (h.c0 i0 a0 b0)⟩
theorem G1.drawn {w w1 : World} (h : G1 w) (hd : Drawn0 w w1) : G1 w1 := h.below hd.below
theorem G1.name : Go.Proofs.Tryd.prog.globalNamed "atlas/attr.shares" = some 1 := by kernel_rfl
theorem G1.type : (Go.Proofs.Tryd.prog.globals[1]?).map (·.type) = some 56 := by kernel_rfl
theorem G1.plain : plainT Go.Proofs.Tryd.prog 9 56 = some 3 := by kernel_rfl
set_option maxRecDepth 100000 in
theorem G1.flat : flatD (Go.Proofs.YtkljijkejbfopaaDoor.Rows.laid_atlas_attr_shares (H := Unit)) = gt1_0.map (fun z : ByteArray => (.string (z) : Value)) := by rfl
theorem G1.at0 (i : Nat) (h : i < 3) : (gt1_0.map (fun z : ByteArray => (.string (z) : Value)))[i]? = some (.string (gt1_0.getD i ByteArray.empty)) := map_at _ _ _ i (Nat.lt_of_lt_of_eq h (by rfl))
theorem G1.of_laid {w : World} {l : List (String × DataW Unit)} (h : laidMet Go.Proofs.Tryd.prog l w) (hm : ("atlas/attr.shares", Go.Proofs.YtkljijkejbfopaaDoor.Rows.laid_atlas_attr_shares) ∈ l) : G1 w := by
  have hc := laid_cells G1.name G1.type G1.plain h hm
  rw [G1.flat] at hc
  refine ⟨?_⟩
  · intro i0 a0 b0
    have e : i0.toNat = (i0).toNat := by omega
    rw [e, hc]
    exact G1.at0 (i0).toNat (by omega)
def gt2_0 : List ByteArray := [(⟨#[110, 111, 110, 101]⟩ : ByteArray), (⟨#[97, 108, 108, 111, 99]⟩ : ByteArray), (⟨#[116, 104, 114, 111, 117, 103, 104]⟩ : ByteArray), (⟨#[98, 97, 99, 107]⟩ : ByteArray)]
/-- The world holds the table atlas/attr.caches. -/
structure G2 (w : World) : Prop where
  c0 : ∀ i0 : Int, 0 ≤ i0 → i0 < 4 → w.cell? ⟨2, i0.toNat, none⟩ = some (.string (rdOf ByteArray.empty gt2_0 i0))
theorem G2.below {w w1 : World} (h : G2 w) (hb : Below w.heap.size w w1) : G2 w1 := ⟨fun i0 a0 b0 => pw_cell_below hb (h.c0 i0 a0 b0)⟩
theorem G2.drawn {w w1 : World} (h : G2 w) (hd : Drawn0 w w1) : G2 w1 := h.below hd.below
theorem G2.name : Go.Proofs.Tryd.prog.globalNamed "atlas/attr.caches" = some 2 := by kernel_rfl
theorem G2.type : (Go.Proofs.Tryd.prog.globals[2]?).map (·.type) = some 58 := by kernel_rfl
theorem G2.plain : plainT Go.Proofs.Tryd.prog 9 58 = some 4 := by kernel_rfl
set_option maxRecDepth 100000 in
theorem G2.flat : flatD (Go.Proofs.YtkljijkejbfopaaDoor.Rows.laid_atlas_attr_caches (H := Unit)) = gt2_0.map (fun z : ByteArray => (.string (z) : Value)) := by rfl
theorem G2.at0 (i : Nat) (h : i < 4) : (gt2_0.map (fun z : ByteArray => (.string (z) : Value)))[i]? = some (.string (gt2_0.getD i ByteArray.empty)) := map_at _ _ _ i (Nat.lt_of_lt_of_eq h (by rfl))
theorem G2.of_laid {w : World} {l : List (String × DataW Unit)} (h : laidMet Go.Proofs.Tryd.prog l w) (hm : ("atlas/attr.caches", Go.Proofs.YtkljijkejbfopaaDoor.Rows.laid_atlas_attr_caches) ∈ l) : G2 w := by
  have hc := laid_cells G2.name G2.type G2.plain h hm
  rw [G2.flat] at hc
  refine ⟨?_⟩
  · intro i0 a0 b0
    have e : i0.toNat = (i0).toNat := by omega
    rw [e, hc]
    exact G2.at0 (i0).toNat (by omega)
def gt5_0 : List Int := [128, 160, 128, 144, 128, 0, 0, 0, 0, 0, 0, 0, 0, 0, 0, 0]
def gt5_1 : List Int := [191, 191, 159, 191, 143, 0, 0, 0, 0, 0, 0, 0, 0, 0, 0, 0]
/-- The world holds the table unicode/utf8.acceptRanges. -/
structure G5 (w : World) : Prop where
  c0 : ∀ i0 : Int, 0 ≤ i0 → i0 < 16 → w.cell? ⟨5, i0.toNat * 2, none⟩ = some (.int .u8 (rd gt5_0 i0))
  c1 : ∀ i0 : Int, 0 ≤ i0 → i0 < 16 → w.cell? ⟨5, i0.toNat * 2 + 1, none⟩ = some (.int .u8 (rd gt5_1 i0))
theorem G5.below {w w1 : World} (h : G5 w) (hb : Below w.heap.size w w1) : G5 w1 := ⟨fun i0 a0 b0 => pw_cell_below hb (h.c0 i0 a0 b0), fun i0 a0 b0 => pw_cell_below hb (h.c1 i0 a0 b0)⟩
theorem G5.drawn {w w1 : World} (h : G5 w) (hd : Drawn0 w w1) : G5 w1 := h.below hd.below
theorem G5.name : Go.Proofs.Tryd.prog.globalNamed "unicode/utf8.acceptRanges" = some 5 := by kernel_rfl
theorem G5.type : (Go.Proofs.Tryd.prog.globals[5]?).map (·.type) = some 89 := by kernel_rfl
theorem G5.plain : plainT Go.Proofs.Tryd.prog 9 89 = some 32 := by kernel_rfl
set_option maxRecDepth 100000 in
theorem G5.flat : flatD (Go.Proofs.YtkljijkejbfopaaDoor.Rows.laid_unicode_utf8_acceptRanges (H := Unit)) = [.int .u8 (128), .int .u8 (191), .int .u8 (160), .int .u8 (191), .int .u8 (128), .int .u8 (159), .int .u8 (144), .int .u8 (191), .int .u8 (128), .int .u8 (143), .int .u8 (0), .int .u8 (0), .int .u8 (0), .int .u8 (0), .int .u8 (0), .int .u8 (0), .int .u8 (0), .int .u8 (0), .int .u8 (0), .int .u8 (0), .int .u8 (0), .int .u8 (0), .int .u8 (0), .int .u8 (0), .int .u8 (0), .int .u8 (0), .int .u8 (0), .int .u8 (0), .int .u8 (0), .int .u8 (0), .int .u8 (0), .int .u8 (0)] := by rfl
set_option maxRecDepth 100000 in
theorem G5.at0 : ∀ i : Nat, i < 16 → ([.int .u8 (128), .int .u8 (191), .int .u8 (160), .int .u8 (191), .int .u8 (128), .int .u8 (159), .int .u8 (144), .int .u8 (191), .int .u8 (128), .int .u8 (143), .int .u8 (0), .int .u8 (0), .int .u8 (0), .int .u8 (0), .int .u8 (0), .int .u8 (0), .int .u8 (0), .int .u8 (0), .int .u8 (0), .int .u8 (0), .int .u8 (0), .int .u8 (0), .int .u8 (0), .int .u8 (0), .int .u8 (0), .int .u8 (0), .int .u8 (0), .int .u8 (0), .int .u8 (0), .int .u8 (0), .int .u8 (0), .int .u8 (0)] : List Value)[i * 2]? = some (.int .u8 (gt5_0.getD i 0))
  | 0, _ => rfl
  | 1, _ => rfl
  | 2, _ => rfl
  | 3, _ => rfl
  | 4, _ => rfl
  | 5, _ => rfl
  | 6, _ => rfl
  | 7, _ => rfl
  | 8, _ => rfl
  | 9, _ => rfl
  | 10, _ => rfl
  | 11, _ => rfl
  | 12, _ => rfl
  | 13, _ => rfl
  | 14, _ => rfl
  | 15, _ => rfl
  | i + 16, h => absurd h (by omega)
set_option maxRecDepth 100000 in
theorem G5.at1 : ∀ i : Nat, i < 16 → ([.int .u8 (128), .int .u8 (191), .int .u8 (160), .int .u8 (191), .int .u8 (128), .int .u8 (159), .int .u8 (144), .int .u8 (191), .int .u8 (128), .int .u8 (143), .int .u8 (0), .int .u8 (0), .int .u8 (0), .int .u8 (0), .int .u8 (0), .int .u8 (0), .int .u8 (0), .int .u8 (0), .int .u8 (0), .int .u8 (0), .int .u8 (0), .int .u8 (0), .int .u8 (0), .int .u8 (0), .int .u8 (0), .int .u8 (0), .int .u8 (0), .int .u8 (0), .int .u8 (0), .int .u8 (0), .int .u8 (0), .int .u8 (0)] : List Value)[i * 2 + 1]? = some (.int .u8 (gt5_1.getD i 0))
  | 0, _ => rfl
  | 1, _ => rfl
  | 2, _ => rfl
  | 3, _ => rfl
  | 4, _ => rfl
  | 5, _ => rfl
  | 6, _ => rfl
  | 7, _ => rfl
  | 8, _ => rfl
  | 9, _ => rfl
  | 10, _ => rfl
  | 11, _ => rfl
  | 12, _ => rfl
  | 13, _ => rfl
  | 14, _ => rfl
  | 15, _ => rfl
  | i + 16, h => absurd h (by omega)
theorem G5.of_laid {w : World} {l : List (String × DataW Unit)} (h : laidMet Go.Proofs.Tryd.prog l w) (hm : ("unicode/utf8.acceptRanges", Go.Proofs.YtkljijkejbfopaaDoor.Rows.laid_unicode_utf8_acceptRanges) ∈ l) : G5 w := by
  have hc := laid_cells G5.name G5.type G5.plain h hm
  rw [G5.flat] at hc
  refine ⟨?_, ?_⟩
  · intro i0 a0 b0
    have e : i0.toNat * 2 = (i0).toNat * 2 := by omega
    rw [e, hc]
    exact G5.at0 (i0).toNat (by omega)
  · intro i0 a0 b0
    have e : i0.toNat * 2 + 1 = (i0).toNat * 2 + 1 := by omega
    rw [e, hc]
    exact G5.at1 (i0).toNat (by omega)
/-- The variable internal/bytealg.MaxLen holds some whole number. -/
structure G3 (w : World) : Prop where
  c0 : ∃ m : Int, w.cell? ⟨3, 0, none⟩ = some (.int .i64 m)
theorem G3.below {w w1 : World} (h : G3 w) (hb : Below w.heap.size w w1) : G3 w1 := ⟨let ⟨m, hm⟩ := h.c0; ⟨m, pw_cell_below hb hm⟩⟩
theorem G3.drawn {w w1 : World} (h : G3 w) (hd : Drawn0 w w1) : G3 w1 := h.below hd.below
end Go.Proofs.YtkljijkejbfopaaDoorG
