-- Written by a program of this session (wip/xprint.py), over the kit's print. Not trusted: Lean checks it.
import Derived.Test.YtkljijkejbfopaaDoorS0
import Derived.Test.YtkljijkejbfopaaDoorS1
import Derived.Test.YtkljijkejbfopaaDoorS3
import Derived.Test.YtkljijkejbfopaaDoorS7
import Derived.Test.YtkljijkejbfopaaDoorS14
namespace Go.Proofs.YtkljijkejbfopaaDoor.S
open Go.Proofs.YtkljijkejbfopaaDoorG
open Go.RowKit Go.Proofs.YtkljijkejbfopaaDoorW.PrintWords Go.Proofs.YtkljijkejbfopaaDoorW.PrintLast Go.Proofs.YtkljijkejbfopaaDoorW.PrintMore
attribute [local go_sem] max2_int min2_int max_two min_two max_three min_three max_four min_four   -- for this text's walks alone
set_option linter.unusedVariables false
set_option linter.unusedSimpArgs false

attribute [local go_sem high] eqA24
/-! ### atlaslaw06_AttrUsual: function 11 -/
mutual
def atlaslaw06_AttrUsual.j0 : Nat → Int → Int → Int → Int → Bool → Int → Int → Int → Int → Option (Bool)
 | 0, _, _, _, _, _, _, _, _, _ => none
 | k + 1, x4, x5, x6, x29, x40, x392000, x392001, x392002, x392003 => if x40 = true then ((atlaslaw06_no.f x4).bind fun t394 => (if t394 = 0 then (some (x392000 == 1 && (x392001 == 0 && (x392002 == 0 && (x392003 == x6))))) else (some false))) else (if x29 = 6 then ((atlaslaw06_no.f x4).bind fun t395 => (some (t395 == 61))) else (if x5 = 2 then (atlaslaw06_AttrUsual.j1 k x4 x5 x6 2 x392000 x392001 x392002 x392003) else (atlaslaw06_AttrUsual.j1 k x4 x5 x6 0 x392000 x392001 x392002 x392003)))
def atlaslaw06_AttrUsual.j1 : Nat → Int → Int → Int → Int → Int → Int → Int → Int → Option (Bool)
 | 0, _, _, _, _, _, _, _, _ => none
 | k + 1, x4, x5, x6, x7, x392000, x392001, x392002, x392003 => if x5 = 3 then (if x5 = 7 then ((atlaslaw06_no.f x4).bind fun t396 => (if t396 = 0 then (some (x392000 == 2 && (x392001 == 1 && (x392002 == 1 && (x392003 == x6))))) else (some false))) else ((atlaslaw06_no.f x4).bind fun t397 => (if t397 = 0 then (some (x392000 == 2 && (x392001 == 3 && (x392002 == 3 && (x392003 == x6))))) else (some false)))) else (if x5 = 7 then ((atlaslaw06_no.f x4).bind fun t398 => (if t398 = 0 then (some (x392000 == 2 && (x392001 == 1 && (x392002 == 1 && (x392003 == x6))))) else (some false))) else ((atlaslaw06_no.f x4).bind fun t399 => (if t399 = 0 then (some (x392000 == 2 && (x392001 == x7 && (x392002 == x7 && (x392003 == x6))))) else (some false))))
end
def atlaslaw06_AttrUsual.f (k : Nat) (a0 : Int) : Option (Bool) := (attr_Of.f k true 689828 1088438496 (Go.bits .and .u32 a0 63)).bind fun bt386 => ((atlaslaw06_live.f k).bind fun t392 => (if t392 = true then (if ((((4 * (Go.bits .and .u32 ((Go.bits .and .u32 a0 63) / 8) 1)) % 4294967296) + (Go.bits .and .u32 ((Go.bits .and .u32 a0 63) / 2) 3)) % 4294967296) = 0 then ((atlaslaw06_no.f bt386.2.2.2.2).bind fun t393 => (if t393 = 0 then (some (bt386.1 == 0 && (bt386.2.1 == 0 && (bt386.2.2.1 == 0 && (bt386.2.2.2.1 == 2))))) else (some false))) else (if ((((4 * (Go.bits .and .u32 ((Go.bits .and .u32 a0 63) / 8) 1)) % 4294967296) + (Go.bits .and .u32 ((Go.bits .and .u32 a0 63) / 2) 3)) % 4294967296) = 1 then (atlaslaw06_AttrUsual.j0 k bt386.2.2.2.2 ((((4 * (Go.bits .and .u32 ((Go.bits .and .u32 a0 63) / 8) 1)) % 4294967296) + (Go.bits .and .u32 ((Go.bits .and .u32 a0 63) / 2) 3)) % 4294967296) (wrap64 (2 * (wrap64 (Go.bits .and .u32 (Go.bits .and .u32 a0 63) 1)))) ((((4 * (Go.bits .and .u32 ((Go.bits .and .u32 a0 63) / 8) 1)) % 4294967296) + (Go.bits .and .u32 ((Go.bits .and .u32 a0 63) / 2) 3)) % 4294967296) (((((4 * (Go.bits .and .u32 ((Go.bits .and .u32 a0 63) / 8) 1)) % 4294967296) + (Go.bits .and .u32 ((Go.bits .and .u32 a0 63) / 2) 3)) % 4294967296) == 1) bt386.1 bt386.2.1 bt386.2.2.1 bt386.2.2.2.1) else (atlaslaw06_AttrUsual.j0 k bt386.2.2.2.2 ((((4 * (Go.bits .and .u32 ((Go.bits .and .u32 a0 63) / 8) 1)) % 4294967296) + (Go.bits .and .u32 ((Go.bits .and .u32 a0 63) / 2) 3)) % 4294967296) (wrap64 (2 * (wrap64 (Go.bits .and .u32 (Go.bits .and .u32 a0 63) 1)))) ((((4 * (Go.bits .and .u32 ((Go.bits .and .u32 a0 63) / 8) 1)) % 4294967296) + (Go.bits .and .u32 ((Go.bits .and .u32 a0 63) / 2) 3)) % 4294967296) (((((4 * (Go.bits .and .u32 ((Go.bits .and .u32 a0 63) / 8) 1)) % 4294967296) + (Go.bits .and .u32 ((Go.bits .and .u32 a0 63) / 2) 3)) % 4294967296) == 5) bt386.1 bt386.2.1 bt386.2.2.1 bt386.2.2.2.1))) else (some false)))
theorem atlaslaw06_AttrUsual.mono_l : ∀ k, (∀ y0 y1 y2 y3 y4 y5 y6 y7 y8, LeO (atlaslaw06_AttrUsual.j0 k y0 y1 y2 y3 y4 y5 y6 y7 y8) (atlaslaw06_AttrUsual.j0 (k + 1) y0 y1 y2 y3 y4 y5 y6 y7 y8)) ∧ (∀ y0 y1 y2 y3 y4 y5 y6 y7, LeO (atlaslaw06_AttrUsual.j1 k y0 y1 y2 y3 y4 y5 y6 y7) (atlaslaw06_AttrUsual.j1 (k + 1) y0 y1 y2 y3 y4 y5 y6 y7))
 | 0 => ⟨fun _ _ _ _ _ _ _ _ _ r h => by simp [atlaslaw06_AttrUsual.j0] at h, fun _ _ _ _ _ _ _ _ r h => by simp [atlaslaw06_AttrUsual.j1] at h⟩
 | k + 1 => by
  obtain ⟨ih0, ih1⟩ := atlaslaw06_AttrUsual.mono_l k
  refine ⟨?_, ?_⟩
  ·
   intro y0 y1 y2 y3 y4 y5 y6 y7 y8
   unfold atlaslaw06_AttrUsual.j0
   repeat' first
   | (with_reducible exact ih0 _ _ _ _ _ _ _ _ _)
   | (with_reducible exact ih1 _ _ _ _ _ _ _ _)
   | (with_reducible exact atlaslaw06_live.mono _)
   | (with_reducible exact attr_Of.mono _ _ _ _ _)
   | (with_reducible exact LeO.refl _)
   | (with_reducible exact LeO.none _)
   | (with_reducible refine LeO.ite ?_ ?_)
   | (with_reducible refine LeO.bind ?_ (fun _ => ?_))
   | exact ih0 _ _ _ _ _ _ _ _ _
   | exact ih1 _ _ _ _ _ _ _ _
   | exact atlaslaw06_live.mono _
   | exact attr_Of.mono _ _ _ _ _
   | exact LeO.none _
   | refine LeO.ite ?_ ?_
   | refine LeO.bind ?_ (fun _ => ?_)
  ·
   intro y0 y1 y2 y3 y4 y5 y6 y7
   unfold atlaslaw06_AttrUsual.j1
   repeat' first
   | (with_reducible exact ih0 _ _ _ _ _ _ _ _ _)
   | (with_reducible exact ih1 _ _ _ _ _ _ _ _)
   | (with_reducible exact atlaslaw06_live.mono _)
   | (with_reducible exact attr_Of.mono _ _ _ _ _)
   | (with_reducible exact LeO.refl _)
   | (with_reducible exact LeO.none _)
   | (with_reducible refine LeO.ite ?_ ?_)
   | (with_reducible refine LeO.bind ?_ (fun _ => ?_))
   | exact ih0 _ _ _ _ _ _ _ _ _
   | exact ih1 _ _ _ _ _ _ _ _
   | exact atlaslaw06_live.mono _
   | exact attr_Of.mono _ _ _ _ _
   | exact LeO.none _
   | refine LeO.ite ?_ ?_
   | refine LeO.bind ?_ (fun _ => ?_)
theorem atlaslaw06_AttrUsual.mono : ∀ a0 k, LeO (atlaslaw06_AttrUsual.f k a0) (atlaslaw06_AttrUsual.f (k + 1) a0) := by
 intro a0 k
 obtain ⟨ih0, ih1⟩ := atlaslaw06_AttrUsual.mono_l k
 unfold atlaslaw06_AttrUsual.f
 repeat' first
   | (with_reducible exact ih0 _ _ _ _ _ _ _ _ _)
   | (with_reducible exact ih1 _ _ _ _ _ _ _ _)
   | (with_reducible exact atlaslaw06_live.mono _)
   | (with_reducible exact attr_Of.mono _ _ _ _ _)
   | (with_reducible exact LeO.refl _)
   | (with_reducible exact LeO.none _)
   | (with_reducible refine LeO.ite ?_ ?_)
   | (with_reducible refine LeO.bind ?_ (fun _ => ?_))
   | exact ih0 _ _ _ _ _ _ _ _ _
   | exact ih1 _ _ _ _ _ _ _ _
   | exact atlaslaw06_live.mono _
   | exact attr_Of.mono _ _ _ _ _
   | exact LeO.none _
   | refine LeO.ite ?_ ?_
   | refine LeO.bind ?_ (fun _ => ?_)
set_option maxHeartbeats 8000000 in
set_option maxRecDepth 100000 in
theorem atlaslaw06_AttrUsual.calls (k : Nat) (a0 : Int) (r : Bool) (w : World) (hG0 : Aside0 (G0 w)) (hG1 : Aside0 (G1 w)) (hG2 : Aside0 (G2 w)) (hG3 : Aside0 (G3 w)) (h : atlaslaw06_AttrUsual.f k a0 = some r) :
  Calls Tryd.prog 11 #[.int .u32 a0] w fun e w' => e = .returned (.bool r) ∧ Below w.heap.size w w' := by
 have hu24 := Tryd.underlying24
 have HB := Aside0.mk (Below.refl w.heap.size w)
 have H : ((attr_Of.f k true 689828 1088438496 (Go.bits .and .u32 a0 63)).bind fun bt386 => ((atlaslaw06_live.f k).bind fun t392 => (if t392 = true then (if ((((4 * (Go.bits .and .u32 ((Go.bits .and .u32 a0 63) / 8) 1)) % 4294967296) + (Go.bits .and .u32 ((Go.bits .and .u32 a0 63) / 2) 3)) % 4294967296) = 0 then ((atlaslaw06_no.f bt386.2.2.2.2).bind fun t393 => (if t393 = 0 then (some (bt386.1 == 0 && (bt386.2.1 == 0 && (bt386.2.2.1 == 0 && (bt386.2.2.2.1 == 2))))) else (some false))) else (if ((((4 * (Go.bits .and .u32 ((Go.bits .and .u32 a0 63) / 8) 1)) % 4294967296) + (Go.bits .and .u32 ((Go.bits .and .u32 a0 63) / 2) 3)) % 4294967296) = 1 then (atlaslaw06_AttrUsual.j0 k bt386.2.2.2.2 ((((4 * (Go.bits .and .u32 ((Go.bits .and .u32 a0 63) / 8) 1)) % 4294967296) + (Go.bits .and .u32 ((Go.bits .and .u32 a0 63) / 2) 3)) % 4294967296) (wrap64 (2 * (wrap64 (Go.bits .and .u32 (Go.bits .and .u32 a0 63) 1)))) ((((4 * (Go.bits .and .u32 ((Go.bits .and .u32 a0 63) / 8) 1)) % 4294967296) + (Go.bits .and .u32 ((Go.bits .and .u32 a0 63) / 2) 3)) % 4294967296) (((((4 * (Go.bits .and .u32 ((Go.bits .and .u32 a0 63) / 8) 1)) % 4294967296) + (Go.bits .and .u32 ((Go.bits .and .u32 a0 63) / 2) 3)) % 4294967296) == 1) bt386.1 bt386.2.1 bt386.2.2.1 bt386.2.2.2.1) else (atlaslaw06_AttrUsual.j0 k bt386.2.2.2.2 ((((4 * (Go.bits .and .u32 ((Go.bits .and .u32 a0 63) / 8) 1)) % 4294967296) + (Go.bits .and .u32 ((Go.bits .and .u32 a0 63) / 2) 3)) % 4294967296) (wrap64 (2 * (wrap64 (Go.bits .and .u32 (Go.bits .and .u32 a0 63) 1)))) ((((4 * (Go.bits .and .u32 ((Go.bits .and .u32 a0 63) / 8) 1)) % 4294967296) + (Go.bits .and .u32 ((Go.bits .and .u32 a0 63) / 2) 3)) % 4294967296) (((((4 * (Go.bits .and .u32 ((Go.bits .and .u32 a0 63) / 8) 1)) % 4294967296) + (Go.bits .and .u32 ((Go.bits .and .u32 a0 63) / 2) 3)) % 4294967296) == 5) bt386.1 bt386.2.1 bt386.2.2.1 bt386.2.2.2.1))) else (some false)))) = some r := h
 clear h
 replace H := Option.bind_eq_some_iff.mp H
 obtain ⟨⟨t386, t387, t388, t389, t390⟩, A20, H⟩ := H
 replace H : ((atlaslaw06_live.f k).bind fun t392 => (if t392 = true then (if ((((4 * (Go.bits .and .u32 ((Go.bits .and .u32 a0 63) / 8) 1)) % 4294967296) + (Go.bits .and .u32 ((Go.bits .and .u32 a0 63) / 2) 3)) % 4294967296) = 0 then ((atlaslaw06_no.f t390).bind fun t393 => (if t393 = 0 then (some (t386 == 0 && (t387 == 0 && (t388 == 0 && (t389 == 2))))) else (some false))) else (if ((((4 * (Go.bits .and .u32 ((Go.bits .and .u32 a0 63) / 8) 1)) % 4294967296) + (Go.bits .and .u32 ((Go.bits .and .u32 a0 63) / 2) 3)) % 4294967296) = 1 then (atlaslaw06_AttrUsual.j0 k t390 ((((4 * (Go.bits .and .u32 ((Go.bits .and .u32 a0 63) / 8) 1)) % 4294967296) + (Go.bits .and .u32 ((Go.bits .and .u32 a0 63) / 2) 3)) % 4294967296) (wrap64 (2 * (wrap64 (Go.bits .and .u32 (Go.bits .and .u32 a0 63) 1)))) ((((4 * (Go.bits .and .u32 ((Go.bits .and .u32 a0 63) / 8) 1)) % 4294967296) + (Go.bits .and .u32 ((Go.bits .and .u32 a0 63) / 2) 3)) % 4294967296) (((((4 * (Go.bits .and .u32 ((Go.bits .and .u32 a0 63) / 8) 1)) % 4294967296) + (Go.bits .and .u32 ((Go.bits .and .u32 a0 63) / 2) 3)) % 4294967296) == 1) t386 t387 t388 t389) else (atlaslaw06_AttrUsual.j0 k t390 ((((4 * (Go.bits .and .u32 ((Go.bits .and .u32 a0 63) / 8) 1)) % 4294967296) + (Go.bits .and .u32 ((Go.bits .and .u32 a0 63) / 2) 3)) % 4294967296) (wrap64 (2 * (wrap64 (Go.bits .and .u32 (Go.bits .and .u32 a0 63) 1)))) ((((4 * (Go.bits .and .u32 ((Go.bits .and .u32 a0 63) / 8) 1)) % 4294967296) + (Go.bits .and .u32 ((Go.bits .and .u32 a0 63) / 2) 3)) % 4294967296) (((((4 * (Go.bits .and .u32 ((Go.bits .and .u32 a0 63) / 8) 1)) % 4294967296) + (Go.bits .and .u32 ((Go.bits .and .u32 a0 63) / 2) 3)) % 4294967296) == 5) t386 t387 t388 t389))) else (some false))) = some r := H
 have A2 := Aside0.mk A20
 clear A20
 replace H := Option.bind_eq_some_iff.mp H
 obtain ⟨t392, A30, H⟩ := H
 replace H : (if t392 = true then (if ((((4 * (Go.bits .and .u32 ((Go.bits .and .u32 a0 63) / 8) 1)) % 4294967296) + (Go.bits .and .u32 ((Go.bits .and .u32 a0 63) / 2) 3)) % 4294967296) = 0 then ((atlaslaw06_no.f t390).bind fun t393 => (if t393 = 0 then (some (t386 == 0 && (t387 == 0 && (t388 == 0 && (t389 == 2))))) else (some false))) else (if ((((4 * (Go.bits .and .u32 ((Go.bits .and .u32 a0 63) / 8) 1)) % 4294967296) + (Go.bits .and .u32 ((Go.bits .and .u32 a0 63) / 2) 3)) % 4294967296) = 1 then (atlaslaw06_AttrUsual.j0 k t390 ((((4 * (Go.bits .and .u32 ((Go.bits .and .u32 a0 63) / 8) 1)) % 4294967296) + (Go.bits .and .u32 ((Go.bits .and .u32 a0 63) / 2) 3)) % 4294967296) (wrap64 (2 * (wrap64 (Go.bits .and .u32 (Go.bits .and .u32 a0 63) 1)))) ((((4 * (Go.bits .and .u32 ((Go.bits .and .u32 a0 63) / 8) 1)) % 4294967296) + (Go.bits .and .u32 ((Go.bits .and .u32 a0 63) / 2) 3)) % 4294967296) (((((4 * (Go.bits .and .u32 ((Go.bits .and .u32 a0 63) / 8) 1)) % 4294967296) + (Go.bits .and .u32 ((Go.bits .and .u32 a0 63) / 2) 3)) % 4294967296) == 1) t386 t387 t388 t389) else (atlaslaw06_AttrUsual.j0 k t390 ((((4 * (Go.bits .and .u32 ((Go.bits .and .u32 a0 63) / 8) 1)) % 4294967296) + (Go.bits .and .u32 ((Go.bits .and .u32 a0 63) / 2) 3)) % 4294967296) (wrap64 (2 * (wrap64 (Go.bits .and .u32 (Go.bits .and .u32 a0 63) 1)))) ((((4 * (Go.bits .and .u32 ((Go.bits .and .u32 a0 63) / 8) 1)) % 4294967296) + (Go.bits .and .u32 ((Go.bits .and .u32 a0 63) / 2) 3)) % 4294967296) (((((4 * (Go.bits .and .u32 ((Go.bits .and .u32 a0 63) / 8) 1)) % 4294967296) + (Go.bits .and .u32 ((Go.bits .and .u32 a0 63) / 2) 3)) % 4294967296) == 5) t386 t387 t388 t389))) else (some false)) = some r := H
 have A3 := Aside0.mk A30
 clear A30
 by_cases c4 : t392 = true
 ·
  subst c4
  have H1 : (if ((((4 * (Go.bits .and .u32 ((Go.bits .and .u32 a0 63) / 8) 1)) % 4294967296) + (Go.bits .and .u32 ((Go.bits .and .u32 a0 63) / 2) 3)) % 4294967296) = 0 then ((atlaslaw06_no.f t390).bind fun t393 => (if t393 = 0 then (some (t386 == 0 && (t387 == 0 && (t388 == 0 && (t389 == 2))))) else (some false))) else (if ((((4 * (Go.bits .and .u32 ((Go.bits .and .u32 a0 63) / 8) 1)) % 4294967296) + (Go.bits .and .u32 ((Go.bits .and .u32 a0 63) / 2) 3)) % 4294967296) = 1 then (atlaslaw06_AttrUsual.j0 k t390 ((((4 * (Go.bits .and .u32 ((Go.bits .and .u32 a0 63) / 8) 1)) % 4294967296) + (Go.bits .and .u32 ((Go.bits .and .u32 a0 63) / 2) 3)) % 4294967296) (wrap64 (2 * (wrap64 (Go.bits .and .u32 (Go.bits .and .u32 a0 63) 1)))) ((((4 * (Go.bits .and .u32 ((Go.bits .and .u32 a0 63) / 8) 1)) % 4294967296) + (Go.bits .and .u32 ((Go.bits .and .u32 a0 63) / 2) 3)) % 4294967296) (((((4 * (Go.bits .and .u32 ((Go.bits .and .u32 a0 63) / 8) 1)) % 4294967296) + (Go.bits .and .u32 ((Go.bits .and .u32 a0 63) / 2) 3)) % 4294967296) == 1) t386 t387 t388 t389) else (atlaslaw06_AttrUsual.j0 k t390 ((((4 * (Go.bits .and .u32 ((Go.bits .and .u32 a0 63) / 8) 1)) % 4294967296) + (Go.bits .and .u32 ((Go.bits .and .u32 a0 63) / 2) 3)) % 4294967296) (wrap64 (2 * (wrap64 (Go.bits .and .u32 (Go.bits .and .u32 a0 63) 1)))) ((((4 * (Go.bits .and .u32 ((Go.bits .and .u32 a0 63) / 8) 1)) % 4294967296) + (Go.bits .and .u32 ((Go.bits .and .u32 a0 63) / 2) 3)) % 4294967296) (((((4 * (Go.bits .and .u32 ((Go.bits .and .u32 a0 63) / 8) 1)) % 4294967296) + (Go.bits .and .u32 ((Go.bits .and .u32 a0 63) / 2) 3)) % 4294967296) == 5) t386 t387 t388 t389))) = some r := by rw [if_pos rfl] at H; exact H
  clear H
  have H := H1
  clear H1
  by_cases c5 : ((((4 * (Go.bits .and .u32 ((Go.bits .and .u32 a0 63) / 8) 1)) % 4294967296) + (Go.bits .and .u32 ((Go.bits .and .u32 a0 63) / 2) 3)) % 4294967296) = 0
  ·
   rw [if_pos c5] at H
   have c5b0 : (((((4 * (Go.bits .and .u32 ((Go.bits .and .u32 a0 63) / 8) 1)) % 4294967296) + (Go.bits .and .u32 ((Go.bits .and .u32 a0 63) / 2) 3)) % 4294967296) == 0) = true := beq_iff_eq.mpr c5
   have c5b1 : (((((4 * (Go.bits .and .u32 ((Go.bits .and .u32 a0 63) / 8) 1)) % 4294967296) + (Go.bits .and .u32 ((Go.bits .and .u32 a0 63) / 2) 3)) % 4294967296) != 0) = false := bne_eq_false_iff_eq.mpr c5
   clear c5
   replace H := Option.bind_eq_some_iff.mp H
   obtain ⟨t393, A60, H⟩ := H
   replace H : (if t393 = 0 then (some (t386 == 0 && (t387 == 0 && (t388 == 0 && (t389 == 2))))) else (some false)) = some r := H
   have A6 := Aside0.mk A60
   clear A60
   by_cases c7 : t393 = 0
   ·
    rw [if_pos c7] at H
    have c7b0 : (t393 == 0) = true := beq_iff_eq.mpr c7
    have c7b1 : (t393 != 0) = false := bne_eq_false_iff_eq.mpr c7
    clear c7
    obtain rfl := Option.some.inj H
    go_enter Tryd.func11, Tryd.ntmps11
    go_wp2_with (first | ((with_reducible refine gate_callee (f := 12) rfl ?_); refine goesL_ (some 12) rfl rfl Tryd.func12 (by kernel_rfl) rfl #[.bool true, .int .u32 689828, .int .u32 1088438496, .int .u32 (Go.bits .and .u32 a0 63)] rfl (by (try simp only [List.map_toArray, List.map_cons, List.map_nil]); first | done | rfl | (simp only [List.length_drop, List.length_take]; rfl)) ?_; (with_reducible refine (attr_Of.calls k true 689828 1088438496 (Go.bits .and .u32 a0 63) t386 t387 t388 t389 t390 _ ?side1 A2.out).mono ?_); (case side1 => exact ⟨G0.below hG0.out (by repeat (first | (with_reducible first | exact HB.out | apply below_alloc | apply pw_below_drewN | apply below_drew1) | exact HB.out))⟩); rintro e w8 ⟨rfl, hb⟩; refine ⟨_, rfl, ?_⟩; have n0_ := Aside0.mk (below_step (by repeat (first | (with_reducible first | exact HB.out | apply below_alloc | apply pw_below_drewN | apply below_drew1) | exact HB.out)) hb); clear HB; have HB := n0_; clear n0_; (try clear hb); (try clear hb2); (try clear hk); (try clear hi)) | ((with_reducible refine gate_dst (N := 3) rfl ?_); refine box_event ?hg (N := 3) ?hd (cs := #[.int .i64 0, .int .i64 0, .int .i64 0, .int .i64 0]) (t := 24) ?hr ?_; (case hd => rfl); (case hg => rfl); (case hr => first | (go_simp; done) | (go_simp; rfl)); intro gb391 hg w9 hbox hb; have n0_ := Aside0.mk (below_step (by repeat (first | (with_reducible first | exact HB.out | apply below_alloc | apply pw_below_drewN | apply below_drew1) | exact HB.out)) hb); have n1_ := Aside0.mk (hbox); have n2_ := Aside0.mk ((by rw [hg]; exact (below_size (by repeat (first | (with_reducible first | exact HB.out | apply below_alloc | apply pw_below_drewN | apply below_drew1) | exact HB.out))) : w.heap.size ≤ gb391)); have n3_ := Aside0.mk ((by rw [hg]; exact (below_size (by repeat (first | (with_reducible first | exact HB.out | apply below_alloc | apply pw_below_drewN | apply below_drew1) | exact HB.out))) : w.heap.size ≤ gb391)); clear HB; have HB := n0_; have BK391 := n1_; have GW391 := n2_; have GE391 := n3_; clear n0_ n1_ n2_ n3_; clear hb hbox hg; have hcz10_0 : w9.cell? ⟨gb391, 0, none⟩ = some (.int .i64 0) := (blk_cell BK391.out 0).trans rfl; have hcz10_1 : w9.cell? ⟨gb391, 1, none⟩ = some (.int .i64 0) := (blk_cell BK391.out 1).trans rfl; have hcz10_2 : w9.cell? ⟨gb391, 2, none⟩ = some (.int .i64 0) := (blk_cell BK391.out 2).trans rfl; have hcz10_3 : w9.cell? ⟨gb391, 3, none⟩ = some (.int .i64 0) := (blk_cell BK391.out 3).trans rfl; have hfz10_0 := blk_frozen BK391.out 0; have hfz10_1 := blk_frozen BK391.out 1; have hfz10_2 := blk_frozen BK391.out 2; have hfz10_3 := blk_frozen BK391.out 3) | ((with_reducible refine gate_callee (f := 14) rfl ?_); refine goesL_ (some 15) rfl rfl Tryd.func14 (by kernel_rfl) rfl #[] rfl (by (try simp only [List.map_toArray, List.map_cons, List.map_nil]); first | done | rfl | (simp only [List.length_drop, List.length_take]; rfl)) ?_; (with_reducible refine (atlaslaw06_live.calls k  true _ ?side1 ?side2 ?side3 ?side4 A3.out).mono ?_); (case side1 => exact ⟨G0.below hG0.out (by repeat (first | (with_reducible first | exact HB.out | apply below_alloc | apply pw_below_drewN | apply below_drew1 | refine below_set ?_ GE391.out) | exact HB.out))⟩); (case side2 => exact ⟨G1.below hG1.out (by repeat (first | (with_reducible first | exact HB.out | apply below_alloc | apply pw_below_drewN | apply below_drew1 | refine below_set ?_ GE391.out) | exact HB.out))⟩); (case side3 => exact ⟨G2.below hG2.out (by repeat (first | (with_reducible first | exact HB.out | apply below_alloc | apply pw_below_drewN | apply below_drew1 | refine below_set ?_ GE391.out) | exact HB.out))⟩); (case side4 => exact ⟨G3.below hG3.out (by repeat (first | (with_reducible first | exact HB.out | apply below_alloc | apply pw_below_drewN | apply below_drew1 | refine below_set ?_ GE391.out) | exact HB.out))⟩); rintro e w11 ⟨rfl, hb⟩; refine ⟨_, rfl, ?_⟩; have n0_ := Aside0.mk (blk_below (g := gb391) (o := .cells #[.int .i64 t386, .int .i64 t387, .int .i64 t388, .int .i64 t389] 24 (0, 0)) (by (with_reducible repeat (first | refine blk_drewN ?_ _ | refine blk_drew ?_ | refine blk_alloc ?_ _)); refine blk_put (cs := #[.int .i64 t386, .int .i64 t387, .int .i64 t388, .int .i64 0]) ?_ 3 _ rfl; (with_reducible repeat (first | refine blk_drewN ?_ _ | refine blk_drew ?_ | refine blk_alloc ?_ _)); refine blk_put (cs := #[.int .i64 t386, .int .i64 t387, .int .i64 0, .int .i64 0]) ?_ 2 _ rfl; (with_reducible repeat (first | refine blk_drewN ?_ _ | refine blk_drew ?_ | refine blk_alloc ?_ _)); refine blk_put (cs := #[.int .i64 t386, .int .i64 0, .int .i64 0, .int .i64 0]) ?_ 1 _ rfl; (with_reducible repeat (first | refine blk_drewN ?_ _ | refine blk_drew ?_ | refine blk_alloc ?_ _)); refine blk_put (cs := #[.int .i64 0, .int .i64 0, .int .i64 0, .int .i64 0]) ?_ 0 _ rfl; (with_reducible repeat (first | refine blk_drewN ?_ _ | refine blk_drew ?_ | refine blk_alloc ?_ _)); exact BK391.out) hb); have n1_ := Aside0.mk (below_step (by repeat (first | (with_reducible first | exact HB.out | apply below_alloc | apply pw_below_drewN | apply below_drew1 | refine below_set ?_ GE391.out) | exact HB.out)) hb); clear BK391; clear HB; have BK391 := n0_; have HB := n1_; clear n0_ n1_; (try clear hb); (try clear hb2); (try clear hk); (try clear hi)) | ((with_reducible refine gate_callee (f := 15) rfl ?_); refine goesL_ (some 33) rfl rfl Tryd.func15 (by kernel_rfl) rfl #[.int .i64 t390] rfl (by (try simp only [List.map_toArray, List.map_cons, List.map_nil]); first | done | rfl | (simp only [List.length_drop, List.length_take]; rfl)) ?_; (with_reducible refine (atlaslaw06_no.calls t390 t393 _ A6.out).mono ?_); rintro e w' ⟨rfl, ⟨nd, rfl⟩⟩; refine ⟨_, rfl, ?_⟩; have hcz12_0 : w11.cell? ⟨gb391, 0, none⟩ = some (.int .i64 t386) := (blk_cell BK391.out 0).trans rfl; have hcz12_1 : w11.cell? ⟨gb391, 1, none⟩ = some (.int .i64 t387) := (blk_cell BK391.out 1).trans rfl; have hcz12_2 : w11.cell? ⟨gb391, 2, none⟩ = some (.int .i64 t388) := (blk_cell BK391.out 2).trans rfl; have hcz12_3 : w11.cell? ⟨gb391, 3, none⟩ = some (.int .i64 t389) := (blk_cell BK391.out 3).trans rfl; have hfz12_0 := blk_frozen BK391.out 0; have hfz12_1 := blk_frozen BK391.out 1; have hfz12_2 := blk_frozen BK391.out 2; have hfz12_3 := blk_frozen BK391.out 3))
    all_goals go_ret
    all_goals exact ⟨by first | rfl | (simp [errW_none, errW_some] <;> rfl) | (simp [*, errW_none, errW_some] <;> rfl) | (simp [*, errW_none, errW_some] <;> exact isEmpty_ne _), by repeat (first | (with_reducible first | exact HB.out | apply below_alloc | apply pw_below_drewN | apply below_drew1 | refine below_set ?_ GE391.out) | exact HB.out)⟩
   ·
    rw [if_neg c7] at H
    have c7b0 : (t393 == 0) = false := beq_eq_false_iff_ne.mpr c7
    have c7b1 : (t393 != 0) = true := bne_iff_ne.mpr c7
    obtain rfl := Option.some.inj H
    go_enter Tryd.func11, Tryd.ntmps11
    go_wp2_with (first | ((with_reducible refine gate_callee (f := 12) rfl ?_); refine goesL_ (some 12) rfl rfl Tryd.func12 (by kernel_rfl) rfl #[.bool true, .int .u32 689828, .int .u32 1088438496, .int .u32 (Go.bits .and .u32 a0 63)] rfl (by (try simp only [List.map_toArray, List.map_cons, List.map_nil]); first | done | rfl | (simp only [List.length_drop, List.length_take]; rfl)) ?_; (with_reducible refine (attr_Of.calls k true 689828 1088438496 (Go.bits .and .u32 a0 63) t386 t387 t388 t389 t390 _ ?side1 A2.out).mono ?_); (case side1 => exact ⟨G0.below hG0.out (by repeat (first | (with_reducible first | exact HB.out | apply below_alloc | apply pw_below_drewN | apply below_drew1) | exact HB.out))⟩); rintro e w13 ⟨rfl, hb⟩; refine ⟨_, rfl, ?_⟩; have n0_ := Aside0.mk (below_step (by repeat (first | (with_reducible first | exact HB.out | apply below_alloc | apply pw_below_drewN | apply below_drew1) | exact HB.out)) hb); clear HB; have HB := n0_; clear n0_; (try clear hb); (try clear hb2); (try clear hk); (try clear hi)) | ((with_reducible refine gate_dst (N := 3) rfl ?_); refine box_event ?hg (N := 3) ?hd (cs := #[.int .i64 0, .int .i64 0, .int .i64 0, .int .i64 0]) (t := 24) ?hr ?_; (case hd => rfl); (case hg => rfl); (case hr => first | (go_simp; done) | (go_simp; rfl)); intro gb391 hg w14 hbox hb; have n0_ := Aside0.mk (below_step (by repeat (first | (with_reducible first | exact HB.out | apply below_alloc | apply pw_below_drewN | apply below_drew1) | exact HB.out)) hb); have n1_ := Aside0.mk (hbox); have n2_ := Aside0.mk ((by rw [hg]; exact (below_size (by repeat (first | (with_reducible first | exact HB.out | apply below_alloc | apply pw_below_drewN | apply below_drew1) | exact HB.out))) : w.heap.size ≤ gb391)); have n3_ := Aside0.mk ((by rw [hg]; exact (below_size (by repeat (first | (with_reducible first | exact HB.out | apply below_alloc | apply pw_below_drewN | apply below_drew1) | exact HB.out))) : w.heap.size ≤ gb391)); clear HB; have HB := n0_; have BK391 := n1_; have GW391 := n2_; have GE391 := n3_; clear n0_ n1_ n2_ n3_; clear hb hbox hg; have hcz15_0 : w14.cell? ⟨gb391, 0, none⟩ = some (.int .i64 0) := (blk_cell BK391.out 0).trans rfl; have hcz15_1 : w14.cell? ⟨gb391, 1, none⟩ = some (.int .i64 0) := (blk_cell BK391.out 1).trans rfl; have hcz15_2 : w14.cell? ⟨gb391, 2, none⟩ = some (.int .i64 0) := (blk_cell BK391.out 2).trans rfl; have hcz15_3 : w14.cell? ⟨gb391, 3, none⟩ = some (.int .i64 0) := (blk_cell BK391.out 3).trans rfl; have hfz15_0 := blk_frozen BK391.out 0; have hfz15_1 := blk_frozen BK391.out 1; have hfz15_2 := blk_frozen BK391.out 2; have hfz15_3 := blk_frozen BK391.out 3) | ((with_reducible refine gate_callee (f := 14) rfl ?_); refine goesL_ (some 15) rfl rfl Tryd.func14 (by kernel_rfl) rfl #[] rfl (by (try simp only [List.map_toArray, List.map_cons, List.map_nil]); first | done | rfl | (simp only [List.length_drop, List.length_take]; rfl)) ?_; (with_reducible refine (atlaslaw06_live.calls k  true _ ?side1 ?side2 ?side3 ?side4 A3.out).mono ?_); (case side1 => exact ⟨G0.below hG0.out (by repeat (first | (with_reducible first | exact HB.out | apply below_alloc | apply pw_below_drewN | apply below_drew1 | refine below_set ?_ GE391.out) | exact HB.out))⟩); (case side2 => exact ⟨G1.below hG1.out (by repeat (first | (with_reducible first | exact HB.out | apply below_alloc | apply pw_below_drewN | apply below_drew1 | refine below_set ?_ GE391.out) | exact HB.out))⟩); (case side3 => exact ⟨G2.below hG2.out (by repeat (first | (with_reducible first | exact HB.out | apply below_alloc | apply pw_below_drewN | apply below_drew1 | refine below_set ?_ GE391.out) | exact HB.out))⟩); (case side4 => exact ⟨G3.below hG3.out (by repeat (first | (with_reducible first | exact HB.out | apply below_alloc | apply pw_below_drewN | apply below_drew1 | refine below_set ?_ GE391.out) | exact HB.out))⟩); rintro e w16 ⟨rfl, hb⟩; refine ⟨_, rfl, ?_⟩; have n0_ := Aside0.mk (blk_below (g := gb391) (o := .cells #[.int .i64 t386, .int .i64 t387, .int .i64 t388, .int .i64 t389] 24 (0, 0)) (by (with_reducible repeat (first | refine blk_drewN ?_ _ | refine blk_drew ?_ | refine blk_alloc ?_ _)); refine blk_put (cs := #[.int .i64 t386, .int .i64 t387, .int .i64 t388, .int .i64 0]) ?_ 3 _ rfl; (with_reducible repeat (first | refine blk_drewN ?_ _ | refine blk_drew ?_ | refine blk_alloc ?_ _)); refine blk_put (cs := #[.int .i64 t386, .int .i64 t387, .int .i64 0, .int .i64 0]) ?_ 2 _ rfl; (with_reducible repeat (first | refine blk_drewN ?_ _ | refine blk_drew ?_ | refine blk_alloc ?_ _)); refine blk_put (cs := #[.int .i64 t386, .int .i64 0, .int .i64 0, .int .i64 0]) ?_ 1 _ rfl; (with_reducible repeat (first | refine blk_drewN ?_ _ | refine blk_drew ?_ | refine blk_alloc ?_ _)); refine blk_put (cs := #[.int .i64 0, .int .i64 0, .int .i64 0, .int .i64 0]) ?_ 0 _ rfl; (with_reducible repeat (first | refine blk_drewN ?_ _ | refine blk_drew ?_ | refine blk_alloc ?_ _)); exact BK391.out) hb); have n1_ := Aside0.mk (below_step (by repeat (first | (with_reducible first | exact HB.out | apply below_alloc | apply pw_below_drewN | apply below_drew1 | refine below_set ?_ GE391.out) | exact HB.out)) hb); clear BK391; clear HB; have BK391 := n0_; have HB := n1_; clear n0_ n1_; (try clear hb); (try clear hb2); (try clear hk); (try clear hi)) | ((with_reducible refine gate_callee (f := 15) rfl ?_); refine goesL_ (some 33) rfl rfl Tryd.func15 (by kernel_rfl) rfl #[.int .i64 t390] rfl (by (try simp only [List.map_toArray, List.map_cons, List.map_nil]); first | done | rfl | (simp only [List.length_drop, List.length_take]; rfl)) ?_; (with_reducible refine (atlaslaw06_no.calls t390 t393 _ A6.out).mono ?_); rintro e w' ⟨rfl, ⟨nd, rfl⟩⟩; refine ⟨_, rfl, ?_⟩))
    all_goals go_ret
    all_goals exact ⟨by first | rfl | (simp [errW_none, errW_some] <;> rfl) | (simp [*, errW_none, errW_some] <;> rfl) | (simp [*, errW_none, errW_some] <;> exact isEmpty_ne _), by repeat (first | (with_reducible first | exact HB.out | apply below_alloc | apply pw_below_drewN | apply below_drew1 | refine below_set ?_ GE391.out) | exact HB.out)⟩
  ·
   rw [if_neg c5] at H
   have c5b0 : (((((4 * (Go.bits .and .u32 ((Go.bits .and .u32 a0 63) / 8) 1)) % 4294967296) + (Go.bits .and .u32 ((Go.bits .and .u32 a0 63) / 2) 3)) % 4294967296) == 0) = false := beq_eq_false_iff_ne.mpr c5
   have c5b1 : (((((4 * (Go.bits .and .u32 ((Go.bits .and .u32 a0 63) / 8) 1)) % 4294967296) + (Go.bits .and .u32 ((Go.bits .and .u32 a0 63) / 2) 3)) % 4294967296) != 0) = true := bne_iff_ne.mpr c5
   have HC17 := Aside0.mk H
   clear H
   go_enter Tryd.func11, Tryd.ntmps11
   go_upto_if 40 with (first | ((with_reducible refine gate_callee (f := 12) rfl ?_); refine goesL_ (some 12) rfl rfl Tryd.func12 (by kernel_rfl) rfl #[.bool true, .int .u32 689828, .int .u32 1088438496, .int .u32 (Go.bits .and .u32 a0 63)] rfl (by (try simp only [List.map_toArray, List.map_cons, List.map_nil]); first | done | rfl | (simp only [List.length_drop, List.length_take]; rfl)) ?_; (with_reducible refine (attr_Of.calls k true 689828 1088438496 (Go.bits .and .u32 a0 63) t386 t387 t388 t389 t390 _ ?side1 A2.out).mono ?_); (case side1 => exact ⟨G0.below hG0.out (by repeat (first | (with_reducible first | exact HB.out | apply below_alloc | apply pw_below_drewN | apply below_drew1) | exact HB.out))⟩); rintro e w18 ⟨rfl, hb⟩; refine ⟨_, rfl, ?_⟩; have n0_ := Aside0.mk (below_step (by repeat (first | (with_reducible first | exact HB.out | apply below_alloc | apply pw_below_drewN | apply below_drew1) | exact HB.out)) hb); clear HB; have HB := n0_; clear n0_; (try clear hb); (try clear hb2); (try clear hk); (try clear hi)) | ((with_reducible refine gate_dst (N := 3) rfl ?_); refine box_event ?hg (N := 3) ?hd (cs := #[.int .i64 0, .int .i64 0, .int .i64 0, .int .i64 0]) (t := 24) ?hr ?_; (case hd => rfl); (case hg => rfl); (case hr => first | (go_simp; done) | (go_simp; rfl)); intro gb391 hg w19 hbox hb; have n0_ := Aside0.mk (below_step (by repeat (first | (with_reducible first | exact HB.out | apply below_alloc | apply pw_below_drewN | apply below_drew1) | exact HB.out)) hb); have n1_ := Aside0.mk (hbox); have n2_ := Aside0.mk ((by rw [hg]; exact (below_size (by repeat (first | (with_reducible first | exact HB.out | apply below_alloc | apply pw_below_drewN | apply below_drew1) | exact HB.out))) : w.heap.size ≤ gb391)); have n3_ := Aside0.mk ((by rw [hg]; exact (below_size (by repeat (first | (with_reducible first | exact HB.out | apply below_alloc | apply pw_below_drewN | apply below_drew1) | exact HB.out))) : w.heap.size ≤ gb391)); clear HB; have HB := n0_; have BK391 := n1_; have GW391 := n2_; have GE391 := n3_; clear n0_ n1_ n2_ n3_; clear hb hbox hg; have hcz20_0 : w19.cell? ⟨gb391, 0, none⟩ = some (.int .i64 0) := (blk_cell BK391.out 0).trans rfl; have hcz20_1 : w19.cell? ⟨gb391, 1, none⟩ = some (.int .i64 0) := (blk_cell BK391.out 1).trans rfl; have hcz20_2 : w19.cell? ⟨gb391, 2, none⟩ = some (.int .i64 0) := (blk_cell BK391.out 2).trans rfl; have hcz20_3 : w19.cell? ⟨gb391, 3, none⟩ = some (.int .i64 0) := (blk_cell BK391.out 3).trans rfl; have hfz20_0 := blk_frozen BK391.out 0; have hfz20_1 := blk_frozen BK391.out 1; have hfz20_2 := blk_frozen BK391.out 2; have hfz20_3 := blk_frozen BK391.out 3) | ((with_reducible refine gate_callee (f := 14) rfl ?_); refine goesL_ (some 15) rfl rfl Tryd.func14 (by kernel_rfl) rfl #[] rfl (by (try simp only [List.map_toArray, List.map_cons, List.map_nil]); first | done | rfl | (simp only [List.length_drop, List.length_take]; rfl)) ?_; (with_reducible refine (atlaslaw06_live.calls k  true _ ?side1 ?side2 ?side3 ?side4 A3.out).mono ?_); (case side1 => exact ⟨G0.below hG0.out (by repeat (first | (with_reducible first | exact HB.out | apply below_alloc | apply pw_below_drewN | apply below_drew1 | refine below_set ?_ GE391.out) | exact HB.out))⟩); (case side2 => exact ⟨G1.below hG1.out (by repeat (first | (with_reducible first | exact HB.out | apply below_alloc | apply pw_below_drewN | apply below_drew1 | refine below_set ?_ GE391.out) | exact HB.out))⟩); (case side3 => exact ⟨G2.below hG2.out (by repeat (first | (with_reducible first | exact HB.out | apply below_alloc | apply pw_below_drewN | apply below_drew1 | refine below_set ?_ GE391.out) | exact HB.out))⟩); (case side4 => exact ⟨G3.below hG3.out (by repeat (first | (with_reducible first | exact HB.out | apply below_alloc | apply pw_below_drewN | apply below_drew1 | refine below_set ?_ GE391.out) | exact HB.out))⟩); rintro e w21 ⟨rfl, hb⟩; refine ⟨_, rfl, ?_⟩; have n0_ := Aside0.mk (blk_below (g := gb391) (o := .cells #[.int .i64 t386, .int .i64 t387, .int .i64 t388, .int .i64 t389] 24 (0, 0)) (by (with_reducible repeat (first | refine blk_drewN ?_ _ | refine blk_drew ?_ | refine blk_alloc ?_ _)); refine blk_put (cs := #[.int .i64 t386, .int .i64 t387, .int .i64 t388, .int .i64 0]) ?_ 3 _ rfl; (with_reducible repeat (first | refine blk_drewN ?_ _ | refine blk_drew ?_ | refine blk_alloc ?_ _)); refine blk_put (cs := #[.int .i64 t386, .int .i64 t387, .int .i64 0, .int .i64 0]) ?_ 2 _ rfl; (with_reducible repeat (first | refine blk_drewN ?_ _ | refine blk_drew ?_ | refine blk_alloc ?_ _)); refine blk_put (cs := #[.int .i64 t386, .int .i64 0, .int .i64 0, .int .i64 0]) ?_ 1 _ rfl; (with_reducible repeat (first | refine blk_drewN ?_ _ | refine blk_drew ?_ | refine blk_alloc ?_ _)); refine blk_put (cs := #[.int .i64 0, .int .i64 0, .int .i64 0, .int .i64 0]) ?_ 0 _ rfl; (with_reducible repeat (first | refine blk_drewN ?_ _ | refine blk_drew ?_ | refine blk_alloc ?_ _)); exact BK391.out) hb); have n1_ := Aside0.mk (below_step (by repeat (first | (with_reducible first | exact HB.out | apply below_alloc | apply pw_below_drewN | apply below_drew1 | refine below_set ?_ GE391.out) | exact HB.out)) hb); clear BK391; clear HB; have BK391 := n0_; have HB := n1_; clear n0_ n1_; (try clear hb); (try clear hb2); (try clear hk); (try clear hi)))
   (try simp only [Act.put, List.setIfInBounds_toArray, List.set_cons_zero, List.set_cons_succ])
   go_cut [40] (fun v40 wc => ∃ (kq : Nat) (x40_16 : Bool), v40 = .bool x40_16 ∧ Aside0 (atlaslaw06_AttrUsual.j0 kq t390 ((((4 * (Go.bits .and .u32 ((Go.bits .and .u32 a0 63) / 8) 1)) % 4294967296) + (Go.bits .and .u32 ((Go.bits .and .u32 a0 63) / 2) 3)) % 4294967296) (wrap64 (2 * (wrap64 (Go.bits .and .u32 (Go.bits .and .u32 a0 63) 1)))) ((((4 * (Go.bits .and .u32 ((Go.bits .and .u32 a0 63) / 8) 1)) % 4294967296) + (Go.bits .and .u32 ((Go.bits .and .u32 a0 63) / 2) 3)) % 4294967296) x40_16 t386 t387 t388 t389 = some r) ∧ Aside0 (kq ≤ k) ∧ Aside0 (wc.heap[gb391]? = some (.cells #[.int .i64 t386, .int .i64 t387, .int .i64 t388, .int .i64 t389] 24 (0, 0))) ∧ Aside0 (Below w.heap.size w wc))
   case first =>
    have H := HC17.out
    clear HC17
    by_cases c22 : ((((4 * (Go.bits .and .u32 ((Go.bits .and .u32 a0 63) / 8) 1)) % 4294967296) + (Go.bits .and .u32 ((Go.bits .and .u32 a0 63) / 2) 3)) % 4294967296) = 1
    ·
     rw [if_pos c22] at H
     have c22b0 : (((((4 * (Go.bits .and .u32 ((Go.bits .and .u32 a0 63) / 8) 1)) % 4294967296) + (Go.bits .and .u32 ((Go.bits .and .u32 a0 63) / 2) 3)) % 4294967296) == 1) = true := beq_iff_eq.mpr c22
     have c22b1 : (((((4 * (Go.bits .and .u32 ((Go.bits .and .u32 a0 63) / 8) 1)) % 4294967296) + (Go.bits .and .u32 ((Go.bits .and .u32 a0 63) / 2) 3)) % 4294967296) != 1) = false := bne_eq_false_iff_eq.mpr c22
     clear c22
     (first | rw [c22b0] | (simp only [i64_w, i32_w]; rw [c22b0]) | skip)
     have H' := Aside0.mk H
     clear H
     go_wp2
     go_meet
     case rel => exact ⟨_, ((((((4 * (Go.bits .and .u32 ((Go.bits .and .u32 a0 63) / 8) 1)) % 4294967296) + (Go.bits .and .u32 ((Go.bits .and .u32 a0 63) / 2) 3)) % 4294967296) == 1)), (by first | rfl | (simp; done) | (simp [*]; done)), H', ⟨by first | omega | exact Nat.le_refl _⟩, ⟨by (with_reducible repeat (first | refine blk_drewN ?_ _ | refine blk_drew ?_ | refine blk_alloc ?_ _)); exact BK391.out⟩, ⟨by repeat (first | (with_reducible first | exact HB.out | apply below_alloc | apply pw_below_drewN | apply below_drew1 | refine below_set ?_ GE391.out) | exact HB.out)⟩⟩
    ·
     rw [if_neg c22] at H
     have c22b0 : (((((4 * (Go.bits .and .u32 ((Go.bits .and .u32 a0 63) / 8) 1)) % 4294967296) + (Go.bits .and .u32 ((Go.bits .and .u32 a0 63) / 2) 3)) % 4294967296) == 1) = false := beq_eq_false_iff_ne.mpr c22
     have c22b1 : (((((4 * (Go.bits .and .u32 ((Go.bits .and .u32 a0 63) / 8) 1)) % 4294967296) + (Go.bits .and .u32 ((Go.bits .and .u32 a0 63) / 2) 3)) % 4294967296) != 1) = true := bne_iff_ne.mpr c22
     (first | rw [c22b0] | (simp only [i64_w, i32_w]; rw [c22b0]) | skip)
     have H' := Aside0.mk H
     clear H
     go_wp2
     go_meet
     case rel => exact ⟨_, ((((((4 * (Go.bits .and .u32 ((Go.bits .and .u32 a0 63) / 8) 1)) % 4294967296) + (Go.bits .and .u32 ((Go.bits .and .u32 a0 63) / 2) 3)) % 4294967296) == 5)), (by first | rfl | (simp; done) | (simp [*]; done)), H', ⟨by first | omega | exact Nat.le_refl _⟩, ⟨by (with_reducible repeat (first | refine blk_drewN ?_ _ | refine blk_drew ?_ | refine blk_alloc ?_ _)); exact BK391.out⟩, ⟨by repeat (first | (with_reducible first | exact HB.out | apply below_alloc | apply pw_below_drewN | apply below_drew1 | refine below_set ?_ GE391.out) | exact HB.out)⟩⟩
   case rest =>
    clear HC17
    try clear c1
    try clear c2
    try clear p2
    try clear c4
    try clear c5
    try clear c5b0
    try clear c5b1
    try clear p6
    try clear c7
    try clear c7b0
    try clear c7b1
    try clear c11
    try clear c12
    try clear c14
    try clear c15
    try clear c22
    try clear c22b0
    try clear c22b1
    try clear hcz10_0
    try clear hcz10_1
    try clear hcz10_2
    try clear hcz10_3
    try clear hcz12_0
    try clear hcz12_1
    try clear hcz12_2
    try clear hcz12_3
    try clear hcz15_0
    try clear hcz15_1
    try clear hcz15_2
    try clear hcz15_3
    try clear hcz20_0
    try clear hcz20_1
    try clear hcz20_2
    try clear hcz20_3
    try clear hfz10_0
    try clear hfz10_1
    try clear hfz10_2
    try clear hfz10_3
    try clear hfz12_0
    try clear hfz12_1
    try clear hfz12_2
    try clear hfz12_3
    try clear hfz15_0
    try clear hfz15_1
    try clear hfz15_2
    try clear hfz15_3
    try clear hfz20_0
    try clear hfz20_1
    try clear hfz20_2
    try clear hfz20_3
    obtain ⟨kq, x40_16, rfl, HA, HJ16, BK391, HB⟩ := hcut
    cases kq with
    | zero => exact absurd HA.out (by simp [atlaslaw06_AttrUsual.j0])
    | succ kj16 =>
     have H := HA.out
     clear HA
     simp only [atlaslaw06_AttrUsual.j0] at H
     by_cases c23 : x40_16 = true
     ·
      subst c23
      have H1 : ((atlaslaw06_no.f t390).bind fun t394 => (if t394 = 0 then (some (t386 == 1 && (t387 == 0 && (t388 == 0 && (t389 == (wrap64 (2 * (wrap64 (Go.bits .and .u32 (Go.bits .and .u32 a0 63) 1))))))))) else (some false))) = some r := by rw [if_pos rfl] at H; exact H
      clear H
      have H := H1
      clear H1
      replace H := Option.bind_eq_some_iff.mp H
      obtain ⟨t394, A240, H⟩ := H
      replace H : (if t394 = 0 then (some (t386 == 1 && (t387 == 0 && (t388 == 0 && (t389 == (wrap64 (2 * (wrap64 (Go.bits .and .u32 (Go.bits .and .u32 a0 63) 1))))))))) else (some false)) = some r := H
      have A24 := Aside0.mk A240
      clear A240
      by_cases c25 : t394 = 0
      ·
       rw [if_pos c25] at H
       have c25b0 : (t394 == 0) = true := beq_iff_eq.mpr c25
       have c25b1 : (t394 != 0) = false := bne_eq_false_iff_eq.mpr c25
       clear c25
       obtain rfl := Option.some.inj H
       go_wp2_with (first | ((with_reducible refine gate_callee (f := 15) rfl ?_); refine goesL_ (some 44) rfl rfl Tryd.func15 (by kernel_rfl) rfl #[.int .i64 t390] rfl (by (try simp only [List.map_toArray, List.map_cons, List.map_nil]); first | done | rfl | (simp only [List.length_drop, List.length_take]; rfl)) ?_; (with_reducible refine (atlaslaw06_no.calls t390 t394 _ A24.out).mono ?_); rintro e w' ⟨rfl, ⟨nd, rfl⟩⟩; refine ⟨_, rfl, ?_⟩; have hcz26_0 : wc.cell? ⟨gb391, 0, none⟩ = some (.int .i64 t386) := (blk_cell BK391.out 0).trans rfl; have hcz26_1 : wc.cell? ⟨gb391, 1, none⟩ = some (.int .i64 t387) := (blk_cell BK391.out 1).trans rfl; have hcz26_2 : wc.cell? ⟨gb391, 2, none⟩ = some (.int .i64 t388) := (blk_cell BK391.out 2).trans rfl; have hcz26_3 : wc.cell? ⟨gb391, 3, none⟩ = some (.int .i64 t389) := (blk_cell BK391.out 3).trans rfl; have hfz26_0 := blk_frozen BK391.out 0; have hfz26_1 := blk_frozen BK391.out 1; have hfz26_2 := blk_frozen BK391.out 2; have hfz26_3 := blk_frozen BK391.out 3))
       all_goals go_ret
       all_goals exact ⟨by first | rfl | (simp [errW_none, errW_some] <;> rfl) | (simp [*, errW_none, errW_some] <;> rfl) | (simp [*, errW_none, errW_some] <;> exact isEmpty_ne _), by repeat (first | (with_reducible first | exact HB.out | apply below_alloc | apply pw_below_drewN | apply below_drew1 | refine below_set ?_ GE391.out) | exact HB.out)⟩
      ·
       rw [if_neg c25] at H
       have c25b0 : (t394 == 0) = false := beq_eq_false_iff_ne.mpr c25
       have c25b1 : (t394 != 0) = true := bne_iff_ne.mpr c25
       obtain rfl := Option.some.inj H
       go_wp2_with (first | ((with_reducible refine gate_callee (f := 15) rfl ?_); refine goesL_ (some 44) rfl rfl Tryd.func15 (by kernel_rfl) rfl #[.int .i64 t390] rfl (by (try simp only [List.map_toArray, List.map_cons, List.map_nil]); first | done | rfl | (simp only [List.length_drop, List.length_take]; rfl)) ?_; (with_reducible refine (atlaslaw06_no.calls t390 t394 _ A24.out).mono ?_); rintro e w' ⟨rfl, ⟨nd, rfl⟩⟩; refine ⟨_, rfl, ?_⟩))
       all_goals go_ret
       all_goals exact ⟨by first | rfl | (simp [errW_none, errW_some] <;> rfl) | (simp [*, errW_none, errW_some] <;> rfl) | (simp [*, errW_none, errW_some] <;> exact isEmpty_ne _), by repeat (first | (with_reducible first | exact HB.out | apply below_alloc | apply pw_below_drewN | apply below_drew1 | refine below_set ?_ GE391.out) | exact HB.out)⟩
     ·
      replace c23 := Bool.eq_false_iff.mpr c23
      subst c23
      have H1 : (if ((((4 * (Go.bits .and .u32 ((Go.bits .and .u32 a0 63) / 8) 1)) % 4294967296) + (Go.bits .and .u32 ((Go.bits .and .u32 a0 63) / 2) 3)) % 4294967296) = 6 then ((atlaslaw06_no.f t390).bind fun t395 => (some (t395 == 61))) else (if ((((4 * (Go.bits .and .u32 ((Go.bits .and .u32 a0 63) / 8) 1)) % 4294967296) + (Go.bits .and .u32 ((Go.bits .and .u32 a0 63) / 2) 3)) % 4294967296) = 2 then (atlaslaw06_AttrUsual.j1 kj16 t390 ((((4 * (Go.bits .and .u32 ((Go.bits .and .u32 a0 63) / 8) 1)) % 4294967296) + (Go.bits .and .u32 ((Go.bits .and .u32 a0 63) / 2) 3)) % 4294967296) (wrap64 (2 * (wrap64 (Go.bits .and .u32 (Go.bits .and .u32 a0 63) 1)))) 2 t386 t387 t388 t389) else (atlaslaw06_AttrUsual.j1 kj16 t390 ((((4 * (Go.bits .and .u32 ((Go.bits .and .u32 a0 63) / 8) 1)) % 4294967296) + (Go.bits .and .u32 ((Go.bits .and .u32 a0 63) / 2) 3)) % 4294967296) (wrap64 (2 * (wrap64 (Go.bits .and .u32 (Go.bits .and .u32 a0 63) 1)))) 0 t386 t387 t388 t389))) = some r := by rw [if_neg (show ¬ (false = true) by decide)] at H; exact H
      clear H
      have H := H1
      clear H1
      by_cases c27 : ((((4 * (Go.bits .and .u32 ((Go.bits .and .u32 a0 63) / 8) 1)) % 4294967296) + (Go.bits .and .u32 ((Go.bits .and .u32 a0 63) / 2) 3)) % 4294967296) = 6
      ·
       rw [if_pos c27] at H
       have c27b0 : (((((4 * (Go.bits .and .u32 ((Go.bits .and .u32 a0 63) / 8) 1)) % 4294967296) + (Go.bits .and .u32 ((Go.bits .and .u32 a0 63) / 2) 3)) % 4294967296) == 6) = true := beq_iff_eq.mpr c27
       have c27b1 : (((((4 * (Go.bits .and .u32 ((Go.bits .and .u32 a0 63) / 8) 1)) % 4294967296) + (Go.bits .and .u32 ((Go.bits .and .u32 a0 63) / 2) 3)) % 4294967296) != 6) = false := bne_eq_false_iff_eq.mpr c27
       clear c27
       replace H := Option.bind_eq_some_iff.mp H
       obtain ⟨t395, A280, H⟩ := H
       replace H : (some (t395 == 61)) = some r := H
       have A28 := Aside0.mk A280
       clear A280
       obtain rfl := Option.some.inj H
       go_wp2_with (first | ((with_reducible refine gate_callee (f := 15) rfl ?_); refine goesL_ (some 55) rfl rfl Tryd.func15 (by kernel_rfl) rfl #[.int .i64 t390] rfl (by (try simp only [List.map_toArray, List.map_cons, List.map_nil]); first | done | rfl | (simp only [List.length_drop, List.length_take]; rfl)) ?_; (with_reducible refine (atlaslaw06_no.calls t390 t395 _ A28.out).mono ?_); rintro e w' ⟨rfl, ⟨nd, rfl⟩⟩; refine ⟨_, rfl, ?_⟩))
       all_goals go_ret
       all_goals exact ⟨by first | rfl | (simp [errW_none, errW_some] <;> rfl) | (simp [*, errW_none, errW_some] <;> rfl) | (simp [*, errW_none, errW_some] <;> exact isEmpty_ne _), by repeat (first | (with_reducible first | exact HB.out | apply below_alloc | apply pw_below_drewN | apply below_drew1 | refine below_set ?_ GE391.out) | exact HB.out)⟩
      ·
       rw [if_neg c27] at H
       have c27b0 : (((((4 * (Go.bits .and .u32 ((Go.bits .and .u32 a0 63) / 8) 1)) % 4294967296) + (Go.bits .and .u32 ((Go.bits .and .u32 a0 63) / 2) 3)) % 4294967296) == 6) = false := beq_eq_false_iff_ne.mpr c27
       have c27b1 : (((((4 * (Go.bits .and .u32 ((Go.bits .and .u32 a0 63) / 8) 1)) % 4294967296) + (Go.bits .and .u32 ((Go.bits .and .u32 a0 63) / 2) 3)) % 4294967296) != 6) = true := bne_iff_ne.mpr c27
       have HC29 := Aside0.mk H
       clear H
       go_upto_if 58 with (fail)
       go_cut [7] (fun v7 wc => ∃ (kq : Nat) (x7_28 : Int), v7 = .int .i64 x7_28 ∧ Aside0 (atlaslaw06_AttrUsual.j1 kq t390 ((((4 * (Go.bits .and .u32 ((Go.bits .and .u32 a0 63) / 8) 1)) % 4294967296) + (Go.bits .and .u32 ((Go.bits .and .u32 a0 63) / 2) 3)) % 4294967296) (wrap64 (2 * (wrap64 (Go.bits .and .u32 (Go.bits .and .u32 a0 63) 1)))) x7_28 t386 t387 t388 t389 = some r) ∧ Aside0 (kq ≤ kj16) ∧ Aside0 (wc.heap[gb391]? = some (.cells #[.int .i64 t386, .int .i64 t387, .int .i64 t388, .int .i64 t389] 24 (0, 0))) ∧ Aside0 (Below w.heap.size w wc))
       case first =>
        have H := HC29.out
        clear HC29
        by_cases c30 : ((((4 * (Go.bits .and .u32 ((Go.bits .and .u32 a0 63) / 8) 1)) % 4294967296) + (Go.bits .and .u32 ((Go.bits .and .u32 a0 63) / 2) 3)) % 4294967296) = 2
        ·
         rw [if_pos c30] at H
         have c30b0 : (((((4 * (Go.bits .and .u32 ((Go.bits .and .u32 a0 63) / 8) 1)) % 4294967296) + (Go.bits .and .u32 ((Go.bits .and .u32 a0 63) / 2) 3)) % 4294967296) == 2) = true := beq_iff_eq.mpr c30
         have c30b1 : (((((4 * (Go.bits .and .u32 ((Go.bits .and .u32 a0 63) / 8) 1)) % 4294967296) + (Go.bits .and .u32 ((Go.bits .and .u32 a0 63) / 2) 3)) % 4294967296) != 2) = false := bne_eq_false_iff_eq.mpr c30
         clear c30
         (first | rw [c30b0] | (simp only [i64_w, i32_w]; rw [c30b0]) | skip)
         have H' := Aside0.mk H
         clear H
         go_wp2
         go_meet
         case rel => exact ⟨_, (2), (by first | rfl | (simp; done) | (simp [*]; done)), H', ⟨by have := HJ16.out; first | omega | exact Nat.le_refl _⟩, ⟨by (with_reducible repeat (first | refine blk_drewN ?_ _ | refine blk_drew ?_ | refine blk_alloc ?_ _)); exact BK391.out⟩, ⟨by repeat (first | (with_reducible first | exact HB.out | apply below_alloc | apply pw_below_drewN | apply below_drew1 | refine below_set ?_ GE391.out) | exact HB.out)⟩⟩
        ·
         rw [if_neg c30] at H
         have c30b0 : (((((4 * (Go.bits .and .u32 ((Go.bits .and .u32 a0 63) / 8) 1)) % 4294967296) + (Go.bits .and .u32 ((Go.bits .and .u32 a0 63) / 2) 3)) % 4294967296) == 2) = false := beq_eq_false_iff_ne.mpr c30
         have c30b1 : (((((4 * (Go.bits .and .u32 ((Go.bits .and .u32 a0 63) / 8) 1)) % 4294967296) + (Go.bits .and .u32 ((Go.bits .and .u32 a0 63) / 2) 3)) % 4294967296) != 2) = true := bne_iff_ne.mpr c30
         (first | rw [c30b0] | (simp only [i64_w, i32_w]; rw [c30b0]) | skip)
         have H' := Aside0.mk H
         clear H
         go_wp2
         go_meet
         case rel => exact ⟨_, (0), (by first | rfl | (simp; done) | (simp [*]; done)), H', ⟨by have := HJ16.out; first | omega | exact Nat.le_refl _⟩, ⟨by (with_reducible repeat (first | refine blk_drewN ?_ _ | refine blk_drew ?_ | refine blk_alloc ?_ _)); exact BK391.out⟩, ⟨by repeat (first | (with_reducible first | exact HB.out | apply below_alloc | apply pw_below_drewN | apply below_drew1 | refine below_set ?_ GE391.out) | exact HB.out)⟩⟩
       case rest =>
        clear HC29
        try clear c1
        try clear c2
        try clear p2
        try clear c3
        try clear c4
        try clear c5
        try clear c5b0
        try clear c5b1
        try clear p6
        try clear c7
        try clear c7b0
        try clear c7b1
        try clear c11
        try clear c12
        try clear c14
        try clear c15
        try clear c22
        try clear c22b0
        try clear c22b1
        try clear c23
        try clear c25
        try clear c25b0
        try clear c25b1
        try clear c27
        try clear c27b0
        try clear c27b1
        try clear c30
        try clear c30b0
        try clear c30b1
        try clear hcz10_0
        try clear hcz10_1
        try clear hcz10_2
        try clear hcz10_3
        try clear hcz12_0
        try clear hcz12_1
        try clear hcz12_2
        try clear hcz12_3
        try clear hcz15_0
        try clear hcz15_1
        try clear hcz15_2
        try clear hcz15_3
        try clear hcz20_0
        try clear hcz20_1
        try clear hcz20_2
        try clear hcz20_3
        try clear hcz26_0
        try clear hcz26_1
        try clear hcz26_2
        try clear hcz26_3
        try clear hfz10_0
        try clear hfz10_1
        try clear hfz10_2
        try clear hfz10_3
        try clear hfz12_0
        try clear hfz12_1
        try clear hfz12_2
        try clear hfz12_3
        try clear hfz15_0
        try clear hfz15_1
        try clear hfz15_2
        try clear hfz15_3
        try clear hfz20_0
        try clear hfz20_1
        try clear hfz20_2
        try clear hfz20_3
        try clear hfz26_0
        try clear hfz26_1
        try clear hfz26_2
        try clear hfz26_3
        try clear p2
        try clear p6
        obtain ⟨kq, x7_28, rfl, HA, HJ28, BK391, HB⟩ := hcut
        cases kq with
        | zero => exact absurd HA.out (by simp [atlaslaw06_AttrUsual.j1])
        | succ kj28 =>
         have H := HA.out
         clear HA
         simp only [atlaslaw06_AttrUsual.j1] at H
         by_cases c31 : ((((4 * (Go.bits .and .u32 ((Go.bits .and .u32 a0 63) / 8) 1)) % 4294967296) + (Go.bits .and .u32 ((Go.bits .and .u32 a0 63) / 2) 3)) % 4294967296) = 3
         ·
          rw [if_pos c31] at H
          have c31b0 : (((((4 * (Go.bits .and .u32 ((Go.bits .and .u32 a0 63) / 8) 1)) % 4294967296) + (Go.bits .and .u32 ((Go.bits .and .u32 a0 63) / 2) 3)) % 4294967296) == 3) = true := beq_iff_eq.mpr c31
          have c31b1 : (((((4 * (Go.bits .and .u32 ((Go.bits .and .u32 a0 63) / 8) 1)) % 4294967296) + (Go.bits .and .u32 ((Go.bits .and .u32 a0 63) / 2) 3)) % 4294967296) != 3) = false := bne_eq_false_iff_eq.mpr c31
          clear c31
          by_cases c32 : ((((4 * (Go.bits .and .u32 ((Go.bits .and .u32 a0 63) / 8) 1)) % 4294967296) + (Go.bits .and .u32 ((Go.bits .and .u32 a0 63) / 2) 3)) % 4294967296) = 7
          ·
           rw [if_pos c32] at H
           have c32b0 : (((((4 * (Go.bits .and .u32 ((Go.bits .and .u32 a0 63) / 8) 1)) % 4294967296) + (Go.bits .and .u32 ((Go.bits .and .u32 a0 63) / 2) 3)) % 4294967296) == 7) = true := beq_iff_eq.mpr c32
           have c32b1 : (((((4 * (Go.bits .and .u32 ((Go.bits .and .u32 a0 63) / 8) 1)) % 4294967296) + (Go.bits .and .u32 ((Go.bits .and .u32 a0 63) / 2) 3)) % 4294967296) != 7) = false := bne_eq_false_iff_eq.mpr c32
           clear c32
           replace H := Option.bind_eq_some_iff.mp H
           obtain ⟨t396, A330, H⟩ := H
           replace H : (if t396 = 0 then (some (t386 == 2 && (t387 == 1 && (t388 == 1 && (t389 == (wrap64 (2 * (wrap64 (Go.bits .and .u32 (Go.bits .and .u32 a0 63) 1))))))))) else (some false)) = some r := H
           have A33 := Aside0.mk A330
           clear A330
           by_cases c34 : t396 = 0
           ·
            rw [if_pos c34] at H
            have c34b0 : (t396 == 0) = true := beq_iff_eq.mpr c34
            have c34b1 : (t396 != 0) = false := bne_eq_false_iff_eq.mpr c34
            clear c34
            obtain rfl := Option.some.inj H
            go_wp2_with (first | ((with_reducible refine gate_callee (f := 15) rfl ?_); refine goesL_ (some 64) rfl rfl Tryd.func15 (by kernel_rfl) rfl #[.int .i64 t390] rfl (by (try simp only [List.map_toArray, List.map_cons, List.map_nil]); first | done | rfl | (simp only [List.length_drop, List.length_take]; rfl)) ?_; (with_reducible refine (atlaslaw06_no.calls t390 t396 _ A33.out).mono ?_); rintro e w' ⟨rfl, ⟨nd, rfl⟩⟩; refine ⟨_, rfl, ?_⟩; have hcz35_0 : wc.cell? ⟨gb391, 0, none⟩ = some (.int .i64 t386) := (blk_cell BK391.out 0).trans rfl; have hcz35_1 : wc.cell? ⟨gb391, 1, none⟩ = some (.int .i64 t387) := (blk_cell BK391.out 1).trans rfl; have hcz35_2 : wc.cell? ⟨gb391, 2, none⟩ = some (.int .i64 t388) := (blk_cell BK391.out 2).trans rfl; have hcz35_3 : wc.cell? ⟨gb391, 3, none⟩ = some (.int .i64 t389) := (blk_cell BK391.out 3).trans rfl; have hfz35_0 := blk_frozen BK391.out 0; have hfz35_1 := blk_frozen BK391.out 1; have hfz35_2 := blk_frozen BK391.out 2; have hfz35_3 := blk_frozen BK391.out 3))
            all_goals go_ret
            all_goals exact ⟨by first | rfl | (simp [errW_none, errW_some] <;> rfl) | (simp [*, errW_none, errW_some] <;> rfl) | (simp [*, errW_none, errW_some] <;> exact isEmpty_ne _), by repeat (first | (with_reducible first | exact HB.out | apply below_alloc | apply pw_below_drewN | apply below_drew1 | refine below_set ?_ GE391.out) | exact HB.out)⟩
           ·
            rw [if_neg c34] at H
            have c34b0 : (t396 == 0) = false := beq_eq_false_iff_ne.mpr c34
            have c34b1 : (t396 != 0) = true := bne_iff_ne.mpr c34
            obtain rfl := Option.some.inj H
            go_wp2_with (first | ((with_reducible refine gate_callee (f := 15) rfl ?_); refine goesL_ (some 64) rfl rfl Tryd.func15 (by kernel_rfl) rfl #[.int .i64 t390] rfl (by (try simp only [List.map_toArray, List.map_cons, List.map_nil]); first | done | rfl | (simp only [List.length_drop, List.length_take]; rfl)) ?_; (with_reducible refine (atlaslaw06_no.calls t390 t396 _ A33.out).mono ?_); rintro e w' ⟨rfl, ⟨nd, rfl⟩⟩; refine ⟨_, rfl, ?_⟩))
            all_goals go_ret
            all_goals exact ⟨by first | rfl | (simp [errW_none, errW_some] <;> rfl) | (simp [*, errW_none, errW_some] <;> rfl) | (simp [*, errW_none, errW_some] <;> exact isEmpty_ne _), by repeat (first | (with_reducible first | exact HB.out | apply below_alloc | apply pw_below_drewN | apply below_drew1 | refine below_set ?_ GE391.out) | exact HB.out)⟩
          ·
           rw [if_neg c32] at H
           have c32b0 : (((((4 * (Go.bits .and .u32 ((Go.bits .and .u32 a0 63) / 8) 1)) % 4294967296) + (Go.bits .and .u32 ((Go.bits .and .u32 a0 63) / 2) 3)) % 4294967296) == 7) = false := beq_eq_false_iff_ne.mpr c32
           have c32b1 : (((((4 * (Go.bits .and .u32 ((Go.bits .and .u32 a0 63) / 8) 1)) % 4294967296) + (Go.bits .and .u32 ((Go.bits .and .u32 a0 63) / 2) 3)) % 4294967296) != 7) = true := bne_iff_ne.mpr c32
           replace H := Option.bind_eq_some_iff.mp H
           obtain ⟨t397, A360, H⟩ := H
           replace H : (if t397 = 0 then (some (t386 == 2 && (t387 == 3 && (t388 == 3 && (t389 == (wrap64 (2 * (wrap64 (Go.bits .and .u32 (Go.bits .and .u32 a0 63) 1))))))))) else (some false)) = some r := H
           have A36 := Aside0.mk A360
           clear A360
           by_cases c37 : t397 = 0
           ·
            rw [if_pos c37] at H
            have c37b0 : (t397 == 0) = true := beq_iff_eq.mpr c37
            have c37b1 : (t397 != 0) = false := bne_eq_false_iff_eq.mpr c37
            clear c37
            obtain rfl := Option.some.inj H
            go_wp2_with (first | ((with_reducible refine gate_callee (f := 15) rfl ?_); refine goesL_ (some 64) rfl rfl Tryd.func15 (by kernel_rfl) rfl #[.int .i64 t390] rfl (by (try simp only [List.map_toArray, List.map_cons, List.map_nil]); first | done | rfl | (simp only [List.length_drop, List.length_take]; rfl)) ?_; (with_reducible refine (atlaslaw06_no.calls t390 t397 _ A36.out).mono ?_); rintro e w' ⟨rfl, ⟨nd, rfl⟩⟩; refine ⟨_, rfl, ?_⟩; have hcz38_0 : wc.cell? ⟨gb391, 0, none⟩ = some (.int .i64 t386) := (blk_cell BK391.out 0).trans rfl; have hcz38_1 : wc.cell? ⟨gb391, 1, none⟩ = some (.int .i64 t387) := (blk_cell BK391.out 1).trans rfl; have hcz38_2 : wc.cell? ⟨gb391, 2, none⟩ = some (.int .i64 t388) := (blk_cell BK391.out 2).trans rfl; have hcz38_3 : wc.cell? ⟨gb391, 3, none⟩ = some (.int .i64 t389) := (blk_cell BK391.out 3).trans rfl; have hfz38_0 := blk_frozen BK391.out 0; have hfz38_1 := blk_frozen BK391.out 1; have hfz38_2 := blk_frozen BK391.out 2; have hfz38_3 := blk_frozen BK391.out 3))
            all_goals go_ret
            all_goals exact ⟨by first | rfl | (simp [errW_none, errW_some] <;> rfl) | (simp [*, errW_none, errW_some] <;> rfl) | (simp [*, errW_none, errW_some] <;> exact isEmpty_ne _), by repeat (first | (with_reducible first | exact HB.out | apply below_alloc | apply pw_below_drewN | apply below_drew1 | refine below_set ?_ GE391.out) | exact HB.out)⟩
           ·
            rw [if_neg c37] at H
            have c37b0 : (t397 == 0) = false := beq_eq_false_iff_ne.mpr c37
            have c37b1 : (t397 != 0) = true := bne_iff_ne.mpr c37
            obtain rfl := Option.some.inj H
            go_wp2_with (first | ((with_reducible refine gate_callee (f := 15) rfl ?_); refine goesL_ (some 64) rfl rfl Tryd.func15 (by kernel_rfl) rfl #[.int .i64 t390] rfl (by (try simp only [List.map_toArray, List.map_cons, List.map_nil]); first | done | rfl | (simp only [List.length_drop, List.length_take]; rfl)) ?_; (with_reducible refine (atlaslaw06_no.calls t390 t397 _ A36.out).mono ?_); rintro e w' ⟨rfl, ⟨nd, rfl⟩⟩; refine ⟨_, rfl, ?_⟩))
            all_goals go_ret
            all_goals exact ⟨by first | rfl | (simp [errW_none, errW_some] <;> rfl) | (simp [*, errW_none, errW_some] <;> rfl) | (simp [*, errW_none, errW_some] <;> exact isEmpty_ne _), by repeat (first | (with_reducible first | exact HB.out | apply below_alloc | apply pw_below_drewN | apply below_drew1 | refine below_set ?_ GE391.out) | exact HB.out)⟩
         ·
          rw [if_neg c31] at H
          have c31b0 : (((((4 * (Go.bits .and .u32 ((Go.bits .and .u32 a0 63) / 8) 1)) % 4294967296) + (Go.bits .and .u32 ((Go.bits .and .u32 a0 63) / 2) 3)) % 4294967296) == 3) = false := beq_eq_false_iff_ne.mpr c31
          have c31b1 : (((((4 * (Go.bits .and .u32 ((Go.bits .and .u32 a0 63) / 8) 1)) % 4294967296) + (Go.bits .and .u32 ((Go.bits .and .u32 a0 63) / 2) 3)) % 4294967296) != 3) = true := bne_iff_ne.mpr c31
          by_cases c39 : ((((4 * (Go.bits .and .u32 ((Go.bits .and .u32 a0 63) / 8) 1)) % 4294967296) + (Go.bits .and .u32 ((Go.bits .and .u32 a0 63) / 2) 3)) % 4294967296) = 7
          ·
           rw [if_pos c39] at H
           have c39b0 : (((((4 * (Go.bits .and .u32 ((Go.bits .and .u32 a0 63) / 8) 1)) % 4294967296) + (Go.bits .and .u32 ((Go.bits .and .u32 a0 63) / 2) 3)) % 4294967296) == 7) = true := beq_iff_eq.mpr c39
           have c39b1 : (((((4 * (Go.bits .and .u32 ((Go.bits .and .u32 a0 63) / 8) 1)) % 4294967296) + (Go.bits .and .u32 ((Go.bits .and .u32 a0 63) / 2) 3)) % 4294967296) != 7) = false := bne_eq_false_iff_eq.mpr c39
           clear c39
           replace H := Option.bind_eq_some_iff.mp H
           obtain ⟨t398, A400, H⟩ := H
           replace H : (if t398 = 0 then (some (t386 == 2 && (t387 == 1 && (t388 == 1 && (t389 == (wrap64 (2 * (wrap64 (Go.bits .and .u32 (Go.bits .and .u32 a0 63) 1))))))))) else (some false)) = some r := H
           have A40 := Aside0.mk A400
           clear A400
           by_cases c41 : t398 = 0
           ·
            rw [if_pos c41] at H
            have c41b0 : (t398 == 0) = true := beq_iff_eq.mpr c41
            have c41b1 : (t398 != 0) = false := bne_eq_false_iff_eq.mpr c41
            clear c41
            obtain rfl := Option.some.inj H
            go_wp2_with (first | ((with_reducible refine gate_callee (f := 15) rfl ?_); refine goesL_ (some 64) rfl rfl Tryd.func15 (by kernel_rfl) rfl #[.int .i64 t390] rfl (by (try simp only [List.map_toArray, List.map_cons, List.map_nil]); first | done | rfl | (simp only [List.length_drop, List.length_take]; rfl)) ?_; (with_reducible refine (atlaslaw06_no.calls t390 t398 _ A40.out).mono ?_); rintro e w' ⟨rfl, ⟨nd, rfl⟩⟩; refine ⟨_, rfl, ?_⟩; have hcz42_0 : wc.cell? ⟨gb391, 0, none⟩ = some (.int .i64 t386) := (blk_cell BK391.out 0).trans rfl; have hcz42_1 : wc.cell? ⟨gb391, 1, none⟩ = some (.int .i64 t387) := (blk_cell BK391.out 1).trans rfl; have hcz42_2 : wc.cell? ⟨gb391, 2, none⟩ = some (.int .i64 t388) := (blk_cell BK391.out 2).trans rfl; have hcz42_3 : wc.cell? ⟨gb391, 3, none⟩ = some (.int .i64 t389) := (blk_cell BK391.out 3).trans rfl; have hfz42_0 := blk_frozen BK391.out 0; have hfz42_1 := blk_frozen BK391.out 1; have hfz42_2 := blk_frozen BK391.out 2; have hfz42_3 := blk_frozen BK391.out 3))
            all_goals go_ret
            all_goals exact ⟨by first | rfl | (simp [errW_none, errW_some] <;> rfl) | (simp [*, errW_none, errW_some] <;> rfl) | (simp [*, errW_none, errW_some] <;> exact isEmpty_ne _), by repeat (first | (with_reducible first | exact HB.out | apply below_alloc | apply pw_below_drewN | apply below_drew1 | refine below_set ?_ GE391.out) | exact HB.out)⟩
           ·
            rw [if_neg c41] at H
            have c41b0 : (t398 == 0) = false := beq_eq_false_iff_ne.mpr c41
            have c41b1 : (t398 != 0) = true := bne_iff_ne.mpr c41
            obtain rfl := Option.some.inj H
            go_wp2_with (first | ((with_reducible refine gate_callee (f := 15) rfl ?_); refine goesL_ (some 64) rfl rfl Tryd.func15 (by kernel_rfl) rfl #[.int .i64 t390] rfl (by (try simp only [List.map_toArray, List.map_cons, List.map_nil]); first | done | rfl | (simp only [List.length_drop, List.length_take]; rfl)) ?_; (with_reducible refine (atlaslaw06_no.calls t390 t398 _ A40.out).mono ?_); rintro e w' ⟨rfl, ⟨nd, rfl⟩⟩; refine ⟨_, rfl, ?_⟩))
            all_goals go_ret
            all_goals exact ⟨by first | rfl | (simp [errW_none, errW_some] <;> rfl) | (simp [*, errW_none, errW_some] <;> rfl) | (simp [*, errW_none, errW_some] <;> exact isEmpty_ne _), by repeat (first | (with_reducible first | exact HB.out | apply below_alloc | apply pw_below_drewN | apply below_drew1 | refine below_set ?_ GE391.out) | exact HB.out)⟩
          ·
           rw [if_neg c39] at H
           have c39b0 : (((((4 * (Go.bits .and .u32 ((Go.bits .and .u32 a0 63) / 8) 1)) % 4294967296) + (Go.bits .and .u32 ((Go.bits .and .u32 a0 63) / 2) 3)) % 4294967296) == 7) = false := beq_eq_false_iff_ne.mpr c39
           have c39b1 : (((((4 * (Go.bits .and .u32 ((Go.bits .and .u32 a0 63) / 8) 1)) % 4294967296) + (Go.bits .and .u32 ((Go.bits .and .u32 a0 63) / 2) 3)) % 4294967296) != 7) = true := bne_iff_ne.mpr c39
           replace H := Option.bind_eq_some_iff.mp H
           obtain ⟨t399, A430, H⟩ := H
           replace H : (if t399 = 0 then (some (t386 == 2 && (t387 == x7_28 && (t388 == x7_28 && (t389 == (wrap64 (2 * (wrap64 (Go.bits .and .u32 (Go.bits .and .u32 a0 63) 1))))))))) else (some false)) = some r := H
           have A43 := Aside0.mk A430
           clear A430
           by_cases c44 : t399 = 0
           ·
            rw [if_pos c44] at H
            have c44b0 : (t399 == 0) = true := beq_iff_eq.mpr c44
            have c44b1 : (t399 != 0) = false := bne_eq_false_iff_eq.mpr c44
            clear c44
            obtain rfl := Option.some.inj H
            go_wp2_with (first | ((with_reducible refine gate_callee (f := 15) rfl ?_); refine goesL_ (some 64) rfl rfl Tryd.func15 (by kernel_rfl) rfl #[.int .i64 t390] rfl (by (try simp only [List.map_toArray, List.map_cons, List.map_nil]); first | done | rfl | (simp only [List.length_drop, List.length_take]; rfl)) ?_; (with_reducible refine (atlaslaw06_no.calls t390 t399 _ A43.out).mono ?_); rintro e w' ⟨rfl, ⟨nd, rfl⟩⟩; refine ⟨_, rfl, ?_⟩; have hcz45_0 : wc.cell? ⟨gb391, 0, none⟩ = some (.int .i64 t386) := (blk_cell BK391.out 0).trans rfl; have hcz45_1 : wc.cell? ⟨gb391, 1, none⟩ = some (.int .i64 t387) := (blk_cell BK391.out 1).trans rfl; have hcz45_2 : wc.cell? ⟨gb391, 2, none⟩ = some (.int .i64 t388) := (blk_cell BK391.out 2).trans rfl; have hcz45_3 : wc.cell? ⟨gb391, 3, none⟩ = some (.int .i64 t389) := (blk_cell BK391.out 3).trans rfl; have hfz45_0 := blk_frozen BK391.out 0; have hfz45_1 := blk_frozen BK391.out 1; have hfz45_2 := blk_frozen BK391.out 2; have hfz45_3 := blk_frozen BK391.out 3))
            all_goals go_ret
            all_goals exact ⟨by first | rfl | (simp [errW_none, errW_some] <;> rfl) | (simp [*, errW_none, errW_some] <;> rfl) | (simp [*, errW_none, errW_some] <;> exact isEmpty_ne _), by repeat (first | (with_reducible first | exact HB.out | apply below_alloc | apply pw_below_drewN | apply below_drew1 | refine below_set ?_ GE391.out) | exact HB.out)⟩
           ·
            rw [if_neg c44] at H
            have c44b0 : (t399 == 0) = false := beq_eq_false_iff_ne.mpr c44
            have c44b1 : (t399 != 0) = true := bne_iff_ne.mpr c44
            obtain rfl := Option.some.inj H
            go_wp2_with (first | ((with_reducible refine gate_callee (f := 15) rfl ?_); refine goesL_ (some 64) rfl rfl Tryd.func15 (by kernel_rfl) rfl #[.int .i64 t390] rfl (by (try simp only [List.map_toArray, List.map_cons, List.map_nil]); first | done | rfl | (simp only [List.length_drop, List.length_take]; rfl)) ?_; (with_reducible refine (atlaslaw06_no.calls t390 t399 _ A43.out).mono ?_); rintro e w' ⟨rfl, ⟨nd, rfl⟩⟩; refine ⟨_, rfl, ?_⟩))
            all_goals go_ret
            all_goals exact ⟨by first | rfl | (simp [errW_none, errW_some] <;> rfl) | (simp [*, errW_none, errW_some] <;> rfl) | (simp [*, errW_none, errW_some] <;> exact isEmpty_ne _), by repeat (first | (with_reducible first | exact HB.out | apply below_alloc | apply pw_below_drewN | apply below_drew1 | refine below_set ?_ GE391.out) | exact HB.out)⟩
 ·
  replace c4 := Bool.eq_false_iff.mpr c4
  subst c4
  have H1 : (some false) = some r := by rw [if_neg (show ¬ (false = true) by decide)] at H; exact H
  clear H
  have H := H1
  clear H1
  obtain rfl := Option.some.inj H
  go_enter Tryd.func11, Tryd.ntmps11
  go_wp2_with (first | ((with_reducible refine gate_callee (f := 12) rfl ?_); refine goesL_ (some 12) rfl rfl Tryd.func12 (by kernel_rfl) rfl #[.bool true, .int .u32 689828, .int .u32 1088438496, .int .u32 (Go.bits .and .u32 a0 63)] rfl (by (try simp only [List.map_toArray, List.map_cons, List.map_nil]); first | done | rfl | (simp only [List.length_drop, List.length_take]; rfl)) ?_; (with_reducible refine (attr_Of.calls k true 689828 1088438496 (Go.bits .and .u32 a0 63) t386 t387 t388 t389 t390 _ ?side1 A2.out).mono ?_); (case side1 => exact ⟨G0.below hG0.out (by repeat (first | (with_reducible first | exact HB.out | apply below_alloc | apply pw_below_drewN | apply below_drew1) | exact HB.out))⟩); rintro e w46 ⟨rfl, hb⟩; refine ⟨_, rfl, ?_⟩; have n0_ := Aside0.mk (below_step (by repeat (first | (with_reducible first | exact HB.out | apply below_alloc | apply pw_below_drewN | apply below_drew1) | exact HB.out)) hb); clear HB; have HB := n0_; clear n0_; (try clear hb); (try clear hb2); (try clear hk); (try clear hi)) | ((with_reducible refine gate_dst (N := 3) rfl ?_); refine box_event ?hg (N := 3) ?hd (cs := #[.int .i64 0, .int .i64 0, .int .i64 0, .int .i64 0]) (t := 24) ?hr ?_; (case hd => rfl); (case hg => rfl); (case hr => first | (go_simp; done) | (go_simp; rfl)); intro gb391 hg w47 hbox hb; have n0_ := Aside0.mk (below_step (by repeat (first | (with_reducible first | exact HB.out | apply below_alloc | apply pw_below_drewN | apply below_drew1) | exact HB.out)) hb); have n1_ := Aside0.mk (hbox); have n2_ := Aside0.mk ((by rw [hg]; exact (below_size (by repeat (first | (with_reducible first | exact HB.out | apply below_alloc | apply pw_below_drewN | apply below_drew1) | exact HB.out))) : w.heap.size ≤ gb391)); have n3_ := Aside0.mk ((by rw [hg]; exact (below_size (by repeat (first | (with_reducible first | exact HB.out | apply below_alloc | apply pw_below_drewN | apply below_drew1) | exact HB.out))) : w.heap.size ≤ gb391)); clear HB; have HB := n0_; have BK391 := n1_; have GW391 := n2_; have GE391 := n3_; clear n0_ n1_ n2_ n3_; clear hb hbox hg; have hcz48_0 : w47.cell? ⟨gb391, 0, none⟩ = some (.int .i64 0) := (blk_cell BK391.out 0).trans rfl; have hcz48_1 : w47.cell? ⟨gb391, 1, none⟩ = some (.int .i64 0) := (blk_cell BK391.out 1).trans rfl; have hcz48_2 : w47.cell? ⟨gb391, 2, none⟩ = some (.int .i64 0) := (blk_cell BK391.out 2).trans rfl; have hcz48_3 : w47.cell? ⟨gb391, 3, none⟩ = some (.int .i64 0) := (blk_cell BK391.out 3).trans rfl; have hfz48_0 := blk_frozen BK391.out 0; have hfz48_1 := blk_frozen BK391.out 1; have hfz48_2 := blk_frozen BK391.out 2; have hfz48_3 := blk_frozen BK391.out 3) | ((with_reducible refine gate_callee (f := 14) rfl ?_); refine goesL_ (some 15) rfl rfl Tryd.func14 (by kernel_rfl) rfl #[] rfl (by (try simp only [List.map_toArray, List.map_cons, List.map_nil]); first | done | rfl | (simp only [List.length_drop, List.length_take]; rfl)) ?_; (with_reducible refine (atlaslaw06_live.calls k  false _ ?side1 ?side2 ?side3 ?side4 A3.out).mono ?_); (case side1 => exact ⟨G0.below hG0.out (by repeat (first | (with_reducible first | exact HB.out | apply below_alloc | apply pw_below_drewN | apply below_drew1 | refine below_set ?_ GE391.out) | exact HB.out))⟩); (case side2 => exact ⟨G1.below hG1.out (by repeat (first | (with_reducible first | exact HB.out | apply below_alloc | apply pw_below_drewN | apply below_drew1 | refine below_set ?_ GE391.out) | exact HB.out))⟩); (case side3 => exact ⟨G2.below hG2.out (by repeat (first | (with_reducible first | exact HB.out | apply below_alloc | apply pw_below_drewN | apply below_drew1 | refine below_set ?_ GE391.out) | exact HB.out))⟩); (case side4 => exact ⟨G3.below hG3.out (by repeat (first | (with_reducible first | exact HB.out | apply below_alloc | apply pw_below_drewN | apply below_drew1 | refine below_set ?_ GE391.out) | exact HB.out))⟩); rintro e w49 ⟨rfl, hb⟩; refine ⟨_, rfl, ?_⟩; have n0_ := Aside0.mk (blk_below (g := gb391) (o := .cells #[.int .i64 t386, .int .i64 t387, .int .i64 t388, .int .i64 t389] 24 (0, 0)) (by (with_reducible repeat (first | refine blk_drewN ?_ _ | refine blk_drew ?_ | refine blk_alloc ?_ _)); refine blk_put (cs := #[.int .i64 t386, .int .i64 t387, .int .i64 t388, .int .i64 0]) ?_ 3 _ rfl; (with_reducible repeat (first | refine blk_drewN ?_ _ | refine blk_drew ?_ | refine blk_alloc ?_ _)); refine blk_put (cs := #[.int .i64 t386, .int .i64 t387, .int .i64 0, .int .i64 0]) ?_ 2 _ rfl; (with_reducible repeat (first | refine blk_drewN ?_ _ | refine blk_drew ?_ | refine blk_alloc ?_ _)); refine blk_put (cs := #[.int .i64 t386, .int .i64 0, .int .i64 0, .int .i64 0]) ?_ 1 _ rfl; (with_reducible repeat (first | refine blk_drewN ?_ _ | refine blk_drew ?_ | refine blk_alloc ?_ _)); refine blk_put (cs := #[.int .i64 0, .int .i64 0, .int .i64 0, .int .i64 0]) ?_ 0 _ rfl; (with_reducible repeat (first | refine blk_drewN ?_ _ | refine blk_drew ?_ | refine blk_alloc ?_ _)); exact BK391.out) hb); have n1_ := Aside0.mk (below_step (by repeat (first | (with_reducible first | exact HB.out | apply below_alloc | apply pw_below_drewN | apply below_drew1 | refine below_set ?_ GE391.out) | exact HB.out)) hb); clear BK391; clear HB; have BK391 := n0_; have HB := n1_; clear n0_ n1_; (try clear hb); (try clear hb2); (try clear hk); (try clear hi)))
  all_goals go_ret
  all_goals exact ⟨by first | rfl | (simp [errW_none, errW_some] <;> rfl) | (simp [*, errW_none, errW_some] <;> rfl) | (simp [*, errW_none, errW_some] <;> exact isEmpty_ne _), by repeat (first | (with_reducible first | exact HB.out | apply below_alloc | apply pw_below_drewN | apply below_drew1 | refine below_set ?_ GE391.out) | exact HB.out)⟩

end Go.Proofs.YtkljijkejbfopaaDoor.S
