-- Written by a program of this session (wip/xprint.py), over the kit's print. Not trusted: Lean checks it.
import Derived.Test.YtkljijkejbfopaaDoorS0
import Derived.Test.YtkljijkejbfopaaDoorS1
import Derived.Test.YtkljijkejbfopaaDoorS3
import Derived.Test.YtkljijkejbfopaaDoorS7
import Derived.Test.YtkljijkejbfopaaDoorS9
import Derived.Test.YtkljijkejbfopaaDoorS11
import Derived.Test.YtkljijkejbfopaaDoorS14
namespace Go.Proofs.YtkljijkejbfopaaDoor.S
open Go.Proofs.YtkljijkejbfopaaDoorG
open Go.RowKit Go.Proofs.YtkljijkejbfopaaDoorW.PrintWords Go.Proofs.YtkljijkejbfopaaDoorW.PrintLast Go.Proofs.YtkljijkejbfopaaDoorW.PrintMore
attribute [local go_sem] max2_int min2_int max_two min_two max_three min_three max_four min_four   -- for this text's walks alone
set_option linter.unusedVariables false
set_option linter.unusedSimpArgs false

attribute [local go_sem high] eqA24
/-! ### atlaslaw06_AttrLeast: function 7 -/
mutual
def atlaslaw06_AttrLeast.j0 : Nat → Bool → Int → Int → Int → Int → Bool → Int → Int → Int → Int → Option (Bool)
 | 0, _, _, _, _, _, _, _, _, _, _ => none
 | k + 1, x0, x1, x2, x11, x12, x58, x292000, x292001, x292002, x292003 => if x58 = true then (some false) else (atlaslaw06_AttrLeast.l0 k x0 x1 x2 x11 x12 0 x292000 x292001 x292002 x292003)
def atlaslaw06_AttrLeast.l0 : Nat → Bool → Int → Int → Int → Int → Int → Int → Int → Int → Int → Option (Bool)
 | 0, _, _, _, _, _, _, _, _, _, _ => none
 | k + 1, x0, x1, x2, x11, x12, x13, x292000, x292001, x292002, x292003 => if x13 < 64 then ((attr_Of.f k x0 x1 x2 x13).bind fun bt303 => ((atlaslaw06_no.f bt303.2.2.2.2).bind fun t309 => (if t309 = 0 then (atlaslaw06_AttrLeast.j2 k x0 x1 x2 x11 x12 x13 (bt303.1 == x292000 && (bt303.2.1 == x292001 && (bt303.2.2.1 == x292002 && (bt303.2.2.2.1 == x292003)))) x292000 x292001 x292002 x292003) else (atlaslaw06_AttrLeast.j2 k x0 x1 x2 x11 x12 x13 false x292000 x292001 x292002 x292003)))) else ((atlaslaw06_no.f x12).bind fun t302 => (some (t302 == 63)))
def atlaslaw06_AttrLeast.j2 : Nat → Bool → Int → Int → Int → Int → Int → Bool → Int → Int → Int → Int → Option (Bool)
 | 0, _, _, _, _, _, _, _, _, _, _, _ => none
 | k + 1, x0, x1, x2, x11, x12, x13, x16, x292000, x292001, x292002, x292003 => (atlaslaw06_no.f x12).bind fun t310 => (if t310 = 0 then (atlaslaw06_AttrLeast.j3 k x0 x1 x2 x11 x12 x13 x16 (x13 == x11) x292000 x292001 x292002 x292003) else (atlaslaw06_AttrLeast.j3 k x0 x1 x2 x11 x12 x13 x16 false x292000 x292001 x292002 x292003))
def atlaslaw06_AttrLeast.j3 : Nat → Bool → Int → Int → Int → Int → Int → Bool → Bool → Int → Int → Int → Int → Option (Bool)
 | 0, _, _, _, _, _, _, _, _, _, _, _, _ => none
 | k + 1, x0, x1, x2, x11, x12, x13, x16, x86, x292000, x292001, x292002, x292003 => if x86 = true then (some x16) else (if x16 = true then (some false) else (atlaslaw06_AttrLeast.l0 k x0 x1 x2 x11 x12 ((x13 + 1) % 4294967296) x292000 x292001 x292002 x292003))
end
def atlaslaw06_AttrLeast.f (k : Nat) (a0 : Bool) (a1 : Int) (a2 : Int) (a3_0 : Int) (a3_1 : Int) (a3_2 : Int) (a3_3 : Int) : Option (Bool) := (attr_Show.f k a3_0 a3_1 a3_2 a3_3).bind fun bt292 => ((attr_Find.f k a0 a1 a2 a3_0 a3_1 a3_2 a3_3).bind fun bt294 => ((atlaslaw06_live.f k).bind fun t296 => (if t296 = true then ((atlaslaw06_no.f bt292.2).bind fun t297 => (if t297 = 0 then ((atlaslaw06_no.f bt294.2).bind fun t300 => (if t300 = 0 then (atlaslaw06_AttrLeast.j0 k a0 a1 a2 bt294.1 bt294.2 false a3_0 a3_1 a3_2 a3_3) else ((atlaslaw06_no.f bt294.2).bind fun t301 => (if t301 = 63 then (atlaslaw06_AttrLeast.j0 k a0 a1 a2 bt294.1 bt294.2 (bt294.1 != 0) a3_0 a3_1 a3_2 a3_3) else (atlaslaw06_AttrLeast.j0 k a0 a1 a2 bt294.1 bt294.2 true a3_0 a3_1 a3_2 a3_3))))) else (if bt294.1 = 0 then ((atlaslaw06_no.f bt292.2).bind fun t298 => (if t298 = 62 then ((atlaslaw06_no.f bt294.2).bind fun t299 => (some (t299 == 62))) else (some false))) else (some false)))) else (some false))))
theorem atlaslaw06_AttrLeast.mono_l : ∀ k, (∀ y0 y1 y2 y3 y4 y5 y6 y7 y8 y9, LeO (atlaslaw06_AttrLeast.j0 k y0 y1 y2 y3 y4 y5 y6 y7 y8 y9) (atlaslaw06_AttrLeast.j0 (k + 1) y0 y1 y2 y3 y4 y5 y6 y7 y8 y9)) ∧ (∀ y0 y1 y2 y3 y4 y5 y6 y7 y8 y9, LeO (atlaslaw06_AttrLeast.l0 k y0 y1 y2 y3 y4 y5 y6 y7 y8 y9) (atlaslaw06_AttrLeast.l0 (k + 1) y0 y1 y2 y3 y4 y5 y6 y7 y8 y9)) ∧ (∀ y0 y1 y2 y3 y4 y5 y6 y7 y8 y9 y10, LeO (atlaslaw06_AttrLeast.j2 k y0 y1 y2 y3 y4 y5 y6 y7 y8 y9 y10) (atlaslaw06_AttrLeast.j2 (k + 1) y0 y1 y2 y3 y4 y5 y6 y7 y8 y9 y10)) ∧ (∀ y0 y1 y2 y3 y4 y5 y6 y7 y8 y9 y10 y11, LeO (atlaslaw06_AttrLeast.j3 k y0 y1 y2 y3 y4 y5 y6 y7 y8 y9 y10 y11) (atlaslaw06_AttrLeast.j3 (k + 1) y0 y1 y2 y3 y4 y5 y6 y7 y8 y9 y10 y11))
 | 0 => ⟨fun _ _ _ _ _ _ _ _ _ _ r h => by simp [atlaslaw06_AttrLeast.j0] at h, fun _ _ _ _ _ _ _ _ _ _ r h => by simp [atlaslaw06_AttrLeast.l0] at h, fun _ _ _ _ _ _ _ _ _ _ _ r h => by simp [atlaslaw06_AttrLeast.j2] at h, fun _ _ _ _ _ _ _ _ _ _ _ _ r h => by simp [atlaslaw06_AttrLeast.j3] at h⟩
 | k + 1 => by
  obtain ⟨ih0, ih1, ih2, ih3⟩ := atlaslaw06_AttrLeast.mono_l k
  refine ⟨?_, ?_, ?_, ?_⟩
  ·
   intro y0 y1 y2 y3 y4 y5 y6 y7 y8 y9
   unfold atlaslaw06_AttrLeast.j0
   repeat' first
   | (with_reducible exact ih0 _ _ _ _ _ _ _ _ _ _)
   | (with_reducible exact ih1 _ _ _ _ _ _ _ _ _ _)
   | (with_reducible exact ih2 _ _ _ _ _ _ _ _ _ _ _)
   | (with_reducible exact ih3 _ _ _ _ _ _ _ _ _ _ _ _)
   | (with_reducible exact atlaslaw06_live.mono _)
   | (with_reducible exact attr_Find.mono _ _ _ _ _ _ _ _)
   | (with_reducible exact attr_Of.mono _ _ _ _ _)
   | (with_reducible exact attr_Show.mono _ _ _ _ _)
   | (with_reducible exact LeO.refl _)
   | (with_reducible exact LeO.none _)
   | (with_reducible refine LeO.ite ?_ ?_)
   | (with_reducible refine LeO.bind ?_ (fun _ => ?_))
   | exact ih0 _ _ _ _ _ _ _ _ _ _
   | exact ih1 _ _ _ _ _ _ _ _ _ _
   | exact ih2 _ _ _ _ _ _ _ _ _ _ _
   | exact ih3 _ _ _ _ _ _ _ _ _ _ _ _
   | exact atlaslaw06_live.mono _
   | exact attr_Find.mono _ _ _ _ _ _ _ _
   | exact attr_Of.mono _ _ _ _ _
   | exact attr_Show.mono _ _ _ _ _
   | exact LeO.none _
   | refine LeO.ite ?_ ?_
   | refine LeO.bind ?_ (fun _ => ?_)
  ·
   intro y0 y1 y2 y3 y4 y5 y6 y7 y8 y9
   unfold atlaslaw06_AttrLeast.l0
   repeat' first
   | (with_reducible exact ih0 _ _ _ _ _ _ _ _ _ _)
   | (with_reducible exact ih1 _ _ _ _ _ _ _ _ _ _)
   | (with_reducible exact ih2 _ _ _ _ _ _ _ _ _ _ _)
   | (with_reducible exact ih3 _ _ _ _ _ _ _ _ _ _ _ _)
   | (with_reducible exact atlaslaw06_live.mono _)
   | (with_reducible exact attr_Find.mono _ _ _ _ _ _ _ _)
   | (with_reducible exact attr_Of.mono _ _ _ _ _)
   | (with_reducible exact attr_Show.mono _ _ _ _ _)
   | (with_reducible exact LeO.refl _)
   | (with_reducible exact LeO.none _)
   | (with_reducible refine LeO.ite ?_ ?_)
   | (with_reducible refine LeO.bind ?_ (fun _ => ?_))
   | exact ih0 _ _ _ _ _ _ _ _ _ _
   | exact ih1 _ _ _ _ _ _ _ _ _ _
   | exact ih2 _ _ _ _ _ _ _ _ _ _ _
   | exact ih3 _ _ _ _ _ _ _ _ _ _ _ _
   | exact atlaslaw06_live.mono _
   | exact attr_Find.mono _ _ _ _ _ _ _ _
   | exact attr_Of.mono _ _ _ _ _
   | exact attr_Show.mono _ _ _ _ _
   | exact LeO.none _
   | refine LeO.ite ?_ ?_
   | refine LeO.bind ?_ (fun _ => ?_)
  ·
   intro y0 y1 y2 y3 y4 y5 y6 y7 y8 y9 y10
   unfold atlaslaw06_AttrLeast.j2
   repeat' first
   | (with_reducible exact ih0 _ _ _ _ _ _ _ _ _ _)
   | (with_reducible exact ih1 _ _ _ _ _ _ _ _ _ _)
   | (with_reducible exact ih2 _ _ _ _ _ _ _ _ _ _ _)
   | (with_reducible exact ih3 _ _ _ _ _ _ _ _ _ _ _ _)
   | (with_reducible exact atlaslaw06_live.mono _)
   | (with_reducible exact attr_Find.mono _ _ _ _ _ _ _ _)
   | (with_reducible exact attr_Of.mono _ _ _ _ _)
   | (with_reducible exact attr_Show.mono _ _ _ _ _)
   | (with_reducible exact LeO.refl _)
   | (with_reducible exact LeO.none _)
   | (with_reducible refine LeO.ite ?_ ?_)
   | (with_reducible refine LeO.bind ?_ (fun _ => ?_))
   | exact ih0 _ _ _ _ _ _ _ _ _ _
   | exact ih1 _ _ _ _ _ _ _ _ _ _
   | exact ih2 _ _ _ _ _ _ _ _ _ _ _
   | exact ih3 _ _ _ _ _ _ _ _ _ _ _ _
   | exact atlaslaw06_live.mono _
   | exact attr_Find.mono _ _ _ _ _ _ _ _
   | exact attr_Of.mono _ _ _ _ _
   | exact attr_Show.mono _ _ _ _ _
   | exact LeO.none _
   | refine LeO.ite ?_ ?_
   | refine LeO.bind ?_ (fun _ => ?_)
  ·
   intro y0 y1 y2 y3 y4 y5 y6 y7 y8 y9 y10 y11
   unfold atlaslaw06_AttrLeast.j3
   repeat' first
   | (with_reducible exact ih0 _ _ _ _ _ _ _ _ _ _)
   | (with_reducible exact ih1 _ _ _ _ _ _ _ _ _ _)
   | (with_reducible exact ih2 _ _ _ _ _ _ _ _ _ _ _)
   | (with_reducible exact ih3 _ _ _ _ _ _ _ _ _ _ _ _)
   | (with_reducible exact atlaslaw06_live.mono _)
   | (with_reducible exact attr_Find.mono _ _ _ _ _ _ _ _)
   | (with_reducible exact attr_Of.mono _ _ _ _ _)
   | (with_reducible exact attr_Show.mono _ _ _ _ _)
   | (with_reducible exact LeO.refl _)
   | (with_reducible exact LeO.none _)
   | (with_reducible refine LeO.ite ?_ ?_)
   | (with_reducible refine LeO.bind ?_ (fun _ => ?_))
   | exact ih0 _ _ _ _ _ _ _ _ _ _
   | exact ih1 _ _ _ _ _ _ _ _ _ _
   | exact ih2 _ _ _ _ _ _ _ _ _ _ _
   | exact ih3 _ _ _ _ _ _ _ _ _ _ _ _
   | exact atlaslaw06_live.mono _
   | exact attr_Find.mono _ _ _ _ _ _ _ _
   | exact attr_Of.mono _ _ _ _ _
   | exact attr_Show.mono _ _ _ _ _
   | exact LeO.none _
   | refine LeO.ite ?_ ?_
   | refine LeO.bind ?_ (fun _ => ?_)
theorem atlaslaw06_AttrLeast.mono : ∀ a0 a1 a2 a3 a4 a5 a6 k, LeO (atlaslaw06_AttrLeast.f k a0 a1 a2 a3 a4 a5 a6) (atlaslaw06_AttrLeast.f (k + 1) a0 a1 a2 a3 a4 a5 a6) := by
 intro a0 a1 a2 a3 a4 a5 a6 k
 obtain ⟨ih0, ih1, ih2, ih3⟩ := atlaslaw06_AttrLeast.mono_l k
 unfold atlaslaw06_AttrLeast.f
 repeat' first
   | (with_reducible exact ih0 _ _ _ _ _ _ _ _ _ _)
   | (with_reducible exact ih1 _ _ _ _ _ _ _ _ _ _)
   | (with_reducible exact ih2 _ _ _ _ _ _ _ _ _ _ _)
   | (with_reducible exact ih3 _ _ _ _ _ _ _ _ _ _ _ _)
   | (with_reducible exact atlaslaw06_live.mono _)
   | (with_reducible exact attr_Find.mono _ _ _ _ _ _ _ _)
   | (with_reducible exact attr_Of.mono _ _ _ _ _)
   | (with_reducible exact attr_Show.mono _ _ _ _ _)
   | (with_reducible exact LeO.refl _)
   | (with_reducible exact LeO.none _)
   | (with_reducible refine LeO.ite ?_ ?_)
   | (with_reducible refine LeO.bind ?_ (fun _ => ?_))
   | exact ih0 _ _ _ _ _ _ _ _ _ _
   | exact ih1 _ _ _ _ _ _ _ _ _ _
   | exact ih2 _ _ _ _ _ _ _ _ _ _ _
   | exact ih3 _ _ _ _ _ _ _ _ _ _ _ _
   | exact atlaslaw06_live.mono _
   | exact attr_Find.mono _ _ _ _ _ _ _ _
   | exact attr_Of.mono _ _ _ _ _
   | exact attr_Show.mono _ _ _ _ _
   | exact LeO.none _
   | refine LeO.ite ?_ ?_
   | refine LeO.bind ?_ (fun _ => ?_)
set_option maxHeartbeats 8000000 in
set_option maxRecDepth 100000 in
theorem atlaslaw06_AttrLeast.calls (k : Nat) (a0 : Bool) (a1 : Int) (a2 : Int) (a3_0 : Int) (a3_1 : Int) (a3_2 : Int) (a3_3 : Int) (r : Bool) (w : World) (hG0 : Aside0 (G0 w)) (hG1 : Aside0 (G1 w)) (hG2 : Aside0 (G2 w)) (hG3 : Aside0 (G3 w)) (h : atlaslaw06_AttrLeast.f k a0 a1 a2 a3_0 a3_1 a3_2 a3_3 = some r) :
  Calls Tryd.prog 7 #[.bool a0, .int .u32 a1, .int .u32 a2, .agg #[.int .i64 a3_0, .int .i64 a3_1, .int .i64 a3_2, .int .i64 a3_3]] w fun e w' => e = .returned (.bool r) ∧ Below w.heap.size w w' := by
 have hu24 := Tryd.underlying24
 have HB := Aside0.mk (Below.refl w.heap.size w)
 have H : ((attr_Show.f k a3_0 a3_1 a3_2 a3_3).bind fun bt292 => ((attr_Find.f k a0 a1 a2 a3_0 a3_1 a3_2 a3_3).bind fun bt294 => ((atlaslaw06_live.f k).bind fun t296 => (if t296 = true then ((atlaslaw06_no.f bt292.2).bind fun t297 => (if t297 = 0 then ((atlaslaw06_no.f bt294.2).bind fun t300 => (if t300 = 0 then (atlaslaw06_AttrLeast.j0 k a0 a1 a2 bt294.1 bt294.2 false a3_0 a3_1 a3_2 a3_3) else ((atlaslaw06_no.f bt294.2).bind fun t301 => (if t301 = 63 then (atlaslaw06_AttrLeast.j0 k a0 a1 a2 bt294.1 bt294.2 (bt294.1 != 0) a3_0 a3_1 a3_2 a3_3) else (atlaslaw06_AttrLeast.j0 k a0 a1 a2 bt294.1 bt294.2 true a3_0 a3_1 a3_2 a3_3))))) else (if bt294.1 = 0 then ((atlaslaw06_no.f bt292.2).bind fun t298 => (if t298 = 62 then ((atlaslaw06_no.f bt294.2).bind fun t299 => (some (t299 == 62))) else (some false))) else (some false)))) else (some false))))) = some r := h
 clear h
 replace H := Option.bind_eq_some_iff.mp H
 obtain ⟨⟨t292, t293⟩, A50, H⟩ := H
 replace H : ((attr_Find.f k a0 a1 a2 a3_0 a3_1 a3_2 a3_3).bind fun bt294 => ((atlaslaw06_live.f k).bind fun t296 => (if t296 = true then ((atlaslaw06_no.f t293).bind fun t297 => (if t297 = 0 then ((atlaslaw06_no.f bt294.2).bind fun t300 => (if t300 = 0 then (atlaslaw06_AttrLeast.j0 k a0 a1 a2 bt294.1 bt294.2 false a3_0 a3_1 a3_2 a3_3) else ((atlaslaw06_no.f bt294.2).bind fun t301 => (if t301 = 63 then (atlaslaw06_AttrLeast.j0 k a0 a1 a2 bt294.1 bt294.2 (bt294.1 != 0) a3_0 a3_1 a3_2 a3_3) else (atlaslaw06_AttrLeast.j0 k a0 a1 a2 bt294.1 bt294.2 true a3_0 a3_1 a3_2 a3_3))))) else (if bt294.1 = 0 then ((atlaslaw06_no.f t293).bind fun t298 => (if t298 = 62 then ((atlaslaw06_no.f bt294.2).bind fun t299 => (some (t299 == 62))) else (some false))) else (some false)))) else (some false)))) = some r := H
 have A5 := Aside0.mk A50
 clear A50
 replace H := Option.bind_eq_some_iff.mp H
 obtain ⟨⟨t294, t295⟩, A60, H⟩ := H
 replace H : ((atlaslaw06_live.f k).bind fun t296 => (if t296 = true then ((atlaslaw06_no.f t293).bind fun t297 => (if t297 = 0 then ((atlaslaw06_no.f t295).bind fun t300 => (if t300 = 0 then (atlaslaw06_AttrLeast.j0 k a0 a1 a2 t294 t295 false a3_0 a3_1 a3_2 a3_3) else ((atlaslaw06_no.f t295).bind fun t301 => (if t301 = 63 then (atlaslaw06_AttrLeast.j0 k a0 a1 a2 t294 t295 (t294 != 0) a3_0 a3_1 a3_2 a3_3) else (atlaslaw06_AttrLeast.j0 k a0 a1 a2 t294 t295 true a3_0 a3_1 a3_2 a3_3))))) else (if t294 = 0 then ((atlaslaw06_no.f t293).bind fun t298 => (if t298 = 62 then ((atlaslaw06_no.f t295).bind fun t299 => (some (t299 == 62))) else (some false))) else (some false)))) else (some false))) = some r := H
 have A6 := Aside0.mk A60
 clear A60
 replace H := Option.bind_eq_some_iff.mp H
 obtain ⟨t296, A70, H⟩ := H
 replace H : (if t296 = true then ((atlaslaw06_no.f t293).bind fun t297 => (if t297 = 0 then ((atlaslaw06_no.f t295).bind fun t300 => (if t300 = 0 then (atlaslaw06_AttrLeast.j0 k a0 a1 a2 t294 t295 false a3_0 a3_1 a3_2 a3_3) else ((atlaslaw06_no.f t295).bind fun t301 => (if t301 = 63 then (atlaslaw06_AttrLeast.j0 k a0 a1 a2 t294 t295 (t294 != 0) a3_0 a3_1 a3_2 a3_3) else (atlaslaw06_AttrLeast.j0 k a0 a1 a2 t294 t295 true a3_0 a3_1 a3_2 a3_3))))) else (if t294 = 0 then ((atlaslaw06_no.f t293).bind fun t298 => (if t298 = 62 then ((atlaslaw06_no.f t295).bind fun t299 => (some (t299 == 62))) else (some false))) else (some false)))) else (some false)) = some r := H
 have A7 := Aside0.mk A70
 clear A70
 by_cases c8 : t296 = true
 ·
  subst c8
  have H1 : ((atlaslaw06_no.f t293).bind fun t297 => (if t297 = 0 then ((atlaslaw06_no.f t295).bind fun t300 => (if t300 = 0 then (atlaslaw06_AttrLeast.j0 k a0 a1 a2 t294 t295 false a3_0 a3_1 a3_2 a3_3) else ((atlaslaw06_no.f t295).bind fun t301 => (if t301 = 63 then (atlaslaw06_AttrLeast.j0 k a0 a1 a2 t294 t295 (t294 != 0) a3_0 a3_1 a3_2 a3_3) else (atlaslaw06_AttrLeast.j0 k a0 a1 a2 t294 t295 true a3_0 a3_1 a3_2 a3_3))))) else (if t294 = 0 then ((atlaslaw06_no.f t293).bind fun t298 => (if t298 = 62 then ((atlaslaw06_no.f t295).bind fun t299 => (some (t299 == 62))) else (some false))) else (some false)))) = some r := by rw [if_pos rfl] at H; exact H
  clear H
  have H := H1
  clear H1
  replace H := Option.bind_eq_some_iff.mp H
  obtain ⟨t297, A90, H⟩ := H
  replace H : (if t297 = 0 then ((atlaslaw06_no.f t295).bind fun t300 => (if t300 = 0 then (atlaslaw06_AttrLeast.j0 k a0 a1 a2 t294 t295 false a3_0 a3_1 a3_2 a3_3) else ((atlaslaw06_no.f t295).bind fun t301 => (if t301 = 63 then (atlaslaw06_AttrLeast.j0 k a0 a1 a2 t294 t295 (t294 != 0) a3_0 a3_1 a3_2 a3_3) else (atlaslaw06_AttrLeast.j0 k a0 a1 a2 t294 t295 true a3_0 a3_1 a3_2 a3_3))))) else (if t294 = 0 then ((atlaslaw06_no.f t293).bind fun t298 => (if t298 = 62 then ((atlaslaw06_no.f t295).bind fun t299 => (some (t299 == 62))) else (some false))) else (some false))) = some r := H
  have A9 := Aside0.mk A90
  clear A90
  by_cases c10 : t297 = 0
  ·
   rw [if_pos c10] at H
   have c10b0 : (t297 == 0) = true := beq_iff_eq.mpr c10
   have c10b1 : (t297 != 0) = false := bne_eq_false_iff_eq.mpr c10
   clear c10
   have HC11 := Aside0.mk H
   clear H
   go_enter Tryd.func7, Tryd.ntmps7
   go_upto_region 7 with (first | ((with_reducible refine gate_dst (N := 7) rfl ?_); refine box_event ?hg (N := 7) ?hd (cs := #[.int .i64 a3_0, .int .i64 a3_1, .int .i64 a3_2, .int .i64 a3_3]) (t := 24) ?hr ?_; (case hd => rfl); (case hg => rfl); (case hr => first | (go_simp; done) | (go_simp; rfl)); intro gb291 hg w12 hbox hb; have n0_ := Aside0.mk (below_step (by repeat (first | (with_reducible first | exact HB.out | apply below_alloc | apply pw_below_drewN | apply below_drew1) | exact HB.out)) hb); have n1_ := Aside0.mk (hbox); have n2_ := Aside0.mk ((by rw [hg]; exact (below_size (by repeat (first | (with_reducible first | exact HB.out | apply below_alloc | apply pw_below_drewN | apply below_drew1) | exact HB.out))) : w.heap.size ≤ gb291)); have n3_ := Aside0.mk ((by rw [hg]; exact (below_size (by repeat (first | (with_reducible first | exact HB.out | apply below_alloc | apply pw_below_drewN | apply below_drew1) | exact HB.out))) : w.heap.size ≤ gb291)); clear HB; have HB := n0_; have BK291 := n1_; have GW291 := n2_; have GE291 := n3_; clear n0_ n1_ n2_ n3_; clear hb hbox hg; have hcz13_0 : w12.cell? ⟨gb291, 0, none⟩ = some (.int .i64 a3_0) := (blk_cell BK291.out 0).trans rfl; have hcz13_1 : w12.cell? ⟨gb291, 1, none⟩ = some (.int .i64 a3_1) := (blk_cell BK291.out 1).trans rfl; have hcz13_2 : w12.cell? ⟨gb291, 2, none⟩ = some (.int .i64 a3_2) := (blk_cell BK291.out 2).trans rfl; have hcz13_3 : w12.cell? ⟨gb291, 3, none⟩ = some (.int .i64 a3_3) := (blk_cell BK291.out 3).trans rfl; have hfz13_0 := blk_frozen BK291.out 0; have hfz13_1 := blk_frozen BK291.out 1; have hfz13_2 := blk_frozen BK291.out 2; have hfz13_3 := blk_frozen BK291.out 3) | ((with_reducible refine gate_callee (f := 18) rfl ?_); refine goesL_ (some 19) rfl rfl Tryd.func18 (by kernel_rfl) rfl #[.agg #[.int .i64 a3_0, .int .i64 a3_1, .int .i64 a3_2, .int .i64 a3_3]] rfl (by (try simp only [List.map_toArray, List.map_cons, List.map_nil]); first | done | rfl | (simp only [List.length_drop, List.length_take]; rfl)) ?_; (with_reducible refine (attr_Show.calls k a3_0 a3_1 a3_2 a3_3 t292 t293 _ ?side1 ?side2 A5.out).mono ?_); (case side1 => exact ⟨G1.below hG1.out (by repeat (first | (with_reducible first | exact HB.out | apply below_alloc | apply pw_below_drewN | apply below_drew1 | refine below_set ?_ GE291.out) | exact HB.out))⟩); (case side2 => exact ⟨G2.below hG2.out (by repeat (first | (with_reducible first | exact HB.out | apply below_alloc | apply pw_below_drewN | apply below_drew1 | refine below_set ?_ GE291.out) | exact HB.out))⟩); rintro e w14 ⟨rfl, hb⟩; refine ⟨_, rfl, ?_⟩; have n0_ := Aside0.mk (blk_below (g := gb291) (o := .cells #[.int .i64 a3_0, .int .i64 a3_1, .int .i64 a3_2, .int .i64 a3_3] 24 (0, 0)) (by (with_reducible repeat (first | refine blk_drewN ?_ _ | refine blk_drew ?_ | refine blk_alloc ?_ _)); exact BK291.out) hb); have n1_ := Aside0.mk (below_step (by repeat (first | (with_reducible first | exact HB.out | apply below_alloc | apply pw_below_drewN | apply below_drew1 | refine below_set ?_ GE291.out) | exact HB.out)) hb); clear BK291; clear HB; have BK291 := n0_; have HB := n1_; clear n0_ n1_; (try clear hb); (try clear hb2); (try clear hk); (try clear hi); have hcz15_0 : w14.cell? ⟨gb291, 0, none⟩ = some (.int .i64 a3_0) := (blk_cell BK291.out 0).trans rfl; have hcz15_1 : w14.cell? ⟨gb291, 1, none⟩ = some (.int .i64 a3_1) := (blk_cell BK291.out 1).trans rfl; have hcz15_2 : w14.cell? ⟨gb291, 2, none⟩ = some (.int .i64 a3_2) := (blk_cell BK291.out 2).trans rfl; have hcz15_3 : w14.cell? ⟨gb291, 3, none⟩ = some (.int .i64 a3_3) := (blk_cell BK291.out 3).trans rfl; have hfz15_0 := blk_frozen BK291.out 0; have hfz15_1 := blk_frozen BK291.out 1; have hfz15_2 := blk_frozen BK291.out 2; have hfz15_3 := blk_frozen BK291.out 3) | ((with_reducible refine gate_callee (f := 16) rfl ?_); refine goesL_ (some 27) rfl rfl Tryd.func16 (by kernel_rfl) rfl #[.bool a0, .int .u32 a1, .int .u32 a2, .agg #[.int .i64 a3_0, .int .i64 a3_1, .int .i64 a3_2, .int .i64 a3_3]] rfl (by (try simp only [List.map_toArray, List.map_cons, List.map_nil]); first | done | rfl | (simp only [List.length_drop, List.length_take]; rfl)) ?_; (with_reducible refine (attr_Find.calls k a0 a1 a2 a3_0 a3_1 a3_2 a3_3 t294 t295 _ ?side1 A6.out).mono ?_); (case side1 => exact ⟨G0.below hG0.out (by repeat (first | (with_reducible first | exact HB.out | apply below_alloc | apply pw_below_drewN | apply below_drew1 | refine below_set ?_ GE291.out) | exact HB.out))⟩); rintro e w16 ⟨rfl, hb⟩; refine ⟨_, rfl, ?_⟩; have n0_ := Aside0.mk (blk_below (g := gb291) (o := .cells #[.int .i64 a3_0, .int .i64 a3_1, .int .i64 a3_2, .int .i64 a3_3] 24 (0, 0)) (by (with_reducible repeat (first | refine blk_drewN ?_ _ | refine blk_drew ?_ | refine blk_alloc ?_ _)); exact BK291.out) hb); have n1_ := Aside0.mk (below_step (by repeat (first | (with_reducible first | exact HB.out | apply below_alloc | apply pw_below_drewN | apply below_drew1 | refine below_set ?_ GE291.out) | exact HB.out)) hb); clear BK291; clear HB; have BK291 := n0_; have HB := n1_; clear n0_ n1_; (try clear hb); (try clear hb2); (try clear hk); (try clear hi)) | ((with_reducible refine gate_callee (f := 14) rfl ?_); refine goesL_ (some 30) rfl rfl Tryd.func14 (by kernel_rfl) rfl #[] rfl (by (try simp only [List.map_toArray, List.map_cons, List.map_nil]); first | done | rfl | (simp only [List.length_drop, List.length_take]; rfl)) ?_; (with_reducible refine (atlaslaw06_live.calls k  true _ ?side1 ?side2 ?side3 ?side4 A7.out).mono ?_); (case side1 => exact ⟨G0.below hG0.out (by repeat (first | (with_reducible first | exact HB.out | apply below_alloc | apply pw_below_drewN | apply below_drew1 | refine below_set ?_ GE291.out) | exact HB.out))⟩); (case side2 => exact ⟨G1.below hG1.out (by repeat (first | (with_reducible first | exact HB.out | apply below_alloc | apply pw_below_drewN | apply below_drew1 | refine below_set ?_ GE291.out) | exact HB.out))⟩); (case side3 => exact ⟨G2.below hG2.out (by repeat (first | (with_reducible first | exact HB.out | apply below_alloc | apply pw_below_drewN | apply below_drew1 | refine below_set ?_ GE291.out) | exact HB.out))⟩); (case side4 => exact ⟨G3.below hG3.out (by repeat (first | (with_reducible first | exact HB.out | apply below_alloc | apply pw_below_drewN | apply below_drew1 | refine below_set ?_ GE291.out) | exact HB.out))⟩); rintro e w17 ⟨rfl, hb⟩; refine ⟨_, rfl, ?_⟩; have n0_ := Aside0.mk (blk_below (g := gb291) (o := .cells #[.int .i64 a3_0, .int .i64 a3_1, .int .i64 a3_2, .int .i64 a3_3] 24 (0, 0)) (by (with_reducible repeat (first | refine blk_drewN ?_ _ | refine blk_drew ?_ | refine blk_alloc ?_ _)); exact BK291.out) hb); have n1_ := Aside0.mk (below_step (by repeat (first | (with_reducible first | exact HB.out | apply below_alloc | apply pw_below_drewN | apply below_drew1 | refine below_set ?_ GE291.out) | exact HB.out)) hb); clear BK291; clear HB; have BK291 := n0_; have HB := n1_; clear n0_ n1_; (try clear hb); (try clear hb2); (try clear hk); (try clear hi)) | ((with_reducible refine gate_callee (f := 15) rfl ?_); refine goesL_ (some 33) rfl rfl Tryd.func15 (by kernel_rfl) rfl #[.int .i64 t293] rfl (by (try simp only [List.map_toArray, List.map_cons, List.map_nil]); first | done | rfl | (simp only [List.length_drop, List.length_take]; rfl)) ?_; (with_reducible refine (atlaslaw06_no.calls t293 t297 _ A9.out).mono ?_); rintro e w' ⟨rfl, ⟨nd, rfl⟩⟩; refine ⟨_, rfl, ?_⟩))
   (try simp only [Act.put, List.setIfInBounds_toArray, List.set_cons_zero, List.set_cons_succ])
   go_cut [58] (fun v58 wc => ∃ (kq : Nat) (x58_10 : Bool), v58 = .bool x58_10 ∧ Aside0 (atlaslaw06_AttrLeast.j0 kq a0 a1 a2 t294 t295 x58_10 a3_0 a3_1 a3_2 a3_3 = some r) ∧ Aside0 (kq ≤ k) ∧ Aside0 (wc.heap[gb291]? = some (.cells #[.int .i64 a3_0, .int .i64 a3_1, .int .i64 a3_2, .int .i64 a3_3] 24 (0, 0))) ∧ Aside0 (Below w.heap.size w wc))
   case first =>
    have H := HC11.out
    clear HC11
    replace H := Option.bind_eq_some_iff.mp H
    obtain ⟨t300, A180, H⟩ := H
    replace H : (if t300 = 0 then (atlaslaw06_AttrLeast.j0 k a0 a1 a2 t294 t295 false a3_0 a3_1 a3_2 a3_3) else ((atlaslaw06_no.f t295).bind fun t301 => (if t301 = 63 then (atlaslaw06_AttrLeast.j0 k a0 a1 a2 t294 t295 (t294 != 0) a3_0 a3_1 a3_2 a3_3) else (atlaslaw06_AttrLeast.j0 k a0 a1 a2 t294 t295 true a3_0 a3_1 a3_2 a3_3)))) = some r := H
    have A18 := Aside0.mk A180
    clear A180
    by_cases c19 : t300 = 0
    ·
     rw [if_pos c19] at H
     have c19b0 : (t300 == 0) = true := beq_iff_eq.mpr c19
     have c19b1 : (t300 != 0) = false := bne_eq_false_iff_eq.mpr c19
     clear c19
     (first | rw [c19b0] | (simp only [i64_w, i32_w]; rw [c19b0]) | skip)
     have H' := Aside0.mk H
     clear H
     go_wp2_with (first | ((with_reducible refine gate_callee (f := 15) rfl ?_); refine goesL_ (some 48) rfl rfl Tryd.func15 (by kernel_rfl) rfl #[.int .i64 t295] rfl (by (try simp only [List.map_toArray, List.map_cons, List.map_nil]); first | done | rfl | (simp only [List.length_drop, List.length_take]; rfl)) ?_; (with_reducible refine (atlaslaw06_no.calls t295 t300 _ A18.out).mono ?_); rintro e w' ⟨rfl, ⟨nd, rfl⟩⟩; refine ⟨_, rfl, ?_⟩))
     go_meet
     case rel => exact ⟨_, (false), (by first | rfl | (simp; done) | (simp [*]; done)), H', ⟨by first | omega | exact Nat.le_refl _⟩, ⟨by (with_reducible repeat (first | refine blk_drewN ?_ _ | refine blk_drew ?_ | refine blk_alloc ?_ _)); exact BK291.out⟩, ⟨by repeat (first | (with_reducible first | exact HB.out | apply below_alloc | apply pw_below_drewN | apply below_drew1 | refine below_set ?_ GE291.out) | exact HB.out)⟩⟩
    ·
     rw [if_neg c19] at H
     have c19b0 : (t300 == 0) = false := beq_eq_false_iff_ne.mpr c19
     have c19b1 : (t300 != 0) = true := bne_iff_ne.mpr c19
     (first | rw [c19b0] | (simp only [i64_w, i32_w]; rw [c19b0]) | skip)
     replace H := Option.bind_eq_some_iff.mp H
     obtain ⟨t301, A200, H⟩ := H
     replace H : (if t301 = 63 then (atlaslaw06_AttrLeast.j0 k a0 a1 a2 t294 t295 (t294 != 0) a3_0 a3_1 a3_2 a3_3) else (atlaslaw06_AttrLeast.j0 k a0 a1 a2 t294 t295 true a3_0 a3_1 a3_2 a3_3)) = some r := H
     have A20 := Aside0.mk A200
     clear A200
     by_cases c21 : t301 = 63
     ·
      rw [if_pos c21] at H
      have c21b0 : (t301 == 63) = true := beq_iff_eq.mpr c21
      have c21b1 : (t301 != 63) = false := bne_eq_false_iff_eq.mpr c21
      clear c21
      have H' := Aside0.mk H
      clear H
      go_wp2_with (first | ((with_reducible refine gate_callee (f := 15) rfl ?_); refine goesL_ (some 48) rfl rfl Tryd.func15 (by kernel_rfl) rfl #[.int .i64 t295] rfl (by (try simp only [List.map_toArray, List.map_cons, List.map_nil]); first | done | rfl | (simp only [List.length_drop, List.length_take]; rfl)) ?_; (with_reducible refine (atlaslaw06_no.calls t295 t300 _ A18.out).mono ?_); rintro e w' ⟨rfl, ⟨nd, rfl⟩⟩; refine ⟨_, rfl, ?_⟩) | (go_at_call 15; (with_reducible refine (atlaslaw06_no.calls t295 t301 _ A20.out).mono ?_); rintro e w' ⟨rfl, ⟨nd, rfl⟩⟩))
      go_meet
      case rel => exact ⟨_, ((t294 != 0)), (by first | rfl | (simp; done) | (simp [*]; done)), H', ⟨by first | omega | exact Nat.le_refl _⟩, ⟨by (with_reducible repeat (first | refine blk_drewN ?_ _ | refine blk_drew ?_ | refine blk_alloc ?_ _)); exact BK291.out⟩, ⟨by repeat (first | (with_reducible first | exact HB.out | apply below_alloc | apply pw_below_drewN | apply below_drew1 | refine below_set ?_ GE291.out) | exact HB.out)⟩⟩
     ·
      rw [if_neg c21] at H
      have c21b0 : (t301 == 63) = false := beq_eq_false_iff_ne.mpr c21
      have c21b1 : (t301 != 63) = true := bne_iff_ne.mpr c21
      have H' := Aside0.mk H
      clear H
      go_wp2_with (first | ((with_reducible refine gate_callee (f := 15) rfl ?_); refine goesL_ (some 48) rfl rfl Tryd.func15 (by kernel_rfl) rfl #[.int .i64 t295] rfl (by (try simp only [List.map_toArray, List.map_cons, List.map_nil]); first | done | rfl | (simp only [List.length_drop, List.length_take]; rfl)) ?_; (with_reducible refine (atlaslaw06_no.calls t295 t300 _ A18.out).mono ?_); rintro e w' ⟨rfl, ⟨nd, rfl⟩⟩; refine ⟨_, rfl, ?_⟩) | (go_at_call 15; (with_reducible refine (atlaslaw06_no.calls t295 t301 _ A20.out).mono ?_); rintro e w' ⟨rfl, ⟨nd, rfl⟩⟩))
      go_meet
      case rel => exact ⟨_, (true), (by first | rfl | (simp; done) | (simp [*]; done)), H', ⟨by first | omega | exact Nat.le_refl _⟩, ⟨by (with_reducible repeat (first | refine blk_drewN ?_ _ | refine blk_drew ?_ | refine blk_alloc ?_ _)); exact BK291.out⟩, ⟨by repeat (first | (with_reducible first | exact HB.out | apply below_alloc | apply pw_below_drewN | apply below_drew1 | refine below_set ?_ GE291.out) | exact HB.out)⟩⟩
   case rest =>
    clear HC11
    try clear c1
    try clear c2
    try clear p2
    try clear c7
    try clear c8
    try clear c10
    try clear c10b0
    try clear c10b1
    try clear c14
    try clear c15
    try clear c16
    try clear c18
    try clear c19
    try clear c19b0
    try clear c19b1
    try clear c21
    try clear c21b0
    try clear c21b1
    try clear hcz13_0
    try clear hcz13_1
    try clear hcz13_2
    try clear hcz13_3
    try clear hcz15_0
    try clear hcz15_1
    try clear hcz15_2
    try clear hcz15_3
    try clear hfz13_0
    try clear hfz13_1
    try clear hfz13_2
    try clear hfz13_3
    try clear hfz15_0
    try clear hfz15_1
    try clear hfz15_2
    try clear hfz15_3
    obtain ⟨kq, x58_10, rfl, HA, HJ10, BK291, HB⟩ := hcut
    cases kq with
    | zero => exact absurd HA.out (by simp [atlaslaw06_AttrLeast.j0])
    | succ kj10 =>
     have H := HA.out
     clear HA
     simp only [atlaslaw06_AttrLeast.j0] at H
     by_cases c22 : x58_10 = true
     ·
      subst c22
      have H1 : (some false) = some r := by rw [if_pos rfl] at H; exact H
      clear H
      have H := H1
      clear H1
      obtain rfl := Option.some.inj H
      go_wp2
      go_ret
      exact ⟨by first | rfl | (simp [errW_none, errW_some] <;> rfl) | (simp [*, errW_none, errW_some] <;> rfl) | (simp [*, errW_none, errW_some] <;> exact isEmpty_ne _), by repeat (first | (with_reducible first | exact HB.out | apply below_alloc | apply pw_below_drewN | apply below_drew1 | refine below_set ?_ GE291.out) | exact HB.out)⟩
     ·
      replace c22 := Bool.eq_false_iff.mpr c22
      subst c22
      have H1 : (atlaslaw06_AttrLeast.l0 kj10 a0 a1 a2 t294 t295 0 a3_0 a3_1 a3_2 a3_3) = some r := by rw [if_neg (show ¬ (false = true) by decide)] at H; exact H
      clear H
      have H := H1
      clear H1
      have H' := Aside0.mk H
      clear H
      go_wp2
      go_loopg [13] kj10 (fun kq v13 w' => ∃ (x13_2 : Int), v13 = .int .u32 x13_2 ∧ Aside0 (atlaslaw06_AttrLeast.l0 kq a0 a1 a2 t294 t295 x13_2 a3_0 a3_1 a3_2 a3_3 = some r) ∧ Aside0 (kq ≤ kj10) ∧ Aside0 (w'.heap[gb291]? = some (.cells #[.int .i64 a3_0, .int .i64 a3_1, .int .i64 a3_2, .int .i64 a3_3] 24 (0, 0))) ∧ Aside0 (Below w.heap.size w w'))
      case atStart => exact ⟨(0), (by first | rfl | (simp; done) | (simp [*]; done)), H', ⟨Nat.le_refl _⟩, ⟨by (with_reducible repeat (first | refine blk_drewN ?_ _ | refine blk_drew ?_ | refine blk_alloc ?_ _)); exact BK291.out⟩, ⟨by repeat (first | (with_reducible first | exact HB.out | apply below_alloc | apply pw_below_drewN | apply below_drew1 | refine below_set ?_ GE291.out) | exact HB.out)⟩⟩
      case round =>
       clear H'
       try clear c1
       try clear c2
       try clear p2
       try clear c7
       try clear c8
       try clear c10
       try clear c10b0
       try clear c10b1
       try clear c14
       try clear c15
       try clear c16
       try clear c18
       try clear c19
       try clear c19b0
       try clear c19b1
       try clear c21
       try clear c21b0
       try clear c21b1
       try clear c22
       try clear hcz13_0
       try clear hcz13_1
       try clear hcz13_2
       try clear hcz13_3
       try clear hcz15_0
       try clear hcz15_1
       try clear hcz15_2
       try clear hcz15_3
       try clear hfz13_0
       try clear hfz13_1
       try clear hfz13_2
       try clear hfz13_3
       try clear hfz15_0
       try clear hfz15_1
       try clear hfz15_2
       try clear hfz15_3
       try clear p2
       obtain ⟨x13_2, rfl, HA, HK2, BK291, HB⟩ := hrel
       cases gk with
       | zero => exact absurd HA.out (by simp [atlaslaw06_AttrLeast.l0])
       | succ k2 =>
        have H := HA.out
        clear HA
        simp only [atlaslaw06_AttrLeast.l0] at H
        by_cases c23 : x13_2 < 64
        ·
         rw [if_pos c23] at H
         have c23b0 : decide (x13_2 < 64) = true := decide_eq_true c23
         clear c23
         replace H := Option.bind_eq_some_iff.mp H
         obtain ⟨⟨t303, t304, t305, t306, t307⟩, A240, H⟩ := H
         replace H : ((atlaslaw06_no.f t307).bind fun t309 => (if t309 = 0 then (atlaslaw06_AttrLeast.j2 k2 a0 a1 a2 t294 t295 x13_2 (t303 == a3_0 && (t304 == a3_1 && (t305 == a3_2 && (t306 == a3_3)))) a3_0 a3_1 a3_2 a3_3) else (atlaslaw06_AttrLeast.j2 k2 a0 a1 a2 t294 t295 x13_2 false a3_0 a3_1 a3_2 a3_3))) = some r := H
         have A24 := Aside0.mk A240
         clear A240
         have HC25 := Aside0.mk H
         clear H
         go_upto_region 13 with (first | ((with_reducible refine gate_callee (f := 12) rfl ?_); refine goesL_ (some 68) rfl rfl Tryd.func12 (by kernel_rfl) rfl #[.bool a0, .int .u32 a1, .int .u32 a2, .int .u32 x13_2] rfl (by (try simp only [List.map_toArray, List.map_cons, List.map_nil]); first | done | rfl | (simp only [List.length_drop, List.length_take]; rfl)) ?_; (with_reducible refine (attr_Of.calls k2 a0 a1 a2 x13_2 t303 t304 t305 t306 t307 _ ?side1 A24.out).mono ?_); (case side1 => exact ⟨G0.below hG0.out (by repeat (first | (with_reducible first | exact HB.out | apply below_alloc | apply pw_below_drewN | apply below_drew1 | refine below_set ?_ GE291.out) | exact HB.out))⟩); rintro e w26 ⟨rfl, hb⟩; refine ⟨_, rfl, ?_⟩; have n0_ := Aside0.mk (blk_below (g := gb291) (o := .cells #[.int .i64 a3_0, .int .i64 a3_1, .int .i64 a3_2, .int .i64 a3_3] 24 (0, 0)) (by (with_reducible repeat (first | refine blk_drewN ?_ _ | refine blk_drew ?_ | refine blk_alloc ?_ _)); exact BK291.out) hb); have n1_ := Aside0.mk (below_step (by repeat (first | (with_reducible first | exact HB.out | apply below_alloc | apply pw_below_drewN | apply below_drew1 | refine below_set ?_ GE291.out) | exact HB.out)) hb); clear BK291; clear HB; have BK291 := n0_; have HB := n1_; clear n0_ n1_; (try clear hb); (try clear hb2); (try clear hk); (try clear hi)) | ((with_reducible refine gate_dst (N := 14) rfl ?_); refine box_event ?hg (N := 14) ?hd (cs := #[.int .i64 0, .int .i64 0, .int .i64 0, .int .i64 0]) (t := 24) ?hr ?_; (case hd => rfl); (case hg => rfl); (case hr => first | (go_simp; done) | (go_simp; rfl)); intro gb308 hg w27 hbox hb; have n0_ := Aside0.mk (blk_below (g := gb291) (o := .cells #[.int .i64 a3_0, .int .i64 a3_1, .int .i64 a3_2, .int .i64 a3_3] 24 (0, 0)) (by (with_reducible repeat (first | refine blk_drewN ?_ _ | refine blk_drew ?_ | refine blk_alloc ?_ _)); exact BK291.out) hb); have n1_ := Aside0.mk (below_step (by repeat (first | (with_reducible first | exact HB.out | apply below_alloc | apply pw_below_drewN | apply below_drew1 | refine below_set ?_ GE291.out) | exact HB.out)) hb); have n2_ := Aside0.mk (hbox); have n3_ := Aside0.mk ((by rw [hg]; exact (below_size (by repeat (first | (with_reducible first | exact HB.out | apply below_alloc | apply pw_below_drewN | apply below_drew1 | refine below_set ?_ GE291.out) | exact HB.out))) : w.heap.size ≤ gb308)); have n4_ := Aside0.mk ((by rw [hg]; exact (below_size (by repeat (first | (with_reducible first | exact HB.out | apply below_alloc | apply pw_below_drewN | apply below_drew1 | refine below_set ?_ GE291.out) | exact HB.out))) : w.heap.size ≤ gb308)); have n5_ := Aside0.mk ((by rw [hg]; exact Nat.ne_of_lt (blk_lt (g := gb291) (o := .cells #[.int .i64 a3_0, .int .i64 a3_1, .int .i64 a3_2, .int .i64 a3_3] 24 (0, 0)) (by (with_reducible repeat (first | refine blk_drewN ?_ _ | refine blk_drew ?_ | refine blk_alloc ?_ _)); exact BK291.out)) : gb291 ≠ gb308)); have n6_ := Aside0.mk ((by rw [hg]; exact Nat.ne_of_gt (blk_lt (g := gb291) (o := .cells #[.int .i64 a3_0, .int .i64 a3_1, .int .i64 a3_2, .int .i64 a3_3] 24 (0, 0)) (by (with_reducible repeat (first | refine blk_drewN ?_ _ | refine blk_drew ?_ | refine blk_alloc ?_ _)); exact BK291.out)) : gb308 ≠ gb291)); clear BK291; clear HB; have BK291 := n0_; have HB := n1_; have BK308 := n2_; have GW308 := n3_; have GE308 := n4_; have NB291_308 := n5_; have NB308_291 := n6_; clear n0_ n1_ n2_ n3_ n4_ n5_ n6_; clear hb hbox hg; have hnb28 := NB308_291.out; have hnc28 := NB291_308.out; have hcz29_0 : w27.cell? ⟨gb308, 0, none⟩ = some (.int .i64 0) := (blk_cell BK308.out 0).trans rfl; have hcz29_1 : w27.cell? ⟨gb308, 1, none⟩ = some (.int .i64 0) := (blk_cell BK308.out 1).trans rfl; have hcz29_2 : w27.cell? ⟨gb308, 2, none⟩ = some (.int .i64 0) := (blk_cell BK308.out 2).trans rfl; have hcz29_3 : w27.cell? ⟨gb308, 3, none⟩ = some (.int .i64 0) := (blk_cell BK308.out 3).trans rfl; have hfz29_0 := blk_frozen BK308.out 0; have hfz29_1 := blk_frozen BK308.out 1; have hfz29_2 := blk_frozen BK308.out 2; have hfz29_3 := blk_frozen BK308.out 3))
         (try simp only [Act.put, List.setIfInBounds_toArray, List.set_cons_zero, List.set_cons_succ])
         go_cut [16] (fun v16 wc => ∃ (kq : Nat) (x16_24 : Bool), v16 = .bool x16_24 ∧ Aside0 (atlaslaw06_AttrLeast.j2 kq a0 a1 a2 t294 t295 x13_2 x16_24 a3_0 a3_1 a3_2 a3_3 = some r) ∧ Aside0 (kq ≤ k2) ∧ Aside0 (wc.heap[gb291]? = some (.cells #[.int .i64 a3_0, .int .i64 a3_1, .int .i64 a3_2, .int .i64 a3_3] 24 (0, 0))) ∧ Aside0 (wc.heap[gb308]? = some (.cells #[.int .i64 t303, .int .i64 t304, .int .i64 t305, .int .i64 t306] 24 (0, 0))) ∧ Aside0 (Below w.heap.size w wc))
         case first =>
          have H := HC25.out
          clear HC25
          replace H := Option.bind_eq_some_iff.mp H
          obtain ⟨t309, A300, H⟩ := H
          replace H : (if t309 = 0 then (atlaslaw06_AttrLeast.j2 k2 a0 a1 a2 t294 t295 x13_2 (t303 == a3_0 && (t304 == a3_1 && (t305 == a3_2 && (t306 == a3_3)))) a3_0 a3_1 a3_2 a3_3) else (atlaslaw06_AttrLeast.j2 k2 a0 a1 a2 t294 t295 x13_2 false a3_0 a3_1 a3_2 a3_3)) = some r := H
          have A30 := Aside0.mk A300
          clear A300
          by_cases c31 : t309 = 0
          ·
           rw [if_pos c31] at H
           have c31b0 : (t309 == 0) = true := beq_iff_eq.mpr c31
           have c31b1 : (t309 != 0) = false := bne_eq_false_iff_eq.mpr c31
           clear c31
           (first | rw [c31b0] | (simp only [i64_w, i32_w]; rw [c31b0]) | skip)
           have H' := Aside0.mk H
           clear H
           go_wp2_with (first | ((with_reducible refine gate_callee (f := 15) rfl ?_); refine goesL_ (some 72) rfl rfl Tryd.func15 (by kernel_rfl) rfl #[.int .i64 t307] rfl (by (try simp only [List.map_toArray, List.map_cons, List.map_nil]); first | done | rfl | (simp only [List.length_drop, List.length_take]; rfl)) ?_; (with_reducible refine (atlaslaw06_no.calls t307 t309 _ A30.out).mono ?_); rintro e w' ⟨rfl, ⟨nd, rfl⟩⟩; refine ⟨_, rfl, ?_⟩; have hnb32 := NB308_291.out; have hnc32 := NB291_308.out; have hcz33_0 : w27.cell? ⟨gb308, 0, none⟩ = some (.int .i64 0) := (blk_cell BK308.out 0).trans rfl; have hcz33_1 : w27.cell? ⟨gb308, 1, none⟩ = some (.int .i64 0) := (blk_cell BK308.out 1).trans rfl; have hcz33_2 : w27.cell? ⟨gb308, 2, none⟩ = some (.int .i64 0) := (blk_cell BK308.out 2).trans rfl; have hcz33_3 : w27.cell? ⟨gb308, 3, none⟩ = some (.int .i64 0) := (blk_cell BK308.out 3).trans rfl; have hfz33_0 := blk_frozen BK308.out 0; have hfz33_1 := blk_frozen BK308.out 1; have hfz33_2 := blk_frozen BK308.out 2; have hfz33_3 := blk_frozen BK308.out 3; have hcz34_0 : w27.cell? ⟨gb291, 0, none⟩ = some (.int .i64 a3_0) := (blk_cell BK291.out 0).trans rfl; have hcz34_1 : w27.cell? ⟨gb291, 1, none⟩ = some (.int .i64 a3_1) := (blk_cell BK291.out 1).trans rfl; have hcz34_2 : w27.cell? ⟨gb291, 2, none⟩ = some (.int .i64 a3_2) := (blk_cell BK291.out 2).trans rfl; have hcz34_3 : w27.cell? ⟨gb291, 3, none⟩ = some (.int .i64 a3_3) := (blk_cell BK291.out 3).trans rfl; have hfz34_0 := blk_frozen BK291.out 0; have hfz34_1 := blk_frozen BK291.out 1; have hfz34_2 := blk_frozen BK291.out 2; have hfz34_3 := blk_frozen BK291.out 3))
           go_meet
           case rel => exact ⟨_, ((t303 == a3_0 && (t304 == a3_1 && (t305 == a3_2 && (t306 == a3_3))))), (by first | rfl | (simp; done) | (simp [*]; done)), H', ⟨by have := HJ10.out; have := HK2.out; first | omega | exact Nat.le_refl _⟩, ⟨by (with_reducible repeat (first | refine blk_drewN ?_ _ | refine blk_drew ?_ | refine blk_alloc ?_ _)); refine blk_far ?_ NB291_308.out _; (with_reducible repeat (first | refine blk_drewN ?_ _ | refine blk_drew ?_ | refine blk_alloc ?_ _)); refine blk_far ?_ NB291_308.out _; (with_reducible repeat (first | refine blk_drewN ?_ _ | refine blk_drew ?_ | refine blk_alloc ?_ _)); refine blk_far ?_ NB291_308.out _; (with_reducible repeat (first | refine blk_drewN ?_ _ | refine blk_drew ?_ | refine blk_alloc ?_ _)); refine blk_far ?_ NB291_308.out _; (with_reducible repeat (first | refine blk_drewN ?_ _ | refine blk_drew ?_ | refine blk_alloc ?_ _)); exact BK291.out⟩, ⟨by (with_reducible repeat (first | refine blk_drewN ?_ _ | refine blk_drew ?_ | refine blk_alloc ?_ _)); refine blk_put (cs := #[.int .i64 t303, .int .i64 t304, .int .i64 t305, .int .i64 0]) ?_ 3 _ rfl; (with_reducible repeat (first | refine blk_drewN ?_ _ | refine blk_drew ?_ | refine blk_alloc ?_ _)); refine blk_put (cs := #[.int .i64 t303, .int .i64 t304, .int .i64 0, .int .i64 0]) ?_ 2 _ rfl; (with_reducible repeat (first | refine blk_drewN ?_ _ | refine blk_drew ?_ | refine blk_alloc ?_ _)); refine blk_put (cs := #[.int .i64 t303, .int .i64 0, .int .i64 0, .int .i64 0]) ?_ 1 _ rfl; (with_reducible repeat (first | refine blk_drewN ?_ _ | refine blk_drew ?_ | refine blk_alloc ?_ _)); refine blk_put (cs := #[.int .i64 0, .int .i64 0, .int .i64 0, .int .i64 0]) ?_ 0 _ rfl; (with_reducible repeat (first | refine blk_drewN ?_ _ | refine blk_drew ?_ | refine blk_alloc ?_ _)); exact BK308.out⟩, ⟨by repeat (first | (with_reducible first | exact HB.out | apply below_alloc | apply pw_below_drewN | apply below_drew1 | refine below_set ?_ GE291.out | refine below_set ?_ GE308.out) | exact HB.out)⟩⟩
          ·
           rw [if_neg c31] at H
           have c31b0 : (t309 == 0) = false := beq_eq_false_iff_ne.mpr c31
           have c31b1 : (t309 != 0) = true := bne_iff_ne.mpr c31
           (first | rw [c31b0] | (simp only [i64_w, i32_w]; rw [c31b0]) | skip)
           have H' := Aside0.mk H
           clear H
           go_wp2_with (first | ((with_reducible refine gate_callee (f := 15) rfl ?_); refine goesL_ (some 72) rfl rfl Tryd.func15 (by kernel_rfl) rfl #[.int .i64 t307] rfl (by (try simp only [List.map_toArray, List.map_cons, List.map_nil]); first | done | rfl | (simp only [List.length_drop, List.length_take]; rfl)) ?_; (with_reducible refine (atlaslaw06_no.calls t307 t309 _ A30.out).mono ?_); rintro e w' ⟨rfl, ⟨nd, rfl⟩⟩; refine ⟨_, rfl, ?_⟩))
           go_meet
           case rel => exact ⟨_, (false), (by first | rfl | (simp; done) | (simp [*]; done)), H', ⟨by have := HJ10.out; have := HK2.out; first | omega | exact Nat.le_refl _⟩, ⟨by (with_reducible repeat (first | refine blk_drewN ?_ _ | refine blk_drew ?_ | refine blk_alloc ?_ _)); refine blk_far ?_ NB291_308.out _; (with_reducible repeat (first | refine blk_drewN ?_ _ | refine blk_drew ?_ | refine blk_alloc ?_ _)); refine blk_far ?_ NB291_308.out _; (with_reducible repeat (first | refine blk_drewN ?_ _ | refine blk_drew ?_ | refine blk_alloc ?_ _)); refine blk_far ?_ NB291_308.out _; (with_reducible repeat (first | refine blk_drewN ?_ _ | refine blk_drew ?_ | refine blk_alloc ?_ _)); refine blk_far ?_ NB291_308.out _; (with_reducible repeat (first | refine blk_drewN ?_ _ | refine blk_drew ?_ | refine blk_alloc ?_ _)); exact BK291.out⟩, ⟨by (with_reducible repeat (first | refine blk_drewN ?_ _ | refine blk_drew ?_ | refine blk_alloc ?_ _)); refine blk_put (cs := #[.int .i64 t303, .int .i64 t304, .int .i64 t305, .int .i64 0]) ?_ 3 _ rfl; (with_reducible repeat (first | refine blk_drewN ?_ _ | refine blk_drew ?_ | refine blk_alloc ?_ _)); refine blk_put (cs := #[.int .i64 t303, .int .i64 t304, .int .i64 0, .int .i64 0]) ?_ 2 _ rfl; (with_reducible repeat (first | refine blk_drewN ?_ _ | refine blk_drew ?_ | refine blk_alloc ?_ _)); refine blk_put (cs := #[.int .i64 t303, .int .i64 0, .int .i64 0, .int .i64 0]) ?_ 1 _ rfl; (with_reducible repeat (first | refine blk_drewN ?_ _ | refine blk_drew ?_ | refine blk_alloc ?_ _)); refine blk_put (cs := #[.int .i64 0, .int .i64 0, .int .i64 0, .int .i64 0]) ?_ 0 _ rfl; (with_reducible repeat (first | refine blk_drewN ?_ _ | refine blk_drew ?_ | refine blk_alloc ?_ _)); exact BK308.out⟩, ⟨by repeat (first | (with_reducible first | exact HB.out | apply below_alloc | apply pw_below_drewN | apply below_drew1 | refine below_set ?_ GE291.out | refine below_set ?_ GE308.out) | exact HB.out)⟩⟩
         case rest =>
          clear HC25
          try clear c1
          try clear c2
          try clear p2
          try clear c3
          try clear c7
          try clear c8
          try clear c10
          try clear c10b0
          try clear c10b1
          try clear c12
          try clear c14
          try clear c15
          try clear c16
          try clear c18
          try clear c19
          try clear c19b0
          try clear c19b1
          try clear c21
          try clear c21b0
          try clear c21b1
          try clear c22
          try clear c23
          try clear c23b0
          try clear c28
          try clear c31
          try clear c31b0
          try clear c31b1
          try clear c32
          try clear hcz13_0
          try clear hcz13_1
          try clear hcz13_2
          try clear hcz13_3
          try clear hcz15_0
          try clear hcz15_1
          try clear hcz15_2
          try clear hcz15_3
          try clear hcz29_0
          try clear hcz29_1
          try clear hcz29_2
          try clear hcz29_3
          try clear hcz33_0
          try clear hcz33_1
          try clear hcz33_2
          try clear hcz33_3
          try clear hcz34_0
          try clear hcz34_1
          try clear hcz34_2
          try clear hcz34_3
          try clear hfz13_0
          try clear hfz13_1
          try clear hfz13_2
          try clear hfz13_3
          try clear hfz15_0
          try clear hfz15_1
          try clear hfz15_2
          try clear hfz15_3
          try clear hfz29_0
          try clear hfz29_1
          try clear hfz29_2
          try clear hfz29_3
          try clear hfz33_0
          try clear hfz33_1
          try clear hfz33_2
          try clear hfz33_3
          try clear hfz34_0
          try clear hfz34_1
          try clear hfz34_2
          try clear hfz34_3
          try clear p2
          obtain ⟨kq, x16_24, rfl, HA, HJ24, BK291, BK308, HB⟩ := hcut
          cases kq with
          | zero => exact absurd HA.out (by simp [atlaslaw06_AttrLeast.j2])
          | succ kj24 =>
           have H := HA.out
           clear HA
           simp only [atlaslaw06_AttrLeast.j2] at H
           have HC35 := Aside0.mk H
           clear H
           go_upto_region 14 with (fail)
           go_cut [86] (fun v86 wc => ∃ (kq : Nat) (x86_34 : Bool), v86 = .bool x86_34 ∧ Aside0 (atlaslaw06_AttrLeast.j3 kq a0 a1 a2 t294 t295 x13_2 x16_24 x86_34 a3_0 a3_1 a3_2 a3_3 = some r) ∧ Aside0 (kq ≤ kj24) ∧ Aside0 (wc.heap[gb291]? = some (.cells #[.int .i64 a3_0, .int .i64 a3_1, .int .i64 a3_2, .int .i64 a3_3] 24 (0, 0))) ∧ Aside0 (wc.heap[gb308]? = some (.cells #[.int .i64 t303, .int .i64 t304, .int .i64 t305, .int .i64 t306] 24 (0, 0))) ∧ Aside0 (Below w.heap.size w wc))
           case first =>
            have H := HC35.out
            clear HC35
            replace H := Option.bind_eq_some_iff.mp H
            obtain ⟨t310, A360, H⟩ := H
            replace H : (if t310 = 0 then (atlaslaw06_AttrLeast.j3 kj24 a0 a1 a2 t294 t295 x13_2 x16_24 (x13_2 == t294) a3_0 a3_1 a3_2 a3_3) else (atlaslaw06_AttrLeast.j3 kj24 a0 a1 a2 t294 t295 x13_2 x16_24 false a3_0 a3_1 a3_2 a3_3)) = some r := H
            have A36 := Aside0.mk A360
            clear A360
            by_cases c37 : t310 = 0
            ·
             rw [if_pos c37] at H
             have c37b0 : (t310 == 0) = true := beq_iff_eq.mpr c37
             have c37b1 : (t310 != 0) = false := bne_eq_false_iff_eq.mpr c37
             clear c37
             (first | rw [c37b0] | (simp only [i64_w, i32_w]; rw [c37b0]) | skip)
             have H' := Aside0.mk H
             clear H
             go_wp2_with (first | ((with_reducible refine gate_callee (f := 15) rfl ?_); refine goesL_ (some 80) rfl rfl Tryd.func15 (by kernel_rfl) rfl #[.int .i64 t295] rfl (by (try simp only [List.map_toArray, List.map_cons, List.map_nil]); first | done | rfl | (simp only [List.length_drop, List.length_take]; rfl)) ?_; (with_reducible refine (atlaslaw06_no.calls t295 t310 _ A36.out).mono ?_); rintro e w' ⟨rfl, ⟨nd, rfl⟩⟩; refine ⟨_, rfl, ?_⟩))
             go_meet
             case rel => exact ⟨_, ((x13_2 == t294)), (by first | rfl | (simp; done) | (simp [*]; done)), H', ⟨by have := HJ10.out; have := HK2.out; have := HJ24.out; first | omega | exact Nat.le_refl _⟩, ⟨by (with_reducible repeat (first | refine blk_drewN ?_ _ | refine blk_drew ?_ | refine blk_alloc ?_ _)); exact BK291.out⟩, ⟨by (with_reducible repeat (first | refine blk_drewN ?_ _ | refine blk_drew ?_ | refine blk_alloc ?_ _)); exact BK308.out⟩, ⟨by repeat (first | (with_reducible first | exact HB.out | apply below_alloc | apply pw_below_drewN | apply below_drew1 | refine below_set ?_ GE291.out | refine below_set ?_ GE308.out) | exact HB.out)⟩⟩
            ·
             rw [if_neg c37] at H
             have c37b0 : (t310 == 0) = false := beq_eq_false_iff_ne.mpr c37
             have c37b1 : (t310 != 0) = true := bne_iff_ne.mpr c37
             (first | rw [c37b0] | (simp only [i64_w, i32_w]; rw [c37b0]) | skip)
             have H' := Aside0.mk H
             clear H
             go_wp2_with (first | ((with_reducible refine gate_callee (f := 15) rfl ?_); refine goesL_ (some 80) rfl rfl Tryd.func15 (by kernel_rfl) rfl #[.int .i64 t295] rfl (by (try simp only [List.map_toArray, List.map_cons, List.map_nil]); first | done | rfl | (simp only [List.length_drop, List.length_take]; rfl)) ?_; (with_reducible refine (atlaslaw06_no.calls t295 t310 _ A36.out).mono ?_); rintro e w' ⟨rfl, ⟨nd, rfl⟩⟩; refine ⟨_, rfl, ?_⟩))
             go_meet
             case rel => exact ⟨_, (false), (by first | rfl | (simp; done) | (simp [*]; done)), H', ⟨by have := HJ10.out; have := HK2.out; have := HJ24.out; first | omega | exact Nat.le_refl _⟩, ⟨by (with_reducible repeat (first | refine blk_drewN ?_ _ | refine blk_drew ?_ | refine blk_alloc ?_ _)); exact BK291.out⟩, ⟨by (with_reducible repeat (first | refine blk_drewN ?_ _ | refine blk_drew ?_ | refine blk_alloc ?_ _)); exact BK308.out⟩, ⟨by repeat (first | (with_reducible first | exact HB.out | apply below_alloc | apply pw_below_drewN | apply below_drew1 | refine below_set ?_ GE291.out | refine below_set ?_ GE308.out) | exact HB.out)⟩⟩
           case rest =>
            clear HC35
            try clear c1
            try clear c2
            try clear p2
            try clear c3
            try clear c7
            try clear c8
            try clear c10
            try clear c10b0
            try clear c10b1
            try clear c12
            try clear c14
            try clear c15
            try clear c16
            try clear c18
            try clear c19
            try clear c19b0
            try clear c19b1
            try clear c21
            try clear c21b0
            try clear c21b1
            try clear c22
            try clear c23
            try clear c23b0
            try clear c28
            try clear c31
            try clear c31b0
            try clear c31b1
            try clear c32
            try clear c37
            try clear c37b0
            try clear c37b1
            try clear hcz13_0
            try clear hcz13_1
            try clear hcz13_2
            try clear hcz13_3
            try clear hcz15_0
            try clear hcz15_1
            try clear hcz15_2
            try clear hcz15_3
            try clear hcz29_0
            try clear hcz29_1
            try clear hcz29_2
            try clear hcz29_3
            try clear hcz33_0
            try clear hcz33_1
            try clear hcz33_2
            try clear hcz33_3
            try clear hcz34_0
            try clear hcz34_1
            try clear hcz34_2
            try clear hcz34_3
            try clear hfz13_0
            try clear hfz13_1
            try clear hfz13_2
            try clear hfz13_3
            try clear hfz15_0
            try clear hfz15_1
            try clear hfz15_2
            try clear hfz15_3
            try clear hfz29_0
            try clear hfz29_1
            try clear hfz29_2
            try clear hfz29_3
            try clear hfz33_0
            try clear hfz33_1
            try clear hfz33_2
            try clear hfz33_3
            try clear hfz34_0
            try clear hfz34_1
            try clear hfz34_2
            try clear hfz34_3
            try clear p2
            obtain ⟨kq, x86_34, rfl, HA, HJ34, BK291, BK308, HB⟩ := hcut
            cases kq with
            | zero => exact absurd HA.out (by simp [atlaslaw06_AttrLeast.j3])
            | succ kj34 =>
             have H := HA.out
             clear HA
             simp only [atlaslaw06_AttrLeast.j3] at H
             by_cases c38 : x86_34 = true
             ·
              subst c38
              have H1 : (some x16_24) = some r := by rw [if_pos rfl] at H; exact H
              clear H
              have H := H1
              clear H1
              obtain rfl := Option.some.inj H
              go_wp2
              go_ret
              exact ⟨by first | rfl | (simp [errW_none, errW_some] <;> rfl) | (simp [*, errW_none, errW_some] <;> rfl) | (simp [*, errW_none, errW_some] <;> exact isEmpty_ne _), by repeat (first | (with_reducible first | exact HB.out | apply below_alloc | apply pw_below_drewN | apply below_drew1 | refine below_set ?_ GE291.out | refine below_set ?_ GE308.out) | exact HB.out)⟩
             ·
              replace c38 := Bool.eq_false_iff.mpr c38
              subst c38
              have H1 : (if x16_24 = true then (some false) else (atlaslaw06_AttrLeast.l0 kj34 a0 a1 a2 t294 t295 ((x13_2 + 1) % 4294967296) a3_0 a3_1 a3_2 a3_3)) = some r := by rw [if_neg (show ¬ (false = true) by decide)] at H; exact H
              clear H
              have H := H1
              clear H1
              by_cases c39 : x16_24 = true
              ·
               subst c39
               have H1 : (some false) = some r := by rw [if_pos rfl] at H; exact H
               clear H
               have H := H1
               clear H1
               obtain rfl := Option.some.inj H
               go_wp2
               go_ret
               exact ⟨by first | rfl | (simp [errW_none, errW_some] <;> rfl) | (simp [*, errW_none, errW_some] <;> rfl) | (simp [*, errW_none, errW_some] <;> exact isEmpty_ne _), by repeat (first | (with_reducible first | exact HB.out | apply below_alloc | apply pw_below_drewN | apply below_drew1 | refine below_set ?_ GE291.out | refine below_set ?_ GE308.out) | exact HB.out)⟩
              ·
               replace c39 := Bool.eq_false_iff.mpr c39
               subst c39
               have H1 : (atlaslaw06_AttrLeast.l0 kj34 a0 a1 a2 t294 t295 ((x13_2 + 1) % 4294967296) a3_0 a3_1 a3_2 a3_3) = some r := by rw [if_neg (show ¬ (false = true) by decide)] at H; exact H
               clear H
               have H := H1
               clear H1
               have H' := Aside0.mk H
               clear H
               go_wp2
               go_roundg kj34
               case measure => have := HJ10.out; have := HK2.out; have := HJ24.out; have := HJ34.out; omega
               case rel => exact ⟨((x13_2 + 1) % 4294967296), (by first | rfl | (simp; done) | (simp [*]; done)), H', ⟨by have := HJ10.out; have := HK2.out; have := HJ24.out; have := HJ34.out; omega⟩, ⟨by (with_reducible repeat (first | refine blk_drewN ?_ _ | refine blk_drew ?_ | refine blk_alloc ?_ _)); exact BK291.out⟩, ⟨by repeat (first | (with_reducible first | exact HB.out | apply below_alloc | apply pw_below_drewN | apply below_drew1 | refine below_set ?_ GE291.out | refine below_set ?_ GE308.out) | exact HB.out)⟩⟩
        ·
         rw [if_neg c23] at H
         have c23b0 : decide (x13_2 < 64) = false := decide_eq_false c23
         clear c23
         replace H := Option.bind_eq_some_iff.mp H
         obtain ⟨t302, A400, H⟩ := H
         replace H : (some (t302 == 63)) = some r := H
         have A40 := Aside0.mk A400
         clear A400
         obtain rfl := Option.some.inj H
         go_wp2_with (first | ((with_reducible refine gate_callee (f := 15) rfl ?_); refine goesL_ (some 90) rfl rfl Tryd.func15 (by kernel_rfl) rfl #[.int .i64 t295] rfl (by (try simp only [List.map_toArray, List.map_cons, List.map_nil]); first | done | rfl | (simp only [List.length_drop, List.length_take]; rfl)) ?_; (with_reducible refine (atlaslaw06_no.calls t295 t302 _ A40.out).mono ?_); rintro e w' ⟨rfl, ⟨nd, rfl⟩⟩; refine ⟨_, rfl, ?_⟩))
         go_ret
         exact ⟨by first | rfl | (simp [errW_none, errW_some] <;> rfl) | (simp [*, errW_none, errW_some] <;> rfl) | (simp [*, errW_none, errW_some] <;> exact isEmpty_ne _), by repeat (first | (with_reducible first | exact HB.out | apply below_alloc | apply pw_below_drewN | apply below_drew1 | refine below_set ?_ GE291.out) | exact HB.out)⟩
  ·
   rw [if_neg c10] at H
   have c10b0 : (t297 == 0) = false := beq_eq_false_iff_ne.mpr c10
   have c10b1 : (t297 != 0) = true := bne_iff_ne.mpr c10
   by_cases c41 : t294 = 0
   ·
    rw [if_pos c41] at H
    have c41b0 : (t294 == 0) = true := beq_iff_eq.mpr c41
    have c41b1 : (t294 != 0) = false := bne_eq_false_iff_eq.mpr c41
    clear c41
    replace H := Option.bind_eq_some_iff.mp H
    obtain ⟨t298, A420, H⟩ := H
    replace H : (if t298 = 62 then ((atlaslaw06_no.f t295).bind fun t299 => (some (t299 == 62))) else (some false)) = some r := H
    have A42 := Aside0.mk A420
    clear A420
    by_cases c43 : t298 = 62
    ·
     rw [if_pos c43] at H
     have c43b0 : (t298 == 62) = true := beq_iff_eq.mpr c43
     have c43b1 : (t298 != 62) = false := bne_eq_false_iff_eq.mpr c43
     clear c43
     replace H := Option.bind_eq_some_iff.mp H
     obtain ⟨t299, A440, H⟩ := H
     replace H : (some (t299 == 62)) = some r := H
     have A44 := Aside0.mk A440
     clear A440
     obtain rfl := Option.some.inj H
     go_enter Tryd.func7, Tryd.ntmps7
     go_wp2_with (first | ((with_reducible refine gate_dst (N := 7) rfl ?_); refine box_event ?hg (N := 7) ?hd (cs := #[.int .i64 a3_0, .int .i64 a3_1, .int .i64 a3_2, .int .i64 a3_3]) (t := 24) ?hr ?_; (case hd => rfl); (case hg => rfl); (case hr => first | (go_simp; done) | (go_simp; rfl)); intro gb291 hg w45 hbox hb; have n0_ := Aside0.mk (below_step (by repeat (first | (with_reducible first | exact HB.out | apply below_alloc | apply pw_below_drewN | apply below_drew1) | exact HB.out)) hb); have n1_ := Aside0.mk (hbox); have n2_ := Aside0.mk ((by rw [hg]; exact (below_size (by repeat (first | (with_reducible first | exact HB.out | apply below_alloc | apply pw_below_drewN | apply below_drew1) | exact HB.out))) : w.heap.size ≤ gb291)); have n3_ := Aside0.mk ((by rw [hg]; exact (below_size (by repeat (first | (with_reducible first | exact HB.out | apply below_alloc | apply pw_below_drewN | apply below_drew1) | exact HB.out))) : w.heap.size ≤ gb291)); clear HB; have HB := n0_; have BK291 := n1_; have GW291 := n2_; have GE291 := n3_; clear n0_ n1_ n2_ n3_; clear hb hbox hg; have hcz46_0 : w45.cell? ⟨gb291, 0, none⟩ = some (.int .i64 a3_0) := (blk_cell BK291.out 0).trans rfl; have hcz46_1 : w45.cell? ⟨gb291, 1, none⟩ = some (.int .i64 a3_1) := (blk_cell BK291.out 1).trans rfl; have hcz46_2 : w45.cell? ⟨gb291, 2, none⟩ = some (.int .i64 a3_2) := (blk_cell BK291.out 2).trans rfl; have hcz46_3 : w45.cell? ⟨gb291, 3, none⟩ = some (.int .i64 a3_3) := (blk_cell BK291.out 3).trans rfl; have hfz46_0 := blk_frozen BK291.out 0; have hfz46_1 := blk_frozen BK291.out 1; have hfz46_2 := blk_frozen BK291.out 2; have hfz46_3 := blk_frozen BK291.out 3) | ((with_reducible refine gate_callee (f := 18) rfl ?_); refine goesL_ (some 19) rfl rfl Tryd.func18 (by kernel_rfl) rfl #[.agg #[.int .i64 a3_0, .int .i64 a3_1, .int .i64 a3_2, .int .i64 a3_3]] rfl (by (try simp only [List.map_toArray, List.map_cons, List.map_nil]); first | done | rfl | (simp only [List.length_drop, List.length_take]; rfl)) ?_; (with_reducible refine (attr_Show.calls k a3_0 a3_1 a3_2 a3_3 t292 t293 _ ?side1 ?side2 A5.out).mono ?_); (case side1 => exact ⟨G1.below hG1.out (by repeat (first | (with_reducible first | exact HB.out | apply below_alloc | apply pw_below_drewN | apply below_drew1 | refine below_set ?_ GE291.out) | exact HB.out))⟩); (case side2 => exact ⟨G2.below hG2.out (by repeat (first | (with_reducible first | exact HB.out | apply below_alloc | apply pw_below_drewN | apply below_drew1 | refine below_set ?_ GE291.out) | exact HB.out))⟩); rintro e w47 ⟨rfl, hb⟩; refine ⟨_, rfl, ?_⟩; have n0_ := Aside0.mk (blk_below (g := gb291) (o := .cells #[.int .i64 a3_0, .int .i64 a3_1, .int .i64 a3_2, .int .i64 a3_3] 24 (0, 0)) (by (with_reducible repeat (first | refine blk_drewN ?_ _ | refine blk_drew ?_ | refine blk_alloc ?_ _)); exact BK291.out) hb); have n1_ := Aside0.mk (below_step (by repeat (first | (with_reducible first | exact HB.out | apply below_alloc | apply pw_below_drewN | apply below_drew1 | refine below_set ?_ GE291.out) | exact HB.out)) hb); clear BK291; clear HB; have BK291 := n0_; have HB := n1_; clear n0_ n1_; (try clear hb); (try clear hb2); (try clear hk); (try clear hi); have hcz48_0 : w47.cell? ⟨gb291, 0, none⟩ = some (.int .i64 a3_0) := (blk_cell BK291.out 0).trans rfl; have hcz48_1 : w47.cell? ⟨gb291, 1, none⟩ = some (.int .i64 a3_1) := (blk_cell BK291.out 1).trans rfl; have hcz48_2 : w47.cell? ⟨gb291, 2, none⟩ = some (.int .i64 a3_2) := (blk_cell BK291.out 2).trans rfl; have hcz48_3 : w47.cell? ⟨gb291, 3, none⟩ = some (.int .i64 a3_3) := (blk_cell BK291.out 3).trans rfl; have hfz48_0 := blk_frozen BK291.out 0; have hfz48_1 := blk_frozen BK291.out 1; have hfz48_2 := blk_frozen BK291.out 2; have hfz48_3 := blk_frozen BK291.out 3) | ((with_reducible refine gate_callee (f := 16) rfl ?_); refine goesL_ (some 27) rfl rfl Tryd.func16 (by kernel_rfl) rfl #[.bool a0, .int .u32 a1, .int .u32 a2, .agg #[.int .i64 a3_0, .int .i64 a3_1, .int .i64 a3_2, .int .i64 a3_3]] rfl (by (try simp only [List.map_toArray, List.map_cons, List.map_nil]); first | done | rfl | (simp only [List.length_drop, List.length_take]; rfl)) ?_; (with_reducible refine (attr_Find.calls k a0 a1 a2 a3_0 a3_1 a3_2 a3_3 t294 t295 _ ?side1 A6.out).mono ?_); (case side1 => exact ⟨G0.below hG0.out (by repeat (first | (with_reducible first | exact HB.out | apply below_alloc | apply pw_below_drewN | apply below_drew1 | refine below_set ?_ GE291.out) | exact HB.out))⟩); rintro e w49 ⟨rfl, hb⟩; refine ⟨_, rfl, ?_⟩; have n0_ := Aside0.mk (blk_below (g := gb291) (o := .cells #[.int .i64 a3_0, .int .i64 a3_1, .int .i64 a3_2, .int .i64 a3_3] 24 (0, 0)) (by (with_reducible repeat (first | refine blk_drewN ?_ _ | refine blk_drew ?_ | refine blk_alloc ?_ _)); exact BK291.out) hb); have n1_ := Aside0.mk (below_step (by repeat (first | (with_reducible first | exact HB.out | apply below_alloc | apply pw_below_drewN | apply below_drew1 | refine below_set ?_ GE291.out) | exact HB.out)) hb); clear BK291; clear HB; have BK291 := n0_; have HB := n1_; clear n0_ n1_; (try clear hb); (try clear hb2); (try clear hk); (try clear hi)) | ((with_reducible refine gate_callee (f := 14) rfl ?_); refine goesL_ (some 30) rfl rfl Tryd.func14 (by kernel_rfl) rfl #[] rfl (by (try simp only [List.map_toArray, List.map_cons, List.map_nil]); first | done | rfl | (simp only [List.length_drop, List.length_take]; rfl)) ?_; (with_reducible refine (atlaslaw06_live.calls k  true _ ?side1 ?side2 ?side3 ?side4 A7.out).mono ?_); (case side1 => exact ⟨G0.below hG0.out (by repeat (first | (with_reducible first | exact HB.out | apply below_alloc | apply pw_below_drewN | apply below_drew1 | refine below_set ?_ GE291.out) | exact HB.out))⟩); (case side2 => exact ⟨G1.below hG1.out (by repeat (first | (with_reducible first | exact HB.out | apply below_alloc | apply pw_below_drewN | apply below_drew1 | refine below_set ?_ GE291.out) | exact HB.out))⟩); (case side3 => exact ⟨G2.below hG2.out (by repeat (first | (with_reducible first | exact HB.out | apply below_alloc | apply pw_below_drewN | apply below_drew1 | refine below_set ?_ GE291.out) | exact HB.out))⟩); (case side4 => exact ⟨G3.below hG3.out (by repeat (first | (with_reducible first | exact HB.out | apply below_alloc | apply pw_below_drewN | apply below_drew1 | refine below_set ?_ GE291.out) | exact HB.out))⟩); rintro e w50 ⟨rfl, hb⟩; refine ⟨_, rfl, ?_⟩; have n0_ := Aside0.mk (blk_below (g := gb291) (o := .cells #[.int .i64 a3_0, .int .i64 a3_1, .int .i64 a3_2, .int .i64 a3_3] 24 (0, 0)) (by (with_reducible repeat (first | refine blk_drewN ?_ _ | refine blk_drew ?_ | refine blk_alloc ?_ _)); exact BK291.out) hb); have n1_ := Aside0.mk (below_step (by repeat (first | (with_reducible first | exact HB.out | apply below_alloc | apply pw_below_drewN | apply below_drew1 | refine below_set ?_ GE291.out) | exact HB.out)) hb); clear BK291; clear HB; have BK291 := n0_; have HB := n1_; clear n0_ n1_; (try clear hb); (try clear hb2); (try clear hk); (try clear hi)) | ((with_reducible refine gate_callee (f := 15) rfl ?_); refine goesL_ (some 33) rfl rfl Tryd.func15 (by kernel_rfl) rfl #[.int .i64 t293] rfl (by (try simp only [List.map_toArray, List.map_cons, List.map_nil]); first | done | rfl | (simp only [List.length_drop, List.length_take]; rfl)) ?_; (with_reducible refine (atlaslaw06_no.calls t293 t297 _ A9.out).mono ?_); rintro e w' ⟨rfl, ⟨nd, rfl⟩⟩; refine ⟨_, rfl, ?_⟩) | (go_at_call 15; (with_reducible refine (atlaslaw06_no.calls t293 t298 _ A42.out).mono ?_); rintro e w' ⟨rfl, ⟨nd, rfl⟩⟩) | (go_at_call 15; (with_reducible refine (atlaslaw06_no.calls t295 t299 _ A44.out).mono ?_); rintro e w' ⟨rfl, ⟨nd, rfl⟩⟩))
     go_ret
     exact ⟨by first | rfl | (simp [errW_none, errW_some] <;> rfl) | (simp [*, errW_none, errW_some] <;> rfl) | (simp [*, errW_none, errW_some] <;> exact isEmpty_ne _), by repeat (first | (with_reducible first | exact HB.out | apply below_alloc | apply pw_below_drewN | apply below_drew1 | refine below_set ?_ GE291.out) | exact HB.out)⟩
    ·
     rw [if_neg c43] at H
     have c43b0 : (t298 == 62) = false := beq_eq_false_iff_ne.mpr c43
     have c43b1 : (t298 != 62) = true := bne_iff_ne.mpr c43
     obtain rfl := Option.some.inj H
     go_enter Tryd.func7, Tryd.ntmps7
     go_wp2_with (first | ((with_reducible refine gate_dst (N := 7) rfl ?_); refine box_event ?hg (N := 7) ?hd (cs := #[.int .i64 a3_0, .int .i64 a3_1, .int .i64 a3_2, .int .i64 a3_3]) (t := 24) ?hr ?_; (case hd => rfl); (case hg => rfl); (case hr => first | (go_simp; done) | (go_simp; rfl)); intro gb291 hg w51 hbox hb; have n0_ := Aside0.mk (below_step (by repeat (first | (with_reducible first | exact HB.out | apply below_alloc | apply pw_below_drewN | apply below_drew1) | exact HB.out)) hb); have n1_ := Aside0.mk (hbox); have n2_ := Aside0.mk ((by rw [hg]; exact (below_size (by repeat (first | (with_reducible first | exact HB.out | apply below_alloc | apply pw_below_drewN | apply below_drew1) | exact HB.out))) : w.heap.size ≤ gb291)); have n3_ := Aside0.mk ((by rw [hg]; exact (below_size (by repeat (first | (with_reducible first | exact HB.out | apply below_alloc | apply pw_below_drewN | apply below_drew1) | exact HB.out))) : w.heap.size ≤ gb291)); clear HB; have HB := n0_; have BK291 := n1_; have GW291 := n2_; have GE291 := n3_; clear n0_ n1_ n2_ n3_; clear hb hbox hg; have hcz52_0 : w51.cell? ⟨gb291, 0, none⟩ = some (.int .i64 a3_0) := (blk_cell BK291.out 0).trans rfl; have hcz52_1 : w51.cell? ⟨gb291, 1, none⟩ = some (.int .i64 a3_1) := (blk_cell BK291.out 1).trans rfl; have hcz52_2 : w51.cell? ⟨gb291, 2, none⟩ = some (.int .i64 a3_2) := (blk_cell BK291.out 2).trans rfl; have hcz52_3 : w51.cell? ⟨gb291, 3, none⟩ = some (.int .i64 a3_3) := (blk_cell BK291.out 3).trans rfl; have hfz52_0 := blk_frozen BK291.out 0; have hfz52_1 := blk_frozen BK291.out 1; have hfz52_2 := blk_frozen BK291.out 2; have hfz52_3 := blk_frozen BK291.out 3) | ((with_reducible refine gate_callee (f := 18) rfl ?_); refine goesL_ (some 19) rfl rfl Tryd.func18 (by kernel_rfl) rfl #[.agg #[.int .i64 a3_0, .int .i64 a3_1, .int .i64 a3_2, .int .i64 a3_3]] rfl (by (try simp only [List.map_toArray, List.map_cons, List.map_nil]); first | done | rfl | (simp only [List.length_drop, List.length_take]; rfl)) ?_; (with_reducible refine (attr_Show.calls k a3_0 a3_1 a3_2 a3_3 t292 t293 _ ?side1 ?side2 A5.out).mono ?_); (case side1 => exact ⟨G1.below hG1.out (by repeat (first | (with_reducible first | exact HB.out | apply below_alloc | apply pw_below_drewN | apply below_drew1 | refine below_set ?_ GE291.out) | exact HB.out))⟩); (case side2 => exact ⟨G2.below hG2.out (by repeat (first | (with_reducible first | exact HB.out | apply below_alloc | apply pw_below_drewN | apply below_drew1 | refine below_set ?_ GE291.out) | exact HB.out))⟩); rintro e w53 ⟨rfl, hb⟩; refine ⟨_, rfl, ?_⟩; have n0_ := Aside0.mk (blk_below (g := gb291) (o := .cells #[.int .i64 a3_0, .int .i64 a3_1, .int .i64 a3_2, .int .i64 a3_3] 24 (0, 0)) (by (with_reducible repeat (first | refine blk_drewN ?_ _ | refine blk_drew ?_ | refine blk_alloc ?_ _)); exact BK291.out) hb); have n1_ := Aside0.mk (below_step (by repeat (first | (with_reducible first | exact HB.out | apply below_alloc | apply pw_below_drewN | apply below_drew1 | refine below_set ?_ GE291.out) | exact HB.out)) hb); clear BK291; clear HB; have BK291 := n0_; have HB := n1_; clear n0_ n1_; (try clear hb); (try clear hb2); (try clear hk); (try clear hi); have hcz54_0 : w53.cell? ⟨gb291, 0, none⟩ = some (.int .i64 a3_0) := (blk_cell BK291.out 0).trans rfl; have hcz54_1 : w53.cell? ⟨gb291, 1, none⟩ = some (.int .i64 a3_1) := (blk_cell BK291.out 1).trans rfl; have hcz54_2 : w53.cell? ⟨gb291, 2, none⟩ = some (.int .i64 a3_2) := (blk_cell BK291.out 2).trans rfl; have hcz54_3 : w53.cell? ⟨gb291, 3, none⟩ = some (.int .i64 a3_3) := (blk_cell BK291.out 3).trans rfl; have hfz54_0 := blk_frozen BK291.out 0; have hfz54_1 := blk_frozen BK291.out 1; have hfz54_2 := blk_frozen BK291.out 2; have hfz54_3 := blk_frozen BK291.out 3) | ((with_reducible refine gate_callee (f := 16) rfl ?_); refine goesL_ (some 27) rfl rfl Tryd.func16 (by kernel_rfl) rfl #[.bool a0, .int .u32 a1, .int .u32 a2, .agg #[.int .i64 a3_0, .int .i64 a3_1, .int .i64 a3_2, .int .i64 a3_3]] rfl (by (try simp only [List.map_toArray, List.map_cons, List.map_nil]); first | done | rfl | (simp only [List.length_drop, List.length_take]; rfl)) ?_; (with_reducible refine (attr_Find.calls k a0 a1 a2 a3_0 a3_1 a3_2 a3_3 t294 t295 _ ?side1 A6.out).mono ?_); (case side1 => exact ⟨G0.below hG0.out (by repeat (first | (with_reducible first | exact HB.out | apply below_alloc | apply pw_below_drewN | apply below_drew1 | refine below_set ?_ GE291.out) | exact HB.out))⟩); rintro e w55 ⟨rfl, hb⟩; refine ⟨_, rfl, ?_⟩; have n0_ := Aside0.mk (blk_below (g := gb291) (o := .cells #[.int .i64 a3_0, .int .i64 a3_1, .int .i64 a3_2, .int .i64 a3_3] 24 (0, 0)) (by (with_reducible repeat (first | refine blk_drewN ?_ _ | refine blk_drew ?_ | refine blk_alloc ?_ _)); exact BK291.out) hb); have n1_ := Aside0.mk (below_step (by repeat (first | (with_reducible first | exact HB.out | apply below_alloc | apply pw_below_drewN | apply below_drew1 | refine below_set ?_ GE291.out) | exact HB.out)) hb); clear BK291; clear HB; have BK291 := n0_; have HB := n1_; clear n0_ n1_; (try clear hb); (try clear hb2); (try clear hk); (try clear hi)) | ((with_reducible refine gate_callee (f := 14) rfl ?_); refine goesL_ (some 30) rfl rfl Tryd.func14 (by kernel_rfl) rfl #[] rfl (by (try simp only [List.map_toArray, List.map_cons, List.map_nil]); first | done | rfl | (simp only [List.length_drop, List.length_take]; rfl)) ?_; (with_reducible refine (atlaslaw06_live.calls k  true _ ?side1 ?side2 ?side3 ?side4 A7.out).mono ?_); (case side1 => exact ⟨G0.below hG0.out (by repeat (first | (with_reducible first | exact HB.out | apply below_alloc | apply pw_below_drewN | apply below_drew1 | refine below_set ?_ GE291.out) | exact HB.out))⟩); (case side2 => exact ⟨G1.below hG1.out (by repeat (first | (with_reducible first | exact HB.out | apply below_alloc | apply pw_below_drewN | apply below_drew1 | refine below_set ?_ GE291.out) | exact HB.out))⟩); (case side3 => exact ⟨G2.below hG2.out (by repeat (first | (with_reducible first | exact HB.out | apply below_alloc | apply pw_below_drewN | apply below_drew1 | refine below_set ?_ GE291.out) | exact HB.out))⟩); (case side4 => exact ⟨G3.below hG3.out (by repeat (first | (with_reducible first | exact HB.out | apply below_alloc | apply pw_below_drewN | apply below_drew1 | refine below_set ?_ GE291.out) | exact HB.out))⟩); rintro e w56 ⟨rfl, hb⟩; refine ⟨_, rfl, ?_⟩; have n0_ := Aside0.mk (blk_below (g := gb291) (o := .cells #[.int .i64 a3_0, .int .i64 a3_1, .int .i64 a3_2, .int .i64 a3_3] 24 (0, 0)) (by (with_reducible repeat (first | refine blk_drewN ?_ _ | refine blk_drew ?_ | refine blk_alloc ?_ _)); exact BK291.out) hb); have n1_ := Aside0.mk (below_step (by repeat (first | (with_reducible first | exact HB.out | apply below_alloc | apply pw_below_drewN | apply below_drew1 | refine below_set ?_ GE291.out) | exact HB.out)) hb); clear BK291; clear HB; have BK291 := n0_; have HB := n1_; clear n0_ n1_; (try clear hb); (try clear hb2); (try clear hk); (try clear hi)) | ((with_reducible refine gate_callee (f := 15) rfl ?_); refine goesL_ (some 33) rfl rfl Tryd.func15 (by kernel_rfl) rfl #[.int .i64 t293] rfl (by (try simp only [List.map_toArray, List.map_cons, List.map_nil]); first | done | rfl | (simp only [List.length_drop, List.length_take]; rfl)) ?_; (with_reducible refine (atlaslaw06_no.calls t293 t297 _ A9.out).mono ?_); rintro e w' ⟨rfl, ⟨nd, rfl⟩⟩; refine ⟨_, rfl, ?_⟩) | (go_at_call 15; (with_reducible refine (atlaslaw06_no.calls t293 t298 _ A42.out).mono ?_); rintro e w' ⟨rfl, ⟨nd, rfl⟩⟩))
     go_ret
     exact ⟨by first | rfl | (simp [errW_none, errW_some] <;> rfl) | (simp [*, errW_none, errW_some] <;> rfl) | (simp [*, errW_none, errW_some] <;> exact isEmpty_ne _), by repeat (first | (with_reducible first | exact HB.out | apply below_alloc | apply pw_below_drewN | apply below_drew1 | refine below_set ?_ GE291.out) | exact HB.out)⟩
   ·
    rw [if_neg c41] at H
    have c41b0 : (t294 == 0) = false := beq_eq_false_iff_ne.mpr c41
    have c41b1 : (t294 != 0) = true := bne_iff_ne.mpr c41
    obtain rfl := Option.some.inj H
    go_enter Tryd.func7, Tryd.ntmps7
    go_wp2_with (first | ((with_reducible refine gate_dst (N := 7) rfl ?_); refine box_event ?hg (N := 7) ?hd (cs := #[.int .i64 a3_0, .int .i64 a3_1, .int .i64 a3_2, .int .i64 a3_3]) (t := 24) ?hr ?_; (case hd => rfl); (case hg => rfl); (case hr => first | (go_simp; done) | (go_simp; rfl)); intro gb291 hg w57 hbox hb; have n0_ := Aside0.mk (below_step (by repeat (first | (with_reducible first | exact HB.out | apply below_alloc | apply pw_below_drewN | apply below_drew1) | exact HB.out)) hb); have n1_ := Aside0.mk (hbox); have n2_ := Aside0.mk ((by rw [hg]; exact (below_size (by repeat (first | (with_reducible first | exact HB.out | apply below_alloc | apply pw_below_drewN | apply below_drew1) | exact HB.out))) : w.heap.size ≤ gb291)); have n3_ := Aside0.mk ((by rw [hg]; exact (below_size (by repeat (first | (with_reducible first | exact HB.out | apply below_alloc | apply pw_below_drewN | apply below_drew1) | exact HB.out))) : w.heap.size ≤ gb291)); clear HB; have HB := n0_; have BK291 := n1_; have GW291 := n2_; have GE291 := n3_; clear n0_ n1_ n2_ n3_; clear hb hbox hg; have hcz58_0 : w57.cell? ⟨gb291, 0, none⟩ = some (.int .i64 a3_0) := (blk_cell BK291.out 0).trans rfl; have hcz58_1 : w57.cell? ⟨gb291, 1, none⟩ = some (.int .i64 a3_1) := (blk_cell BK291.out 1).trans rfl; have hcz58_2 : w57.cell? ⟨gb291, 2, none⟩ = some (.int .i64 a3_2) := (blk_cell BK291.out 2).trans rfl; have hcz58_3 : w57.cell? ⟨gb291, 3, none⟩ = some (.int .i64 a3_3) := (blk_cell BK291.out 3).trans rfl; have hfz58_0 := blk_frozen BK291.out 0; have hfz58_1 := blk_frozen BK291.out 1; have hfz58_2 := blk_frozen BK291.out 2; have hfz58_3 := blk_frozen BK291.out 3) | ((with_reducible refine gate_callee (f := 18) rfl ?_); refine goesL_ (some 19) rfl rfl Tryd.func18 (by kernel_rfl) rfl #[.agg #[.int .i64 a3_0, .int .i64 a3_1, .int .i64 a3_2, .int .i64 a3_3]] rfl (by (try simp only [List.map_toArray, List.map_cons, List.map_nil]); first | done | rfl | (simp only [List.length_drop, List.length_take]; rfl)) ?_; (with_reducible refine (attr_Show.calls k a3_0 a3_1 a3_2 a3_3 t292 t293 _ ?side1 ?side2 A5.out).mono ?_); (case side1 => exact ⟨G1.below hG1.out (by repeat (first | (with_reducible first | exact HB.out | apply below_alloc | apply pw_below_drewN | apply below_drew1 | refine below_set ?_ GE291.out) | exact HB.out))⟩); (case side2 => exact ⟨G2.below hG2.out (by repeat (first | (with_reducible first | exact HB.out | apply below_alloc | apply pw_below_drewN | apply below_drew1 | refine below_set ?_ GE291.out) | exact HB.out))⟩); rintro e w59 ⟨rfl, hb⟩; refine ⟨_, rfl, ?_⟩; have n0_ := Aside0.mk (blk_below (g := gb291) (o := .cells #[.int .i64 a3_0, .int .i64 a3_1, .int .i64 a3_2, .int .i64 a3_3] 24 (0, 0)) (by (with_reducible repeat (first | refine blk_drewN ?_ _ | refine blk_drew ?_ | refine blk_alloc ?_ _)); exact BK291.out) hb); have n1_ := Aside0.mk (below_step (by repeat (first | (with_reducible first | exact HB.out | apply below_alloc | apply pw_below_drewN | apply below_drew1 | refine below_set ?_ GE291.out) | exact HB.out)) hb); clear BK291; clear HB; have BK291 := n0_; have HB := n1_; clear n0_ n1_; (try clear hb); (try clear hb2); (try clear hk); (try clear hi); have hcz60_0 : w59.cell? ⟨gb291, 0, none⟩ = some (.int .i64 a3_0) := (blk_cell BK291.out 0).trans rfl; have hcz60_1 : w59.cell? ⟨gb291, 1, none⟩ = some (.int .i64 a3_1) := (blk_cell BK291.out 1).trans rfl; have hcz60_2 : w59.cell? ⟨gb291, 2, none⟩ = some (.int .i64 a3_2) := (blk_cell BK291.out 2).trans rfl; have hcz60_3 : w59.cell? ⟨gb291, 3, none⟩ = some (.int .i64 a3_3) := (blk_cell BK291.out 3).trans rfl; have hfz60_0 := blk_frozen BK291.out 0; have hfz60_1 := blk_frozen BK291.out 1; have hfz60_2 := blk_frozen BK291.out 2; have hfz60_3 := blk_frozen BK291.out 3) | ((with_reducible refine gate_callee (f := 16) rfl ?_); refine goesL_ (some 27) rfl rfl Tryd.func16 (by kernel_rfl) rfl #[.bool a0, .int .u32 a1, .int .u32 a2, .agg #[.int .i64 a3_0, .int .i64 a3_1, .int .i64 a3_2, .int .i64 a3_3]] rfl (by (try simp only [List.map_toArray, List.map_cons, List.map_nil]); first | done | rfl | (simp only [List.length_drop, List.length_take]; rfl)) ?_; (with_reducible refine (attr_Find.calls k a0 a1 a2 a3_0 a3_1 a3_2 a3_3 t294 t295 _ ?side1 A6.out).mono ?_); (case side1 => exact ⟨G0.below hG0.out (by repeat (first | (with_reducible first | exact HB.out | apply below_alloc | apply pw_below_drewN | apply below_drew1 | refine below_set ?_ GE291.out) | exact HB.out))⟩); rintro e w61 ⟨rfl, hb⟩; refine ⟨_, rfl, ?_⟩; have n0_ := Aside0.mk (blk_below (g := gb291) (o := .cells #[.int .i64 a3_0, .int .i64 a3_1, .int .i64 a3_2, .int .i64 a3_3] 24 (0, 0)) (by (with_reducible repeat (first | refine blk_drewN ?_ _ | refine blk_drew ?_ | refine blk_alloc ?_ _)); exact BK291.out) hb); have n1_ := Aside0.mk (below_step (by repeat (first | (with_reducible first | exact HB.out | apply below_alloc | apply pw_below_drewN | apply below_drew1 | refine below_set ?_ GE291.out) | exact HB.out)) hb); clear BK291; clear HB; have BK291 := n0_; have HB := n1_; clear n0_ n1_; (try clear hb); (try clear hb2); (try clear hk); (try clear hi)) | ((with_reducible refine gate_callee (f := 14) rfl ?_); refine goesL_ (some 30) rfl rfl Tryd.func14 (by kernel_rfl) rfl #[] rfl (by (try simp only [List.map_toArray, List.map_cons, List.map_nil]); first | done | rfl | (simp only [List.length_drop, List.length_take]; rfl)) ?_; (with_reducible refine (atlaslaw06_live.calls k  true _ ?side1 ?side2 ?side3 ?side4 A7.out).mono ?_); (case side1 => exact ⟨G0.below hG0.out (by repeat (first | (with_reducible first | exact HB.out | apply below_alloc | apply pw_below_drewN | apply below_drew1 | refine below_set ?_ GE291.out) | exact HB.out))⟩); (case side2 => exact ⟨G1.below hG1.out (by repeat (first | (with_reducible first | exact HB.out | apply below_alloc | apply pw_below_drewN | apply below_drew1 | refine below_set ?_ GE291.out) | exact HB.out))⟩); (case side3 => exact ⟨G2.below hG2.out (by repeat (first | (with_reducible first | exact HB.out | apply below_alloc | apply pw_below_drewN | apply below_drew1 | refine below_set ?_ GE291.out) | exact HB.out))⟩); (case side4 => exact ⟨G3.below hG3.out (by repeat (first | (with_reducible first | exact HB.out | apply below_alloc | apply pw_below_drewN | apply below_drew1 | refine below_set ?_ GE291.out) | exact HB.out))⟩); rintro e w62 ⟨rfl, hb⟩; refine ⟨_, rfl, ?_⟩; have n0_ := Aside0.mk (blk_below (g := gb291) (o := .cells #[.int .i64 a3_0, .int .i64 a3_1, .int .i64 a3_2, .int .i64 a3_3] 24 (0, 0)) (by (with_reducible repeat (first | refine blk_drewN ?_ _ | refine blk_drew ?_ | refine blk_alloc ?_ _)); exact BK291.out) hb); have n1_ := Aside0.mk (below_step (by repeat (first | (with_reducible first | exact HB.out | apply below_alloc | apply pw_below_drewN | apply below_drew1 | refine below_set ?_ GE291.out) | exact HB.out)) hb); clear BK291; clear HB; have BK291 := n0_; have HB := n1_; clear n0_ n1_; (try clear hb); (try clear hb2); (try clear hk); (try clear hi)) | ((with_reducible refine gate_callee (f := 15) rfl ?_); refine goesL_ (some 33) rfl rfl Tryd.func15 (by kernel_rfl) rfl #[.int .i64 t293] rfl (by (try simp only [List.map_toArray, List.map_cons, List.map_nil]); first | done | rfl | (simp only [List.length_drop, List.length_take]; rfl)) ?_; (with_reducible refine (atlaslaw06_no.calls t293 t297 _ A9.out).mono ?_); rintro e w' ⟨rfl, ⟨nd, rfl⟩⟩; refine ⟨_, rfl, ?_⟩))
    go_ret
    exact ⟨by first | rfl | (simp [errW_none, errW_some] <;> rfl) | (simp [*, errW_none, errW_some] <;> rfl) | (simp [*, errW_none, errW_some] <;> exact isEmpty_ne _), by repeat (first | (with_reducible first | exact HB.out | apply below_alloc | apply pw_below_drewN | apply below_drew1 | refine below_set ?_ GE291.out) | exact HB.out)⟩
 ·
  replace c8 := Bool.eq_false_iff.mpr c8
  subst c8
  have H1 : (some false) = some r := by rw [if_neg (show ¬ (false = true) by decide)] at H; exact H
  clear H
  have H := H1
  clear H1
  obtain rfl := Option.some.inj H
  go_enter Tryd.func7, Tryd.ntmps7
  go_wp2_with (first | ((with_reducible refine gate_dst (N := 7) rfl ?_); refine box_event ?hg (N := 7) ?hd (cs := #[.int .i64 a3_0, .int .i64 a3_1, .int .i64 a3_2, .int .i64 a3_3]) (t := 24) ?hr ?_; (case hd => rfl); (case hg => rfl); (case hr => first | (go_simp; done) | (go_simp; rfl)); intro gb291 hg w63 hbox hb; have n0_ := Aside0.mk (below_step (by repeat (first | (with_reducible first | exact HB.out | apply below_alloc | apply pw_below_drewN | apply below_drew1) | exact HB.out)) hb); have n1_ := Aside0.mk (hbox); have n2_ := Aside0.mk ((by rw [hg]; exact (below_size (by repeat (first | (with_reducible first | exact HB.out | apply below_alloc | apply pw_below_drewN | apply below_drew1) | exact HB.out))) : w.heap.size ≤ gb291)); have n3_ := Aside0.mk ((by rw [hg]; exact (below_size (by repeat (first | (with_reducible first | exact HB.out | apply below_alloc | apply pw_below_drewN | apply below_drew1) | exact HB.out))) : w.heap.size ≤ gb291)); clear HB; have HB := n0_; have BK291 := n1_; have GW291 := n2_; have GE291 := n3_; clear n0_ n1_ n2_ n3_; clear hb hbox hg; have hcz64_0 : w63.cell? ⟨gb291, 0, none⟩ = some (.int .i64 a3_0) := (blk_cell BK291.out 0).trans rfl; have hcz64_1 : w63.cell? ⟨gb291, 1, none⟩ = some (.int .i64 a3_1) := (blk_cell BK291.out 1).trans rfl; have hcz64_2 : w63.cell? ⟨gb291, 2, none⟩ = some (.int .i64 a3_2) := (blk_cell BK291.out 2).trans rfl; have hcz64_3 : w63.cell? ⟨gb291, 3, none⟩ = some (.int .i64 a3_3) := (blk_cell BK291.out 3).trans rfl; have hfz64_0 := blk_frozen BK291.out 0; have hfz64_1 := blk_frozen BK291.out 1; have hfz64_2 := blk_frozen BK291.out 2; have hfz64_3 := blk_frozen BK291.out 3) | ((with_reducible refine gate_callee (f := 18) rfl ?_); refine goesL_ (some 19) rfl rfl Tryd.func18 (by kernel_rfl) rfl #[.agg #[.int .i64 a3_0, .int .i64 a3_1, .int .i64 a3_2, .int .i64 a3_3]] rfl (by (try simp only [List.map_toArray, List.map_cons, List.map_nil]); first | done | rfl | (simp only [List.length_drop, List.length_take]; rfl)) ?_; (with_reducible refine (attr_Show.calls k a3_0 a3_1 a3_2 a3_3 t292 t293 _ ?side1 ?side2 A5.out).mono ?_); (case side1 => exact ⟨G1.below hG1.out (by repeat (first | (with_reducible first | exact HB.out | apply below_alloc | apply pw_below_drewN | apply below_drew1 | refine below_set ?_ GE291.out) | exact HB.out))⟩); (case side2 => exact ⟨G2.below hG2.out (by repeat (first | (with_reducible first | exact HB.out | apply below_alloc | apply pw_below_drewN | apply below_drew1 | refine below_set ?_ GE291.out) | exact HB.out))⟩); rintro e w65 ⟨rfl, hb⟩; refine ⟨_, rfl, ?_⟩; have n0_ := Aside0.mk (blk_below (g := gb291) (o := .cells #[.int .i64 a3_0, .int .i64 a3_1, .int .i64 a3_2, .int .i64 a3_3] 24 (0, 0)) (by (with_reducible repeat (first | refine blk_drewN ?_ _ | refine blk_drew ?_ | refine blk_alloc ?_ _)); exact BK291.out) hb); have n1_ := Aside0.mk (below_step (by repeat (first | (with_reducible first | exact HB.out | apply below_alloc | apply pw_below_drewN | apply below_drew1 | refine below_set ?_ GE291.out) | exact HB.out)) hb); clear BK291; clear HB; have BK291 := n0_; have HB := n1_; clear n0_ n1_; (try clear hb); (try clear hb2); (try clear hk); (try clear hi); have hcz66_0 : w65.cell? ⟨gb291, 0, none⟩ = some (.int .i64 a3_0) := (blk_cell BK291.out 0).trans rfl; have hcz66_1 : w65.cell? ⟨gb291, 1, none⟩ = some (.int .i64 a3_1) := (blk_cell BK291.out 1).trans rfl; have hcz66_2 : w65.cell? ⟨gb291, 2, none⟩ = some (.int .i64 a3_2) := (blk_cell BK291.out 2).trans rfl; have hcz66_3 : w65.cell? ⟨gb291, 3, none⟩ = some (.int .i64 a3_3) := (blk_cell BK291.out 3).trans rfl; have hfz66_0 := blk_frozen BK291.out 0; have hfz66_1 := blk_frozen BK291.out 1; have hfz66_2 := blk_frozen BK291.out 2; have hfz66_3 := blk_frozen BK291.out 3) | ((with_reducible refine gate_callee (f := 16) rfl ?_); refine goesL_ (some 27) rfl rfl Tryd.func16 (by kernel_rfl) rfl #[.bool a0, .int .u32 a1, .int .u32 a2, .agg #[.int .i64 a3_0, .int .i64 a3_1, .int .i64 a3_2, .int .i64 a3_3]] rfl (by (try simp only [List.map_toArray, List.map_cons, List.map_nil]); first | done | rfl | (simp only [List.length_drop, List.length_take]; rfl)) ?_; (with_reducible refine (attr_Find.calls k a0 a1 a2 a3_0 a3_1 a3_2 a3_3 t294 t295 _ ?side1 A6.out).mono ?_); (case side1 => exact ⟨G0.below hG0.out (by repeat (first | (with_reducible first | exact HB.out | apply below_alloc | apply pw_below_drewN | apply below_drew1 | refine below_set ?_ GE291.out) | exact HB.out))⟩); rintro e w67 ⟨rfl, hb⟩; refine ⟨_, rfl, ?_⟩; have n0_ := Aside0.mk (blk_below (g := gb291) (o := .cells #[.int .i64 a3_0, .int .i64 a3_1, .int .i64 a3_2, .int .i64 a3_3] 24 (0, 0)) (by (with_reducible repeat (first | refine blk_drewN ?_ _ | refine blk_drew ?_ | refine blk_alloc ?_ _)); exact BK291.out) hb); have n1_ := Aside0.mk (below_step (by repeat (first | (with_reducible first | exact HB.out | apply below_alloc | apply pw_below_drewN | apply below_drew1 | refine below_set ?_ GE291.out) | exact HB.out)) hb); clear BK291; clear HB; have BK291 := n0_; have HB := n1_; clear n0_ n1_; (try clear hb); (try clear hb2); (try clear hk); (try clear hi)) | ((with_reducible refine gate_callee (f := 14) rfl ?_); refine goesL_ (some 30) rfl rfl Tryd.func14 (by kernel_rfl) rfl #[] rfl (by (try simp only [List.map_toArray, List.map_cons, List.map_nil]); first | done | rfl | (simp only [List.length_drop, List.length_take]; rfl)) ?_; (with_reducible refine (atlaslaw06_live.calls k  false _ ?side1 ?side2 ?side3 ?side4 A7.out).mono ?_); (case side1 => exact ⟨G0.below hG0.out (by repeat (first | (with_reducible first | exact HB.out | apply below_alloc | apply pw_below_drewN | apply below_drew1 | refine below_set ?_ GE291.out) | exact HB.out))⟩); (case side2 => exact ⟨G1.below hG1.out (by repeat (first | (with_reducible first | exact HB.out | apply below_alloc | apply pw_below_drewN | apply below_drew1 | refine below_set ?_ GE291.out) | exact HB.out))⟩); (case side3 => exact ⟨G2.below hG2.out (by repeat (first | (with_reducible first | exact HB.out | apply below_alloc | apply pw_below_drewN | apply below_drew1 | refine below_set ?_ GE291.out) | exact HB.out))⟩); (case side4 => exact ⟨G3.below hG3.out (by repeat (first | (with_reducible first | exact HB.out | apply below_alloc | apply pw_below_drewN | apply below_drew1 | refine below_set ?_ GE291.out) | exact HB.out))⟩); rintro e w68 ⟨rfl, hb⟩; refine ⟨_, rfl, ?_⟩; have n0_ := Aside0.mk (blk_below (g := gb291) (o := .cells #[.int .i64 a3_0, .int .i64 a3_1, .int .i64 a3_2, .int .i64 a3_3] 24 (0, 0)) (by (with_reducible repeat (first | refine blk_drewN ?_ _ | refine blk_drew ?_ | refine blk_alloc ?_ _)); exact BK291.out) hb); have n1_ := Aside0.mk (below_step (by repeat (first | (with_reducible first | exact HB.out | apply below_alloc | apply pw_below_drewN | apply below_drew1 | refine below_set ?_ GE291.out) | exact HB.out)) hb); clear BK291; clear HB; have BK291 := n0_; have HB := n1_; clear n0_ n1_; (try clear hb); (try clear hb2); (try clear hk); (try clear hi)))
  go_ret
  exact ⟨by first | rfl | (simp [errW_none, errW_some] <;> rfl) | (simp [*, errW_none, errW_some] <;> rfl) | (simp [*, errW_none, errW_some] <;> exact isEmpty_ne _), by repeat (first | (with_reducible first | exact HB.out | apply below_alloc | apply pw_below_drewN | apply below_drew1 | refine below_set ?_ GE291.out) | exact HB.out)⟩

end Go.Proofs.YtkljijkejbfopaaDoor.S
