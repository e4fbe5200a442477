-- Written by a program of this session (wip/xprint.py), over the kit's print. Not trusted: Lean checks it.
import Derived.Test.YtglafffghbhnbaaDoorS0
import Derived.Test.YtglafffghbhnbaaDoorS1
import Derived.Test.YtglafffghbhnbaaDoorS2
import Derived.Test.YtglafffghbhnbaaDoorS3
namespace Go.Proofs.YtglafffghbhnbaaDoor.S
open Go.Proofs.YtglafffghbhnbaaDoorG
open Go.RowKit Go.Proofs.YtglafffghbhnbaaDoorW.PrintWords Go.Proofs.YtglafffghbhnbaaDoorW.PrintLast Go.Proofs.YtglafffghbhnbaaDoorW.PrintMore
attribute [local go_sem] max2_int min2_int max_two min_two max_three min_three max_four min_four   -- for this text's walks alone
set_option linter.unusedVariables false
set_option linter.unusedSimpArgs false

attribute [local go_sem high] eqA24
/-! ### atlaslaw07_RightsMore: function 6 -/
mutual
def atlaslaw07_RightsMore.j0 : Nat → Int → Int → Bool → Bool → Bool → Bool → Bool → Bool → Bool → Int → Int → Bool → Bool → Int → Int → Bool → Bool → Option (Bool)
 | 0, _, _, _, _, _, _, _, _, _, _, _, _, _, _, _, _, _ => none
 | k + 1, x6, x8, x57, x123000, x123001, x123002, x124000, x124001, x124002, x131000, x131001, x131002, x131003, x137000, x137001, x137002, x137003 => if x57 = true then (some false) else (if x6 = 0 then (atlaslaw07_RightsMore.j1 k x6 x8 (x8 != 0) x123000 x123001 x123002 x124000 x124001 x124002 x131000 x131001 x131002 x131003 x137000 x137001 x137002 x137003) else (atlaslaw07_RightsMore.j1 k x6 x8 true x123000 x123001 x123002 x124000 x124001 x124002 x131000 x131001 x131002 x131003 x137000 x137001 x137002 x137003))
def atlaslaw07_RightsMore.j1 : Nat → Int → Int → Bool → Bool → Bool → Bool → Bool → Bool → Bool → Int → Int → Bool → Bool → Int → Int → Bool → Bool → Option (Bool)
 | 0, _, _, _, _, _, _, _, _, _, _, _, _, _, _, _, _, _ => none
 | k + 1, x6, x8, x63, x123000, x123001, x123002, x124000, x124001, x124002, x131000, x131001, x131002, x131003, x137000, x137001, x137002, x137003 => if x63 = true then (if x6 = 0 then (if x8 = 0 then (some true) else (some (x137000 == 0 && (x137001 == 0 && (!x137002 && (!x137003)))))) else (if (x131000 == 0 && (x131001 == 0 && (!x131002 && (!x131003)))) = true then (if x8 = 0 then (some true) else (some (x137000 == 0 && (x137001 == 0 && (!x137002 && (!x137003)))))) else (some false))) else (if x124000 = true then (if x124001 = true then (if x124002 = true then (atlaslaw07_RightsMore.j2 k true x123000 x123001 x123002 x131000 x131001 x131002 x131003 x137000 x137001 x137002 x137003) else (atlaslaw07_RightsMore.j2 k (!x123002) x123000 x123001 x123002 x131000 x131001 x131002 x131003 x137000 x137001 x137002 x137003)) else (if x123001 = true then (atlaslaw07_RightsMore.j2 k false x123000 x123001 x123002 x131000 x131001 x131002 x131003 x137000 x137001 x137002 x137003) else (if x124002 = true then (atlaslaw07_RightsMore.j2 k true x123000 x123001 x123002 x131000 x131001 x131002 x131003 x137000 x137001 x137002 x137003) else (atlaslaw07_RightsMore.j2 k (!x123002) x123000 x123001 x123002 x131000 x131001 x131002 x131003 x137000 x137001 x137002 x137003)))) else (if x123000 = true then (atlaslaw07_RightsMore.j2 k false x123000 x123001 x123002 x131000 x131001 x131002 x131003 x137000 x137001 x137002 x137003) else (if x124001 = true then (if x124002 = true then (atlaslaw07_RightsMore.j2 k true x123000 x123001 x123002 x131000 x131001 x131002 x131003 x137000 x137001 x137002 x137003) else (atlaslaw07_RightsMore.j2 k (!x123002) x123000 x123001 x123002 x131000 x131001 x131002 x131003 x137000 x137001 x137002 x137003)) else (if x123001 = true then (atlaslaw07_RightsMore.j2 k false x123000 x123001 x123002 x131000 x131001 x131002 x131003 x137000 x137001 x137002 x137003) else (if x124002 = true then (atlaslaw07_RightsMore.j2 k true x123000 x123001 x123002 x131000 x131001 x131002 x131003 x137000 x137001 x137002 x137003) else (atlaslaw07_RightsMore.j2 k (!x123002) x123000 x123001 x123002 x131000 x131001 x131002 x131003 x137000 x137001 x137002 x137003))))))
def atlaslaw07_RightsMore.j2 : Nat → Bool → Bool → Bool → Bool → Int → Int → Bool → Bool → Int → Int → Bool → Bool → Option (Bool)
 | 0, _, _, _, _, _, _, _, _, _, _, _, _ => none
 | k + 1, x9, x123000, x123001, x123002, x131000, x131001, x131002, x131003, x137000, x137001, x137002, x137003 => atlaslaw07_RightsMore.l0 k x9 1 x131000 x131001 x131002 x131003 x137000 x137001 x137002 x137003 false x123002 x123000 x123001
def atlaslaw07_RightsMore.l0 : Nat → Bool → Int → Int → Int → Bool → Bool → Int → Int → Bool → Bool → Bool → Bool → Bool → Bool → Option (Bool)
 | 0, _, _, _, _, _, _, _, _, _, _, _, _, _, _ => none
 | k + 1, x9, x11, x131000, x131001, x131002, x131003, x137000, x137001, x137002, x137003, x138000, x138001, x138002, x138003 => if x11 ≤ 3 then ((rights_Allows.f k x131000 x131001 x131002 x131003 false false x11).bind fun t138 => ((rights_Allows.f k x137000 x137001 x137002 x137003 false false x11).bind fun t139 => (if 0 ≤ x11 then (if x11 < 4 then (if (t138 != (rdOf false ([x138000, x138001, x138002, x138003] : List Bool) x11)) = true then (atlaslaw07_RightsMore.j4 k x9 x11 true x131000 x131001 x131002 x131003 x137000 x137001 x137002 x137003 x138000 x138001 x138002 x138003) else (if x9 = true then (if t138 = true then (atlaslaw07_RightsMore.j4 k x9 x11 (!t139) x131000 x131001 x131002 x131003 x137000 x137001 x137002 x137003 x138000 x138001 x138002 x138003) else (atlaslaw07_RightsMore.j4 k x9 x11 false x131000 x131001 x131002 x131003 x137000 x137001 x137002 x137003 x138000 x138001 x138002 x138003)) else (atlaslaw07_RightsMore.j4 k x9 x11 false x131000 x131001 x131002 x131003 x137000 x137001 x137002 x137003 x138000 x138001 x138002 x138003))) else (none)) else (none)))) else (if x131002 = true then (if x137002 = true then ((rights_Allows.f k x131000 x131001 x131002 x131003 false true 2).bind fun t141 => (if t141 = true then ((rights_Allows.f k x131000 x131001 x131002 x131003 false true 3).bind fun t142 => (some t142)) else (some false))) else (some false)) else (some false))
def atlaslaw07_RightsMore.j4 : Nat → Bool → Int → Bool → Int → Int → Bool → Bool → Int → Int → Bool → Bool → Bool → Bool → Bool → Bool → Option (Bool)
 | 0, _, _, _, _, _, _, _, _, _, _, _, _, _, _, _ => none
 | k + 1, x9, x11, x136, x131000, x131001, x131002, x131003, x137000, x137001, x137002, x137003, x138000, x138001, x138002, x138003 => if x136 = true then (some false) else (atlaslaw07_RightsMore.l0 k x9 (wrap64 (x11 + 1)) x131000 x131001 x131002 x131003 x137000 x137001 x137002 x137003 x138000 x138001 x138002 x138003)
end
def atlaslaw07_RightsMore.f (k : Nat) (a0_0 : Bool) (a0_1 : Bool) (a0_2 : Bool) (a1_0 : Bool) (a1_1 : Bool) (a1_2 : Bool) : Option (Bool) := (atlaslaw07_alive.f k).bind fun t124 => (if t124 = true then ((rights_Leaf.f k a0_0 a0_1 a0_2).bind fun bt125 => ((rights_Leaf.f k a1_0 a1_1 a1_2).bind fun bt131 => (if a0_0 = true then (if ((bt125.2.2.2.2 == 0) != true) = true then (atlaslaw07_RightsMore.j0 k bt125.2.2.2.2 bt131.2.2.2.2 true a0_0 a0_1 a0_2 a1_0 a1_1 a1_2 bt125.1 bt125.2.1 bt125.2.2.1 bt125.2.2.2.1 bt131.1 bt131.2.1 bt131.2.2.1 bt131.2.2.2.1) else (if a1_0 = true then (atlaslaw07_RightsMore.j0 k bt125.2.2.2.2 bt131.2.2.2.2 ((bt131.2.2.2.2 == 0) != true) a0_0 a0_1 a0_2 a1_0 a1_1 a1_2 bt125.1 bt125.2.1 bt125.2.2.1 bt125.2.2.2.1 bt131.1 bt131.2.1 bt131.2.2.1 bt131.2.2.2.1) else (if a1_1 = true then (atlaslaw07_RightsMore.j0 k bt125.2.2.2.2 bt131.2.2.2.2 ((bt131.2.2.2.2 == 0) != false) a0_0 a0_1 a0_2 a1_0 a1_1 a1_2 bt125.1 bt125.2.1 bt125.2.2.1 bt125.2.2.2.1 bt131.1 bt131.2.1 bt131.2.2.1 bt131.2.2.2.1) else (atlaslaw07_RightsMore.j0 k bt125.2.2.2.2 bt131.2.2.2.2 ((bt131.2.2.2.2 == 0) != (!a1_2)) a0_0 a0_1 a0_2 a1_0 a1_1 a1_2 bt125.1 bt125.2.1 bt125.2.2.1 bt125.2.2.2.1 bt131.1 bt131.2.1 bt131.2.2.1 bt131.2.2.2.1)))) else (if a0_1 = true then (if ((bt125.2.2.2.2 == 0) != false) = true then (atlaslaw07_RightsMore.j0 k bt125.2.2.2.2 bt131.2.2.2.2 true a0_0 a0_1 a0_2 a1_0 a1_1 a1_2 bt125.1 bt125.2.1 bt125.2.2.1 bt125.2.2.2.1 bt131.1 bt131.2.1 bt131.2.2.1 bt131.2.2.2.1) else (if a1_0 = true then (atlaslaw07_RightsMore.j0 k bt125.2.2.2.2 bt131.2.2.2.2 ((bt131.2.2.2.2 == 0) != true) a0_0 a0_1 a0_2 a1_0 a1_1 a1_2 bt125.1 bt125.2.1 bt125.2.2.1 bt125.2.2.2.1 bt131.1 bt131.2.1 bt131.2.2.1 bt131.2.2.2.1) else (if a1_1 = true then (atlaslaw07_RightsMore.j0 k bt125.2.2.2.2 bt131.2.2.2.2 ((bt131.2.2.2.2 == 0) != false) a0_0 a0_1 a0_2 a1_0 a1_1 a1_2 bt125.1 bt125.2.1 bt125.2.2.1 bt125.2.2.2.1 bt131.1 bt131.2.1 bt131.2.2.1 bt131.2.2.2.1) else (atlaslaw07_RightsMore.j0 k bt125.2.2.2.2 bt131.2.2.2.2 ((bt131.2.2.2.2 == 0) != (!a1_2)) a0_0 a0_1 a0_2 a1_0 a1_1 a1_2 bt125.1 bt125.2.1 bt125.2.2.1 bt125.2.2.2.1 bt131.1 bt131.2.1 bt131.2.2.1 bt131.2.2.2.1)))) else (if ((bt125.2.2.2.2 == 0) != (!a0_2)) = true then (atlaslaw07_RightsMore.j0 k bt125.2.2.2.2 bt131.2.2.2.2 true a0_0 a0_1 a0_2 a1_0 a1_1 a1_2 bt125.1 bt125.2.1 bt125.2.2.1 bt125.2.2.2.1 bt131.1 bt131.2.1 bt131.2.2.1 bt131.2.2.2.1) else (if a1_0 = true then (atlaslaw07_RightsMore.j0 k bt125.2.2.2.2 bt131.2.2.2.2 ((bt131.2.2.2.2 == 0) != true) a0_0 a0_1 a0_2 a1_0 a1_1 a1_2 bt125.1 bt125.2.1 bt125.2.2.1 bt125.2.2.2.1 bt131.1 bt131.2.1 bt131.2.2.1 bt131.2.2.2.1) else (if a1_1 = true then (atlaslaw07_RightsMore.j0 k bt125.2.2.2.2 bt131.2.2.2.2 ((bt131.2.2.2.2 == 0) != false) a0_0 a0_1 a0_2 a1_0 a1_1 a1_2 bt125.1 bt125.2.1 bt125.2.2.1 bt125.2.2.2.1 bt131.1 bt131.2.1 bt131.2.2.1 bt131.2.2.2.1) else (atlaslaw07_RightsMore.j0 k bt125.2.2.2.2 bt131.2.2.2.2 ((bt131.2.2.2.2 == 0) != (!a1_2)) a0_0 a0_1 a0_2 a1_0 a1_1 a1_2 bt125.1 bt125.2.1 bt125.2.2.1 bt125.2.2.2.1 bt131.1 bt131.2.1 bt131.2.2.1 bt131.2.2.2.1)))))))) else (some false))
theorem atlaslaw07_RightsMore.mono_l : ∀ k, (∀ y0 y1 y2 y3 y4 y5 y6 y7 y8 y9 y10 y11 y12 y13 y14 y15 y16, LeO (atlaslaw07_RightsMore.j0 k y0 y1 y2 y3 y4 y5 y6 y7 y8 y9 y10 y11 y12 y13 y14 y15 y16) (atlaslaw07_RightsMore.j0 (k + 1) y0 y1 y2 y3 y4 y5 y6 y7 y8 y9 y10 y11 y12 y13 y14 y15 y16)) ∧ (∀ y0 y1 y2 y3 y4 y5 y6 y7 y8 y9 y10 y11 y12 y13 y14 y15 y16, LeO (atlaslaw07_RightsMore.j1 k y0 y1 y2 y3 y4 y5 y6 y7 y8 y9 y10 y11 y12 y13 y14 y15 y16) (atlaslaw07_RightsMore.j1 (k + 1) y0 y1 y2 y3 y4 y5 y6 y7 y8 y9 y10 y11 y12 y13 y14 y15 y16)) ∧ (∀ y0 y1 y2 y3 y4 y5 y6 y7 y8 y9 y10 y11, LeO (atlaslaw07_RightsMore.j2 k y0 y1 y2 y3 y4 y5 y6 y7 y8 y9 y10 y11) (atlaslaw07_RightsMore.j2 (k + 1) y0 y1 y2 y3 y4 y5 y6 y7 y8 y9 y10 y11)) ∧ (∀ y0 y1 y2 y3 y4 y5 y6 y7 y8 y9 y10 y11 y12 y13, LeO (atlaslaw07_RightsMore.l0 k y0 y1 y2 y3 y4 y5 y6 y7 y8 y9 y10 y11 y12 y13) (atlaslaw07_RightsMore.l0 (k + 1) y0 y1 y2 y3 y4 y5 y6 y7 y8 y9 y10 y11 y12 y13)) ∧ (∀ y0 y1 y2 y3 y4 y5 y6 y7 y8 y9 y10 y11 y12 y13 y14, LeO (atlaslaw07_RightsMore.j4 k y0 y1 y2 y3 y4 y5 y6 y7 y8 y9 y10 y11 y12 y13 y14) (atlaslaw07_RightsMore.j4 (k + 1) y0 y1 y2 y3 y4 y5 y6 y7 y8 y9 y10 y11 y12 y13 y14))
 | 0 => ⟨fun _ _ _ _ _ _ _ _ _ _ _ _ _ _ _ _ _ r h => by simp [atlaslaw07_RightsMore.j0] at h, fun _ _ _ _ _ _ _ _ _ _ _ _ _ _ _ _ _ r h => by simp [atlaslaw07_RightsMore.j1] at h, fun _ _ _ _ _ _ _ _ _ _ _ _ r h => by simp [atlaslaw07_RightsMore.j2] at h, fun _ _ _ _ _ _ _ _ _ _ _ _ _ _ r h => by simp [atlaslaw07_RightsMore.l0] at h, fun _ _ _ _ _ _ _ _ _ _ _ _ _ _ _ r h => by simp [atlaslaw07_RightsMore.j4] at h⟩
 | k + 1 => by
  obtain ⟨ih0, ih1, ih2, ih3, ih4⟩ := atlaslaw07_RightsMore.mono_l k
  refine ⟨?_, ?_, ?_, ?_, ?_⟩
  ·
   intro y0 y1 y2 y3 y4 y5 y6 y7 y8 y9 y10 y11 y12 y13 y14 y15 y16
   unfold atlaslaw07_RightsMore.j0
   repeat' first
   | (with_reducible exact ih0 _ _ _ _ _ _ _ _ _ _ _ _ _ _ _ _ _)
   | (with_reducible exact ih1 _ _ _ _ _ _ _ _ _ _ _ _ _ _ _ _ _)
   | (with_reducible exact ih2 _ _ _ _ _ _ _ _ _ _ _ _)
   | (with_reducible exact ih3 _ _ _ _ _ _ _ _ _ _ _ _ _ _)
   | (with_reducible exact ih4 _ _ _ _ _ _ _ _ _ _ _ _ _ _ _)
   | (with_reducible exact atlaslaw07_alive.mono _)
   | (with_reducible exact rights_Allows.mono _ _ _ _ _ _ _ _)
   | (with_reducible exact rights_Leaf.mono _ _ _ _)
   | (with_reducible exact LeO.refl _)
   | (with_reducible exact LeO.none _)
   | (with_reducible refine LeO.ite ?_ ?_)
   | (with_reducible refine LeO.bind ?_ (fun _ => ?_))
   | exact ih0 _ _ _ _ _ _ _ _ _ _ _ _ _ _ _ _ _
   | exact ih1 _ _ _ _ _ _ _ _ _ _ _ _ _ _ _ _ _
   | exact ih2 _ _ _ _ _ _ _ _ _ _ _ _
   | exact ih3 _ _ _ _ _ _ _ _ _ _ _ _ _ _
   | exact ih4 _ _ _ _ _ _ _ _ _ _ _ _ _ _ _
   | exact atlaslaw07_alive.mono _
   | exact rights_Allows.mono _ _ _ _ _ _ _ _
   | exact rights_Leaf.mono _ _ _ _
   | exact LeO.none _
   | refine LeO.ite ?_ ?_
   | refine LeO.bind ?_ (fun _ => ?_)
  ·
   intro y0 y1 y2 y3 y4 y5 y6 y7 y8 y9 y10 y11 y12 y13 y14 y15 y16
   unfold atlaslaw07_RightsMore.j1
   repeat' first
   | (with_reducible exact ih0 _ _ _ _ _ _ _ _ _ _ _ _ _ _ _ _ _)
   | (with_reducible exact ih1 _ _ _ _ _ _ _ _ _ _ _ _ _ _ _ _ _)
   | (with_reducible exact ih2 _ _ _ _ _ _ _ _ _ _ _ _)
   | (with_reducible exact ih3 _ _ _ _ _ _ _ _ _ _ _ _ _ _)
   | (with_reducible exact ih4 _ _ _ _ _ _ _ _ _ _ _ _ _ _ _)
   | (with_reducible exact atlaslaw07_alive.mono _)
   | (with_reducible exact rights_Allows.mono _ _ _ _ _ _ _ _)
   | (with_reducible exact rights_Leaf.mono _ _ _ _)
   | (with_reducible exact LeO.refl _)
   | (with_reducible exact LeO.none _)
   | (with_reducible refine LeO.ite ?_ ?_)
   | (with_reducible refine LeO.bind ?_ (fun _ => ?_))
   | exact ih0 _ _ _ _ _ _ _ _ _ _ _ _ _ _ _ _ _
   | exact ih1 _ _ _ _ _ _ _ _ _ _ _ _ _ _ _ _ _
   | exact ih2 _ _ _ _ _ _ _ _ _ _ _ _
   | exact ih3 _ _ _ _ _ _ _ _ _ _ _ _ _ _
   | exact ih4 _ _ _ _ _ _ _ _ _ _ _ _ _ _ _
   | exact atlaslaw07_alive.mono _
   | exact rights_Allows.mono _ _ _ _ _ _ _ _
   | exact rights_Leaf.mono _ _ _ _
   | exact LeO.none _
   | refine LeO.ite ?_ ?_
   | refine LeO.bind ?_ (fun _ => ?_)
  ·
   intro y0 y1 y2 y3 y4 y5 y6 y7 y8 y9 y10 y11
   unfold atlaslaw07_RightsMore.j2
   repeat' first
   | (with_reducible exact ih0 _ _ _ _ _ _ _ _ _ _ _ _ _ _ _ _ _)
   | (with_reducible exact ih1 _ _ _ _ _ _ _ _ _ _ _ _ _ _ _ _ _)
   | (with_reducible exact ih2 _ _ _ _ _ _ _ _ _ _ _ _)
   | (with_reducible exact ih3 _ _ _ _ _ _ _ _ _ _ _ _ _ _)
   | (with_reducible exact ih4 _ _ _ _ _ _ _ _ _ _ _ _ _ _ _)
   | (with_reducible exact atlaslaw07_alive.mono _)
   | (with_reducible exact rights_Allows.mono _ _ _ _ _ _ _ _)
   | (with_reducible exact rights_Leaf.mono _ _ _ _)
   | (with_reducible exact LeO.refl _)
   | (with_reducible exact LeO.none _)
   | (with_reducible refine LeO.ite ?_ ?_)
   | (with_reducible refine LeO.bind ?_ (fun _ => ?_))
   | exact ih0 _ _ _ _ _ _ _ _ _ _ _ _ _ _ _ _ _
   | exact ih1 _ _ _ _ _ _ _ _ _ _ _ _ _ _ _ _ _
   | exact ih2 _ _ _ _ _ _ _ _ _ _ _ _
   | exact ih3 _ _ _ _ _ _ _ _ _ _ _ _ _ _
   | exact ih4 _ _ _ _ _ _ _ _ _ _ _ _ _ _ _
   | exact atlaslaw07_alive.mono _
   | exact rights_Allows.mono _ _ _ _ _ _ _ _
   | exact rights_Leaf.mono _ _ _ _
   | exact LeO.none _
   | refine LeO.ite ?_ ?_
   | refine LeO.bind ?_ (fun _ => ?_)
  ·
   intro y0 y1 y2 y3 y4 y5 y6 y7 y8 y9 y10 y11 y12 y13
   unfold atlaslaw07_RightsMore.l0
   repeat' first
   | (with_reducible exact ih0 _ _ _ _ _ _ _ _ _ _ _ _ _ _ _ _ _)
   | (with_reducible exact ih1 _ _ _ _ _ _ _ _ _ _ _ _ _ _ _ _ _)
   | (with_reducible exact ih2 _ _ _ _ _ _ _ _ _ _ _ _)
   | (with_reducible exact ih3 _ _ _ _ _ _ _ _ _ _ _ _ _ _)
   | (with_reducible exact ih4 _ _ _ _ _ _ _ _ _ _ _ _ _ _ _)
   | (with_reducible exact atlaslaw07_alive.mono _)
   | (with_reducible exact rights_Allows.mono _ _ _ _ _ _ _ _)
   | (with_reducible exact rights_Leaf.mono _ _ _ _)
   | (with_reducible exact LeO.refl _)
   | (with_reducible exact LeO.none _)
   | (with_reducible refine LeO.ite ?_ ?_)
   | (with_reducible refine LeO.bind ?_ (fun _ => ?_))
   | exact ih0 _ _ _ _ _ _ _ _ _ _ _ _ _ _ _ _ _
   | exact ih1 _ _ _ _ _ _ _ _ _ _ _ _ _ _ _ _ _
   | exact ih2 _ _ _ _ _ _ _ _ _ _ _ _
   | exact ih3 _ _ _ _ _ _ _ _ _ _ _ _ _ _
   | exact ih4 _ _ _ _ _ _ _ _ _ _ _ _ _ _ _
   | exact atlaslaw07_alive.mono _
   | exact rights_Allows.mono _ _ _ _ _ _ _ _
   | exact rights_Leaf.mono _ _ _ _
   | exact LeO.none _
   | refine LeO.ite ?_ ?_
   | refine LeO.bind ?_ (fun _ => ?_)
  ·
   intro y0 y1 y2 y3 y4 y5 y6 y7 y8 y9 y10 y11 y12 y13 y14
   unfold atlaslaw07_RightsMore.j4
   repeat' first
   | (with_reducible exact ih0 _ _ _ _ _ _ _ _ _ _ _ _ _ _ _ _ _)
   | (with_reducible exact ih1 _ _ _ _ _ _ _ _ _ _ _ _ _ _ _ _ _)
   | (with_reducible exact ih2 _ _ _ _ _ _ _ _ _ _ _ _)
   | (with_reducible exact ih3 _ _ _ _ _ _ _ _ _ _ _ _ _ _)
   | (with_reducible exact ih4 _ _ _ _ _ _ _ _ _ _ _ _ _ _ _)
   | (with_reducible exact atlaslaw07_alive.mono _)
   | (with_reducible exact rights_Allows.mono _ _ _ _ _ _ _ _)
   | (with_reducible exact rights_Leaf.mono _ _ _ _)
   | (with_reducible exact LeO.refl _)
   | (with_reducible exact LeO.none _)
   | (with_reducible refine LeO.ite ?_ ?_)
   | (with_reducible refine LeO.bind ?_ (fun _ => ?_))
   | exact ih0 _ _ _ _ _ _ _ _ _ _ _ _ _ _ _ _ _
   | exact ih1 _ _ _ _ _ _ _ _ _ _ _ _ _ _ _ _ _
   | exact ih2 _ _ _ _ _ _ _ _ _ _ _ _
   | exact ih3 _ _ _ _ _ _ _ _ _ _ _ _ _ _
   | exact ih4 _ _ _ _ _ _ _ _ _ _ _ _ _ _ _
   | exact atlaslaw07_alive.mono _
   | exact rights_Allows.mono _ _ _ _ _ _ _ _
   | exact rights_Leaf.mono _ _ _ _
   | exact LeO.none _
   | refine LeO.ite ?_ ?_
   | refine LeO.bind ?_ (fun _ => ?_)
theorem atlaslaw07_RightsMore.mono : ∀ a0 a1 a2 a3 a4 a5 k, LeO (atlaslaw07_RightsMore.f k a0 a1 a2 a3 a4 a5) (atlaslaw07_RightsMore.f (k + 1) a0 a1 a2 a3 a4 a5) := by
 intro a0 a1 a2 a3 a4 a5 k
 obtain ⟨ih0, ih1, ih2, ih3, ih4⟩ := atlaslaw07_RightsMore.mono_l k
 unfold atlaslaw07_RightsMore.f
 repeat' first
   | (with_reducible exact ih0 _ _ _ _ _ _ _ _ _ _ _ _ _ _ _ _ _)
   | (with_reducible exact ih1 _ _ _ _ _ _ _ _ _ _ _ _ _ _ _ _ _)
   | (with_reducible exact ih2 _ _ _ _ _ _ _ _ _ _ _ _)
   | (with_reducible exact ih3 _ _ _ _ _ _ _ _ _ _ _ _ _ _)
   | (with_reducible exact ih4 _ _ _ _ _ _ _ _ _ _ _ _ _ _ _)
   | (with_reducible exact atlaslaw07_alive.mono _)
   | (with_reducible exact rights_Allows.mono _ _ _ _ _ _ _ _)
   | (with_reducible exact rights_Leaf.mono _ _ _ _)
   | (with_reducible exact LeO.refl _)
   | (with_reducible exact LeO.none _)
   | (with_reducible refine LeO.ite ?_ ?_)
   | (with_reducible refine LeO.bind ?_ (fun _ => ?_))
   | exact ih0 _ _ _ _ _ _ _ _ _ _ _ _ _ _ _ _ _
   | exact ih1 _ _ _ _ _ _ _ _ _ _ _ _ _ _ _ _ _
   | exact ih2 _ _ _ _ _ _ _ _ _ _ _ _
   | exact ih3 _ _ _ _ _ _ _ _ _ _ _ _ _ _
   | exact ih4 _ _ _ _ _ _ _ _ _ _ _ _ _ _ _
   | exact atlaslaw07_alive.mono _
   | exact rights_Allows.mono _ _ _ _ _ _ _ _
   | exact rights_Leaf.mono _ _ _ _
   | exact LeO.none _
   | refine LeO.ite ?_ ?_
   | refine LeO.bind ?_ (fun _ => ?_)
set_option maxHeartbeats 8000000 in
set_option maxRecDepth 100000 in
theorem atlaslaw07_RightsMore.calls (k : Nat) (a0_0 : Bool) (a0_1 : Bool) (a0_2 : Bool) (a1_0 : Bool) (a1_1 : Bool) (a1_2 : Bool) (r : Bool) (w : World) (hG0 : Aside0 (G0 w)) (hG1 : Aside0 (G1 w)) (h : atlaslaw07_RightsMore.f k a0_0 a0_1 a0_2 a1_0 a1_1 a1_2 = some r) :
  Calls Tryd.prog 6 #[.agg #[.bool a0_0, .bool a0_1, .bool a0_2], .agg #[.bool a1_0, .bool a1_1, .bool a1_2]] w fun e w' => e = .returned (.bool r) ∧ Below w.heap.size w w' := by
 have hu28 := Tryd.underlying28
 have hu24 := Tryd.underlying24
 have hu44 := Tryd.underlying44
 have HB := Aside0.mk (Below.refl w.heap.size w)
 have H : ((atlaslaw07_alive.f k).bind fun t124 => (if t124 = true then ((rights_Leaf.f k a0_0 a0_1 a0_2).bind fun bt125 => ((rights_Leaf.f k a1_0 a1_1 a1_2).bind fun bt131 => (if a0_0 = true then (if ((bt125.2.2.2.2 == 0) != true) = true then (atlaslaw07_RightsMore.j0 k bt125.2.2.2.2 bt131.2.2.2.2 true a0_0 a0_1 a0_2 a1_0 a1_1 a1_2 bt125.1 bt125.2.1 bt125.2.2.1 bt125.2.2.2.1 bt131.1 bt131.2.1 bt131.2.2.1 bt131.2.2.2.1) else (if a1_0 = true then (atlaslaw07_RightsMore.j0 k bt125.2.2.2.2 bt131.2.2.2.2 ((bt131.2.2.2.2 == 0) != true) a0_0 a0_1 a0_2 a1_0 a1_1 a1_2 bt125.1 bt125.2.1 bt125.2.2.1 bt125.2.2.2.1 bt131.1 bt131.2.1 bt131.2.2.1 bt131.2.2.2.1) else (if a1_1 = true then (atlaslaw07_RightsMore.j0 k bt125.2.2.2.2 bt131.2.2.2.2 ((bt131.2.2.2.2 == 0) != false) a0_0 a0_1 a0_2 a1_0 a1_1 a1_2 bt125.1 bt125.2.1 bt125.2.2.1 bt125.2.2.2.1 bt131.1 bt131.2.1 bt131.2.2.1 bt131.2.2.2.1) else (atlaslaw07_RightsMore.j0 k bt125.2.2.2.2 bt131.2.2.2.2 ((bt131.2.2.2.2 == 0) != (!a1_2)) a0_0 a0_1 a0_2 a1_0 a1_1 a1_2 bt125.1 bt125.2.1 bt125.2.2.1 bt125.2.2.2.1 bt131.1 bt131.2.1 bt131.2.2.1 bt131.2.2.2.1)))) else (if a0_1 = true then (if ((bt125.2.2.2.2 == 0) != false) = true then (atlaslaw07_RightsMore.j0 k bt125.2.2.2.2 bt131.2.2.2.2 true a0_0 a0_1 a0_2 a1_0 a1_1 a1_2 bt125.1 bt125.2.1 bt125.2.2.1 bt125.2.2.2.1 bt131.1 bt131.2.1 bt131.2.2.1 bt131.2.2.2.1) else (if a1_0 = true then (atlaslaw07_RightsMore.j0 k bt125.2.2.2.2 bt131.2.2.2.2 ((bt131.2.2.2.2 == 0) != true) a0_0 a0_1 a0_2 a1_0 a1_1 a1_2 bt125.1 bt125.2.1 bt125.2.2.1 bt125.2.2.2.1 bt131.1 bt131.2.1 bt131.2.2.1 bt131.2.2.2.1) else (if a1_1 = true then (atlaslaw07_RightsMore.j0 k bt125.2.2.2.2 bt131.2.2.2.2 ((bt131.2.2.2.2 == 0) != false) a0_0 a0_1 a0_2 a1_0 a1_1 a1_2 bt125.1 bt125.2.1 bt125.2.2.1 bt125.2.2.2.1 bt131.1 bt131.2.1 bt131.2.2.1 bt131.2.2.2.1) else (atlaslaw07_RightsMore.j0 k bt125.2.2.2.2 bt131.2.2.2.2 ((bt131.2.2.2.2 == 0) != (!a1_2)) a0_0 a0_1 a0_2 a1_0 a1_1 a1_2 bt125.1 bt125.2.1 bt125.2.2.1 bt125.2.2.2.1 bt131.1 bt131.2.1 bt131.2.2.1 bt131.2.2.2.1)))) else (if ((bt125.2.2.2.2 == 0) != (!a0_2)) = true then (atlaslaw07_RightsMore.j0 k bt125.2.2.2.2 bt131.2.2.2.2 true a0_0 a0_1 a0_2 a1_0 a1_1 a1_2 bt125.1 bt125.2.1 bt125.2.2.1 bt125.2.2.2.1 bt131.1 bt131.2.1 bt131.2.2.1 bt131.2.2.2.1) else (if a1_0 = true then (atlaslaw07_RightsMore.j0 k bt125.2.2.2.2 bt131.2.2.2.2 ((bt131.2.2.2.2 == 0) != true) a0_0 a0_1 a0_2 a1_0 a1_1 a1_2 bt125.1 bt125.2.1 bt125.2.2.1 bt125.2.2.2.1 bt131.1 bt131.2.1 bt131.2.2.1 bt131.2.2.2.1) else (if a1_1 = true then (atlaslaw07_RightsMore.j0 k bt125.2.2.2.2 bt131.2.2.2.2 ((bt131.2.2.2.2 == 0) != false) a0_0 a0_1 a0_2 a1_0 a1_1 a1_2 bt125.1 bt125.2.1 bt125.2.2.1 bt125.2.2.2.1 bt131.1 bt131.2.1 bt131.2.2.1 bt131.2.2.2.1) else (atlaslaw07_RightsMore.j0 k bt125.2.2.2.2 bt131.2.2.2.2 ((bt131.2.2.2.2 == 0) != (!a1_2)) a0_0 a0_1 a0_2 a1_0 a1_1 a1_2 bt125.1 bt125.2.1 bt125.2.2.1 bt125.2.2.2.1 bt131.1 bt131.2.1 bt131.2.2.1 bt131.2.2.2.1)))))))) else (some false))) = some r := h
 clear h
 replace H := Option.bind_eq_some_iff.mp H
 obtain ⟨t124, A30, H⟩ := H
 replace H : (if t124 = true then ((rights_Leaf.f k a0_0 a0_1 a0_2).bind fun bt125 => ((rights_Leaf.f k a1_0 a1_1 a1_2).bind fun bt131 => (if a0_0 = true then (if ((bt125.2.2.2.2 == 0) != true) = true then (atlaslaw07_RightsMore.j0 k bt125.2.2.2.2 bt131.2.2.2.2 true a0_0 a0_1 a0_2 a1_0 a1_1 a1_2 bt125.1 bt125.2.1 bt125.2.2.1 bt125.2.2.2.1 bt131.1 bt131.2.1 bt131.2.2.1 bt131.2.2.2.1) else (if a1_0 = true then (atlaslaw07_RightsMore.j0 k bt125.2.2.2.2 bt131.2.2.2.2 ((bt131.2.2.2.2 == 0) != true) a0_0 a0_1 a0_2 a1_0 a1_1 a1_2 bt125.1 bt125.2.1 bt125.2.2.1 bt125.2.2.2.1 bt131.1 bt131.2.1 bt131.2.2.1 bt131.2.2.2.1) else (if a1_1 = true then (atlaslaw07_RightsMore.j0 k bt125.2.2.2.2 bt131.2.2.2.2 ((bt131.2.2.2.2 == 0) != false) a0_0 a0_1 a0_2 a1_0 a1_1 a1_2 bt125.1 bt125.2.1 bt125.2.2.1 bt125.2.2.2.1 bt131.1 bt131.2.1 bt131.2.2.1 bt131.2.2.2.1) else (atlaslaw07_RightsMore.j0 k bt125.2.2.2.2 bt131.2.2.2.2 ((bt131.2.2.2.2 == 0) != (!a1_2)) a0_0 a0_1 a0_2 a1_0 a1_1 a1_2 bt125.1 bt125.2.1 bt125.2.2.1 bt125.2.2.2.1 bt131.1 bt131.2.1 bt131.2.2.1 bt131.2.2.2.1)))) else (if a0_1 = true then (if ((bt125.2.2.2.2 == 0) != false) = true then (atlaslaw07_RightsMore.j0 k bt125.2.2.2.2 bt131.2.2.2.2 true a0_0 a0_1 a0_2 a1_0 a1_1 a1_2 bt125.1 bt125.2.1 bt125.2.2.1 bt125.2.2.2.1 bt131.1 bt131.2.1 bt131.2.2.1 bt131.2.2.2.1) else (if a1_0 = true then (atlaslaw07_RightsMore.j0 k bt125.2.2.2.2 bt131.2.2.2.2 ((bt131.2.2.2.2 == 0) != true) a0_0 a0_1 a0_2 a1_0 a1_1 a1_2 bt125.1 bt125.2.1 bt125.2.2.1 bt125.2.2.2.1 bt131.1 bt131.2.1 bt131.2.2.1 bt131.2.2.2.1) else (if a1_1 = true then (atlaslaw07_RightsMore.j0 k bt125.2.2.2.2 bt131.2.2.2.2 ((bt131.2.2.2.2 == 0) != false) a0_0 a0_1 a0_2 a1_0 a1_1 a1_2 bt125.1 bt125.2.1 bt125.2.2.1 bt125.2.2.2.1 bt131.1 bt131.2.1 bt131.2.2.1 bt131.2.2.2.1) else (atlaslaw07_RightsMore.j0 k bt125.2.2.2.2 bt131.2.2.2.2 ((bt131.2.2.2.2 == 0) != (!a1_2)) a0_0 a0_1 a0_2 a1_0 a1_1 a1_2 bt125.1 bt125.2.1 bt125.2.2.1 bt125.2.2.2.1 bt131.1 bt131.2.1 bt131.2.2.1 bt131.2.2.2.1)))) else (if ((bt125.2.2.2.2 == 0) != (!a0_2)) = true then (atlaslaw07_RightsMore.j0 k bt125.2.2.2.2 bt131.2.2.2.2 true a0_0 a0_1 a0_2 a1_0 a1_1 a1_2 bt125.1 bt125.2.1 bt125.2.2.1 bt125.2.2.2.1 bt131.1 bt131.2.1 bt131.2.2.1 bt131.2.2.2.1) else (if a1_0 = true then (atlaslaw07_RightsMore.j0 k bt125.2.2.2.2 bt131.2.2.2.2 ((bt131.2.2.2.2 == 0) != true) a0_0 a0_1 a0_2 a1_0 a1_1 a1_2 bt125.1 bt125.2.1 bt125.2.2.1 bt125.2.2.2.1 bt131.1 bt131.2.1 bt131.2.2.1 bt131.2.2.2.1) else (if a1_1 = true then (atlaslaw07_RightsMore.j0 k bt125.2.2.2.2 bt131.2.2.2.2 ((bt131.2.2.2.2 == 0) != false) a0_0 a0_1 a0_2 a1_0 a1_1 a1_2 bt125.1 bt125.2.1 bt125.2.2.1 bt125.2.2.2.1 bt131.1 bt131.2.1 bt131.2.2.1 bt131.2.2.2.1) else (atlaslaw07_RightsMore.j0 k bt125.2.2.2.2 bt131.2.2.2.2 ((bt131.2.2.2.2 == 0) != (!a1_2)) a0_0 a0_1 a0_2 a1_0 a1_1 a1_2 bt125.1 bt125.2.1 bt125.2.2.1 bt125.2.2.2.1 bt131.1 bt131.2.1 bt131.2.2.1 bt131.2.2.2.1)))))))) else (some false)) = some r := H
 have A3 := Aside0.mk A30
 clear A30
 by_cases c4 : t124 = true
 ·
  subst c4
  have H1 : ((rights_Leaf.f k a0_0 a0_1 a0_2).bind fun bt125 => ((rights_Leaf.f k a1_0 a1_1 a1_2).bind fun bt131 => (if a0_0 = true then (if ((bt125.2.2.2.2 == 0) != true) = true then (atlaslaw07_RightsMore.j0 k bt125.2.2.2.2 bt131.2.2.2.2 true a0_0 a0_1 a0_2 a1_0 a1_1 a1_2 bt125.1 bt125.2.1 bt125.2.2.1 bt125.2.2.2.1 bt131.1 bt131.2.1 bt131.2.2.1 bt131.2.2.2.1) else (if a1_0 = true then (atlaslaw07_RightsMore.j0 k bt125.2.2.2.2 bt131.2.2.2.2 ((bt131.2.2.2.2 == 0) != true) a0_0 a0_1 a0_2 a1_0 a1_1 a1_2 bt125.1 bt125.2.1 bt125.2.2.1 bt125.2.2.2.1 bt131.1 bt131.2.1 bt131.2.2.1 bt131.2.2.2.1) else (if a1_1 = true then (atlaslaw07_RightsMore.j0 k bt125.2.2.2.2 bt131.2.2.2.2 ((bt131.2.2.2.2 == 0) != false) a0_0 a0_1 a0_2 a1_0 a1_1 a1_2 bt125.1 bt125.2.1 bt125.2.2.1 bt125.2.2.2.1 bt131.1 bt131.2.1 bt131.2.2.1 bt131.2.2.2.1) else (atlaslaw07_RightsMore.j0 k bt125.2.2.2.2 bt131.2.2.2.2 ((bt131.2.2.2.2 == 0) != (!a1_2)) a0_0 a0_1 a0_2 a1_0 a1_1 a1_2 bt125.1 bt125.2.1 bt125.2.2.1 bt125.2.2.2.1 bt131.1 bt131.2.1 bt131.2.2.1 bt131.2.2.2.1)))) else (if a0_1 = true then (if ((bt125.2.2.2.2 == 0) != false) = true then (atlaslaw07_RightsMore.j0 k bt125.2.2.2.2 bt131.2.2.2.2 true a0_0 a0_1 a0_2 a1_0 a1_1 a1_2 bt125.1 bt125.2.1 bt125.2.2.1 bt125.2.2.2.1 bt131.1 bt131.2.1 bt131.2.2.1 bt131.2.2.2.1) else (if a1_0 = true then (atlaslaw07_RightsMore.j0 k bt125.2.2.2.2 bt131.2.2.2.2 ((bt131.2.2.2.2 == 0) != true) a0_0 a0_1 a0_2 a1_0 a1_1 a1_2 bt125.1 bt125.2.1 bt125.2.2.1 bt125.2.2.2.1 bt131.1 bt131.2.1 bt131.2.2.1 bt131.2.2.2.1) else (if a1_1 = true then (atlaslaw07_RightsMore.j0 k bt125.2.2.2.2 bt131.2.2.2.2 ((bt131.2.2.2.2 == 0) != false) a0_0 a0_1 a0_2 a1_0 a1_1 a1_2 bt125.1 bt125.2.1 bt125.2.2.1 bt125.2.2.2.1 bt131.1 bt131.2.1 bt131.2.2.1 bt131.2.2.2.1) else (atlaslaw07_RightsMore.j0 k bt125.2.2.2.2 bt131.2.2.2.2 ((bt131.2.2.2.2 == 0) != (!a1_2)) a0_0 a0_1 a0_2 a1_0 a1_1 a1_2 bt125.1 bt125.2.1 bt125.2.2.1 bt125.2.2.2.1 bt131.1 bt131.2.1 bt131.2.2.1 bt131.2.2.2.1)))) else (if ((bt125.2.2.2.2 == 0) != (!a0_2)) = true then (atlaslaw07_RightsMore.j0 k bt125.2.2.2.2 bt131.2.2.2.2 true a0_0 a0_1 a0_2 a1_0 a1_1 a1_2 bt125.1 bt125.2.1 bt125.2.2.1 bt125.2.2.2.1 bt131.1 bt131.2.1 bt131.2.2.1 bt131.2.2.2.1) else (if a1_0 = true then (atlaslaw07_RightsMore.j0 k bt125.2.2.2.2 bt131.2.2.2.2 ((bt131.2.2.2.2 == 0) != true) a0_0 a0_1 a0_2 a1_0 a1_1 a1_2 bt125.1 bt125.2.1 bt125.2.2.1 bt125.2.2.2.1 bt131.1 bt131.2.1 bt131.2.2.1 bt131.2.2.2.1) else (if a1_1 = true then (atlaslaw07_RightsMore.j0 k bt125.2.2.2.2 bt131.2.2.2.2 ((bt131.2.2.2.2 == 0) != false) a0_0 a0_1 a0_2 a1_0 a1_1 a1_2 bt125.1 bt125.2.1 bt125.2.2.1 bt125.2.2.2.1 bt131.1 bt131.2.1 bt131.2.2.1 bt131.2.2.2.1) else (atlaslaw07_RightsMore.j0 k bt125.2.2.2.2 bt131.2.2.2.2 ((bt131.2.2.2.2 == 0) != (!a1_2)) a0_0 a0_1 a0_2 a1_0 a1_1 a1_2 bt125.1 bt125.2.1 bt125.2.2.1 bt125.2.2.2.1 bt131.1 bt131.2.1 bt131.2.2.1 bt131.2.2.2.1)))))))) = some r := by rw [if_pos rfl] at H; exact H
  clear H
  have H := H1
  clear H1
  replace H := Option.bind_eq_some_iff.mp H
  obtain ⟨⟨t125, t126, t127, t128, t129⟩, A50, H⟩ := H
  replace H : ((rights_Leaf.f k a1_0 a1_1 a1_2).bind fun bt131 => (if a0_0 = true then (if ((t129 == 0) != true) = true then (atlaslaw07_RightsMore.j0 k t129 bt131.2.2.2.2 true a0_0 a0_1 a0_2 a1_0 a1_1 a1_2 t125 t126 t127 t128 bt131.1 bt131.2.1 bt131.2.2.1 bt131.2.2.2.1) else (if a1_0 = true then (atlaslaw07_RightsMore.j0 k t129 bt131.2.2.2.2 ((bt131.2.2.2.2 == 0) != true) a0_0 a0_1 a0_2 a1_0 a1_1 a1_2 t125 t126 t127 t128 bt131.1 bt131.2.1 bt131.2.2.1 bt131.2.2.2.1) else (if a1_1 = true then (atlaslaw07_RightsMore.j0 k t129 bt131.2.2.2.2 ((bt131.2.2.2.2 == 0) != false) a0_0 a0_1 a0_2 a1_0 a1_1 a1_2 t125 t126 t127 t128 bt131.1 bt131.2.1 bt131.2.2.1 bt131.2.2.2.1) else (atlaslaw07_RightsMore.j0 k t129 bt131.2.2.2.2 ((bt131.2.2.2.2 == 0) != (!a1_2)) a0_0 a0_1 a0_2 a1_0 a1_1 a1_2 t125 t126 t127 t128 bt131.1 bt131.2.1 bt131.2.2.1 bt131.2.2.2.1)))) else (if a0_1 = true then (if ((t129 == 0) != false) = true then (atlaslaw07_RightsMore.j0 k t129 bt131.2.2.2.2 true a0_0 a0_1 a0_2 a1_0 a1_1 a1_2 t125 t126 t127 t128 bt131.1 bt131.2.1 bt131.2.2.1 bt131.2.2.2.1) else (if a1_0 = true then (atlaslaw07_RightsMore.j0 k t129 bt131.2.2.2.2 ((bt131.2.2.2.2 == 0) != true) a0_0 a0_1 a0_2 a1_0 a1_1 a1_2 t125 t126 t127 t128 bt131.1 bt131.2.1 bt131.2.2.1 bt131.2.2.2.1) else (if a1_1 = true then (atlaslaw07_RightsMore.j0 k t129 bt131.2.2.2.2 ((bt131.2.2.2.2 == 0) != false) a0_0 a0_1 a0_2 a1_0 a1_1 a1_2 t125 t126 t127 t128 bt131.1 bt131.2.1 bt131.2.2.1 bt131.2.2.2.1) else (atlaslaw07_RightsMore.j0 k t129 bt131.2.2.2.2 ((bt131.2.2.2.2 == 0) != (!a1_2)) a0_0 a0_1 a0_2 a1_0 a1_1 a1_2 t125 t126 t127 t128 bt131.1 bt131.2.1 bt131.2.2.1 bt131.2.2.2.1)))) else (if ((t129 == 0) != (!a0_2)) = true then (atlaslaw07_RightsMore.j0 k t129 bt131.2.2.2.2 true a0_0 a0_1 a0_2 a1_0 a1_1 a1_2 t125 t126 t127 t128 bt131.1 bt131.2.1 bt131.2.2.1 bt131.2.2.2.1) else (if a1_0 = true then (atlaslaw07_RightsMore.j0 k t129 bt131.2.2.2.2 ((bt131.2.2.2.2 == 0) != true) a0_0 a0_1 a0_2 a1_0 a1_1 a1_2 t125 t126 t127 t128 bt131.1 bt131.2.1 bt131.2.2.1 bt131.2.2.2.1) else (if a1_1 = true then (atlaslaw07_RightsMore.j0 k t129 bt131.2.2.2.2 ((bt131.2.2.2.2 == 0) != false) a0_0 a0_1 a0_2 a1_0 a1_1 a1_2 t125 t126 t127 t128 bt131.1 bt131.2.1 bt131.2.2.1 bt131.2.2.2.1) else (atlaslaw07_RightsMore.j0 k t129 bt131.2.2.2.2 ((bt131.2.2.2.2 == 0) != (!a1_2)) a0_0 a0_1 a0_2 a1_0 a1_1 a1_2 t125 t126 t127 t128 bt131.1 bt131.2.1 bt131.2.2.1 bt131.2.2.2.1))))))) = some r := H
  have A5 := Aside0.mk A50
  clear A50
  replace H := Option.bind_eq_some_iff.mp H
  obtain ⟨⟨t131, t132, t133, t134, t135⟩, A60, H⟩ := H
  replace H : (if a0_0 = true then (if ((t129 == 0) != true) = true then (atlaslaw07_RightsMore.j0 k t129 t135 true a0_0 a0_1 a0_2 a1_0 a1_1 a1_2 t125 t126 t127 t128 t131 t132 t133 t134) else (if a1_0 = true then (atlaslaw07_RightsMore.j0 k t129 t135 ((t135 == 0) != true) a0_0 a0_1 a0_2 a1_0 a1_1 a1_2 t125 t126 t127 t128 t131 t132 t133 t134) else (if a1_1 = true then (atlaslaw07_RightsMore.j0 k t129 t135 ((t135 == 0) != false) a0_0 a0_1 a0_2 a1_0 a1_1 a1_2 t125 t126 t127 t128 t131 t132 t133 t134) else (atlaslaw07_RightsMore.j0 k t129 t135 ((t135 == 0) != (!a1_2)) a0_0 a0_1 a0_2 a1_0 a1_1 a1_2 t125 t126 t127 t128 t131 t132 t133 t134)))) else (if a0_1 = true then (if ((t129 == 0) != false) = true then (atlaslaw07_RightsMore.j0 k t129 t135 true a0_0 a0_1 a0_2 a1_0 a1_1 a1_2 t125 t126 t127 t128 t131 t132 t133 t134) else (if a1_0 = true then (atlaslaw07_RightsMore.j0 k t129 t135 ((t135 == 0) != true) a0_0 a0_1 a0_2 a1_0 a1_1 a1_2 t125 t126 t127 t128 t131 t132 t133 t134) else (if a1_1 = true then (atlaslaw07_RightsMore.j0 k t129 t135 ((t135 == 0) != false) a0_0 a0_1 a0_2 a1_0 a1_1 a1_2 t125 t126 t127 t128 t131 t132 t133 t134) else (atlaslaw07_RightsMore.j0 k t129 t135 ((t135 == 0) != (!a1_2)) a0_0 a0_1 a0_2 a1_0 a1_1 a1_2 t125 t126 t127 t128 t131 t132 t133 t134)))) else (if ((t129 == 0) != (!a0_2)) = true then (atlaslaw07_RightsMore.j0 k t129 t135 true a0_0 a0_1 a0_2 a1_0 a1_1 a1_2 t125 t126 t127 t128 t131 t132 t133 t134) else (if a1_0 = true then (atlaslaw07_RightsMore.j0 k t129 t135 ((t135 == 0) != true) a0_0 a0_1 a0_2 a1_0 a1_1 a1_2 t125 t126 t127 t128 t131 t132 t133 t134) else (if a1_1 = true then (atlaslaw07_RightsMore.j0 k t129 t135 ((t135 == 0) != false) a0_0 a0_1 a0_2 a1_0 a1_1 a1_2 t125 t126 t127 t128 t131 t132 t133 t134) else (atlaslaw07_RightsMore.j0 k t129 t135 ((t135 == 0) != (!a1_2)) a0_0 a0_1 a0_2 a1_0 a1_1 a1_2 t125 t126 t127 t128 t131 t132 t133 t134)))))) = some r := H
  have A6 := Aside0.mk A60
  clear A60
  have HC7 := Aside0.mk H
  clear H
  go_enter Tryd.func6, Tryd.ntmps6
  go_upto_region 5 with (first | ((with_reducible refine gate_dst (N := 2) rfl ?_); refine box_event ?hg (N := 2) ?hd (cs := #[.bool a0_0, .bool a0_1, .bool a0_2]) (t := 28) ?hr ?_; (case hd => rfl); (case hg => rfl); (case hr => first | (go_simp; done) | (go_simp; rfl)); intro gb122 hg w8 hbox hb; have n0_ := Aside0.mk (below_step (by repeat (first | (with_reducible first | exact HB.out | apply below_alloc | apply pw_below_drewN | apply below_drew1) | exact HB.out)) hb); have n1_ := Aside0.mk (hbox); have n2_ := Aside0.mk ((by rw [hg]; exact (below_size (by repeat (first | (with_reducible first | exact HB.out | apply below_alloc | apply pw_below_drewN | apply below_drew1) | exact HB.out))) : w.heap.size ≤ gb122)); have n3_ := Aside0.mk ((by rw [hg]; exact (below_size (by repeat (first | (with_reducible first | exact HB.out | apply below_alloc | apply pw_below_drewN | apply below_drew1) | exact HB.out))) : w.heap.size ≤ gb122)); clear HB; have HB := n0_; have BK122 := n1_; have GW122 := n2_; have GE122 := n3_; clear n0_ n1_ n2_ n3_; clear hb hbox hg) | ((with_reducible refine gate_dst (N := 3) rfl ?_); refine box_event ?hg (N := 3) ?hd (cs := #[.bool a1_0, .bool a1_1, .bool a1_2]) (t := 28) ?hr ?_; (case hd => rfl); (case hg => rfl); (case hr => first | (go_simp; done) | (go_simp; rfl)); intro gb123 hg w9 hbox hb; have n0_ := Aside0.mk (blk_below (g := gb122) (o := .cells #[.bool a0_0, .bool a0_1, .bool a0_2] 28 (0, 0)) (by (with_reducible repeat (first | refine blk_drewN ?_ _ | refine blk_drew ?_ | refine blk_alloc ?_ _)); exact BK122.out) hb); have n1_ := Aside0.mk (below_step (by repeat (first | (with_reducible first | exact HB.out | apply below_alloc | apply pw_below_drewN | apply below_drew1 | refine below_set ?_ GE122.out) | exact HB.out)) hb); have n2_ := Aside0.mk (hbox); have n3_ := Aside0.mk ((by rw [hg]; exact (below_size (by repeat (first | (with_reducible first | exact HB.out | apply below_alloc | apply pw_below_drewN | apply below_drew1 | refine below_set ?_ GE122.out) | exact HB.out))) : w.heap.size ≤ gb123)); have n4_ := Aside0.mk ((by rw [hg]; exact (below_size (by repeat (first | (with_reducible first | exact HB.out | apply below_alloc | apply pw_below_drewN | apply below_drew1 | refine below_set ?_ GE122.out) | exact HB.out))) : w.heap.size ≤ gb123)); have n5_ := Aside0.mk ((by rw [hg]; exact Nat.ne_of_lt (blk_lt (g := gb122) (o := .cells #[.bool a0_0, .bool a0_1, .bool a0_2] 28 (0, 0)) (by (with_reducible repeat (first | refine blk_drewN ?_ _ | refine blk_drew ?_ | refine blk_alloc ?_ _)); exact BK122.out)) : gb122 ≠ gb123)); have n6_ := Aside0.mk ((by rw [hg]; exact Nat.ne_of_gt (blk_lt (g := gb122) (o := .cells #[.bool a0_0, .bool a0_1, .bool a0_2] 28 (0, 0)) (by (with_reducible repeat (first | refine blk_drewN ?_ _ | refine blk_drew ?_ | refine blk_alloc ?_ _)); exact BK122.out)) : gb123 ≠ gb122)); clear BK122; clear HB; have BK122 := n0_; have HB := n1_; have BK123 := n2_; have GW123 := n3_; have GE123 := n4_; have NB122_123 := n5_; have NB123_122 := n6_; clear n0_ n1_ n2_ n3_ n4_ n5_ n6_; clear hb hbox hg) | ((with_reducible refine gate_callee (f := 18) rfl ?_); refine goesL_ (some 14) rfl rfl Tryd.func18 (by kernel_rfl) rfl #[] rfl (by (try simp only [List.map_toArray, List.map_cons, List.map_nil]); first | done | rfl | (simp only [List.length_drop, List.length_take]; rfl)) ?_; (with_reducible refine (atlaslaw07_alive.calls k  true _ ?side1 ?side2 A3.out).mono ?_); (case side1 => exact ⟨G0.below hG0.out (by repeat (first | (with_reducible first | exact HB.out | apply below_alloc | apply pw_below_drewN | apply below_drew1 | refine below_set ?_ GE122.out | refine below_set ?_ GE123.out) | exact HB.out))⟩); (case side2 => exact ⟨G1.below hG1.out (by repeat (first | (with_reducible first | exact HB.out | apply below_alloc | apply pw_below_drewN | apply below_drew1 | refine below_set ?_ GE122.out | refine below_set ?_ GE123.out) | exact HB.out))⟩); rintro e w10 ⟨rfl, hb⟩; refine ⟨_, rfl, ?_⟩; have n0_ := Aside0.mk (blk_below (g := gb122) (o := .cells #[.bool a0_0, .bool a0_1, .bool a0_2] 28 (0, 0)) (by (with_reducible repeat (first | refine blk_drewN ?_ _ | refine blk_drew ?_ | refine blk_alloc ?_ _)); exact BK122.out) hb); have n1_ := Aside0.mk (blk_below (g := gb123) (o := .cells #[.bool a1_0, .bool a1_1, .bool a1_2] 28 (0, 0)) (by (with_reducible repeat (first | refine blk_drewN ?_ _ | refine blk_drew ?_ | refine blk_alloc ?_ _)); exact BK123.out) hb); have n2_ := Aside0.mk (below_step (by repeat (first | (with_reducible first | exact HB.out | apply below_alloc | apply pw_below_drewN | apply below_drew1 | refine below_set ?_ GE122.out | refine below_set ?_ GE123.out) | exact HB.out)) hb); clear BK122; clear BK123; clear HB; have BK122 := n0_; have BK123 := n1_; have HB := n2_; clear n0_ n1_ n2_; (try clear hb); (try clear hb2); (try clear hk); (try clear hi); have hnb11 := NB122_123.out; have hnc11 := NB123_122.out; have hcz12_0 : w10.cell? ⟨gb122, 0, none⟩ = some (.bool a0_0) := (blk_cell BK122.out 0).trans rfl; have hcz12_1 : w10.cell? ⟨gb122, 1, none⟩ = some (.bool a0_1) := (blk_cell BK122.out 1).trans rfl; have hcz12_2 : w10.cell? ⟨gb122, 2, none⟩ = some (.bool a0_2) := (blk_cell BK122.out 2).trans rfl; have hfz12_0 := blk_frozen BK122.out 0; have hfz12_1 := blk_frozen BK122.out 1; have hfz12_2 := blk_frozen BK122.out 2) | ((with_reducible refine gate_callee (f := 12) rfl ?_); refine goesL_ (some 18) rfl rfl Tryd.func12 (by kernel_rfl) rfl #[.agg #[.bool a0_0, .bool a0_1, .bool a0_2]] rfl (by (try simp only [List.map_toArray, List.map_cons, List.map_nil]); first | done | rfl | (simp only [List.length_drop, List.length_take]; rfl)) ?_; (with_reducible refine (rights_Leaf.calls k a0_0 a0_1 a0_2 t125 t126 t127 t128 t129 _ A5.out).mono ?_); rintro e w13 ⟨rfl, hb⟩; refine ⟨_, rfl, ?_⟩; have n0_ := Aside0.mk (blk_below (g := gb122) (o := .cells #[.bool a0_0, .bool a0_1, .bool a0_2] 28 (0, 0)) (by (with_reducible repeat (first | refine blk_drewN ?_ _ | refine blk_drew ?_ | refine blk_alloc ?_ _)); exact BK122.out) hb); have n1_ := Aside0.mk (blk_below (g := gb123) (o := .cells #[.bool a1_0, .bool a1_1, .bool a1_2] 28 (0, 0)) (by (with_reducible repeat (first | refine blk_drewN ?_ _ | refine blk_drew ?_ | refine blk_alloc ?_ _)); exact BK123.out) hb); have n2_ := Aside0.mk (below_step (by repeat (first | (with_reducible first | exact HB.out | apply below_alloc | apply pw_below_drewN | apply below_drew1 | refine below_set ?_ GE122.out | refine below_set ?_ GE123.out) | exact HB.out)) hb); clear BK122; clear BK123; clear HB; have BK122 := n0_; have BK123 := n1_; have HB := n2_; clear n0_ n1_ n2_; (try clear hb); (try clear hb2); (try clear hk); (try clear hi)) | ((with_reducible refine gate_dst (N := 5) rfl ?_); refine box_event ?hg (N := 5) ?hd (cs := #[.int .i64 0, .int .u32 0, .bool false, .bool false]) (t := 24) ?hr ?_; (case hd => rfl); (case hg => rfl); (case hr => first | (go_simp; done) | (go_simp; rfl)); intro gb130 hg w14 hbox hb; have n0_ := Aside0.mk (blk_below (g := gb122) (o := .cells #[.bool a0_0, .bool a0_1, .bool a0_2] 28 (0, 0)) (by (with_reducible repeat (first | refine blk_drewN ?_ _ | refine blk_drew ?_ | refine blk_alloc ?_ _)); exact BK122.out) hb); have n1_ := Aside0.mk (blk_below (g := gb123) (o := .cells #[.bool a1_0, .bool a1_1, .bool a1_2] 28 (0, 0)) (by (with_reducible repeat (first | refine blk_drewN ?_ _ | refine blk_drew ?_ | refine blk_alloc ?_ _)); exact BK123.out) hb); have n2_ := Aside0.mk (below_step (by repeat (first | (with_reducible first | exact HB.out | apply below_alloc | apply pw_below_drewN | apply below_drew1 | refine below_set ?_ GE122.out | refine below_set ?_ GE123.out) | exact HB.out)) hb); have n3_ := Aside0.mk (hbox); have n4_ := Aside0.mk ((by rw [hg]; exact (below_size (by repeat (first | (with_reducible first | exact HB.out | apply below_alloc | apply pw_below_drewN | apply below_drew1 | refine below_set ?_ GE122.out | refine below_set ?_ GE123.out) | exact HB.out))) : w.heap.size ≤ gb130)); have n5_ := Aside0.mk ((by rw [hg]; exact (below_size (by repeat (first | (with_reducible first | exact HB.out | apply below_alloc | apply pw_below_drewN | apply below_drew1 | refine below_set ?_ GE122.out | refine below_set ?_ GE123.out) | exact HB.out))) : w.heap.size ≤ gb130)); have n6_ := Aside0.mk ((by rw [hg]; exact Nat.ne_of_lt (blk_lt (g := gb122) (o := .cells #[.bool a0_0, .bool a0_1, .bool a0_2] 28 (0, 0)) (by (with_reducible repeat (first | refine blk_drewN ?_ _ | refine blk_drew ?_ | refine blk_alloc ?_ _)); exact BK122.out)) : gb122 ≠ gb130)); have n7_ := Aside0.mk ((by rw [hg]; exact Nat.ne_of_gt (blk_lt (g := gb122) (o := .cells #[.bool a0_0, .bool a0_1, .bool a0_2] 28 (0, 0)) (by (with_reducible repeat (first | refine blk_drewN ?_ _ | refine blk_drew ?_ | refine blk_alloc ?_ _)); exact BK122.out)) : gb130 ≠ gb122)); have n8_ := Aside0.mk ((by rw [hg]; exact Nat.ne_of_lt (blk_lt (g := gb123) (o := .cells #[.bool a1_0, .bool a1_1, .bool a1_2] 28 (0, 0)) (by (with_reducible repeat (first | refine blk_drewN ?_ _ | refine blk_drew ?_ | refine blk_alloc ?_ _)); exact BK123.out)) : gb123 ≠ gb130)); have n9_ := Aside0.mk ((by rw [hg]; exact Nat.ne_of_gt (blk_lt (g := gb123) (o := .cells #[.bool a1_0, .bool a1_1, .bool a1_2] 28 (0, 0)) (by (with_reducible repeat (first | refine blk_drewN ?_ _ | refine blk_drew ?_ | refine blk_alloc ?_ _)); exact BK123.out)) : gb130 ≠ gb123)); clear BK122; clear BK123; clear HB; have BK122 := n0_; have BK123 := n1_; have HB := n2_; have BK130 := n3_; have GW130 := n4_; have GE130 := n5_; have NB122_130 := n6_; have NB130_122 := n7_; have NB123_130 := n8_; have NB130_123 := n9_; clear n0_ n1_ n2_ n3_ n4_ n5_ n6_ n7_ n8_ n9_; clear hb hbox hg; have hnb15 := NB130_122.out; have hnc15 := NB122_130.out; have hnb16 := NB130_123.out; have hnc16 := NB123_130.out; have hcz17_0 : w14.cell? ⟨gb130, 0, none⟩ = some (.int .i64 0) := (blk_cell BK130.out 0).trans rfl; have hcz17_1 : w14.cell? ⟨gb130, 1, none⟩ = some (.int .u32 0) := (blk_cell BK130.out 1).trans rfl; have hcz17_2 : w14.cell? ⟨gb130, 2, none⟩ = some (.bool false) := (blk_cell BK130.out 2).trans rfl; have hcz17_3 : w14.cell? ⟨gb130, 3, none⟩ = some (.bool false) := (blk_cell BK130.out 3).trans rfl; have hfz17_0 := blk_frozen BK130.out 0; have hfz17_1 := blk_frozen BK130.out 1; have hfz17_2 := blk_frozen BK130.out 2; have hfz17_3 := blk_frozen BK130.out 3; have hcz18_0 : w14.cell? ⟨gb123, 0, none⟩ = some (.bool a1_0) := (blk_cell BK123.out 0).trans rfl; have hcz18_1 : w14.cell? ⟨gb123, 1, none⟩ = some (.bool a1_1) := (blk_cell BK123.out 1).trans rfl; have hcz18_2 : w14.cell? ⟨gb123, 2, none⟩ = some (.bool a1_2) := (blk_cell BK123.out 2).trans rfl; have hfz18_0 := blk_frozen BK123.out 0; have hfz18_1 := blk_frozen BK123.out 1; have hfz18_2 := blk_frozen BK123.out 2) | ((with_reducible refine gate_callee (f := 12) rfl ?_); refine goesL_ (some 23) rfl rfl Tryd.func12 (by kernel_rfl) rfl #[.agg #[.bool a1_0, .bool a1_1, .bool a1_2]] rfl (by (try simp only [List.map_toArray, List.map_cons, List.map_nil]); first | done | rfl | (simp only [List.length_drop, List.length_take]; rfl)) ?_; (with_reducible refine (rights_Leaf.calls k a1_0 a1_1 a1_2 t131 t132 t133 t134 t135 _ A6.out).mono ?_); rintro e w19 ⟨rfl, hb⟩; refine ⟨_, rfl, ?_⟩; have n0_ := Aside0.mk (blk_below (g := gb122) (o := .cells #[.bool a0_0, .bool a0_1, .bool a0_2] 28 (0, 0)) (by (with_reducible repeat (first | refine blk_drewN ?_ _ | refine blk_drew ?_ | refine blk_alloc ?_ _)); refine blk_far ?_ NB122_130.out _; (with_reducible repeat (first | refine blk_drewN ?_ _ | refine blk_drew ?_ | refine blk_alloc ?_ _)); refine blk_far ?_ NB122_130.out _; (with_reducible repeat (first | refine blk_drewN ?_ _ | refine blk_drew ?_ | refine blk_alloc ?_ _)); refine blk_far ?_ NB122_130.out _; (with_reducible repeat (first | refine blk_drewN ?_ _ | refine blk_drew ?_ | refine blk_alloc ?_ _)); refine blk_far ?_ NB122_130.out _; (with_reducible repeat (first | refine blk_drewN ?_ _ | refine blk_drew ?_ | refine blk_alloc ?_ _)); exact BK122.out) hb); have n1_ := Aside0.mk (blk_below (g := gb123) (o := .cells #[.bool a1_0, .bool a1_1, .bool a1_2] 28 (0, 0)) (by (with_reducible repeat (first | refine blk_drewN ?_ _ | refine blk_drew ?_ | refine blk_alloc ?_ _)); refine blk_far ?_ NB123_130.out _; (with_reducible repeat (first | refine blk_drewN ?_ _ | refine blk_drew ?_ | refine blk_alloc ?_ _)); refine blk_far ?_ NB123_130.out _; (with_reducible repeat (first | refine blk_drewN ?_ _ | refine blk_drew ?_ | refine blk_alloc ?_ _)); refine blk_far ?_ NB123_130.out _; (with_reducible repeat (first | refine blk_drewN ?_ _ | refine blk_drew ?_ | refine blk_alloc ?_ _)); refine blk_far ?_ NB123_130.out _; (with_reducible repeat (first | refine blk_drewN ?_ _ | refine blk_drew ?_ | refine blk_alloc ?_ _)); exact BK123.out) hb); have n2_ := Aside0.mk (blk_below (g := gb130) (o := .cells #[.int .i64 t125, .int .u32 t126, .bool t127, .bool t128] 24 (0, 0)) (by (with_reducible repeat (first | refine blk_drewN ?_ _ | refine blk_drew ?_ | refine blk_alloc ?_ _)); refine blk_put (cs := #[.int .i64 t125, .int .u32 t126, .bool t127, .bool false]) ?_ 3 _ rfl; (with_reducible repeat (first | refine blk_drewN ?_ _ | refine blk_drew ?_ | refine blk_alloc ?_ _)); refine blk_put (cs := #[.int .i64 t125, .int .u32 t126, .bool false, .bool false]) ?_ 2 _ rfl; (with_reducible repeat (first | refine blk_drewN ?_ _ | refine blk_drew ?_ | refine blk_alloc ?_ _)); refine blk_put (cs := #[.int .i64 t125, .int .u32 0, .bool false, .bool false]) ?_ 1 _ rfl; (with_reducible repeat (first | refine blk_drewN ?_ _ | refine blk_drew ?_ | refine blk_alloc ?_ _)); refine blk_put (cs := #[.int .i64 0, .int .u32 0, .bool false, .bool false]) ?_ 0 _ rfl; (with_reducible repeat (first | refine blk_drewN ?_ _ | refine blk_drew ?_ | refine blk_alloc ?_ _)); exact BK130.out) hb); have n3_ := Aside0.mk (below_step (by repeat (first | (with_reducible first | exact HB.out | apply below_alloc | apply pw_below_drewN | apply below_drew1 | refine below_set ?_ GE122.out | refine below_set ?_ GE123.out | refine below_set ?_ GE130.out) | exact HB.out)) hb); clear BK122; clear BK123; clear BK130; clear HB; have BK122 := n0_; have BK123 := n1_; have BK130 := n2_; have HB := n3_; clear n0_ n1_ n2_ n3_; (try clear hb); (try clear hb2); (try clear hk); (try clear hi)) | ((with_reducible refine gate_dst (N := 7) rfl ?_); refine box_event ?hg (N := 7) ?hd (cs := #[.int .i64 0, .int .u32 0, .bool false, .bool false]) (t := 24) ?hr ?_; (case hd => rfl); (case hg => rfl); (case hr => first | (go_simp; done) | (go_simp; rfl)); intro gb136 hg w20 hbox hb; have n0_ := Aside0.mk (blk_below (g := gb122) (o := .cells #[.bool a0_0, .bool a0_1, .bool a0_2] 28 (0, 0)) (by (with_reducible repeat (first | refine blk_drewN ?_ _ | refine blk_drew ?_ | refine blk_alloc ?_ _)); exact BK122.out) hb); have n1_ := Aside0.mk (blk_below (g := gb123) (o := .cells #[.bool a1_0, .bool a1_1, .bool a1_2] 28 (0, 0)) (by (with_reducible repeat (first | refine blk_drewN ?_ _ | refine blk_drew ?_ | refine blk_alloc ?_ _)); exact BK123.out) hb); have n2_ := Aside0.mk (blk_below (g := gb130) (o := .cells #[.int .i64 t125, .int .u32 t126, .bool t127, .bool t128] 24 (0, 0)) (by (with_reducible repeat (first | refine blk_drewN ?_ _ | refine blk_drew ?_ | refine blk_alloc ?_ _)); exact BK130.out) hb); have n3_ := Aside0.mk (below_step (by repeat (first | (with_reducible first | exact HB.out | apply below_alloc | apply pw_below_drewN | apply below_drew1 | refine below_set ?_ GE122.out | refine below_set ?_ GE123.out | refine below_set ?_ GE130.out) | exact HB.out)) hb); have n4_ := Aside0.mk (hbox); have n5_ := Aside0.mk ((by rw [hg]; exact (below_size (by repeat (first | (with_reducible first | exact HB.out | apply below_alloc | apply pw_below_drewN | apply below_drew1 | refine below_set ?_ GE122.out | refine below_set ?_ GE123.out | refine below_set ?_ GE130.out) | exact HB.out))) : w.heap.size ≤ gb136)); have n6_ := Aside0.mk ((by rw [hg]; exact (below_size (by repeat (first | (with_reducible first | exact HB.out | apply below_alloc | apply pw_below_drewN | apply below_drew1 | refine below_set ?_ GE122.out | refine below_set ?_ GE123.out | refine below_set ?_ GE130.out) | exact HB.out))) : w.heap.size ≤ gb136)); have n7_ := Aside0.mk ((by rw [hg]; exact Nat.ne_of_lt (blk_lt (g := gb122) (o := .cells #[.bool a0_0, .bool a0_1, .bool a0_2] 28 (0, 0)) (by (with_reducible repeat (first | refine blk_drewN ?_ _ | refine blk_drew ?_ | refine blk_alloc ?_ _)); exact BK122.out)) : gb122 ≠ gb136)); have n8_ := Aside0.mk ((by rw [hg]; exact Nat.ne_of_gt (blk_lt (g := gb122) (o := .cells #[.bool a0_0, .bool a0_1, .bool a0_2] 28 (0, 0)) (by (with_reducible repeat (first | refine blk_drewN ?_ _ | refine blk_drew ?_ | refine blk_alloc ?_ _)); exact BK122.out)) : gb136 ≠ gb122)); have n9_ := Aside0.mk ((by rw [hg]; exact Nat.ne_of_lt (blk_lt (g := gb123) (o := .cells #[.bool a1_0, .bool a1_1, .bool a1_2] 28 (0, 0)) (by (with_reducible repeat (first | refine blk_drewN ?_ _ | refine blk_drew ?_ | refine blk_alloc ?_ _)); exact BK123.out)) : gb123 ≠ gb136)); have n10_ := Aside0.mk ((by rw [hg]; exact Nat.ne_of_gt (blk_lt (g := gb123) (o := .cells #[.bool a1_0, .bool a1_1, .bool a1_2] 28 (0, 0)) (by (with_reducible repeat (first | refine blk_drewN ?_ _ | refine blk_drew ?_ | refine blk_alloc ?_ _)); exact BK123.out)) : gb136 ≠ gb123)); have n11_ := Aside0.mk ((by rw [hg]; exact Nat.ne_of_lt (blk_lt (g := gb130) (o := .cells #[.int .i64 t125, .int .u32 t126, .bool t127, .bool t128] 24 (0, 0)) (by (with_reducible repeat (first | refine blk_drewN ?_ _ | refine blk_drew ?_ | refine blk_alloc ?_ _)); exact BK130.out)) : gb130 ≠ gb136)); have n12_ := Aside0.mk ((by rw [hg]; exact Nat.ne_of_gt (blk_lt (g := gb130) (o := .cells #[.int .i64 t125, .int .u32 t126, .bool t127, .bool t128] 24 (0, 0)) (by (with_reducible repeat (first | refine blk_drewN ?_ _ | refine blk_drew ?_ | refine blk_alloc ?_ _)); exact BK130.out)) : gb136 ≠ gb130)); clear BK122; clear BK123; clear BK130; clear HB; have BK122 := n0_; have BK123 := n1_; have BK130 := n2_; have HB := n3_; have BK136 := n4_; have GW136 := n5_; have GE136 := n6_; have NB122_136 := n7_; have NB136_122 := n8_; have NB123_136 := n9_; have NB136_123 := n10_; have NB130_136 := n11_; have NB136_130 := n12_; clear n0_ n1_ n2_ n3_ n4_ n5_ n6_ n7_ n8_ n9_ n10_ n11_ n12_; clear hb hbox hg; have hnb21 := NB136_122.out; have hnc21 := NB122_136.out; have hnb22 := NB136_123.out; have hnc22 := NB123_136.out; have hnb23 := NB136_130.out; have hnc23 := NB130_136.out; have hcz24_0 : w20.cell? ⟨gb136, 0, none⟩ = some (.int .i64 0) := (blk_cell BK136.out 0).trans rfl; have hcz24_1 : w20.cell? ⟨gb136, 1, none⟩ = some (.int .u32 0) := (blk_cell BK136.out 1).trans rfl; have hcz24_2 : w20.cell? ⟨gb136, 2, none⟩ = some (.bool false) := (blk_cell BK136.out 2).trans rfl; have hcz24_3 : w20.cell? ⟨gb136, 3, none⟩ = some (.bool false) := (blk_cell BK136.out 3).trans rfl; have hfz24_0 := blk_frozen BK136.out 0; have hfz24_1 := blk_frozen BK136.out 1; have hfz24_2 := blk_frozen BK136.out 2; have hfz24_3 := blk_frozen BK136.out 3))
  (try simp only [Act.put, List.setIfInBounds_toArray, List.set_cons_zero, List.set_cons_succ])
  go_cut [57] (fun v57 wc => ∃ (kq : Nat) (x57_6 : Bool), v57 = .bool x57_6 ∧ Aside0 (atlaslaw07_RightsMore.j0 kq t129 t135 x57_6 a0_0 a0_1 a0_2 a1_0 a1_1 a1_2 t125 t126 t127 t128 t131 t132 t133 t134 = some r) ∧ Aside0 (kq ≤ k) ∧ Aside0 (wc.heap[gb122]? = some (.cells #[.bool a0_0, .bool a0_1, .bool a0_2] 28 (0, 0))) ∧ Aside0 (wc.heap[gb123]? = some (.cells #[.bool a1_0, .bool a1_1, .bool a1_2] 28 (0, 0))) ∧ Aside0 (wc.heap[gb130]? = some (.cells #[.int .i64 t125, .int .u32 t126, .bool t127, .bool t128] 24 (0, 0))) ∧ Aside0 (wc.heap[gb136]? = some (.cells #[.int .i64 t131, .int .u32 t132, .bool t133, .bool t134] 24 (0, 0))) ∧ Aside0 (Below w.heap.size w wc))
  case first =>
   have H := HC7.out
   clear HC7
   by_cases c25 : a0_0 = true
   ·
    subst c25
    have H1 : (if ((t129 == 0) != true) = true then (atlaslaw07_RightsMore.j0 k t129 t135 true true a0_1 a0_2 a1_0 a1_1 a1_2 t125 t126 t127 t128 t131 t132 t133 t134) else (if a1_0 = true then (atlaslaw07_RightsMore.j0 k t129 t135 ((t135 == 0) != true) true a0_1 a0_2 a1_0 a1_1 a1_2 t125 t126 t127 t128 t131 t132 t133 t134) else (if a1_1 = true then (atlaslaw07_RightsMore.j0 k t129 t135 ((t135 == 0) != false) true a0_1 a0_2 a1_0 a1_1 a1_2 t125 t126 t127 t128 t131 t132 t133 t134) else (atlaslaw07_RightsMore.j0 k t129 t135 ((t135 == 0) != (!a1_2)) true a0_1 a0_2 a1_0 a1_1 a1_2 t125 t126 t127 t128 t131 t132 t133 t134)))) = some r := by rw [if_pos rfl] at H; exact H
    clear H
    have H := H1
    clear H1
    by_cases c26 : ((t129 == 0) != true) = true
    ·
     rw [if_pos c26] at H
     have c26b0 : ((t129 == 0) != true) = true := c26
     (try (have c26b1 : decide ((t129 == 0) = true) = false := by simpa using c26))
     (try (have c26b2 : ((t129 == 0) == true) = false := by simpa using c26))
     (try (have c26b3 : ¬ ((t129 == 0) = true) := by simpa using c26))
     (try (have c26b4 : decide ((t129 == 0) = true) = false := by have h_ := c26; revert h_; generalize ((t129 == 0)) = x_; generalize (true) = y_; revert x_ y_; decide))
     (try (have c26b5 : (((t129 == 0)) == (true)) = false := by have h_ := c26; revert h_; generalize ((t129 == 0)) = x_; generalize (true) = y_; revert x_ y_; decide))
     (try (have c26b6 : (((t129 == 0)) = (true)) = False := eq_false (by have h_ := c26; revert h_; generalize ((t129 == 0)) = x_; generalize (true) = y_; revert x_ y_; decide)))
     clear c26
     (first | rw [c26b0] | (simp only [i64_w, i32_w]; rw [c26b0]) | skip)
     have H' := Aside0.mk H
     clear H
     have hnb27 := NB122_123.out
     have hnc27 := NB123_122.out
     have hnb28 := NB122_130.out
     have hnc28 := NB130_122.out
     have hnb29 := NB122_136.out
     have hnc29 := NB136_122.out
     have hcz30_0 : w20.cell? ⟨gb122, 0, none⟩ = some (.bool true) := (blk_cell BK122.out 0).trans rfl
     have hcz30_1 : w20.cell? ⟨gb122, 1, none⟩ = some (.bool a0_1) := (blk_cell BK122.out 1).trans rfl
     have hcz30_2 : w20.cell? ⟨gb122, 2, none⟩ = some (.bool a0_2) := (blk_cell BK122.out 2).trans rfl
     have hfz30_0 := blk_frozen BK122.out 0
     have hfz30_1 := blk_frozen BK122.out 1
     have hfz30_2 := blk_frozen BK122.out 2
     go_wp2
     go_meet
     case rel => exact ⟨_, (true), (by first | rfl | (simp; done) | (simp [*]; done) | (simp [*, bnn1]; done) | (simp only [*, bnn1, Bool.not_true, Bool.not_false, Bool.false_or, Bool.true_or]; done)), H', ⟨by first | omega | exact Nat.le_refl _⟩, ⟨by (with_reducible repeat (first | refine blk_drewN ?_ _ | refine blk_drew ?_ | refine blk_alloc ?_ _)); refine blk_far ?_ NB122_136.out _; (with_reducible repeat (first | refine blk_drewN ?_ _ | refine blk_drew ?_ | refine blk_alloc ?_ _)); refine blk_far ?_ NB122_136.out _; (with_reducible repeat (first | refine blk_drewN ?_ _ | refine blk_drew ?_ | refine blk_alloc ?_ _)); refine blk_far ?_ NB122_136.out _; (with_reducible repeat (first | refine blk_drewN ?_ _ | refine blk_drew ?_ | refine blk_alloc ?_ _)); refine blk_far ?_ NB122_136.out _; (with_reducible repeat (first | refine blk_drewN ?_ _ | refine blk_drew ?_ | refine blk_alloc ?_ _)); exact BK122.out⟩, ⟨by (with_reducible repeat (first | refine blk_drewN ?_ _ | refine blk_drew ?_ | refine blk_alloc ?_ _)); refine blk_far ?_ NB123_136.out _; (with_reducible repeat (first | refine blk_drewN ?_ _ | refine blk_drew ?_ | refine blk_alloc ?_ _)); refine blk_far ?_ NB123_136.out _; (with_reducible repeat (first | refine blk_drewN ?_ _ | refine blk_drew ?_ | refine blk_alloc ?_ _)); refine blk_far ?_ NB123_136.out _; (with_reducible repeat (first | refine blk_drewN ?_ _ | refine blk_drew ?_ | refine blk_alloc ?_ _)); refine blk_far ?_ NB123_136.out _; (with_reducible repeat (first | refine blk_drewN ?_ _ | refine blk_drew ?_ | refine blk_alloc ?_ _)); exact BK123.out⟩, ⟨by (with_reducible repeat (first | refine blk_drewN ?_ _ | refine blk_drew ?_ | refine blk_alloc ?_ _)); refine blk_far ?_ NB130_136.out _; (with_reducible repeat (first | refine blk_drewN ?_ _ | refine blk_drew ?_ | refine blk_alloc ?_ _)); refine blk_far ?_ NB130_136.out _; (with_reducible repeat (first | refine blk_drewN ?_ _ | refine blk_drew ?_ | refine blk_alloc ?_ _)); refine blk_far ?_ NB130_136.out _; (with_reducible repeat (first | refine blk_drewN ?_ _ | refine blk_drew ?_ | refine blk_alloc ?_ _)); refine blk_far ?_ NB130_136.out _; (with_reducible repeat (first | refine blk_drewN ?_ _ | refine blk_drew ?_ | refine blk_alloc ?_ _)); exact BK130.out⟩, ⟨by (with_reducible repeat (first | refine blk_drewN ?_ _ | refine blk_drew ?_ | refine blk_alloc ?_ _)); refine blk_put (cs := #[.int .i64 t131, .int .u32 t132, .bool t133, .bool false]) ?_ 3 _ rfl; (with_reducible repeat (first | refine blk_drewN ?_ _ | refine blk_drew ?_ | refine blk_alloc ?_ _)); refine blk_put (cs := #[.int .i64 t131, .int .u32 t132, .bool false, .bool false]) ?_ 2 _ rfl; (with_reducible repeat (first | refine blk_drewN ?_ _ | refine blk_drew ?_ | refine blk_alloc ?_ _)); refine blk_put (cs := #[.int .i64 t131, .int .u32 0, .bool false, .bool false]) ?_ 1 _ rfl; (with_reducible repeat (first | refine blk_drewN ?_ _ | refine blk_drew ?_ | refine blk_alloc ?_ _)); refine blk_put (cs := #[.int .i64 0, .int .u32 0, .bool false, .bool false]) ?_ 0 _ rfl; (with_reducible repeat (first | refine blk_drewN ?_ _ | refine blk_drew ?_ | refine blk_alloc ?_ _)); exact BK136.out⟩, ⟨by repeat (first | (with_reducible first | exact HB.out | apply below_alloc | apply pw_below_drewN | apply below_drew1 | refine below_set ?_ GE122.out | refine below_set ?_ GE123.out | refine below_set ?_ GE130.out | refine below_set ?_ GE136.out) | exact HB.out)⟩⟩
    ·
     rw [if_neg c26] at H
     have c26b0 : ((t129 == 0) != true) = false := by simpa using c26
     (try (have c26b1 : decide ((t129 == 0) = true) = true := by simpa using c26))
     (try (have c26b2 : ((t129 == 0) == true) = true := by simpa using c26))
     (try (have c26b3 : decide ((t129 == 0) = true) = true := by have h_ := c26; revert h_; generalize ((t129 == 0)) = x_; generalize (true) = y_; revert x_ y_; decide))
     (try (have c26b4 : (((t129 == 0)) == (true)) = true := by have h_ := c26; revert h_; generalize ((t129 == 0)) = x_; generalize (true) = y_; revert x_ y_; decide))
     (try (have c26b5 : (((t129 == 0)) = (true)) = True := eq_true (by have h_ := c26; revert h_; generalize ((t129 == 0)) = x_; generalize (true) = y_; revert x_ y_; decide)))
     clear c26
     (first | rw [c26b0] | (simp only [i64_w, i32_w]; rw [c26b0]) | skip)
     by_cases c31 : a1_0 = true
     ·
      subst c31
      have H1 : (atlaslaw07_RightsMore.j0 k t129 t135 ((t135 == 0) != true) true a0_1 a0_2 true a1_1 a1_2 t125 t126 t127 t128 t131 t132 t133 t134) = some r := by rw [if_pos rfl] at H; exact H
      clear H
      have H := H1
      clear H1
      have H' := Aside0.mk H
      clear H
      have hnb32 := NB122_123.out
      have hnc32 := NB123_122.out
      have hnb33 := NB122_130.out
      have hnc33 := NB130_122.out
      have hnb34 := NB122_136.out
      have hnc34 := NB136_122.out
      have hcz35_0 : w20.cell? ⟨gb122, 0, none⟩ = some (.bool true) := (blk_cell BK122.out 0).trans rfl
      have hcz35_1 : w20.cell? ⟨gb122, 1, none⟩ = some (.bool a0_1) := (blk_cell BK122.out 1).trans rfl
      have hcz35_2 : w20.cell? ⟨gb122, 2, none⟩ = some (.bool a0_2) := (blk_cell BK122.out 2).trans rfl
      have hfz35_0 := blk_frozen BK122.out 0
      have hfz35_1 := blk_frozen BK122.out 1
      have hfz35_2 := blk_frozen BK122.out 2
      have hnb36 := NB123_130.out
      have hnc36 := NB130_123.out
      have hnb37 := NB123_136.out
      have hnc37 := NB136_123.out
      have hcz38_0 : w20.cell? ⟨gb123, 0, none⟩ = some (.bool true) := (blk_cell BK123.out 0).trans rfl
      have hcz38_1 : w20.cell? ⟨gb123, 1, none⟩ = some (.bool a1_1) := (blk_cell BK123.out 1).trans rfl
      have hcz38_2 : w20.cell? ⟨gb123, 2, none⟩ = some (.bool a1_2) := (blk_cell BK123.out 2).trans rfl
      have hfz38_0 := blk_frozen BK123.out 0
      have hfz38_1 := blk_frozen BK123.out 1
      have hfz38_2 := blk_frozen BK123.out 2
      go_wp2
      go_meet
      case rel => exact ⟨_, (((t135 == 0) != true)), (by first | rfl | (simp; done) | (simp [*]; done) | (simp [*, bnn1]; done) | (simp only [*, bnn1, Bool.not_true, Bool.not_false, Bool.false_or, Bool.true_or]; done)), H', ⟨by first | omega | exact Nat.le_refl _⟩, ⟨by (with_reducible repeat (first | refine blk_drewN ?_ _ | refine blk_drew ?_ | refine blk_alloc ?_ _)); refine blk_far ?_ NB122_136.out _; (with_reducible repeat (first | refine blk_drewN ?_ _ | refine blk_drew ?_ | refine blk_alloc ?_ _)); refine blk_far ?_ NB122_136.out _; (with_reducible repeat (first | refine blk_drewN ?_ _ | refine blk_drew ?_ | refine blk_alloc ?_ _)); refine blk_far ?_ NB122_136.out _; (with_reducible repeat (first | refine blk_drewN ?_ _ | refine blk_drew ?_ | refine blk_alloc ?_ _)); refine blk_far ?_ NB122_136.out _; (with_reducible repeat (first | refine blk_drewN ?_ _ | refine blk_drew ?_ | refine blk_alloc ?_ _)); exact BK122.out⟩, ⟨by (with_reducible repeat (first | refine blk_drewN ?_ _ | refine blk_drew ?_ | refine blk_alloc ?_ _)); refine blk_far ?_ NB123_136.out _; (with_reducible repeat (first | refine blk_drewN ?_ _ | refine blk_drew ?_ | refine blk_alloc ?_ _)); refine blk_far ?_ NB123_136.out _; (with_reducible repeat (first | refine blk_drewN ?_ _ | refine blk_drew ?_ | refine blk_alloc ?_ _)); refine blk_far ?_ NB123_136.out _; (with_reducible repeat (first | refine blk_drewN ?_ _ | refine blk_drew ?_ | refine blk_alloc ?_ _)); refine blk_far ?_ NB123_136.out _; (with_reducible repeat (first | refine blk_drewN ?_ _ | refine blk_drew ?_ | refine blk_alloc ?_ _)); exact BK123.out⟩, ⟨by (with_reducible repeat (first | refine blk_drewN ?_ _ | refine blk_drew ?_ | refine blk_alloc ?_ _)); refine blk_far ?_ NB130_136.out _; (with_reducible repeat (first | refine blk_drewN ?_ _ | refine blk_drew ?_ | refine blk_alloc ?_ _)); refine blk_far ?_ NB130_136.out _; (with_reducible repeat (first | refine blk_drewN ?_ _ | refine blk_drew ?_ | refine blk_alloc ?_ _)); refine blk_far ?_ NB130_136.out _; (with_reducible repeat (first | refine blk_drewN ?_ _ | refine blk_drew ?_ | refine blk_alloc ?_ _)); refine blk_far ?_ NB130_136.out _; (with_reducible repeat (first | refine blk_drewN ?_ _ | refine blk_drew ?_ | refine blk_alloc ?_ _)); exact BK130.out⟩, ⟨by (with_reducible repeat (first | refine blk_drewN ?_ _ | refine blk_drew ?_ | refine blk_alloc ?_ _)); refine blk_put (cs := #[.int .i64 t131, .int .u32 t132, .bool t133, .bool false]) ?_ 3 _ rfl; (with_reducible repeat (first | refine blk_drewN ?_ _ | refine blk_drew ?_ | refine blk_alloc ?_ _)); refine blk_put (cs := #[.int .i64 t131, .int .u32 t132, .bool false, .bool false]) ?_ 2 _ rfl; (with_reducible repeat (first | refine blk_drewN ?_ _ | refine blk_drew ?_ | refine blk_alloc ?_ _)); refine blk_put (cs := #[.int .i64 t131, .int .u32 0, .bool false, .bool false]) ?_ 1 _ rfl; (with_reducible repeat (first | refine blk_drewN ?_ _ | refine blk_drew ?_ | refine blk_alloc ?_ _)); refine blk_put (cs := #[.int .i64 0, .int .u32 0, .bool false, .bool false]) ?_ 0 _ rfl; (with_reducible repeat (first | refine blk_drewN ?_ _ | refine blk_drew ?_ | refine blk_alloc ?_ _)); exact BK136.out⟩, ⟨by repeat (first | (with_reducible first | exact HB.out | apply below_alloc | apply pw_below_drewN | apply below_drew1 | refine below_set ?_ GE122.out | refine below_set ?_ GE123.out | refine below_set ?_ GE130.out | refine below_set ?_ GE136.out) | exact HB.out)⟩⟩
     ·
      replace c31 := Bool.eq_false_iff.mpr c31
      subst c31
      have H1 : (if a1_1 = true then (atlaslaw07_RightsMore.j0 k t129 t135 ((t135 == 0) != false) true a0_1 a0_2 false a1_1 a1_2 t125 t126 t127 t128 t131 t132 t133 t134) else (atlaslaw07_RightsMore.j0 k t129 t135 ((t135 == 0) != (!a1_2)) true a0_1 a0_2 false a1_1 a1_2 t125 t126 t127 t128 t131 t132 t133 t134)) = some r := by rw [if_neg (show ¬ (false = true) by decide)] at H; exact H
      clear H
      have H := H1
      clear H1
      by_cases c39 : a1_1 = true
      ·
       subst c39
       have H1 : (atlaslaw07_RightsMore.j0 k t129 t135 ((t135 == 0) != false) true a0_1 a0_2 false true a1_2 t125 t126 t127 t128 t131 t132 t133 t134) = some r := by rw [if_pos rfl] at H; exact H
       clear H
       have H := H1
       clear H1
       have H' := Aside0.mk H
       clear H
       have hnb40 := NB122_123.out
       have hnc40 := NB123_122.out
       have hnb41 := NB122_130.out
       have hnc41 := NB130_122.out
       have hnb42 := NB122_136.out
       have hnc42 := NB136_122.out
       have hcz43_0 : w20.cell? ⟨gb122, 0, none⟩ = some (.bool true) := (blk_cell BK122.out 0).trans rfl
       have hcz43_1 : w20.cell? ⟨gb122, 1, none⟩ = some (.bool a0_1) := (blk_cell BK122.out 1).trans rfl
       have hcz43_2 : w20.cell? ⟨gb122, 2, none⟩ = some (.bool a0_2) := (blk_cell BK122.out 2).trans rfl
       have hfz43_0 := blk_frozen BK122.out 0
       have hfz43_1 := blk_frozen BK122.out 1
       have hfz43_2 := blk_frozen BK122.out 2
       have hnb44 := NB123_130.out
       have hnc44 := NB130_123.out
       have hnb45 := NB123_136.out
       have hnc45 := NB136_123.out
       have hcz46_0 : w20.cell? ⟨gb123, 0, none⟩ = some (.bool false) := (blk_cell BK123.out 0).trans rfl
       have hcz46_1 : w20.cell? ⟨gb123, 1, none⟩ = some (.bool true) := (blk_cell BK123.out 1).trans rfl
       have hcz46_2 : w20.cell? ⟨gb123, 2, none⟩ = some (.bool a1_2) := (blk_cell BK123.out 2).trans rfl
       have hfz46_0 := blk_frozen BK123.out 0
       have hfz46_1 := blk_frozen BK123.out 1
       have hfz46_2 := blk_frozen BK123.out 2
       go_wp2
       go_meet
       case rel => exact ⟨_, (((t135 == 0) != false)), (by first | rfl | (simp; done) | (simp [*]; done) | (simp [*, bnn1]; done) | (simp only [*, bnn1, Bool.not_true, Bool.not_false, Bool.false_or, Bool.true_or]; done)), H', ⟨by first | omega | exact Nat.le_refl _⟩, ⟨by (with_reducible repeat (first | refine blk_drewN ?_ _ | refine blk_drew ?_ | refine blk_alloc ?_ _)); refine blk_far ?_ NB122_136.out _; (with_reducible repeat (first | refine blk_drewN ?_ _ | refine blk_drew ?_ | refine blk_alloc ?_ _)); refine blk_far ?_ NB122_136.out _; (with_reducible repeat (first | refine blk_drewN ?_ _ | refine blk_drew ?_ | refine blk_alloc ?_ _)); refine blk_far ?_ NB122_136.out _; (with_reducible repeat (first | refine blk_drewN ?_ _ | refine blk_drew ?_ | refine blk_alloc ?_ _)); refine blk_far ?_ NB122_136.out _; (with_reducible repeat (first | refine blk_drewN ?_ _ | refine blk_drew ?_ | refine blk_alloc ?_ _)); exact BK122.out⟩, ⟨by (with_reducible repeat (first | refine blk_drewN ?_ _ | refine blk_drew ?_ | refine blk_alloc ?_ _)); refine blk_far ?_ NB123_136.out _; (with_reducible repeat (first | refine blk_drewN ?_ _ | refine blk_drew ?_ | refine blk_alloc ?_ _)); refine blk_far ?_ NB123_136.out _; (with_reducible repeat (first | refine blk_drewN ?_ _ | refine blk_drew ?_ | refine blk_alloc ?_ _)); refine blk_far ?_ NB123_136.out _; (with_reducible repeat (first | refine blk_drewN ?_ _ | refine blk_drew ?_ | refine blk_alloc ?_ _)); refine blk_far ?_ NB123_136.out _; (with_reducible repeat (first | refine blk_drewN ?_ _ | refine blk_drew ?_ | refine blk_alloc ?_ _)); exact BK123.out⟩, ⟨by (with_reducible repeat (first | refine blk_drewN ?_ _ | refine blk_drew ?_ | refine blk_alloc ?_ _)); refine blk_far ?_ NB130_136.out _; (with_reducible repeat (first | refine blk_drewN ?_ _ | refine blk_drew ?_ | refine blk_alloc ?_ _)); refine blk_far ?_ NB130_136.out _; (with_reducible repeat (first | refine blk_drewN ?_ _ | refine blk_drew ?_ | refine blk_alloc ?_ _)); refine blk_far ?_ NB130_136.out _; (with_reducible repeat (first | refine blk_drewN ?_ _ | refine blk_drew ?_ | refine blk_alloc ?_ _)); refine blk_far ?_ NB130_136.out _; (with_reducible repeat (first | refine blk_drewN ?_ _ | refine blk_drew ?_ | refine blk_alloc ?_ _)); exact BK130.out⟩, ⟨by (with_reducible repeat (first | refine blk_drewN ?_ _ | refine blk_drew ?_ | refine blk_alloc ?_ _)); refine blk_put (cs := #[.int .i64 t131, .int .u32 t132, .bool t133, .bool false]) ?_ 3 _ rfl; (with_reducible repeat (first | refine blk_drewN ?_ _ | refine blk_drew ?_ | refine blk_alloc ?_ _)); refine blk_put (cs := #[.int .i64 t131, .int .u32 t132, .bool false, .bool false]) ?_ 2 _ rfl; (with_reducible repeat (first | refine blk_drewN ?_ _ | refine blk_drew ?_ | refine blk_alloc ?_ _)); refine blk_put (cs := #[.int .i64 t131, .int .u32 0, .bool false, .bool false]) ?_ 1 _ rfl; (with_reducible repeat (first | refine blk_drewN ?_ _ | refine blk_drew ?_ | refine blk_alloc ?_ _)); refine blk_put (cs := #[.int .i64 0, .int .u32 0, .bool false, .bool false]) ?_ 0 _ rfl; (with_reducible repeat (first | refine blk_drewN ?_ _ | refine blk_drew ?_ | refine blk_alloc ?_ _)); exact BK136.out⟩, ⟨by repeat (first | (with_reducible first | exact HB.out | apply below_alloc | apply pw_below_drewN | apply below_drew1 | refine below_set ?_ GE122.out | refine below_set ?_ GE123.out | refine below_set ?_ GE130.out | refine below_set ?_ GE136.out) | exact HB.out)⟩⟩
      ·
       replace c39 := Bool.eq_false_iff.mpr c39
       subst c39
       have H1 : (atlaslaw07_RightsMore.j0 k t129 t135 ((t135 == 0) != (!a1_2)) true a0_1 a0_2 false false a1_2 t125 t126 t127 t128 t131 t132 t133 t134) = some r := by rw [if_neg (show ¬ (false = true) by decide)] at H; exact H
       clear H
       have H := H1
       clear H1
       have H' := Aside0.mk H
       clear H
       have hnb47 := NB122_123.out
       have hnc47 := NB123_122.out
       have hnb48 := NB122_130.out
       have hnc48 := NB130_122.out
       have hnb49 := NB122_136.out
       have hnc49 := NB136_122.out
       have hcz50_0 : w20.cell? ⟨gb122, 0, none⟩ = some (.bool true) := (blk_cell BK122.out 0).trans rfl
       have hcz50_1 : w20.cell? ⟨gb122, 1, none⟩ = some (.bool a0_1) := (blk_cell BK122.out 1).trans rfl
       have hcz50_2 : w20.cell? ⟨gb122, 2, none⟩ = some (.bool a0_2) := (blk_cell BK122.out 2).trans rfl
       have hfz50_0 := blk_frozen BK122.out 0
       have hfz50_1 := blk_frozen BK122.out 1
       have hfz50_2 := blk_frozen BK122.out 2
       have hnb51 := NB123_130.out
       have hnc51 := NB130_123.out
       have hnb52 := NB123_136.out
       have hnc52 := NB136_123.out
       have hcz53_0 : w20.cell? ⟨gb123, 0, none⟩ = some (.bool false) := (blk_cell BK123.out 0).trans rfl
       have hcz53_1 : w20.cell? ⟨gb123, 1, none⟩ = some (.bool false) := (blk_cell BK123.out 1).trans rfl
       have hcz53_2 : w20.cell? ⟨gb123, 2, none⟩ = some (.bool a1_2) := (blk_cell BK123.out 2).trans rfl
       have hfz53_0 := blk_frozen BK123.out 0
       have hfz53_1 := blk_frozen BK123.out 1
       have hfz53_2 := blk_frozen BK123.out 2
       go_wp2
       go_meet
       case rel => exact ⟨_, (((t135 == 0) != (!a1_2))), (by first | rfl | (simp; done) | (simp [*]; done) | (simp [*, bnn1]; done) | (simp only [*, bnn1, Bool.not_true, Bool.not_false, Bool.false_or, Bool.true_or]; done)), H', ⟨by first | omega | exact Nat.le_refl _⟩, ⟨by (with_reducible repeat (first | refine blk_drewN ?_ _ | refine blk_drew ?_ | refine blk_alloc ?_ _)); refine blk_far ?_ NB122_136.out _; (with_reducible repeat (first | refine blk_drewN ?_ _ | refine blk_drew ?_ | refine blk_alloc ?_ _)); refine blk_far ?_ NB122_136.out _; (with_reducible repeat (first | refine blk_drewN ?_ _ | refine blk_drew ?_ | refine blk_alloc ?_ _)); refine blk_far ?_ NB122_136.out _; (with_reducible repeat (first | refine blk_drewN ?_ _ | refine blk_drew ?_ | refine blk_alloc ?_ _)); refine blk_far ?_ NB122_136.out _; (with_reducible repeat (first | refine blk_drewN ?_ _ | refine blk_drew ?_ | refine blk_alloc ?_ _)); exact BK122.out⟩, ⟨by (with_reducible repeat (first | refine blk_drewN ?_ _ | refine blk_drew ?_ | refine blk_alloc ?_ _)); refine blk_far ?_ NB123_136.out _; (with_reducible repeat (first | refine blk_drewN ?_ _ | refine blk_drew ?_ | refine blk_alloc ?_ _)); refine blk_far ?_ NB123_136.out _; (with_reducible repeat (first | refine blk_drewN ?_ _ | refine blk_drew ?_ | refine blk_alloc ?_ _)); refine blk_far ?_ NB123_136.out _; (with_reducible repeat (first | refine blk_drewN ?_ _ | refine blk_drew ?_ | refine blk_alloc ?_ _)); refine blk_far ?_ NB123_136.out _; (with_reducible repeat (first | refine blk_drewN ?_ _ | refine blk_drew ?_ | refine blk_alloc ?_ _)); exact BK123.out⟩, ⟨by (with_reducible repeat (first | refine blk_drewN ?_ _ | refine blk_drew ?_ | refine blk_alloc ?_ _)); refine blk_far ?_ NB130_136.out _; (with_reducible repeat (first | refine blk_drewN ?_ _ | refine blk_drew ?_ | refine blk_alloc ?_ _)); refine blk_far ?_ NB130_136.out _; (with_reducible repeat (first | refine blk_drewN ?_ _ | refine blk_drew ?_ | refine blk_alloc ?_ _)); refine blk_far ?_ NB130_136.out _; (with_reducible repeat (first | refine blk_drewN ?_ _ | refine blk_drew ?_ | refine blk_alloc ?_ _)); refine blk_far ?_ NB130_136.out _; (with_reducible repeat (first | refine blk_drewN ?_ _ | refine blk_drew ?_ | refine blk_alloc ?_ _)); exact BK130.out⟩, ⟨by (with_reducible repeat (first | refine blk_drewN ?_ _ | refine blk_drew ?_ | refine blk_alloc ?_ _)); refine blk_put (cs := #[.int .i64 t131, .int .u32 t132, .bool t133, .bool false]) ?_ 3 _ rfl; (with_reducible repeat (first | refine blk_drewN ?_ _ | refine blk_drew ?_ | refine blk_alloc ?_ _)); refine blk_put (cs := #[.int .i64 t131, .int .u32 t132, .bool false, .bool false]) ?_ 2 _ rfl; (with_reducible repeat (first | refine blk_drewN ?_ _ | refine blk_drew ?_ | refine blk_alloc ?_ _)); refine blk_put (cs := #[.int .i64 t131, .int .u32 0, .bool false, .bool false]) ?_ 1 _ rfl; (with_reducible repeat (first | refine blk_drewN ?_ _ | refine blk_drew ?_ | refine blk_alloc ?_ _)); refine blk_put (cs := #[.int .i64 0, .int .u32 0, .bool false, .bool false]) ?_ 0 _ rfl; (with_reducible repeat (first | refine blk_drewN ?_ _ | refine blk_drew ?_ | refine blk_alloc ?_ _)); exact BK136.out⟩, ⟨by repeat (first | (with_reducible first | exact HB.out | apply below_alloc | apply pw_below_drewN | apply below_drew1 | refine below_set ?_ GE122.out | refine below_set ?_ GE123.out | refine below_set ?_ GE130.out | refine below_set ?_ GE136.out) | exact HB.out)⟩⟩
   ·
    replace c25 := Bool.eq_false_iff.mpr c25
    subst c25
    have H1 : (if a0_1 = true then (if ((t129 == 0) != false) = true then (atlaslaw07_RightsMore.j0 k t129 t135 true false a0_1 a0_2 a1_0 a1_1 a1_2 t125 t126 t127 t128 t131 t132 t133 t134) else (if a1_0 = true then (atlaslaw07_RightsMore.j0 k t129 t135 ((t135 == 0) != true) false a0_1 a0_2 a1_0 a1_1 a1_2 t125 t126 t127 t128 t131 t132 t133 t134) else (if a1_1 = true then (atlaslaw07_RightsMore.j0 k t129 t135 ((t135 == 0) != false) false a0_1 a0_2 a1_0 a1_1 a1_2 t125 t126 t127 t128 t131 t132 t133 t134) else (atlaslaw07_RightsMore.j0 k t129 t135 ((t135 == 0) != (!a1_2)) false a0_1 a0_2 a1_0 a1_1 a1_2 t125 t126 t127 t128 t131 t132 t133 t134)))) else (if ((t129 == 0) != (!a0_2)) = true then (atlaslaw07_RightsMore.j0 k t129 t135 true false a0_1 a0_2 a1_0 a1_1 a1_2 t125 t126 t127 t128 t131 t132 t133 t134) else (if a1_0 = true then (atlaslaw07_RightsMore.j0 k t129 t135 ((t135 == 0) != true) false a0_1 a0_2 a1_0 a1_1 a1_2 t125 t126 t127 t128 t131 t132 t133 t134) else (if a1_1 = true then (atlaslaw07_RightsMore.j0 k t129 t135 ((t135 == 0) != false) false a0_1 a0_2 a1_0 a1_1 a1_2 t125 t126 t127 t128 t131 t132 t133 t134) else (atlaslaw07_RightsMore.j0 k t129 t135 ((t135 == 0) != (!a1_2)) false a0_1 a0_2 a1_0 a1_1 a1_2 t125 t126 t127 t128 t131 t132 t133 t134))))) = some r := by rw [if_neg (show ¬ (false = true) by decide)] at H; exact H
    clear H
    have H := H1
    clear H1
    by_cases c54 : a0_1 = true
    ·
     subst c54
     have H1 : (if ((t129 == 0) != false) = true then (atlaslaw07_RightsMore.j0 k t129 t135 true false true a0_2 a1_0 a1_1 a1_2 t125 t126 t127 t128 t131 t132 t133 t134) else (if a1_0 = true then (atlaslaw07_RightsMore.j0 k t129 t135 ((t135 == 0) != true) false true a0_2 a1_0 a1_1 a1_2 t125 t126 t127 t128 t131 t132 t133 t134) else (if a1_1 = true then (atlaslaw07_RightsMore.j0 k t129 t135 ((t135 == 0) != false) false true a0_2 a1_0 a1_1 a1_2 t125 t126 t127 t128 t131 t132 t133 t134) else (atlaslaw07_RightsMore.j0 k t129 t135 ((t135 == 0) != (!a1_2)) false true a0_2 a1_0 a1_1 a1_2 t125 t126 t127 t128 t131 t132 t133 t134)))) = some r := by rw [if_pos rfl] at H; exact H
     clear H
     have H := H1
     clear H1
     by_cases c55 : ((t129 == 0) != false) = true
     ·
      rw [if_pos c55] at H
      have c55b0 : ((t129 == 0) != false) = true := c55
      (try (have c55b1 : decide ((t129 == 0) = false) = false := by simpa using c55))
      (try (have c55b2 : ((t129 == 0) == false) = false := by simpa using c55))
      (try (have c55b3 : ¬ ((t129 == 0) = false) := by simpa using c55))
      (try (have c55b4 : decide ((t129 == 0) = false) = false := by have h_ := c55; revert h_; generalize ((t129 == 0)) = x_; generalize (false) = y_; revert x_ y_; decide))
      (try (have c55b5 : (((t129 == 0)) == (false)) = false := by have h_ := c55; revert h_; generalize ((t129 == 0)) = x_; generalize (false) = y_; revert x_ y_; decide))
      (try (have c55b6 : (((t129 == 0)) = (false)) = False := eq_false (by have h_ := c55; revert h_; generalize ((t129 == 0)) = x_; generalize (false) = y_; revert x_ y_; decide)))
      clear c55
      have H' := Aside0.mk H
      clear H
      have hnb56 := NB122_123.out
      have hnc56 := NB123_122.out
      have hnb57 := NB122_130.out
      have hnc57 := NB130_122.out
      have hnb58 := NB122_136.out
      have hnc58 := NB136_122.out
      have hcz59_0 : w20.cell? ⟨gb122, 0, none⟩ = some (.bool false) := (blk_cell BK122.out 0).trans rfl
      have hcz59_1 : w20.cell? ⟨gb122, 1, none⟩ = some (.bool true) := (blk_cell BK122.out 1).trans rfl
      have hcz59_2 : w20.cell? ⟨gb122, 2, none⟩ = some (.bool a0_2) := (blk_cell BK122.out 2).trans rfl
      have hfz59_0 := blk_frozen BK122.out 0
      have hfz59_1 := blk_frozen BK122.out 1
      have hfz59_2 := blk_frozen BK122.out 2
      go_wp2
      go_meet
      case rel => exact ⟨_, (true), (by first | rfl | (simp; done) | (simp [*]; done) | (simp [*, bnn1]; done) | (simp only [*, bnn1, Bool.not_true, Bool.not_false, Bool.false_or, Bool.true_or]; done)), H', ⟨by first | omega | exact Nat.le_refl _⟩, ⟨by (with_reducible repeat (first | refine blk_drewN ?_ _ | refine blk_drew ?_ | refine blk_alloc ?_ _)); refine blk_far ?_ NB122_136.out _; (with_reducible repeat (first | refine blk_drewN ?_ _ | refine blk_drew ?_ | refine blk_alloc ?_ _)); refine blk_far ?_ NB122_136.out _; (with_reducible repeat (first | refine blk_drewN ?_ _ | refine blk_drew ?_ | refine blk_alloc ?_ _)); refine blk_far ?_ NB122_136.out _; (with_reducible repeat (first | refine blk_drewN ?_ _ | refine blk_drew ?_ | refine blk_alloc ?_ _)); refine blk_far ?_ NB122_136.out _; (with_reducible repeat (first | refine blk_drewN ?_ _ | refine blk_drew ?_ | refine blk_alloc ?_ _)); exact BK122.out⟩, ⟨by (with_reducible repeat (first | refine blk_drewN ?_ _ | refine blk_drew ?_ | refine blk_alloc ?_ _)); refine blk_far ?_ NB123_136.out _; (with_reducible repeat (first | refine blk_drewN ?_ _ | refine blk_drew ?_ | refine blk_alloc ?_ _)); refine blk_far ?_ NB123_136.out _; (with_reducible repeat (first | refine blk_drewN ?_ _ | refine blk_drew ?_ | refine blk_alloc ?_ _)); refine blk_far ?_ NB123_136.out _; (with_reducible repeat (first | refine blk_drewN ?_ _ | refine blk_drew ?_ | refine blk_alloc ?_ _)); refine blk_far ?_ NB123_136.out _; (with_reducible repeat (first | refine blk_drewN ?_ _ | refine blk_drew ?_ | refine blk_alloc ?_ _)); exact BK123.out⟩, ⟨by (with_reducible repeat (first | refine blk_drewN ?_ _ | refine blk_drew ?_ | refine blk_alloc ?_ _)); refine blk_far ?_ NB130_136.out _; (with_reducible repeat (first | refine blk_drewN ?_ _ | refine blk_drew ?_ | refine blk_alloc ?_ _)); refine blk_far ?_ NB130_136.out _; (with_reducible repeat (first | refine blk_drewN ?_ _ | refine blk_drew ?_ | refine blk_alloc ?_ _)); refine blk_far ?_ NB130_136.out _; (with_reducible repeat (first | refine blk_drewN ?_ _ | refine blk_drew ?_ | refine blk_alloc ?_ _)); refine blk_far ?_ NB130_136.out _; (with_reducible repeat (first | refine blk_drewN ?_ _ | refine blk_drew ?_ | refine blk_alloc ?_ _)); exact BK130.out⟩, ⟨by (with_reducible repeat (first | refine blk_drewN ?_ _ | refine blk_drew ?_ | refine blk_alloc ?_ _)); refine blk_put (cs := #[.int .i64 t131, .int .u32 t132, .bool t133, .bool false]) ?_ 3 _ rfl; (with_reducible repeat (first | refine blk_drewN ?_ _ | refine blk_drew ?_ | refine blk_alloc ?_ _)); refine blk_put (cs := #[.int .i64 t131, .int .u32 t132, .bool false, .bool false]) ?_ 2 _ rfl; (with_reducible repeat (first | refine blk_drewN ?_ _ | refine blk_drew ?_ | refine blk_alloc ?_ _)); refine blk_put (cs := #[.int .i64 t131, .int .u32 0, .bool false, .bool false]) ?_ 1 _ rfl; (with_reducible repeat (first | refine blk_drewN ?_ _ | refine blk_drew ?_ | refine blk_alloc ?_ _)); refine blk_put (cs := #[.int .i64 0, .int .u32 0, .bool false, .bool false]) ?_ 0 _ rfl; (with_reducible repeat (first | refine blk_drewN ?_ _ | refine blk_drew ?_ | refine blk_alloc ?_ _)); exact BK136.out⟩, ⟨by repeat (first | (with_reducible first | exact HB.out | apply below_alloc | apply pw_below_drewN | apply below_drew1 | refine below_set ?_ GE122.out | refine below_set ?_ GE123.out | refine below_set ?_ GE130.out | refine below_set ?_ GE136.out) | exact HB.out)⟩⟩
     ·
      rw [if_neg c55] at H
      have c55b0 : ((t129 == 0) != false) = false := by simpa using c55
      (try (have c55b1 : decide ((t129 == 0) = false) = true := by simpa using c55))
      (try (have c55b2 : ((t129 == 0) == false) = true := by simpa using c55))
      (try (have c55b3 : decide ((t129 == 0) = false) = true := by have h_ := c55; revert h_; generalize ((t129 == 0)) = x_; generalize (false) = y_; revert x_ y_; decide))
      (try (have c55b4 : (((t129 == 0)) == (false)) = true := by have h_ := c55; revert h_; generalize ((t129 == 0)) = x_; generalize (false) = y_; revert x_ y_; decide))
      (try (have c55b5 : (((t129 == 0)) = (false)) = True := eq_true (by have h_ := c55; revert h_; generalize ((t129 == 0)) = x_; generalize (false) = y_; revert x_ y_; decide)))
      clear c55
      by_cases c60 : a1_0 = true
      ·
       subst c60
       have H1 : (atlaslaw07_RightsMore.j0 k t129 t135 ((t135 == 0) != true) false true a0_2 true a1_1 a1_2 t125 t126 t127 t128 t131 t132 t133 t134) = some r := by rw [if_pos rfl] at H; exact H
       clear H
       have H := H1
       clear H1
       have H' := Aside0.mk H
       clear H
       have hnb61 := NB122_123.out
       have hnc61 := NB123_122.out
       have hnb62 := NB122_130.out
       have hnc62 := NB130_122.out
       have hnb63 := NB122_136.out
       have hnc63 := NB136_122.out
       have hcz64_0 : w20.cell? ⟨gb122, 0, none⟩ = some (.bool false) := (blk_cell BK122.out 0).trans rfl
       have hcz64_1 : w20.cell? ⟨gb122, 1, none⟩ = some (.bool true) := (blk_cell BK122.out 1).trans rfl
       have hcz64_2 : w20.cell? ⟨gb122, 2, none⟩ = some (.bool a0_2) := (blk_cell BK122.out 2).trans rfl
       have hfz64_0 := blk_frozen BK122.out 0
       have hfz64_1 := blk_frozen BK122.out 1
       have hfz64_2 := blk_frozen BK122.out 2
       have hnb65 := NB123_130.out
       have hnc65 := NB130_123.out
       have hnb66 := NB123_136.out
       have hnc66 := NB136_123.out
       have hcz67_0 : w20.cell? ⟨gb123, 0, none⟩ = some (.bool true) := (blk_cell BK123.out 0).trans rfl
       have hcz67_1 : w20.cell? ⟨gb123, 1, none⟩ = some (.bool a1_1) := (blk_cell BK123.out 1).trans rfl
       have hcz67_2 : w20.cell? ⟨gb123, 2, none⟩ = some (.bool a1_2) := (blk_cell BK123.out 2).trans rfl
       have hfz67_0 := blk_frozen BK123.out 0
       have hfz67_1 := blk_frozen BK123.out 1
       have hfz67_2 := blk_frozen BK123.out 2
       go_wp2
       go_meet
       case rel => exact ⟨_, (((t135 == 0) != true)), (by first | rfl | (simp; done) | (simp [*]; done) | (simp [*, bnn1]; done) | (simp only [*, bnn1, Bool.not_true, Bool.not_false, Bool.false_or, Bool.true_or]; done)), H', ⟨by first | omega | exact Nat.le_refl _⟩, ⟨by (with_reducible repeat (first | refine blk_drewN ?_ _ | refine blk_drew ?_ | refine blk_alloc ?_ _)); refine blk_far ?_ NB122_136.out _; (with_reducible repeat (first | refine blk_drewN ?_ _ | refine blk_drew ?_ | refine blk_alloc ?_ _)); refine blk_far ?_ NB122_136.out _; (with_reducible repeat (first | refine blk_drewN ?_ _ | refine blk_drew ?_ | refine blk_alloc ?_ _)); refine blk_far ?_ NB122_136.out _; (with_reducible repeat (first | refine blk_drewN ?_ _ | refine blk_drew ?_ | refine blk_alloc ?_ _)); refine blk_far ?_ NB122_136.out _; (with_reducible repeat (first | refine blk_drewN ?_ _ | refine blk_drew ?_ | refine blk_alloc ?_ _)); exact BK122.out⟩, ⟨by (with_reducible repeat (first | refine blk_drewN ?_ _ | refine blk_drew ?_ | refine blk_alloc ?_ _)); refine blk_far ?_ NB123_136.out _; (with_reducible repeat (first | refine blk_drewN ?_ _ | refine blk_drew ?_ | refine blk_alloc ?_ _)); refine blk_far ?_ NB123_136.out _; (with_reducible repeat (first | refine blk_drewN ?_ _ | refine blk_drew ?_ | refine blk_alloc ?_ _)); refine blk_far ?_ NB123_136.out _; (with_reducible repeat (first | refine blk_drewN ?_ _ | refine blk_drew ?_ | refine blk_alloc ?_ _)); refine blk_far ?_ NB123_136.out _; (with_reducible repeat (first | refine blk_drewN ?_ _ | refine blk_drew ?_ | refine blk_alloc ?_ _)); exact BK123.out⟩, ⟨by (with_reducible repeat (first | refine blk_drewN ?_ _ | refine blk_drew ?_ | refine blk_alloc ?_ _)); refine blk_far ?_ NB130_136.out _; (with_reducible repeat (first | refine blk_drewN ?_ _ | refine blk_drew ?_ | refine blk_alloc ?_ _)); refine blk_far ?_ NB130_136.out _; (with_reducible repeat (first | refine blk_drewN ?_ _ | refine blk_drew ?_ | refine blk_alloc ?_ _)); refine blk_far ?_ NB130_136.out _; (with_reducible repeat (first | refine blk_drewN ?_ _ | refine blk_drew ?_ | refine blk_alloc ?_ _)); refine blk_far ?_ NB130_136.out _; (with_reducible repeat (first | refine blk_drewN ?_ _ | refine blk_drew ?_ | refine blk_alloc ?_ _)); exact BK130.out⟩, ⟨by (with_reducible repeat (first | refine blk_drewN ?_ _ | refine blk_drew ?_ | refine blk_alloc ?_ _)); refine blk_put (cs := #[.int .i64 t131, .int .u32 t132, .bool t133, .bool false]) ?_ 3 _ rfl; (with_reducible repeat (first | refine blk_drewN ?_ _ | refine blk_drew ?_ | refine blk_alloc ?_ _)); refine blk_put (cs := #[.int .i64 t131, .int .u32 t132, .bool false, .bool false]) ?_ 2 _ rfl; (with_reducible repeat (first | refine blk_drewN ?_ _ | refine blk_drew ?_ | refine blk_alloc ?_ _)); refine blk_put (cs := #[.int .i64 t131, .int .u32 0, .bool false, .bool false]) ?_ 1 _ rfl; (with_reducible repeat (first | refine blk_drewN ?_ _ | refine blk_drew ?_ | refine blk_alloc ?_ _)); refine blk_put (cs := #[.int .i64 0, .int .u32 0, .bool false, .bool false]) ?_ 0 _ rfl; (with_reducible repeat (first | refine blk_drewN ?_ _ | refine blk_drew ?_ | refine blk_alloc ?_ _)); exact BK136.out⟩, ⟨by repeat (first | (with_reducible first | exact HB.out | apply below_alloc | apply pw_below_drewN | apply below_drew1 | refine below_set ?_ GE122.out | refine below_set ?_ GE123.out | refine below_set ?_ GE130.out | refine below_set ?_ GE136.out) | exact HB.out)⟩⟩
      ·
       replace c60 := Bool.eq_false_iff.mpr c60
       subst c60
       have H1 : (if a1_1 = true then (atlaslaw07_RightsMore.j0 k t129 t135 ((t135 == 0) != false) false true a0_2 false a1_1 a1_2 t125 t126 t127 t128 t131 t132 t133 t134) else (atlaslaw07_RightsMore.j0 k t129 t135 ((t135 == 0) != (!a1_2)) false true a0_2 false a1_1 a1_2 t125 t126 t127 t128 t131 t132 t133 t134)) = some r := by rw [if_neg (show ¬ (false = true) by decide)] at H; exact H
       clear H
       have H := H1
       clear H1
       by_cases c68 : a1_1 = true
       ·
        subst c68
        have H1 : (atlaslaw07_RightsMore.j0 k t129 t135 ((t135 == 0) != false) false true a0_2 false true a1_2 t125 t126 t127 t128 t131 t132 t133 t134) = some r := by rw [if_pos rfl] at H; exact H
        clear H
        have H := H1
        clear H1
        have H' := Aside0.mk H
        clear H
        have hnb69 := NB122_123.out
        have hnc69 := NB123_122.out
        have hnb70 := NB122_130.out
        have hnc70 := NB130_122.out
        have hnb71 := NB122_136.out
        have hnc71 := NB136_122.out
        have hcz72_0 : w20.cell? ⟨gb122, 0, none⟩ = some (.bool false) := (blk_cell BK122.out 0).trans rfl
        have hcz72_1 : w20.cell? ⟨gb122, 1, none⟩ = some (.bool true) := (blk_cell BK122.out 1).trans rfl
        have hcz72_2 : w20.cell? ⟨gb122, 2, none⟩ = some (.bool a0_2) := (blk_cell BK122.out 2).trans rfl
        have hfz72_0 := blk_frozen BK122.out 0
        have hfz72_1 := blk_frozen BK122.out 1
        have hfz72_2 := blk_frozen BK122.out 2
        have hnb73 := NB123_130.out
        have hnc73 := NB130_123.out
        have hnb74 := NB123_136.out
        have hnc74 := NB136_123.out
        have hcz75_0 : w20.cell? ⟨gb123, 0, none⟩ = some (.bool false) := (blk_cell BK123.out 0).trans rfl
        have hcz75_1 : w20.cell? ⟨gb123, 1, none⟩ = some (.bool true) := (blk_cell BK123.out 1).trans rfl
        have hcz75_2 : w20.cell? ⟨gb123, 2, none⟩ = some (.bool a1_2) := (blk_cell BK123.out 2).trans rfl
        have hfz75_0 := blk_frozen BK123.out 0
        have hfz75_1 := blk_frozen BK123.out 1
        have hfz75_2 := blk_frozen BK123.out 2
        go_wp2
        go_meet
        case rel => exact ⟨_, (((t135 == 0) != false)), (by first | rfl | (simp; done) | (simp [*]; done) | (simp [*, bnn1]; done) | (simp only [*, bnn1, Bool.not_true, Bool.not_false, Bool.false_or, Bool.true_or]; done)), H', ⟨by first | omega | exact Nat.le_refl _⟩, ⟨by (with_reducible repeat (first | refine blk_drewN ?_ _ | refine blk_drew ?_ | refine blk_alloc ?_ _)); refine blk_far ?_ NB122_136.out _; (with_reducible repeat (first | refine blk_drewN ?_ _ | refine blk_drew ?_ | refine blk_alloc ?_ _)); refine blk_far ?_ NB122_136.out _; (with_reducible repeat (first | refine blk_drewN ?_ _ | refine blk_drew ?_ | refine blk_alloc ?_ _)); refine blk_far ?_ NB122_136.out _; (with_reducible repeat (first | refine blk_drewN ?_ _ | refine blk_drew ?_ | refine blk_alloc ?_ _)); refine blk_far ?_ NB122_136.out _; (with_reducible repeat (first | refine blk_drewN ?_ _ | refine blk_drew ?_ | refine blk_alloc ?_ _)); exact BK122.out⟩, ⟨by (with_reducible repeat (first | refine blk_drewN ?_ _ | refine blk_drew ?_ | refine blk_alloc ?_ _)); refine blk_far ?_ NB123_136.out _; (with_reducible repeat (first | refine blk_drewN ?_ _ | refine blk_drew ?_ | refine blk_alloc ?_ _)); refine blk_far ?_ NB123_136.out _; (with_reducible repeat (first | refine blk_drewN ?_ _ | refine blk_drew ?_ | refine blk_alloc ?_ _)); refine blk_far ?_ NB123_136.out _; (with_reducible repeat (first | refine blk_drewN ?_ _ | refine blk_drew ?_ | refine blk_alloc ?_ _)); refine blk_far ?_ NB123_136.out _; (with_reducible repeat (first | refine blk_drewN ?_ _ | refine blk_drew ?_ | refine blk_alloc ?_ _)); exact BK123.out⟩, ⟨by (with_reducible repeat (first | refine blk_drewN ?_ _ | refine blk_drew ?_ | refine blk_alloc ?_ _)); refine blk_far ?_ NB130_136.out _; (with_reducible repeat (first | refine blk_drewN ?_ _ | refine blk_drew ?_ | refine blk_alloc ?_ _)); refine blk_far ?_ NB130_136.out _; (with_reducible repeat (first | refine blk_drewN ?_ _ | refine blk_drew ?_ | refine blk_alloc ?_ _)); refine blk_far ?_ NB130_136.out _; (with_reducible repeat (first | refine blk_drewN ?_ _ | refine blk_drew ?_ | refine blk_alloc ?_ _)); refine blk_far ?_ NB130_136.out _; (with_reducible repeat (first | refine blk_drewN ?_ _ | refine blk_drew ?_ | refine blk_alloc ?_ _)); exact BK130.out⟩, ⟨by (with_reducible repeat (first | refine blk_drewN ?_ _ | refine blk_drew ?_ | refine blk_alloc ?_ _)); refine blk_put (cs := #[.int .i64 t131, .int .u32 t132, .bool t133, .bool false]) ?_ 3 _ rfl; (with_reducible repeat (first | refine blk_drewN ?_ _ | refine blk_drew ?_ | refine blk_alloc ?_ _)); refine blk_put (cs := #[.int .i64 t131, .int .u32 t132, .bool false, .bool false]) ?_ 2 _ rfl; (with_reducible repeat (first | refine blk_drewN ?_ _ | refine blk_drew ?_ | refine blk_alloc ?_ _)); refine blk_put (cs := #[.int .i64 t131, .int .u32 0, .bool false, .bool false]) ?_ 1 _ rfl; (with_reducible repeat (first | refine blk_drewN ?_ _ | refine blk_drew ?_ | refine blk_alloc ?_ _)); refine blk_put (cs := #[.int .i64 0, .int .u32 0, .bool false, .bool false]) ?_ 0 _ rfl; (with_reducible repeat (first | refine blk_drewN ?_ _ | refine blk_drew ?_ | refine blk_alloc ?_ _)); exact BK136.out⟩, ⟨by repeat (first | (with_reducible first | exact HB.out | apply below_alloc | apply pw_below_drewN | apply below_drew1 | refine below_set ?_ GE122.out | refine below_set ?_ GE123.out | refine below_set ?_ GE130.out | refine below_set ?_ GE136.out) | exact HB.out)⟩⟩
       ·
        replace c68 := Bool.eq_false_iff.mpr c68
        subst c68
        have H1 : (atlaslaw07_RightsMore.j0 k t129 t135 ((t135 == 0) != (!a1_2)) false true a0_2 false false a1_2 t125 t126 t127 t128 t131 t132 t133 t134) = some r := by rw [if_neg (show ¬ (false = true) by decide)] at H; exact H
        clear H
        have H := H1
        clear H1
        have H' := Aside0.mk H
        clear H
        have hnb76 := NB122_123.out
        have hnc76 := NB123_122.out
        have hnb77 := NB122_130.out
        have hnc77 := NB130_122.out
        have hnb78 := NB122_136.out
        have hnc78 := NB136_122.out
        have hcz79_0 : w20.cell? ⟨gb122, 0, none⟩ = some (.bool false) := (blk_cell BK122.out 0).trans rfl
        have hcz79_1 : w20.cell? ⟨gb122, 1, none⟩ = some (.bool true) := (blk_cell BK122.out 1).trans rfl
        have hcz79_2 : w20.cell? ⟨gb122, 2, none⟩ = some (.bool a0_2) := (blk_cell BK122.out 2).trans rfl
        have hfz79_0 := blk_frozen BK122.out 0
        have hfz79_1 := blk_frozen BK122.out 1
        have hfz79_2 := blk_frozen BK122.out 2
        have hnb80 := NB123_130.out
        have hnc80 := NB130_123.out
        have hnb81 := NB123_136.out
        have hnc81 := NB136_123.out
        have hcz82_0 : w20.cell? ⟨gb123, 0, none⟩ = some (.bool false) := (blk_cell BK123.out 0).trans rfl
        have hcz82_1 : w20.cell? ⟨gb123, 1, none⟩ = some (.bool false) := (blk_cell BK123.out 1).trans rfl
        have hcz82_2 : w20.cell? ⟨gb123, 2, none⟩ = some (.bool a1_2) := (blk_cell BK123.out 2).trans rfl
        have hfz82_0 := blk_frozen BK123.out 0
        have hfz82_1 := blk_frozen BK123.out 1
        have hfz82_2 := blk_frozen BK123.out 2
        go_wp2
        go_meet
        case rel => exact ⟨_, (((t135 == 0) != (!a1_2))), (by first | rfl | (simp; done) | (simp [*]; done) | (simp [*, bnn1]; done) | (simp only [*, bnn1, Bool.not_true, Bool.not_false, Bool.false_or, Bool.true_or]; done)), H', ⟨by first | omega | exact Nat.le_refl _⟩, ⟨by (with_reducible repeat (first | refine blk_drewN ?_ _ | refine blk_drew ?_ | refine blk_alloc ?_ _)); refine blk_far ?_ NB122_136.out _; (with_reducible repeat (first | refine blk_drewN ?_ _ | refine blk_drew ?_ | refine blk_alloc ?_ _)); refine blk_far ?_ NB122_136.out _; (with_reducible repeat (first | refine blk_drewN ?_ _ | refine blk_drew ?_ | refine blk_alloc ?_ _)); refine blk_far ?_ NB122_136.out _; (with_reducible repeat (first | refine blk_drewN ?_ _ | refine blk_drew ?_ | refine blk_alloc ?_ _)); refine blk_far ?_ NB122_136.out _; (with_reducible repeat (first | refine blk_drewN ?_ _ | refine blk_drew ?_ | refine blk_alloc ?_ _)); exact BK122.out⟩, ⟨by (with_reducible repeat (first | refine blk_drewN ?_ _ | refine blk_drew ?_ | refine blk_alloc ?_ _)); refine blk_far ?_ NB123_136.out _; (with_reducible repeat (first | refine blk_drewN ?_ _ | refine blk_drew ?_ | refine blk_alloc ?_ _)); refine blk_far ?_ NB123_136.out _; (with_reducible repeat (first | refine blk_drewN ?_ _ | refine blk_drew ?_ | refine blk_alloc ?_ _)); refine blk_far ?_ NB123_136.out _; (with_reducible repeat (first | refine blk_drewN ?_ _ | refine blk_drew ?_ | refine blk_alloc ?_ _)); refine blk_far ?_ NB123_136.out _; (with_reducible repeat (first | refine blk_drewN ?_ _ | refine blk_drew ?_ | refine blk_alloc ?_ _)); exact BK123.out⟩, ⟨by (with_reducible repeat (first | refine blk_drewN ?_ _ | refine blk_drew ?_ | refine blk_alloc ?_ _)); refine blk_far ?_ NB130_136.out _; (with_reducible repeat (first | refine blk_drewN ?_ _ | refine blk_drew ?_ | refine blk_alloc ?_ _)); refine blk_far ?_ NB130_136.out _; (with_reducible repeat (first | refine blk_drewN ?_ _ | refine blk_drew ?_ | refine blk_alloc ?_ _)); refine blk_far ?_ NB130_136.out _; (with_reducible repeat (first | refine blk_drewN ?_ _ | refine blk_drew ?_ | refine blk_alloc ?_ _)); refine blk_far ?_ NB130_136.out _; (with_reducible repeat (first | refine blk_drewN ?_ _ | refine blk_drew ?_ | refine blk_alloc ?_ _)); exact BK130.out⟩, ⟨by (with_reducible repeat (first | refine blk_drewN ?_ _ | refine blk_drew ?_ | refine blk_alloc ?_ _)); refine blk_put (cs := #[.int .i64 t131, .int .u32 t132, .bool t133, .bool false]) ?_ 3 _ rfl; (with_reducible repeat (first | refine blk_drewN ?_ _ | refine blk_drew ?_ | refine blk_alloc ?_ _)); refine blk_put (cs := #[.int .i64 t131, .int .u32 t132, .bool false, .bool false]) ?_ 2 _ rfl; (with_reducible repeat (first | refine blk_drewN ?_ _ | refine blk_drew ?_ | refine blk_alloc ?_ _)); refine blk_put (cs := #[.int .i64 t131, .int .u32 0, .bool false, .bool false]) ?_ 1 _ rfl; (with_reducible repeat (first | refine blk_drewN ?_ _ | refine blk_drew ?_ | refine blk_alloc ?_ _)); refine blk_put (cs := #[.int .i64 0, .int .u32 0, .bool false, .bool false]) ?_ 0 _ rfl; (with_reducible repeat (first | refine blk_drewN ?_ _ | refine blk_drew ?_ | refine blk_alloc ?_ _)); exact BK136.out⟩, ⟨by repeat (first | (with_reducible first | exact HB.out | apply below_alloc | apply pw_below_drewN | apply below_drew1 | refine below_set ?_ GE122.out | refine below_set ?_ GE123.out | refine below_set ?_ GE130.out | refine below_set ?_ GE136.out) | exact HB.out)⟩⟩
    ·
     replace c54 := Bool.eq_false_iff.mpr c54
     subst c54
     have H1 : (if ((t129 == 0) != (!a0_2)) = true then (atlaslaw07_RightsMore.j0 k t129 t135 true false false a0_2 a1_0 a1_1 a1_2 t125 t126 t127 t128 t131 t132 t133 t134) else (if a1_0 = true then (atlaslaw07_RightsMore.j0 k t129 t135 ((t135 == 0) != true) false false a0_2 a1_0 a1_1 a1_2 t125 t126 t127 t128 t131 t132 t133 t134) else (if a1_1 = true then (atlaslaw07_RightsMore.j0 k t129 t135 ((t135 == 0) != false) false false a0_2 a1_0 a1_1 a1_2 t125 t126 t127 t128 t131 t132 t133 t134) else (atlaslaw07_RightsMore.j0 k t129 t135 ((t135 == 0) != (!a1_2)) false false a0_2 a1_0 a1_1 a1_2 t125 t126 t127 t128 t131 t132 t133 t134)))) = some r := by rw [if_neg (show ¬ (false = true) by decide)] at H; exact H
     clear H
     have H := H1
     clear H1
     by_cases c83 : ((t129 == 0) != (!a0_2)) = true
     ·
      rw [if_pos c83] at H
      have c83b0 : ((t129 == 0) != (!a0_2)) = true := c83
      (try (have c83b1 : decide ((t129 == 0) = (!a0_2)) = false := by simpa using c83))
      (try (have c83b2 : ((t129 == 0) == (!a0_2)) = false := by simpa using c83))
      (try (have c83b3 : ¬ ((t129 == 0) = (!a0_2)) := by simpa using c83))
      (try (have c83b4 : decide ((t129 == 0) = (!a0_2)) = false := by have h_ := c83; revert h_; generalize ((t129 == 0)) = x_; generalize ((!a0_2)) = y_; revert x_ y_; decide))
      (try (have c83b5 : (((t129 == 0)) == ((!a0_2))) = false := by have h_ := c83; revert h_; generalize ((t129 == 0)) = x_; generalize ((!a0_2)) = y_; revert x_ y_; decide))
      (try (have c83b6 : (((t129 == 0)) = ((!a0_2))) = False := eq_false (by have h_ := c83; revert h_; generalize ((t129 == 0)) = x_; generalize ((!a0_2)) = y_; revert x_ y_; decide)))
      clear c83
      have H' := Aside0.mk H
      clear H
      have hnb84 := NB122_123.out
      have hnc84 := NB123_122.out
      have hnb85 := NB122_130.out
      have hnc85 := NB130_122.out
      have hnb86 := NB122_136.out
      have hnc86 := NB136_122.out
      have hcz87_0 : w20.cell? ⟨gb122, 0, none⟩ = some (.bool false) := (blk_cell BK122.out 0).trans rfl
      have hcz87_1 : w20.cell? ⟨gb122, 1, none⟩ = some (.bool false) := (blk_cell BK122.out 1).trans rfl
      have hcz87_2 : w20.cell? ⟨gb122, 2, none⟩ = some (.bool a0_2) := (blk_cell BK122.out 2).trans rfl
      have hfz87_0 := blk_frozen BK122.out 0
      have hfz87_1 := blk_frozen BK122.out 1
      have hfz87_2 := blk_frozen BK122.out 2
      go_wp2
      go_meet
      case rel => exact ⟨_, (true), (by first | rfl | (simp; done) | (simp [*]; done) | (simp [*, bnn1]; done) | (simp only [*, bnn1, Bool.not_true, Bool.not_false, Bool.false_or, Bool.true_or]; done)), H', ⟨by first | omega | exact Nat.le_refl _⟩, ⟨by (with_reducible repeat (first | refine blk_drewN ?_ _ | refine blk_drew ?_ | refine blk_alloc ?_ _)); refine blk_far ?_ NB122_136.out _; (with_reducible repeat (first | refine blk_drewN ?_ _ | refine blk_drew ?_ | refine blk_alloc ?_ _)); refine blk_far ?_ NB122_136.out _; (with_reducible repeat (first | refine blk_drewN ?_ _ | refine blk_drew ?_ | refine blk_alloc ?_ _)); refine blk_far ?_ NB122_136.out _; (with_reducible repeat (first | refine blk_drewN ?_ _ | refine blk_drew ?_ | refine blk_alloc ?_ _)); refine blk_far ?_ NB122_136.out _; (with_reducible repeat (first | refine blk_drewN ?_ _ | refine blk_drew ?_ | refine blk_alloc ?_ _)); exact BK122.out⟩, ⟨by (with_reducible repeat (first | refine blk_drewN ?_ _ | refine blk_drew ?_ | refine blk_alloc ?_ _)); refine blk_far ?_ NB123_136.out _; (with_reducible repeat (first | refine blk_drewN ?_ _ | refine blk_drew ?_ | refine blk_alloc ?_ _)); refine blk_far ?_ NB123_136.out _; (with_reducible repeat (first | refine blk_drewN ?_ _ | refine blk_drew ?_ | refine blk_alloc ?_ _)); refine blk_far ?_ NB123_136.out _; (with_reducible repeat (first | refine blk_drewN ?_ _ | refine blk_drew ?_ | refine blk_alloc ?_ _)); refine blk_far ?_ NB123_136.out _; (with_reducible repeat (first | refine blk_drewN ?_ _ | refine blk_drew ?_ | refine blk_alloc ?_ _)); exact BK123.out⟩, ⟨by (with_reducible repeat (first | refine blk_drewN ?_ _ | refine blk_drew ?_ | refine blk_alloc ?_ _)); refine blk_far ?_ NB130_136.out _; (with_reducible repeat (first | refine blk_drewN ?_ _ | refine blk_drew ?_ | refine blk_alloc ?_ _)); refine blk_far ?_ NB130_136.out _; (with_reducible repeat (first | refine blk_drewN ?_ _ | refine blk_drew ?_ | refine blk_alloc ?_ _)); refine blk_far ?_ NB130_136.out _; (with_reducible repeat (first | refine blk_drewN ?_ _ | refine blk_drew ?_ | refine blk_alloc ?_ _)); refine blk_far ?_ NB130_136.out _; (with_reducible repeat (first | refine blk_drewN ?_ _ | refine blk_drew ?_ | refine blk_alloc ?_ _)); exact BK130.out⟩, ⟨by (with_reducible repeat (first | refine blk_drewN ?_ _ | refine blk_drew ?_ | refine blk_alloc ?_ _)); refine blk_put (cs := #[.int .i64 t131, .int .u32 t132, .bool t133, .bool false]) ?_ 3 _ rfl; (with_reducible repeat (first | refine blk_drewN ?_ _ | refine blk_drew ?_ | refine blk_alloc ?_ _)); refine blk_put (cs := #[.int .i64 t131, .int .u32 t132, .bool false, .bool false]) ?_ 2 _ rfl; (with_reducible repeat (first | refine blk_drewN ?_ _ | refine blk_drew ?_ | refine blk_alloc ?_ _)); refine blk_put (cs := #[.int .i64 t131, .int .u32 0, .bool false, .bool false]) ?_ 1 _ rfl; (with_reducible repeat (first | refine blk_drewN ?_ _ | refine blk_drew ?_ | refine blk_alloc ?_ _)); refine blk_put (cs := #[.int .i64 0, .int .u32 0, .bool false, .bool false]) ?_ 0 _ rfl; (with_reducible repeat (first | refine blk_drewN ?_ _ | refine blk_drew ?_ | refine blk_alloc ?_ _)); exact BK136.out⟩, ⟨by repeat (first | (with_reducible first | exact HB.out | apply below_alloc | apply pw_below_drewN | apply below_drew1 | refine below_set ?_ GE122.out | refine below_set ?_ GE123.out | refine below_set ?_ GE130.out | refine below_set ?_ GE136.out) | exact HB.out)⟩⟩
     ·
      rw [if_neg c83] at H
      have c83b0 : ((t129 == 0) != (!a0_2)) = false := by simpa using c83
      (try (have c83b1 : decide ((t129 == 0) = (!a0_2)) = true := by simpa using c83))
      (try (have c83b2 : ((t129 == 0) == (!a0_2)) = true := by simpa using c83))
      (try (have c83b3 : decide ((t129 == 0) = (!a0_2)) = true := by have h_ := c83; revert h_; generalize ((t129 == 0)) = x_; generalize ((!a0_2)) = y_; revert x_ y_; decide))
      (try (have c83b4 : (((t129 == 0)) == ((!a0_2))) = true := by have h_ := c83; revert h_; generalize ((t129 == 0)) = x_; generalize ((!a0_2)) = y_; revert x_ y_; decide))
      (try (have c83b5 : (((t129 == 0)) = ((!a0_2))) = True := eq_true (by have h_ := c83; revert h_; generalize ((t129 == 0)) = x_; generalize ((!a0_2)) = y_; revert x_ y_; decide)))
      clear c83
      by_cases c88 : a1_0 = true
      ·
       subst c88
       have H1 : (atlaslaw07_RightsMore.j0 k t129 t135 ((t135 == 0) != true) false false a0_2 true a1_1 a1_2 t125 t126 t127 t128 t131 t132 t133 t134) = some r := by rw [if_pos rfl] at H; exact H
       clear H
       have H := H1
       clear H1
       have H' := Aside0.mk H
       clear H
       have hnb89 := NB122_123.out
       have hnc89 := NB123_122.out
       have hnb90 := NB122_130.out
       have hnc90 := NB130_122.out
       have hnb91 := NB122_136.out
       have hnc91 := NB136_122.out
       have hcz92_0 : w20.cell? ⟨gb122, 0, none⟩ = some (.bool false) := (blk_cell BK122.out 0).trans rfl
       have hcz92_1 : w20.cell? ⟨gb122, 1, none⟩ = some (.bool false) := (blk_cell BK122.out 1).trans rfl
       have hcz92_2 : w20.cell? ⟨gb122, 2, none⟩ = some (.bool a0_2) := (blk_cell BK122.out 2).trans rfl
       have hfz92_0 := blk_frozen BK122.out 0
       have hfz92_1 := blk_frozen BK122.out 1
       have hfz92_2 := blk_frozen BK122.out 2
       have hnb93 := NB123_130.out
       have hnc93 := NB130_123.out
       have hnb94 := NB123_136.out
       have hnc94 := NB136_123.out
       have hcz95_0 : w20.cell? ⟨gb123, 0, none⟩ = some (.bool true) := (blk_cell BK123.out 0).trans rfl
       have hcz95_1 : w20.cell? ⟨gb123, 1, none⟩ = some (.bool a1_1) := (blk_cell BK123.out 1).trans rfl
       have hcz95_2 : w20.cell? ⟨gb123, 2, none⟩ = some (.bool a1_2) := (blk_cell BK123.out 2).trans rfl
       have hfz95_0 := blk_frozen BK123.out 0
       have hfz95_1 := blk_frozen BK123.out 1
       have hfz95_2 := blk_frozen BK123.out 2
       go_wp2
       go_meet
       case rel => exact ⟨_, (((t135 == 0) != true)), (by first | rfl | (simp; done) | (simp [*]; done) | (simp [*, bnn1]; done) | (simp only [*, bnn1, Bool.not_true, Bool.not_false, Bool.false_or, Bool.true_or]; done)), H', ⟨by first | omega | exact Nat.le_refl _⟩, ⟨by (with_reducible repeat (first | refine blk_drewN ?_ _ | refine blk_drew ?_ | refine blk_alloc ?_ _)); refine blk_far ?_ NB122_136.out _; (with_reducible repeat (first | refine blk_drewN ?_ _ | refine blk_drew ?_ | refine blk_alloc ?_ _)); refine blk_far ?_ NB122_136.out _; (with_reducible repeat (first | refine blk_drewN ?_ _ | refine blk_drew ?_ | refine blk_alloc ?_ _)); refine blk_far ?_ NB122_136.out _; (with_reducible repeat (first | refine blk_drewN ?_ _ | refine blk_drew ?_ | refine blk_alloc ?_ _)); refine blk_far ?_ NB122_136.out _; (with_reducible repeat (first | refine blk_drewN ?_ _ | refine blk_drew ?_ | refine blk_alloc ?_ _)); exact BK122.out⟩, ⟨by (with_reducible repeat (first | refine blk_drewN ?_ _ | refine blk_drew ?_ | refine blk_alloc ?_ _)); refine blk_far ?_ NB123_136.out _; (with_reducible repeat (first | refine blk_drewN ?_ _ | refine blk_drew ?_ | refine blk_alloc ?_ _)); refine blk_far ?_ NB123_136.out _; (with_reducible repeat (first | refine blk_drewN ?_ _ | refine blk_drew ?_ | refine blk_alloc ?_ _)); refine blk_far ?_ NB123_136.out _; (with_reducible repeat (first | refine blk_drewN ?_ _ | refine blk_drew ?_ | refine blk_alloc ?_ _)); refine blk_far ?_ NB123_136.out _; (with_reducible repeat (first | refine blk_drewN ?_ _ | refine blk_drew ?_ | refine blk_alloc ?_ _)); exact BK123.out⟩, ⟨by (with_reducible repeat (first | refine blk_drewN ?_ _ | refine blk_drew ?_ | refine blk_alloc ?_ _)); refine blk_far ?_ NB130_136.out _; (with_reducible repeat (first | refine blk_drewN ?_ _ | refine blk_drew ?_ | refine blk_alloc ?_ _)); refine blk_far ?_ NB130_136.out _; (with_reducible repeat (first | refine blk_drewN ?_ _ | refine blk_drew ?_ | refine blk_alloc ?_ _)); refine blk_far ?_ NB130_136.out _; (with_reducible repeat (first | refine blk_drewN ?_ _ | refine blk_drew ?_ | refine blk_alloc ?_ _)); refine blk_far ?_ NB130_136.out _; (with_reducible repeat (first | refine blk_drewN ?_ _ | refine blk_drew ?_ | refine blk_alloc ?_ _)); exact BK130.out⟩, ⟨by (with_reducible repeat (first | refine blk_drewN ?_ _ | refine blk_drew ?_ | refine blk_alloc ?_ _)); refine blk_put (cs := #[.int .i64 t131, .int .u32 t132, .bool t133, .bool false]) ?_ 3 _ rfl; (with_reducible repeat (first | refine blk_drewN ?_ _ | refine blk_drew ?_ | refine blk_alloc ?_ _)); refine blk_put (cs := #[.int .i64 t131, .int .u32 t132, .bool false, .bool false]) ?_ 2 _ rfl; (with_reducible repeat (first | refine blk_drewN ?_ _ | refine blk_drew ?_ | refine blk_alloc ?_ _)); refine blk_put (cs := #[.int .i64 t131, .int .u32 0, .bool false, .bool false]) ?_ 1 _ rfl; (with_reducible repeat (first | refine blk_drewN ?_ _ | refine blk_drew ?_ | refine blk_alloc ?_ _)); refine blk_put (cs := #[.int .i64 0, .int .u32 0, .bool false, .bool false]) ?_ 0 _ rfl; (with_reducible repeat (first | refine blk_drewN ?_ _ | refine blk_drew ?_ | refine blk_alloc ?_ _)); exact BK136.out⟩, ⟨by repeat (first | (with_reducible first | exact HB.out | apply below_alloc | apply pw_below_drewN | apply below_drew1 | refine below_set ?_ GE122.out | refine below_set ?_ GE123.out | refine below_set ?_ GE130.out | refine below_set ?_ GE136.out) | exact HB.out)⟩⟩
      ·
       replace c88 := Bool.eq_false_iff.mpr c88
       subst c88
       have H1 : (if a1_1 = true then (atlaslaw07_RightsMore.j0 k t129 t135 ((t135 == 0) != false) false false a0_2 false a1_1 a1_2 t125 t126 t127 t128 t131 t132 t133 t134) else (atlaslaw07_RightsMore.j0 k t129 t135 ((t135 == 0) != (!a1_2)) false false a0_2 false a1_1 a1_2 t125 t126 t127 t128 t131 t132 t133 t134)) = some r := by rw [if_neg (show ¬ (false = true) by decide)] at H; exact H
       clear H
       have H := H1
       clear H1
       by_cases c96 : a1_1 = true
       ·
        subst c96
        have H1 : (atlaslaw07_RightsMore.j0 k t129 t135 ((t135 == 0) != false) false false a0_2 false true a1_2 t125 t126 t127 t128 t131 t132 t133 t134) = some r := by rw [if_pos rfl] at H; exact H
        clear H
        have H := H1
        clear H1
        have H' := Aside0.mk H
        clear H
        have hnb97 := NB122_123.out
        have hnc97 := NB123_122.out
        have hnb98 := NB122_130.out
        have hnc98 := NB130_122.out
        have hnb99 := NB122_136.out
        have hnc99 := NB136_122.out
        have hcz100_0 : w20.cell? ⟨gb122, 0, none⟩ = some (.bool false) := (blk_cell BK122.out 0).trans rfl
        have hcz100_1 : w20.cell? ⟨gb122, 1, none⟩ = some (.bool false) := (blk_cell BK122.out 1).trans rfl
        have hcz100_2 : w20.cell? ⟨gb122, 2, none⟩ = some (.bool a0_2) := (blk_cell BK122.out 2).trans rfl
        have hfz100_0 := blk_frozen BK122.out 0
        have hfz100_1 := blk_frozen BK122.out 1
        have hfz100_2 := blk_frozen BK122.out 2
        have hnb101 := NB123_130.out
        have hnc101 := NB130_123.out
        have hnb102 := NB123_136.out
        have hnc102 := NB136_123.out
        have hcz103_0 : w20.cell? ⟨gb123, 0, none⟩ = some (.bool false) := (blk_cell BK123.out 0).trans rfl
        have hcz103_1 : w20.cell? ⟨gb123, 1, none⟩ = some (.bool true) := (blk_cell BK123.out 1).trans rfl
        have hcz103_2 : w20.cell? ⟨gb123, 2, none⟩ = some (.bool a1_2) := (blk_cell BK123.out 2).trans rfl
        have hfz103_0 := blk_frozen BK123.out 0
        have hfz103_1 := blk_frozen BK123.out 1
        have hfz103_2 := blk_frozen BK123.out 2
        go_wp2
        go_meet
        case rel => exact ⟨_, (((t135 == 0) != false)), (by first | rfl | (simp; done) | (simp [*]; done) | (simp [*, bnn1]; done) | (simp only [*, bnn1, Bool.not_true, Bool.not_false, Bool.false_or, Bool.true_or]; done)), H', ⟨by first | omega | exact Nat.le_refl _⟩, ⟨by (with_reducible repeat (first | refine blk_drewN ?_ _ | refine blk_drew ?_ | refine blk_alloc ?_ _)); refine blk_far ?_ NB122_136.out _; (with_reducible repeat (first | refine blk_drewN ?_ _ | refine blk_drew ?_ | refine blk_alloc ?_ _)); refine blk_far ?_ NB122_136.out _; (with_reducible repeat (first | refine blk_drewN ?_ _ | refine blk_drew ?_ | refine blk_alloc ?_ _)); refine blk_far ?_ NB122_136.out _; (with_reducible repeat (first | refine blk_drewN ?_ _ | refine blk_drew ?_ | refine blk_alloc ?_ _)); refine blk_far ?_ NB122_136.out _; (with_reducible repeat (first | refine blk_drewN ?_ _ | refine blk_drew ?_ | refine blk_alloc ?_ _)); exact BK122.out⟩, ⟨by (with_reducible repeat (first | refine blk_drewN ?_ _ | refine blk_drew ?_ | refine blk_alloc ?_ _)); refine blk_far ?_ NB123_136.out _; (with_reducible repeat (first | refine blk_drewN ?_ _ | refine blk_drew ?_ | refine blk_alloc ?_ _)); refine blk_far ?_ NB123_136.out _; (with_reducible repeat (first | refine blk_drewN ?_ _ | refine blk_drew ?_ | refine blk_alloc ?_ _)); refine blk_far ?_ NB123_136.out _; (with_reducible repeat (first | refine blk_drewN ?_ _ | refine blk_drew ?_ | refine blk_alloc ?_ _)); refine blk_far ?_ NB123_136.out _; (with_reducible repeat (first | refine blk_drewN ?_ _ | refine blk_drew ?_ | refine blk_alloc ?_ _)); exact BK123.out⟩, ⟨by (with_reducible repeat (first | refine blk_drewN ?_ _ | refine blk_drew ?_ | refine blk_alloc ?_ _)); refine blk_far ?_ NB130_136.out _; (with_reducible repeat (first | refine blk_drewN ?_ _ | refine blk_drew ?_ | refine blk_alloc ?_ _)); refine blk_far ?_ NB130_136.out _; (with_reducible repeat (first | refine blk_drewN ?_ _ | refine blk_drew ?_ | refine blk_alloc ?_ _)); refine blk_far ?_ NB130_136.out _; (with_reducible repeat (first | refine blk_drewN ?_ _ | refine blk_drew ?_ | refine blk_alloc ?_ _)); refine blk_far ?_ NB130_136.out _; (with_reducible repeat (first | refine blk_drewN ?_ _ | refine blk_drew ?_ | refine blk_alloc ?_ _)); exact BK130.out⟩, ⟨by (with_reducible repeat (first | refine blk_drewN ?_ _ | refine blk_drew ?_ | refine blk_alloc ?_ _)); refine blk_put (cs := #[.int .i64 t131, .int .u32 t132, .bool t133, .bool false]) ?_ 3 _ rfl; (with_reducible repeat (first | refine blk_drewN ?_ _ | refine blk_drew ?_ | refine blk_alloc ?_ _)); refine blk_put (cs := #[.int .i64 t131, .int .u32 t132, .bool false, .bool false]) ?_ 2 _ rfl; (with_reducible repeat (first | refine blk_drewN ?_ _ | refine blk_drew ?_ | refine blk_alloc ?_ _)); refine blk_put (cs := #[.int .i64 t131, .int .u32 0, .bool false, .bool false]) ?_ 1 _ rfl; (with_reducible repeat (first | refine blk_drewN ?_ _ | refine blk_drew ?_ | refine blk_alloc ?_ _)); refine blk_put (cs := #[.int .i64 0, .int .u32 0, .bool false, .bool false]) ?_ 0 _ rfl; (with_reducible repeat (first | refine blk_drewN ?_ _ | refine blk_drew ?_ | refine blk_alloc ?_ _)); exact BK136.out⟩, ⟨by repeat (first | (with_reducible first | exact HB.out | apply below_alloc | apply pw_below_drewN | apply below_drew1 | refine below_set ?_ GE122.out | refine below_set ?_ GE123.out | refine below_set ?_ GE130.out | refine below_set ?_ GE136.out) | exact HB.out)⟩⟩
       ·
        replace c96 := Bool.eq_false_iff.mpr c96
        subst c96
        have H1 : (atlaslaw07_RightsMore.j0 k t129 t135 ((t135 == 0) != (!a1_2)) false false a0_2 false false a1_2 t125 t126 t127 t128 t131 t132 t133 t134) = some r := by rw [if_neg (show ¬ (false = true) by decide)] at H; exact H
        clear H
        have H := H1
        clear H1
        have H' := Aside0.mk H
        clear H
        have hnb104 := NB122_123.out
        have hnc104 := NB123_122.out
        have hnb105 := NB122_130.out
        have hnc105 := NB130_122.out
        have hnb106 := NB122_136.out
        have hnc106 := NB136_122.out
        have hcz107_0 : w20.cell? ⟨gb122, 0, none⟩ = some (.bool false) := (blk_cell BK122.out 0).trans rfl
        have hcz107_1 : w20.cell? ⟨gb122, 1, none⟩ = some (.bool false) := (blk_cell BK122.out 1).trans rfl
        have hcz107_2 : w20.cell? ⟨gb122, 2, none⟩ = some (.bool a0_2) := (blk_cell BK122.out 2).trans rfl
        have hfz107_0 := blk_frozen BK122.out 0
        have hfz107_1 := blk_frozen BK122.out 1
        have hfz107_2 := blk_frozen BK122.out 2
        have hnb108 := NB123_130.out
        have hnc108 := NB130_123.out
        have hnb109 := NB123_136.out
        have hnc109 := NB136_123.out
        have hcz110_0 : w20.cell? ⟨gb123, 0, none⟩ = some (.bool false) := (blk_cell BK123.out 0).trans rfl
        have hcz110_1 : w20.cell? ⟨gb123, 1, none⟩ = some (.bool false) := (blk_cell BK123.out 1).trans rfl
        have hcz110_2 : w20.cell? ⟨gb123, 2, none⟩ = some (.bool a1_2) := (blk_cell BK123.out 2).trans rfl
        have hfz110_0 := blk_frozen BK123.out 0
        have hfz110_1 := blk_frozen BK123.out 1
        have hfz110_2 := blk_frozen BK123.out 2
        go_wp2
        go_meet
        case rel => exact ⟨_, (((t135 == 0) != (!a1_2))), (by first | rfl | (simp; done) | (simp [*]; done) | (simp [*, bnn1]; done) | (simp only [*, bnn1, Bool.not_true, Bool.not_false, Bool.false_or, Bool.true_or]; done)), H', ⟨by first | omega | exact Nat.le_refl _⟩, ⟨by (with_reducible repeat (first | refine blk_drewN ?_ _ | refine blk_drew ?_ | refine blk_alloc ?_ _)); refine blk_far ?_ NB122_136.out _; (with_reducible repeat (first | refine blk_drewN ?_ _ | refine blk_drew ?_ | refine blk_alloc ?_ _)); refine blk_far ?_ NB122_136.out _; (with_reducible repeat (first | refine blk_drewN ?_ _ | refine blk_drew ?_ | refine blk_alloc ?_ _)); refine blk_far ?_ NB122_136.out _; (with_reducible repeat (first | refine blk_drewN ?_ _ | refine blk_drew ?_ | refine blk_alloc ?_ _)); refine blk_far ?_ NB122_136.out _; (with_reducible repeat (first | refine blk_drewN ?_ _ | refine blk_drew ?_ | refine blk_alloc ?_ _)); exact BK122.out⟩, ⟨by (with_reducible repeat (first | refine blk_drewN ?_ _ | refine blk_drew ?_ | refine blk_alloc ?_ _)); refine blk_far ?_ NB123_136.out _; (with_reducible repeat (first | refine blk_drewN ?_ _ | refine blk_drew ?_ | refine blk_alloc ?_ _)); refine blk_far ?_ NB123_136.out _; (with_reducible repeat (first | refine blk_drewN ?_ _ | refine blk_drew ?_ | refine blk_alloc ?_ _)); refine blk_far ?_ NB123_136.out _; (with_reducible repeat (first | refine blk_drewN ?_ _ | refine blk_drew ?_ | refine blk_alloc ?_ _)); refine blk_far ?_ NB123_136.out _; (with_reducible repeat (first | refine blk_drewN ?_ _ | refine blk_drew ?_ | refine blk_alloc ?_ _)); exact BK123.out⟩, ⟨by (with_reducible repeat (first | refine blk_drewN ?_ _ | refine blk_drew ?_ | refine blk_alloc ?_ _)); refine blk_far ?_ NB130_136.out _; (with_reducible repeat (first | refine blk_drewN ?_ _ | refine blk_drew ?_ | refine blk_alloc ?_ _)); refine blk_far ?_ NB130_136.out _; (with_reducible repeat (first | refine blk_drewN ?_ _ | refine blk_drew ?_ | refine blk_alloc ?_ _)); refine blk_far ?_ NB130_136.out _; (with_reducible repeat (first | refine blk_drewN ?_ _ | refine blk_drew ?_ | refine blk_alloc ?_ _)); refine blk_far ?_ NB130_136.out _; (with_reducible repeat (first | refine blk_drewN ?_ _ | refine blk_drew ?_ | refine blk_alloc ?_ _)); exact BK130.out⟩, ⟨by (with_reducible repeat (first | refine blk_drewN ?_ _ | refine blk_drew ?_ | refine blk_alloc ?_ _)); refine blk_put (cs := #[.int .i64 t131, .int .u32 t132, .bool t133, .bool false]) ?_ 3 _ rfl; (with_reducible repeat (first | refine blk_drewN ?_ _ | refine blk_drew ?_ | refine blk_alloc ?_ _)); refine blk_put (cs := #[.int .i64 t131, .int .u32 t132, .bool false, .bool false]) ?_ 2 _ rfl; (with_reducible repeat (first | refine blk_drewN ?_ _ | refine blk_drew ?_ | refine blk_alloc ?_ _)); refine blk_put (cs := #[.int .i64 t131, .int .u32 0, .bool false, .bool false]) ?_ 1 _ rfl; (with_reducible repeat (first | refine blk_drewN ?_ _ | refine blk_drew ?_ | refine blk_alloc ?_ _)); refine blk_put (cs := #[.int .i64 0, .int .u32 0, .bool false, .bool false]) ?_ 0 _ rfl; (with_reducible repeat (first | refine blk_drewN ?_ _ | refine blk_drew ?_ | refine blk_alloc ?_ _)); exact BK136.out⟩, ⟨by repeat (first | (with_reducible first | exact HB.out | apply below_alloc | apply pw_below_drewN | apply below_drew1 | refine below_set ?_ GE122.out | refine below_set ?_ GE123.out | refine below_set ?_ GE130.out | refine below_set ?_ GE136.out) | exact HB.out)⟩⟩
  case rest =>
   clear HC7
   try clear c1
   try clear c2
   try clear p2
   try clear c3
   try clear c4
   try clear c5
   try clear c6
   try clear c7
   try clear c8
   try clear c9
   try clear c10
   try clear c11
   try clear c12
   try clear c15
   try clear c16
   try clear c18
   try clear c21
   try clear c22
   try clear c23
   try clear c25
   try clear c26
   try clear c26b0
   try clear c26b1
   try clear c26b2
   try clear c27
   try clear c28
   try clear c29
   try clear c31
   try clear c32
   try clear c33
   try clear c34
   try clear c36
   try clear c37
   try clear c39
   try clear c40
   try clear c41
   try clear c42
   try clear c44
   try clear c45
   try clear c47
   try clear c48
   try clear c49
   try clear c51
   try clear c52
   try clear c54
   try clear c55
   try clear c55b0
   try clear c55b1
   try clear c55b2
   try clear c56
   try clear c57
   try clear c58
   try clear c60
   try clear c61
   try clear c62
   try clear c63
   try clear c65
   try clear c66
   try clear c68
   try clear c69
   try clear c70
   try clear c71
   try clear c73
   try clear c74
   try clear c76
   try clear c77
   try clear c78
   try clear c80
   try clear c81
   try clear c83
   try clear c83b0
   try clear c83b1
   try clear c83b2
   try clear c84
   try clear c85
   try clear c86
   try clear c88
   try clear c89
   try clear c90
   try clear c91
   try clear c93
   try clear c94
   try clear c96
   try clear c97
   try clear c98
   try clear c99
   try clear c101
   try clear c102
   try clear c104
   try clear c105
   try clear c106
   try clear c108
   try clear c109
   try clear hcz100_0
   try clear hcz100_1
   try clear hcz100_2
   try clear hcz103_0
   try clear hcz103_1
   try clear hcz103_2
   try clear hcz107_0
   try clear hcz107_1
   try clear hcz107_2
   try clear hcz110_0
   try clear hcz110_1
   try clear hcz110_2
   try clear hcz12_0
   try clear hcz12_1
   try clear hcz12_2
   try clear hcz17_0
   try clear hcz17_1
   try clear hcz17_2
   try clear hcz17_3
   try clear hcz18_0
   try clear hcz18_1
   try clear hcz18_2
   try clear hcz24_0
   try clear hcz24_1
   try clear hcz24_2
   try clear hcz24_3
   try clear hcz30_0
   try clear hcz30_1
   try clear hcz30_2
   try clear hcz35_0
   try clear hcz35_1
   try clear hcz35_2
   try clear hcz38_0
   try clear hcz38_1
   try clear hcz38_2
   try clear hcz43_0
   try clear hcz43_1
   try clear hcz43_2
   try clear hcz46_0
   try clear hcz46_1
   try clear hcz46_2
   try clear hcz50_0
   try clear hcz50_1
   try clear hcz50_2
   try clear hcz53_0
   try clear hcz53_1
   try clear hcz53_2
   try clear hcz59_0
   try clear hcz59_1
   try clear hcz59_2
   try clear hcz64_0
   try clear hcz64_1
   try clear hcz64_2
   try clear hcz67_0
   try clear hcz67_1
   try clear hcz67_2
   try clear hcz72_0
   try clear hcz72_1
   try clear hcz72_2
   try clear hcz75_0
   try clear hcz75_1
   try clear hcz75_2
   try clear hcz79_0
   try clear hcz79_1
   try clear hcz79_2
   try clear hcz82_0
   try clear hcz82_1
   try clear hcz82_2
   try clear hcz87_0
   try clear hcz87_1
   try clear hcz87_2
   try clear hcz92_0
   try clear hcz92_1
   try clear hcz92_2
   try clear hcz95_0
   try clear hcz95_1
   try clear hcz95_2
   try clear hfz100_0
   try clear hfz100_1
   try clear hfz100_2
   try clear hfz103_0
   try clear hfz103_1
   try clear hfz103_2
   try clear hfz107_0
   try clear hfz107_1
   try clear hfz107_2
   try clear hfz110_0
   try clear hfz110_1
   try clear hfz110_2
   try clear hfz12_0
   try clear hfz12_1
   try clear hfz12_2
   try clear hfz17_0
   try clear hfz17_1
   try clear hfz17_2
   try clear hfz17_3
   try clear hfz18_0
   try clear hfz18_1
   try clear hfz18_2
   try clear hfz24_0
   try clear hfz24_1
   try clear hfz24_2
   try clear hfz24_3
   try clear hfz30_0
   try clear hfz30_1
   try clear hfz30_2
   try clear hfz35_0
   try clear hfz35_1
   try clear hfz35_2
   try clear hfz38_0
   try clear hfz38_1
   try clear hfz38_2
   try clear hfz43_0
   try clear hfz43_1
   try clear hfz43_2
   try clear hfz46_0
   try clear hfz46_1
   try clear hfz46_2
   try clear hfz50_0
   try clear hfz50_1
   try clear hfz50_2
   try clear hfz53_0
   try clear hfz53_1
   try clear hfz53_2
   try clear hfz59_0
   try clear hfz59_1
   try clear hfz59_2
   try clear hfz64_0
   try clear hfz64_1
   try clear hfz64_2
   try clear hfz67_0
   try clear hfz67_1
   try clear hfz67_2
   try clear hfz72_0
   try clear hfz72_1
   try clear hfz72_2
   try clear hfz75_0
   try clear hfz75_1
   try clear hfz75_2
   try clear hfz79_0
   try clear hfz79_1
   try clear hfz79_2
   try clear hfz82_0
   try clear hfz82_1
   try clear hfz82_2
   try clear hfz87_0
   try clear hfz87_1
   try clear hfz87_2
   try clear hfz92_0
   try clear hfz92_1
   try clear hfz92_2
   try clear hfz95_0
   try clear hfz95_1
   try clear hfz95_2
   obtain ⟨kq, x57_6, rfl, HA, HJ6, BK122, BK123, BK130, BK136, HB⟩ := hcut
   cases kq with
   | zero => exact absurd HA.out (by simp [atlaslaw07_RightsMore.j0])
   | succ kj6 =>
    have H := HA.out
    clear HA
    simp only [atlaslaw07_RightsMore.j0] at H
    by_cases c111 : x57_6 = true
    ·
     subst c111
     have H1 : (some false) = some r := by rw [if_pos rfl] at H; exact H
     clear H
     have H := H1
     clear H1
     obtain rfl := Option.some.inj H
     go_wp2
     go_ret
     exact ⟨by first | rfl | (simp [errW_none, errW_some] <;> rfl) | (simp [*, errW_none, errW_some] <;> rfl) | (simp [*, errW_none, errW_some] <;> exact isEmpty_ne _), by repeat (first | (with_reducible first | exact HB.out | apply below_alloc | apply pw_below_drewN | apply below_drew1 | refine below_set ?_ GE122.out | refine below_set ?_ GE123.out | refine below_set ?_ GE130.out | refine below_set ?_ GE136.out) | exact HB.out)⟩
    ·
     replace c111 := Bool.eq_false_iff.mpr c111
     subst c111
     have H1 : (if t129 = 0 then (atlaslaw07_RightsMore.j1 kj6 t129 t135 (t135 != 0) a0_0 a0_1 a0_2 a1_0 a1_1 a1_2 t125 t126 t127 t128 t131 t132 t133 t134) else (atlaslaw07_RightsMore.j1 kj6 t129 t135 true a0_0 a0_1 a0_2 a1_0 a1_1 a1_2 t125 t126 t127 t128 t131 t132 t133 t134)) = some r := by rw [if_neg (show ¬ (false = true) by decide)] at H; exact H
     clear H
     have H := H1
     clear H1
     have HC112 := Aside0.mk H
     clear H
     go_upto_region 7 with (fail)
     go_cut [63] (fun v63 wc => ∃ (kq : Nat) (x63_111 : Bool), v63 = .bool x63_111 ∧ Aside0 (atlaslaw07_RightsMore.j1 kq t129 t135 x63_111 a0_0 a0_1 a0_2 a1_0 a1_1 a1_2 t125 t126 t127 t128 t131 t132 t133 t134 = some r) ∧ Aside0 (kq ≤ kj6) ∧ Aside0 (wc.heap[gb122]? = some (.cells #[.bool a0_0, .bool a0_1, .bool a0_2] 28 (0, 0))) ∧ Aside0 (wc.heap[gb123]? = some (.cells #[.bool a1_0, .bool a1_1, .bool a1_2] 28 (0, 0))) ∧ Aside0 (wc.heap[gb130]? = some (.cells #[.int .i64 t125, .int .u32 t126, .bool t127, .bool t128] 24 (0, 0))) ∧ Aside0 (wc.heap[gb136]? = some (.cells #[.int .i64 t131, .int .u32 t132, .bool t133, .bool t134] 24 (0, 0))) ∧ Aside0 (Below w.heap.size w wc))
     case first =>
      have H := HC112.out
      clear HC112
      by_cases c113 : t129 = 0
      ·
       rw [if_pos c113] at H
       have c113b0 : (t129 == 0) = true := beq_iff_eq.mpr c113
       have c113b1 : (t129 != 0) = false := bne_eq_false_iff_eq.mpr c113
       clear c113
       (first | rw [c113b0] | (simp only [i64_w, i32_w]; rw [c113b0]) | skip)
       have H' := Aside0.mk H
       clear H
       go_wp2
       go_meet
       case rel => exact ⟨_, ((t135 != 0)), (by first | rfl | (simp; done) | (simp [*]; done) | (simp [*, bnn1]; done) | (simp only [*, bnn1, Bool.not_true, Bool.not_false, Bool.false_or, Bool.true_or]; done)), H', ⟨by have := HJ6.out; first | omega | exact Nat.le_refl _⟩, ⟨by (with_reducible repeat (first | refine blk_drewN ?_ _ | refine blk_drew ?_ | refine blk_alloc ?_ _)); exact BK122.out⟩, ⟨by (with_reducible repeat (first | refine blk_drewN ?_ _ | refine blk_drew ?_ | refine blk_alloc ?_ _)); exact BK123.out⟩, ⟨by (with_reducible repeat (first | refine blk_drewN ?_ _ | refine blk_drew ?_ | refine blk_alloc ?_ _)); exact BK130.out⟩, ⟨by (with_reducible repeat (first | refine blk_drewN ?_ _ | refine blk_drew ?_ | refine blk_alloc ?_ _)); exact BK136.out⟩, ⟨by repeat (first | (with_reducible first | exact HB.out | apply below_alloc | apply pw_below_drewN | apply below_drew1 | refine below_set ?_ GE122.out | refine below_set ?_ GE123.out | refine below_set ?_ GE130.out | refine below_set ?_ GE136.out) | exact HB.out)⟩⟩
      ·
       rw [if_neg c113] at H
       have c113b0 : (t129 == 0) = false := beq_eq_false_iff_ne.mpr c113
       have c113b1 : (t129 != 0) = true := bne_iff_ne.mpr c113
       (first | rw [c113b0] | (simp only [i64_w, i32_w]; rw [c113b0]) | skip)
       have H' := Aside0.mk H
       clear H
       go_wp2
       go_meet
       case rel => exact ⟨_, (true), (by first | rfl | (simp; done) | (simp [*]; done) | (simp [*, bnn1]; done) | (simp only [*, bnn1, Bool.not_true, Bool.not_false, Bool.false_or, Bool.true_or]; done)), H', ⟨by have := HJ6.out; first | omega | exact Nat.le_refl _⟩, ⟨by (with_reducible repeat (first | refine blk_drewN ?_ _ | refine blk_drew ?_ | refine blk_alloc ?_ _)); exact BK122.out⟩, ⟨by (with_reducible repeat (first | refine blk_drewN ?_ _ | refine blk_drew ?_ | refine blk_alloc ?_ _)); exact BK123.out⟩, ⟨by (with_reducible repeat (first | refine blk_drewN ?_ _ | refine blk_drew ?_ | refine blk_alloc ?_ _)); exact BK130.out⟩, ⟨by (with_reducible repeat (first | refine blk_drewN ?_ _ | refine blk_drew ?_ | refine blk_alloc ?_ _)); exact BK136.out⟩, ⟨by repeat (first | (with_reducible first | exact HB.out | apply below_alloc | apply pw_below_drewN | apply below_drew1 | refine below_set ?_ GE122.out | refine below_set ?_ GE123.out | refine below_set ?_ GE130.out | refine below_set ?_ GE136.out) | exact HB.out)⟩⟩
     case rest =>
      clear HC112
      try clear c1
      try clear c2
      try clear p2
      try clear c3
      try clear c4
      try clear c5
      try clear c6
      try clear c7
      try clear c8
      try clear c9
      try clear c10
      try clear c11
      try clear c12
      try clear c15
      try clear c16
      try clear c18
      try clear c21
      try clear c22
      try clear c23
      try clear c25
      try clear c26
      try clear c26b0
      try clear c26b1
      try clear c26b2
      try clear c27
      try clear c28
      try clear c29
      try clear c31
      try clear c32
      try clear c33
      try clear c34
      try clear c36
      try clear c37
      try clear c39
      try clear c40
      try clear c41
      try clear c42
      try clear c44
      try clear c45
      try clear c47
      try clear c48
      try clear c49
      try clear c51
      try clear c52
      try clear c54
      try clear c55
      try clear c55b0
      try clear c55b1
      try clear c55b2
      try clear c56
      try clear c57
      try clear c58
      try clear c60
      try clear c61
      try clear c62
      try clear c63
      try clear c65
      try clear c66
      try clear c68
      try clear c69
      try clear c70
      try clear c71
      try clear c73
      try clear c74
      try clear c76
      try clear c77
      try clear c78
      try clear c80
      try clear c81
      try clear c83
      try clear c83b0
      try clear c83b1
      try clear c83b2
      try clear c84
      try clear c85
      try clear c86
      try clear c88
      try clear c89
      try clear c90
      try clear c91
      try clear c93
      try clear c94
      try clear c96
      try clear c97
      try clear c98
      try clear c99
      try clear c101
      try clear c102
      try clear c104
      try clear c105
      try clear c106
      try clear c108
      try clear c109
      try clear c111
      try clear c113
      try clear c113b0
      try clear c113b1
      try clear hcz100_0
      try clear hcz100_1
      try clear hcz100_2
      try clear hcz103_0
      try clear hcz103_1
      try clear hcz103_2
      try clear hcz107_0
      try clear hcz107_1
      try clear hcz107_2
      try clear hcz110_0
      try clear hcz110_1
      try clear hcz110_2
      try clear hcz12_0
      try clear hcz12_1
      try clear hcz12_2
      try clear hcz17_0
      try clear hcz17_1
      try clear hcz17_2
      try clear hcz17_3
      try clear hcz18_0
      try clear hcz18_1
      try clear hcz18_2
      try clear hcz24_0
      try clear hcz24_1
      try clear hcz24_2
      try clear hcz24_3
      try clear hcz30_0
      try clear hcz30_1
      try clear hcz30_2
      try clear hcz35_0
      try clear hcz35_1
      try clear hcz35_2
      try clear hcz38_0
      try clear hcz38_1
      try clear hcz38_2
      try clear hcz43_0
      try clear hcz43_1
      try clear hcz43_2
      try clear hcz46_0
      try clear hcz46_1
      try clear hcz46_2
      try clear hcz50_0
      try clear hcz50_1
      try clear hcz50_2
      try clear hcz53_0
      try clear hcz53_1
      try clear hcz53_2
      try clear hcz59_0
      try clear hcz59_1
      try clear hcz59_2
      try clear hcz64_0
      try clear hcz64_1
      try clear hcz64_2
      try clear hcz67_0
      try clear hcz67_1
      try clear hcz67_2
      try clear hcz72_0
      try clear hcz72_1
      try clear hcz72_2
      try clear hcz75_0
      try clear hcz75_1
      try clear hcz75_2
      try clear hcz79_0
      try clear hcz79_1
      try clear hcz79_2
      try clear hcz82_0
      try clear hcz82_1
      try clear hcz82_2
      try clear hcz87_0
      try clear hcz87_1
      try clear hcz87_2
      try clear hcz92_0
      try clear hcz92_1
      try clear hcz92_2
      try clear hcz95_0
      try clear hcz95_1
      try clear hcz95_2
      try clear hfz100_0
      try clear hfz100_1
      try clear hfz100_2
      try clear hfz103_0
      try clear hfz103_1
      try clear hfz103_2
      try clear hfz107_0
      try clear hfz107_1
      try clear hfz107_2
      try clear hfz110_0
      try clear hfz110_1
      try clear hfz110_2
      try clear hfz12_0
      try clear hfz12_1
      try clear hfz12_2
      try clear hfz17_0
      try clear hfz17_1
      try clear hfz17_2
      try clear hfz17_3
      try clear hfz18_0
      try clear hfz18_1
      try clear hfz18_2
      try clear hfz24_0
      try clear hfz24_1
      try clear hfz24_2
      try clear hfz24_3
      try clear hfz30_0
      try clear hfz30_1
      try clear hfz30_2
      try clear hfz35_0
      try clear hfz35_1
      try clear hfz35_2
      try clear hfz38_0
      try clear hfz38_1
      try clear hfz38_2
      try clear hfz43_0
      try clear hfz43_1
      try clear hfz43_2
      try clear hfz46_0
      try clear hfz46_1
      try clear hfz46_2
      try clear hfz50_0
      try clear hfz50_1
      try clear hfz50_2
      try clear hfz53_0
      try clear hfz53_1
      try clear hfz53_2
      try clear hfz59_0
      try clear hfz59_1
      try clear hfz59_2
      try clear hfz64_0
      try clear hfz64_1
      try clear hfz64_2
      try clear hfz67_0
      try clear hfz67_1
      try clear hfz67_2
      try clear hfz72_0
      try clear hfz72_1
      try clear hfz72_2
      try clear hfz75_0
      try clear hfz75_1
      try clear hfz75_2
      try clear hfz79_0
      try clear hfz79_1
      try clear hfz79_2
      try clear hfz82_0
      try clear hfz82_1
      try clear hfz82_2
      try clear hfz87_0
      try clear hfz87_1
      try clear hfz87_2
      try clear hfz92_0
      try clear hfz92_1
      try clear hfz92_2
      try clear hfz95_0
      try clear hfz95_1
      try clear hfz95_2
      try clear p2
      obtain ⟨kq, x63_111, rfl, HA, HJ111, BK122, BK123, BK130, BK136, HB⟩ := hcut
      cases kq with
      | zero => exact absurd HA.out (by simp [atlaslaw07_RightsMore.j1])
      | succ kj111 =>
       have H := HA.out
       clear HA
       simp only [atlaslaw07_RightsMore.j1] at H
       by_cases c114 : x63_111 = true
       ·
        subst c114
        have H1 : (if t129 = 0 then (if t135 = 0 then (some true) else (some (t131 == 0 && (t132 == 0 && (!t133 && (!t134)))))) else (if (t125 == 0 && (t126 == 0 && (!t127 && (!t128)))) = true then (if t135 = 0 then (some true) else (some (t131 == 0 && (t132 == 0 && (!t133 && (!t134)))))) else (some false))) = some r := by rw [if_pos rfl] at H; exact H
        clear H
        have H := H1
        clear H1
        by_cases c115 : t129 = 0
        ·
         rw [if_pos c115] at H
         have c115b0 : (t129 == 0) = true := beq_iff_eq.mpr c115
         have c115b1 : (t129 != 0) = false := bne_eq_false_iff_eq.mpr c115
         clear c115
         by_cases c116 : t135 = 0
         ·
          rw [if_pos c116] at H
          have c116b0 : (t135 == 0) = true := beq_iff_eq.mpr c116
          have c116b1 : (t135 != 0) = false := bne_eq_false_iff_eq.mpr c116
          clear c116
          obtain rfl := Option.some.inj H
          go_wp2
          go_ret
          exact ⟨by first | rfl | (simp [errW_none, errW_some] <;> rfl) | (simp [*, errW_none, errW_some] <;> rfl) | (simp [*, errW_none, errW_some] <;> exact isEmpty_ne _), by repeat (first | (with_reducible first | exact HB.out | apply below_alloc | apply pw_below_drewN | apply below_drew1 | refine below_set ?_ GE122.out | refine below_set ?_ GE123.out | refine below_set ?_ GE130.out | refine below_set ?_ GE136.out) | exact HB.out)⟩
         ·
          rw [if_neg c116] at H
          have c116b0 : (t135 == 0) = false := beq_eq_false_iff_ne.mpr c116
          have c116b1 : (t135 != 0) = true := bne_iff_ne.mpr c116
          obtain rfl := Option.some.inj H
          have hnb117 := NB136_122.out
          have hnc117 := NB122_136.out
          have hnb118 := NB136_123.out
          have hnc118 := NB123_136.out
          have hnb119 := NB136_130.out
          have hnc119 := NB130_136.out
          have hcz120_0 : wc.cell? ⟨gb136, 0, none⟩ = some (.int .i64 t131) := (blk_cell BK136.out 0).trans rfl
          have hcz120_1 : wc.cell? ⟨gb136, 1, none⟩ = some (.int .u32 t132) := (blk_cell BK136.out 1).trans rfl
          have hcz120_2 : wc.cell? ⟨gb136, 2, none⟩ = some (.bool t133) := (blk_cell BK136.out 2).trans rfl
          have hcz120_3 : wc.cell? ⟨gb136, 3, none⟩ = some (.bool t134) := (blk_cell BK136.out 3).trans rfl
          have hfz120_0 := blk_frozen BK136.out 0
          have hfz120_1 := blk_frozen BK136.out 1
          have hfz120_2 := blk_frozen BK136.out 2
          have hfz120_3 := blk_frozen BK136.out 3
          go_wp2
          go_ret
          exact ⟨by first | rfl | (simp [errW_none, errW_some] <;> rfl) | (simp [*, errW_none, errW_some] <;> rfl) | (simp [*, errW_none, errW_some] <;> exact isEmpty_ne _), by repeat (first | (with_reducible first | exact HB.out | apply below_alloc | apply pw_below_drewN | apply below_drew1 | refine below_set ?_ GE122.out | refine below_set ?_ GE123.out | refine below_set ?_ GE130.out | refine below_set ?_ GE136.out) | exact HB.out)⟩
        ·
         rw [if_neg c115] at H
         have c115b0 : (t129 == 0) = false := beq_eq_false_iff_ne.mpr c115
         have c115b1 : (t129 != 0) = true := bne_iff_ne.mpr c115
         by_cases c121 : (t125 == 0 && (t126 == 0 && (!t127 && (!t128)))) = true
         ·
          rw [if_pos c121] at H
          have c121b0 : (t125 == 0 && (t126 == 0 && (!t127 && (!t128)))) = true := c121
          (try (have c121b1 : decide (t125 = 0 && (t126 == 0 && (!t127 && (!t128)))) = true := by simpa using c121))
          (try (have c121b2 : (t125 == 0 && (t126 == 0 && (!t127 && (!t128)))) = true := by simpa using c121))
          (try (have c121b3 : decide (t125 = 0 && (t126 == 0 && (!t127 && (!t128)))) = true := by have h_ := c121; revert h_; generalize (t125) = x_; generalize (0 && (t126 == 0 && (!t127 && (!t128)))) = y_; revert x_ y_; decide))
          (try (have c121b4 : ((t125) == (0 && (t126 == 0 && (!t127 && (!t128))))) = true := by have h_ := c121; revert h_; generalize (t125) = x_; generalize (0 && (t126 == 0 && (!t127 && (!t128)))) = y_; revert x_ y_; decide))
          (try (have c121b5 : ((t125) = (0 && (t126 == 0 && (!t127 && (!t128))))) = True := eq_true (by have h_ := c121; revert h_; generalize (t125) = x_; generalize (0 && (t126 == 0 && (!t127 && (!t128)))) = y_; revert x_ y_; decide)))
          clear c121
          by_cases c122 : t135 = 0
          ·
           rw [if_pos c122] at H
           have c122b0 : (t135 == 0) = true := beq_iff_eq.mpr c122
           have c122b1 : (t135 != 0) = false := bne_eq_false_iff_eq.mpr c122
           clear c122
           obtain rfl := Option.some.inj H
           have hnb123 := NB130_122.out
           have hnc123 := NB122_130.out
           have hnb124 := NB130_123.out
           have hnc124 := NB123_130.out
           have hnb125 := NB130_136.out
           have hnc125 := NB136_130.out
           have hcz126_0 : wc.cell? ⟨gb130, 0, none⟩ = some (.int .i64 t125) := (blk_cell BK130.out 0).trans rfl
           have hcz126_1 : wc.cell? ⟨gb130, 1, none⟩ = some (.int .u32 t126) := (blk_cell BK130.out 1).trans rfl
           have hcz126_2 : wc.cell? ⟨gb130, 2, none⟩ = some (.bool t127) := (blk_cell BK130.out 2).trans rfl
           have hcz126_3 : wc.cell? ⟨gb130, 3, none⟩ = some (.bool t128) := (blk_cell BK130.out 3).trans rfl
           have hfz126_0 := blk_frozen BK130.out 0
           have hfz126_1 := blk_frozen BK130.out 1
           have hfz126_2 := blk_frozen BK130.out 2
           have hfz126_3 := blk_frozen BK130.out 3
           go_wp2
           go_ret
           exact ⟨by first | rfl | (simp [errW_none, errW_some] <;> rfl) | (simp [*, errW_none, errW_some] <;> rfl) | (simp [*, errW_none, errW_some] <;> exact isEmpty_ne _), by repeat (first | (with_reducible first | exact HB.out | apply below_alloc | apply pw_below_drewN | apply below_drew1 | refine below_set ?_ GE122.out | refine below_set ?_ GE123.out | refine below_set ?_ GE130.out | refine below_set ?_ GE136.out) | exact HB.out)⟩
          ·
           rw [if_neg c122] at H
           have c122b0 : (t135 == 0) = false := beq_eq_false_iff_ne.mpr c122
           have c122b1 : (t135 != 0) = true := bne_iff_ne.mpr c122
           obtain rfl := Option.some.inj H
           have hnb127 := NB130_122.out
           have hnc127 := NB122_130.out
           have hnb128 := NB130_123.out
           have hnc128 := NB123_130.out
           have hnb129 := NB130_136.out
           have hnc129 := NB136_130.out
           have hcz130_0 : wc.cell? ⟨gb130, 0, none⟩ = some (.int .i64 t125) := (blk_cell BK130.out 0).trans rfl
           have hcz130_1 : wc.cell? ⟨gb130, 1, none⟩ = some (.int .u32 t126) := (blk_cell BK130.out 1).trans rfl
           have hcz130_2 : wc.cell? ⟨gb130, 2, none⟩ = some (.bool t127) := (blk_cell BK130.out 2).trans rfl
           have hcz130_3 : wc.cell? ⟨gb130, 3, none⟩ = some (.bool t128) := (blk_cell BK130.out 3).trans rfl
           have hfz130_0 := blk_frozen BK130.out 0
           have hfz130_1 := blk_frozen BK130.out 1
           have hfz130_2 := blk_frozen BK130.out 2
           have hfz130_3 := blk_frozen BK130.out 3
           have hnb131 := NB136_122.out
           have hnc131 := NB122_136.out
           have hnb132 := NB136_123.out
           have hnc132 := NB123_136.out
           have hcz133_0 : wc.cell? ⟨gb136, 0, none⟩ = some (.int .i64 t131) := (blk_cell BK136.out 0).trans rfl
           have hcz133_1 : wc.cell? ⟨gb136, 1, none⟩ = some (.int .u32 t132) := (blk_cell BK136.out 1).trans rfl
           have hcz133_2 : wc.cell? ⟨gb136, 2, none⟩ = some (.bool t133) := (blk_cell BK136.out 2).trans rfl
           have hcz133_3 : wc.cell? ⟨gb136, 3, none⟩ = some (.bool t134) := (blk_cell BK136.out 3).trans rfl
           have hfz133_0 := blk_frozen BK136.out 0
           have hfz133_1 := blk_frozen BK136.out 1
           have hfz133_2 := blk_frozen BK136.out 2
           have hfz133_3 := blk_frozen BK136.out 3
           go_wp2
           go_ret
           exact ⟨by first | rfl | (simp [errW_none, errW_some] <;> rfl) | (simp [*, errW_none, errW_some] <;> rfl) | (simp [*, errW_none, errW_some] <;> exact isEmpty_ne _), by repeat (first | (with_reducible first | exact HB.out | apply below_alloc | apply pw_below_drewN | apply below_drew1 | refine below_set ?_ GE122.out | refine below_set ?_ GE123.out | refine below_set ?_ GE130.out | refine below_set ?_ GE136.out) | exact HB.out)⟩
         ·
          rw [if_neg c121] at H
          have c121b0 : (t125 == 0 && (t126 == 0 && (!t127 && (!t128)))) = false := by simpa using c121
          (try (have c121b1 : decide (t125 = 0 && (t126 == 0 && (!t127 && (!t128)))) = false := by simpa using c121))
          (try (have c121b2 : (t125 == 0 && (t126 == 0 && (!t127 && (!t128)))) = false := by simpa using c121))
          (try (have c121b3 : ¬ (t125 = 0 && (t126 == 0 && (!t127 && (!t128)))) := by simpa using c121))
          (try (have c121b4 : decide (t125 = 0 && (t126 == 0 && (!t127 && (!t128)))) = false := by have h_ := c121; revert h_; generalize (t125) = x_; generalize (0 && (t126 == 0 && (!t127 && (!t128)))) = y_; revert x_ y_; decide))
          (try (have c121b5 : ((t125) == (0 && (t126 == 0 && (!t127 && (!t128))))) = false := by have h_ := c121; revert h_; generalize (t125) = x_; generalize (0 && (t126 == 0 && (!t127 && (!t128)))) = y_; revert x_ y_; decide))
          (try (have c121b6 : ((t125) = (0 && (t126 == 0 && (!t127 && (!t128))))) = False := eq_false (by have h_ := c121; revert h_; generalize (t125) = x_; generalize (0 && (t126 == 0 && (!t127 && (!t128)))) = y_; revert x_ y_; decide)))
          clear c121
          obtain rfl := Option.some.inj H
          have hnb134 := NB130_122.out
          have hnc134 := NB122_130.out
          have hnb135 := NB130_123.out
          have hnc135 := NB123_130.out
          have hnb136 := NB130_136.out
          have hnc136 := NB136_130.out
          have hcz137_0 : wc.cell? ⟨gb130, 0, none⟩ = some (.int .i64 t125) := (blk_cell BK130.out 0).trans rfl
          have hcz137_1 : wc.cell? ⟨gb130, 1, none⟩ = some (.int .u32 t126) := (blk_cell BK130.out 1).trans rfl
          have hcz137_2 : wc.cell? ⟨gb130, 2, none⟩ = some (.bool t127) := (blk_cell BK130.out 2).trans rfl
          have hcz137_3 : wc.cell? ⟨gb130, 3, none⟩ = some (.bool t128) := (blk_cell BK130.out 3).trans rfl
          have hfz137_0 := blk_frozen BK130.out 0
          have hfz137_1 := blk_frozen BK130.out 1
          have hfz137_2 := blk_frozen BK130.out 2
          have hfz137_3 := blk_frozen BK130.out 3
          go_wp2
          go_ret
          exact ⟨by first | rfl | (simp [errW_none, errW_some] <;> rfl) | (simp [*, errW_none, errW_some] <;> rfl) | (simp [*, errW_none, errW_some] <;> exact isEmpty_ne _), by repeat (first | (with_reducible first | exact HB.out | apply below_alloc | apply pw_below_drewN | apply below_drew1 | refine below_set ?_ GE122.out | refine below_set ?_ GE123.out | refine below_set ?_ GE130.out | refine below_set ?_ GE136.out) | exact HB.out)⟩
       ·
        replace c114 := Bool.eq_false_iff.mpr c114
        subst c114
        have H1 : (if a1_0 = true then (if a1_1 = true then (if a1_2 = true then (atlaslaw07_RightsMore.j2 kj111 true a0_0 a0_1 a0_2 t125 t126 t127 t128 t131 t132 t133 t134) else (atlaslaw07_RightsMore.j2 kj111 (!a0_2) a0_0 a0_1 a0_2 t125 t126 t127 t128 t131 t132 t133 t134)) else (if a0_1 = true then (atlaslaw07_RightsMore.j2 kj111 false a0_0 a0_1 a0_2 t125 t126 t127 t128 t131 t132 t133 t134) else (if a1_2 = true then (atlaslaw07_RightsMore.j2 kj111 true a0_0 a0_1 a0_2 t125 t126 t127 t128 t131 t132 t133 t134) else (atlaslaw07_RightsMore.j2 kj111 (!a0_2) a0_0 a0_1 a0_2 t125 t126 t127 t128 t131 t132 t133 t134)))) else (if a0_0 = true then (atlaslaw07_RightsMore.j2 kj111 false a0_0 a0_1 a0_2 t125 t126 t127 t128 t131 t132 t133 t134) else (if a1_1 = true then (if a1_2 = true then (atlaslaw07_RightsMore.j2 kj111 true a0_0 a0_1 a0_2 t125 t126 t127 t128 t131 t132 t133 t134) else (atlaslaw07_RightsMore.j2 kj111 (!a0_2) a0_0 a0_1 a0_2 t125 t126 t127 t128 t131 t132 t133 t134)) else (if a0_1 = true then (atlaslaw07_RightsMore.j2 kj111 false a0_0 a0_1 a0_2 t125 t126 t127 t128 t131 t132 t133 t134) else (if a1_2 = true then (atlaslaw07_RightsMore.j2 kj111 true a0_0 a0_1 a0_2 t125 t126 t127 t128 t131 t132 t133 t134) else (atlaslaw07_RightsMore.j2 kj111 (!a0_2) a0_0 a0_1 a0_2 t125 t126 t127 t128 t131 t132 t133 t134)))))) = some r := by rw [if_neg (show ¬ (false = true) by decide)] at H; exact H
        clear H
        have H := H1
        clear H1
        have HC138 := Aside0.mk H
        clear H
        go_upto_region 9 with (fail)
        go_cut [9] (fun v9 wc => ∃ (kq : Nat) (x9_137 : Bool), v9 = .bool x9_137 ∧ Aside0 (atlaslaw07_RightsMore.j2 kq x9_137 a0_0 a0_1 a0_2 t125 t126 t127 t128 t131 t132 t133 t134 = some r) ∧ Aside0 (kq ≤ kj111) ∧ Aside0 (wc.heap[gb122]? = some (.cells #[.bool a0_0, .bool a0_1, .bool a0_2] 28 (0, 0))) ∧ Aside0 (wc.heap[gb123]? = some (.cells #[.bool a1_0, .bool a1_1, .bool a1_2] 28 (0, 0))) ∧ Aside0 (wc.heap[gb130]? = some (.cells #[.int .i64 t125, .int .u32 t126, .bool t127, .bool t128] 24 (0, 0))) ∧ Aside0 (wc.heap[gb136]? = some (.cells #[.int .i64 t131, .int .u32 t132, .bool t133, .bool t134] 24 (0, 0))) ∧ Aside0 (Below w.heap.size w wc))
        case first =>
         have H := HC138.out
         clear HC138
         by_cases c139 : a1_0 = true
         ·
          subst c139
          have H1 : (if a1_1 = true then (if a1_2 = true then (atlaslaw07_RightsMore.j2 kj111 true a0_0 a0_1 a0_2 t125 t126 t127 t128 t131 t132 t133 t134) else (atlaslaw07_RightsMore.j2 kj111 (!a0_2) a0_0 a0_1 a0_2 t125 t126 t127 t128 t131 t132 t133 t134)) else (if a0_1 = true then (atlaslaw07_RightsMore.j2 kj111 false a0_0 a0_1 a0_2 t125 t126 t127 t128 t131 t132 t133 t134) else (if a1_2 = true then (atlaslaw07_RightsMore.j2 kj111 true a0_0 a0_1 a0_2 t125 t126 t127 t128 t131 t132 t133 t134) else (atlaslaw07_RightsMore.j2 kj111 (!a0_2) a0_0 a0_1 a0_2 t125 t126 t127 t128 t131 t132 t133 t134)))) = some r := by rw [if_pos rfl] at H; exact H
          clear H
          have H := H1
          clear H1
          by_cases c140 : a1_1 = true
          ·
           subst c140
           have H1 : (if a1_2 = true then (atlaslaw07_RightsMore.j2 kj111 true a0_0 a0_1 a0_2 t125 t126 t127 t128 t131 t132 t133 t134) else (atlaslaw07_RightsMore.j2 kj111 (!a0_2) a0_0 a0_1 a0_2 t125 t126 t127 t128 t131 t132 t133 t134)) = some r := by rw [if_pos rfl] at H; exact H
           clear H
           have H := H1
           clear H1
           by_cases c141 : a1_2 = true
           ·
            subst c141
            have H1 : (atlaslaw07_RightsMore.j2 kj111 true a0_0 a0_1 a0_2 t125 t126 t127 t128 t131 t132 t133 t134) = some r := by rw [if_pos rfl] at H; exact H
            clear H
            have H := H1
            clear H1
            have H' := Aside0.mk H
            clear H
            have hnb142 := NB123_122.out
            have hnc142 := NB122_123.out
            have hnb143 := NB123_130.out
            have hnc143 := NB130_123.out
            have hnb144 := NB123_136.out
            have hnc144 := NB136_123.out
            have hcz145_0 : wc.cell? ⟨gb123, 0, none⟩ = some (.bool true) := (blk_cell BK123.out 0).trans rfl
            have hcz145_1 : wc.cell? ⟨gb123, 1, none⟩ = some (.bool true) := (blk_cell BK123.out 1).trans rfl
            have hcz145_2 : wc.cell? ⟨gb123, 2, none⟩ = some (.bool true) := (blk_cell BK123.out 2).trans rfl
            have hfz145_0 := blk_frozen BK123.out 0
            have hfz145_1 := blk_frozen BK123.out 1
            have hfz145_2 := blk_frozen BK123.out 2
            go_wp2
            go_meet
            case rel => exact ⟨_, (true), (by first | rfl | (simp; done) | (simp [*]; done) | (simp [*, bnn1]; done) | (simp only [*, bnn1, Bool.not_true, Bool.not_false, Bool.false_or, Bool.true_or]; done)), H', ⟨by have := HJ6.out; have := HJ111.out; first | omega | exact Nat.le_refl _⟩, ⟨by (with_reducible repeat (first | refine blk_drewN ?_ _ | refine blk_drew ?_ | refine blk_alloc ?_ _)); exact BK122.out⟩, ⟨by (with_reducible repeat (first | refine blk_drewN ?_ _ | refine blk_drew ?_ | refine blk_alloc ?_ _)); exact BK123.out⟩, ⟨by (with_reducible repeat (first | refine blk_drewN ?_ _ | refine blk_drew ?_ | refine blk_alloc ?_ _)); exact BK130.out⟩, ⟨by (with_reducible repeat (first | refine blk_drewN ?_ _ | refine blk_drew ?_ | refine blk_alloc ?_ _)); exact BK136.out⟩, ⟨by repeat (first | (with_reducible first | exact HB.out | apply below_alloc | apply pw_below_drewN | apply below_drew1 | refine below_set ?_ GE122.out | refine below_set ?_ GE123.out | refine below_set ?_ GE130.out | refine below_set ?_ GE136.out) | exact HB.out)⟩⟩
           ·
            replace c141 := Bool.eq_false_iff.mpr c141
            subst c141
            have H1 : (atlaslaw07_RightsMore.j2 kj111 (!a0_2) a0_0 a0_1 a0_2 t125 t126 t127 t128 t131 t132 t133 t134) = some r := by rw [if_neg (show ¬ (false = true) by decide)] at H; exact H
            clear H
            have H := H1
            clear H1
            have H' := Aside0.mk H
            clear H
            have hnb146 := NB123_122.out
            have hnc146 := NB122_123.out
            have hnb147 := NB123_130.out
            have hnc147 := NB130_123.out
            have hnb148 := NB123_136.out
            have hnc148 := NB136_123.out
            have hcz149_0 : wc.cell? ⟨gb123, 0, none⟩ = some (.bool true) := (blk_cell BK123.out 0).trans rfl
            have hcz149_1 : wc.cell? ⟨gb123, 1, none⟩ = some (.bool true) := (blk_cell BK123.out 1).trans rfl
            have hcz149_2 : wc.cell? ⟨gb123, 2, none⟩ = some (.bool false) := (blk_cell BK123.out 2).trans rfl
            have hfz149_0 := blk_frozen BK123.out 0
            have hfz149_1 := blk_frozen BK123.out 1
            have hfz149_2 := blk_frozen BK123.out 2
            have hnb150 := NB122_130.out
            have hnc150 := NB130_122.out
            have hnb151 := NB122_136.out
            have hnc151 := NB136_122.out
            have hcz152_0 : wc.cell? ⟨gb122, 0, none⟩ = some (.bool a0_0) := (blk_cell BK122.out 0).trans rfl
            have hcz152_1 : wc.cell? ⟨gb122, 1, none⟩ = some (.bool a0_1) := (blk_cell BK122.out 1).trans rfl
            have hcz152_2 : wc.cell? ⟨gb122, 2, none⟩ = some (.bool a0_2) := (blk_cell BK122.out 2).trans rfl
            have hfz152_0 := blk_frozen BK122.out 0
            have hfz152_1 := blk_frozen BK122.out 1
            have hfz152_2 := blk_frozen BK122.out 2
            go_wp2
            go_meet
            case rel => exact ⟨_, (!a0_2), (by first | rfl | (simp; done) | (simp [*]; done) | (simp [*, bnn1]; done) | (simp only [*, bnn1, Bool.not_true, Bool.not_false, Bool.false_or, Bool.true_or]; done)), H', ⟨by have := HJ6.out; have := HJ111.out; first | omega | exact Nat.le_refl _⟩, ⟨by (with_reducible repeat (first | refine blk_drewN ?_ _ | refine blk_drew ?_ | refine blk_alloc ?_ _)); exact BK122.out⟩, ⟨by (with_reducible repeat (first | refine blk_drewN ?_ _ | refine blk_drew ?_ | refine blk_alloc ?_ _)); exact BK123.out⟩, ⟨by (with_reducible repeat (first | refine blk_drewN ?_ _ | refine blk_drew ?_ | refine blk_alloc ?_ _)); exact BK130.out⟩, ⟨by (with_reducible repeat (first | refine blk_drewN ?_ _ | refine blk_drew ?_ | refine blk_alloc ?_ _)); exact BK136.out⟩, ⟨by repeat (first | (with_reducible first | exact HB.out | apply below_alloc | apply pw_below_drewN | apply below_drew1 | refine below_set ?_ GE122.out | refine below_set ?_ GE123.out | refine below_set ?_ GE130.out | refine below_set ?_ GE136.out) | exact HB.out)⟩⟩
          ·
           replace c140 := Bool.eq_false_iff.mpr c140
           subst c140
           have H1 : (if a0_1 = true then (atlaslaw07_RightsMore.j2 kj111 false a0_0 a0_1 a0_2 t125 t126 t127 t128 t131 t132 t133 t134) else (if a1_2 = true then (atlaslaw07_RightsMore.j2 kj111 true a0_0 a0_1 a0_2 t125 t126 t127 t128 t131 t132 t133 t134) else (atlaslaw07_RightsMore.j2 kj111 (!a0_2) a0_0 a0_1 a0_2 t125 t126 t127 t128 t131 t132 t133 t134))) = some r := by rw [if_neg (show ¬ (false = true) by decide)] at H; exact H
           clear H
           have H := H1
           clear H1
           by_cases c153 : a0_1 = true
           ·
            subst c153
            have H1 : (atlaslaw07_RightsMore.j2 kj111 false a0_0 true a0_2 t125 t126 t127 t128 t131 t132 t133 t134) = some r := by rw [if_pos rfl] at H; exact H
            clear H
            have H := H1
            clear H1
            have H' := Aside0.mk H
            clear H
            have hnb154 := NB123_122.out
            have hnc154 := NB122_123.out
            have hnb155 := NB123_130.out
            have hnc155 := NB130_123.out
            have hnb156 := NB123_136.out
            have hnc156 := NB136_123.out
            have hcz157_0 : wc.cell? ⟨gb123, 0, none⟩ = some (.bool true) := (blk_cell BK123.out 0).trans rfl
            have hcz157_1 : wc.cell? ⟨gb123, 1, none⟩ = some (.bool false) := (blk_cell BK123.out 1).trans rfl
            have hcz157_2 : wc.cell? ⟨gb123, 2, none⟩ = some (.bool a1_2) := (blk_cell BK123.out 2).trans rfl
            have hfz157_0 := blk_frozen BK123.out 0
            have hfz157_1 := blk_frozen BK123.out 1
            have hfz157_2 := blk_frozen BK123.out 2
            have hnb158 := NB122_130.out
            have hnc158 := NB130_122.out
            have hnb159 := NB122_136.out
            have hnc159 := NB136_122.out
            have hcz160_0 : wc.cell? ⟨gb122, 0, none⟩ = some (.bool a0_0) := (blk_cell BK122.out 0).trans rfl
            have hcz160_1 : wc.cell? ⟨gb122, 1, none⟩ = some (.bool true) := (blk_cell BK122.out 1).trans rfl
            have hcz160_2 : wc.cell? ⟨gb122, 2, none⟩ = some (.bool a0_2) := (blk_cell BK122.out 2).trans rfl
            have hfz160_0 := blk_frozen BK122.out 0
            have hfz160_1 := blk_frozen BK122.out 1
            have hfz160_2 := blk_frozen BK122.out 2
            go_wp2
            go_meet
            case rel => exact ⟨_, (false), (by first | rfl | (simp; done) | (simp [*]; done) | (simp [*, bnn1]; done) | (simp only [*, bnn1, Bool.not_true, Bool.not_false, Bool.false_or, Bool.true_or]; done)), H', ⟨by have := HJ6.out; have := HJ111.out; first | omega | exact Nat.le_refl _⟩, ⟨by (with_reducible repeat (first | refine blk_drewN ?_ _ | refine blk_drew ?_ | refine blk_alloc ?_ _)); exact BK122.out⟩, ⟨by (with_reducible repeat (first | refine blk_drewN ?_ _ | refine blk_drew ?_ | refine blk_alloc ?_ _)); exact BK123.out⟩, ⟨by (with_reducible repeat (first | refine blk_drewN ?_ _ | refine blk_drew ?_ | refine blk_alloc ?_ _)); exact BK130.out⟩, ⟨by (with_reducible repeat (first | refine blk_drewN ?_ _ | refine blk_drew ?_ | refine blk_alloc ?_ _)); exact BK136.out⟩, ⟨by repeat (first | (with_reducible first | exact HB.out | apply below_alloc | apply pw_below_drewN | apply below_drew1 | refine below_set ?_ GE122.out | refine below_set ?_ GE123.out | refine below_set ?_ GE130.out | refine below_set ?_ GE136.out) | exact HB.out)⟩⟩
           ·
            replace c153 := Bool.eq_false_iff.mpr c153
            subst c153
            have H1 : (if a1_2 = true then (atlaslaw07_RightsMore.j2 kj111 true a0_0 false a0_2 t125 t126 t127 t128 t131 t132 t133 t134) else (atlaslaw07_RightsMore.j2 kj111 (!a0_2) a0_0 false a0_2 t125 t126 t127 t128 t131 t132 t133 t134)) = some r := by rw [if_neg (show ¬ (false = true) by decide)] at H; exact H
            clear H
            have H := H1
            clear H1
            by_cases c161 : a1_2 = true
            ·
             subst c161
             have H1 : (atlaslaw07_RightsMore.j2 kj111 true a0_0 false a0_2 t125 t126 t127 t128 t131 t132 t133 t134) = some r := by rw [if_pos rfl] at H; exact H
             clear H
             have H := H1
             clear H1
             have H' := Aside0.mk H
             clear H
             have hnb162 := NB123_122.out
             have hnc162 := NB122_123.out
             have hnb163 := NB123_130.out
             have hnc163 := NB130_123.out
             have hnb164 := NB123_136.out
             have hnc164 := NB136_123.out
             have hcz165_0 : wc.cell? ⟨gb123, 0, none⟩ = some (.bool true) := (blk_cell BK123.out 0).trans rfl
             have hcz165_1 : wc.cell? ⟨gb123, 1, none⟩ = some (.bool false) := (blk_cell BK123.out 1).trans rfl
             have hcz165_2 : wc.cell? ⟨gb123, 2, none⟩ = some (.bool true) := (blk_cell BK123.out 2).trans rfl
             have hfz165_0 := blk_frozen BK123.out 0
             have hfz165_1 := blk_frozen BK123.out 1
             have hfz165_2 := blk_frozen BK123.out 2
             have hnb166 := NB122_130.out
             have hnc166 := NB130_122.out
             have hnb167 := NB122_136.out
             have hnc167 := NB136_122.out
             have hcz168_0 : wc.cell? ⟨gb122, 0, none⟩ = some (.bool a0_0) := (blk_cell BK122.out 0).trans rfl
             have hcz168_1 : wc.cell? ⟨gb122, 1, none⟩ = some (.bool false) := (blk_cell BK122.out 1).trans rfl
             have hcz168_2 : wc.cell? ⟨gb122, 2, none⟩ = some (.bool a0_2) := (blk_cell BK122.out 2).trans rfl
             have hfz168_0 := blk_frozen BK122.out 0
             have hfz168_1 := blk_frozen BK122.out 1
             have hfz168_2 := blk_frozen BK122.out 2
             go_wp2
             go_meet
             case rel => exact ⟨_, (true), (by first | rfl | (simp; done) | (simp [*]; done) | (simp [*, bnn1]; done) | (simp only [*, bnn1, Bool.not_true, Bool.not_false, Bool.false_or, Bool.true_or]; done)), H', ⟨by have := HJ6.out; have := HJ111.out; first | omega | exact Nat.le_refl _⟩, ⟨by (with_reducible repeat (first | refine blk_drewN ?_ _ | refine blk_drew ?_ | refine blk_alloc ?_ _)); exact BK122.out⟩, ⟨by (with_reducible repeat (first | refine blk_drewN ?_ _ | refine blk_drew ?_ | refine blk_alloc ?_ _)); exact BK123.out⟩, ⟨by (with_reducible repeat (first | refine blk_drewN ?_ _ | refine blk_drew ?_ | refine blk_alloc ?_ _)); exact BK130.out⟩, ⟨by (with_reducible repeat (first | refine blk_drewN ?_ _ | refine blk_drew ?_ | refine blk_alloc ?_ _)); exact BK136.out⟩, ⟨by repeat (first | (with_reducible first | exact HB.out | apply below_alloc | apply pw_below_drewN | apply below_drew1 | refine below_set ?_ GE122.out | refine below_set ?_ GE123.out | refine below_set ?_ GE130.out | refine below_set ?_ GE136.out) | exact HB.out)⟩⟩
            ·
             replace c161 := Bool.eq_false_iff.mpr c161
             subst c161
             have H1 : (atlaslaw07_RightsMore.j2 kj111 (!a0_2) a0_0 false a0_2 t125 t126 t127 t128 t131 t132 t133 t134) = some r := by rw [if_neg (show ¬ (false = true) by decide)] at H; exact H
             clear H
             have H := H1
             clear H1
             have H' := Aside0.mk H
             clear H
             have hnb169 := NB123_122.out
             have hnc169 := NB122_123.out
             have hnb170 := NB123_130.out
             have hnc170 := NB130_123.out
             have hnb171 := NB123_136.out
             have hnc171 := NB136_123.out
             have hcz172_0 : wc.cell? ⟨gb123, 0, none⟩ = some (.bool true) := (blk_cell BK123.out 0).trans rfl
             have hcz172_1 : wc.cell? ⟨gb123, 1, none⟩ = some (.bool false) := (blk_cell BK123.out 1).trans rfl
             have hcz172_2 : wc.cell? ⟨gb123, 2, none⟩ = some (.bool false) := (blk_cell BK123.out 2).trans rfl
             have hfz172_0 := blk_frozen BK123.out 0
             have hfz172_1 := blk_frozen BK123.out 1
             have hfz172_2 := blk_frozen BK123.out 2
             have hnb173 := NB122_130.out
             have hnc173 := NB130_122.out
             have hnb174 := NB122_136.out
             have hnc174 := NB136_122.out
             have hcz175_0 : wc.cell? ⟨gb122, 0, none⟩ = some (.bool a0_0) := (blk_cell BK122.out 0).trans rfl
             have hcz175_1 : wc.cell? ⟨gb122, 1, none⟩ = some (.bool false) := (blk_cell BK122.out 1).trans rfl
             have hcz175_2 : wc.cell? ⟨gb122, 2, none⟩ = some (.bool a0_2) := (blk_cell BK122.out 2).trans rfl
             have hfz175_0 := blk_frozen BK122.out 0
             have hfz175_1 := blk_frozen BK122.out 1
             have hfz175_2 := blk_frozen BK122.out 2
             go_wp2
             go_meet
             case rel => exact ⟨_, (!a0_2), (by first | rfl | (simp; done) | (simp [*]; done) | (simp [*, bnn1]; done) | (simp only [*, bnn1, Bool.not_true, Bool.not_false, Bool.false_or, Bool.true_or]; done)), H', ⟨by have := HJ6.out; have := HJ111.out; first | omega | exact Nat.le_refl _⟩, ⟨by (with_reducible repeat (first | refine blk_drewN ?_ _ | refine blk_drew ?_ | refine blk_alloc ?_ _)); exact BK122.out⟩, ⟨by (with_reducible repeat (first | refine blk_drewN ?_ _ | refine blk_drew ?_ | refine blk_alloc ?_ _)); exact BK123.out⟩, ⟨by (with_reducible repeat (first | refine blk_drewN ?_ _ | refine blk_drew ?_ | refine blk_alloc ?_ _)); exact BK130.out⟩, ⟨by (with_reducible repeat (first | refine blk_drewN ?_ _ | refine blk_drew ?_ | refine blk_alloc ?_ _)); exact BK136.out⟩, ⟨by repeat (first | (with_reducible first | exact HB.out | apply below_alloc | apply pw_below_drewN | apply below_drew1 | refine below_set ?_ GE122.out | refine below_set ?_ GE123.out | refine below_set ?_ GE130.out | refine below_set ?_ GE136.out) | exact HB.out)⟩⟩
         ·
          replace c139 := Bool.eq_false_iff.mpr c139
          subst c139
          have H1 : (if a0_0 = true then (atlaslaw07_RightsMore.j2 kj111 false a0_0 a0_1 a0_2 t125 t126 t127 t128 t131 t132 t133 t134) else (if a1_1 = true then (if a1_2 = true then (atlaslaw07_RightsMore.j2 kj111 true a0_0 a0_1 a0_2 t125 t126 t127 t128 t131 t132 t133 t134) else (atlaslaw07_RightsMore.j2 kj111 (!a0_2) a0_0 a0_1 a0_2 t125 t126 t127 t128 t131 t132 t133 t134)) else (if a0_1 = true then (atlaslaw07_RightsMore.j2 kj111 false a0_0 a0_1 a0_2 t125 t126 t127 t128 t131 t132 t133 t134) else (if a1_2 = true then (atlaslaw07_RightsMore.j2 kj111 true a0_0 a0_1 a0_2 t125 t126 t127 t128 t131 t132 t133 t134) else (atlaslaw07_RightsMore.j2 kj111 (!a0_2) a0_0 a0_1 a0_2 t125 t126 t127 t128 t131 t132 t133 t134))))) = some r := by rw [if_neg (show ¬ (false = true) by decide)] at H; exact H
          clear H
          have H := H1
          clear H1
          by_cases c176 : a0_0 = true
          ·
           subst c176
           have H1 : (atlaslaw07_RightsMore.j2 kj111 false true a0_1 a0_2 t125 t126 t127 t128 t131 t132 t133 t134) = some r := by rw [if_pos rfl] at H; exact H
           clear H
           have H := H1
           clear H1
           have H' := Aside0.mk H
           clear H
           have hnb177 := NB123_122.out
           have hnc177 := NB122_123.out
           have hnb178 := NB123_130.out
           have hnc178 := NB130_123.out
           have hnb179 := NB123_136.out
           have hnc179 := NB136_123.out
           have hcz180_0 : wc.cell? ⟨gb123, 0, none⟩ = some (.bool false) := (blk_cell BK123.out 0).trans rfl
           have hcz180_1 : wc.cell? ⟨gb123, 1, none⟩ = some (.bool a1_1) := (blk_cell BK123.out 1).trans rfl
           have hcz180_2 : wc.cell? ⟨gb123, 2, none⟩ = some (.bool a1_2) := (blk_cell BK123.out 2).trans rfl
           have hfz180_0 := blk_frozen BK123.out 0
           have hfz180_1 := blk_frozen BK123.out 1
           have hfz180_2 := blk_frozen BK123.out 2
           have hnb181 := NB122_130.out
           have hnc181 := NB130_122.out
           have hnb182 := NB122_136.out
           have hnc182 := NB136_122.out
           have hcz183_0 : wc.cell? ⟨gb122, 0, none⟩ = some (.bool true) := (blk_cell BK122.out 0).trans rfl
           have hcz183_1 : wc.cell? ⟨gb122, 1, none⟩ = some (.bool a0_1) := (blk_cell BK122.out 1).trans rfl
           have hcz183_2 : wc.cell? ⟨gb122, 2, none⟩ = some (.bool a0_2) := (blk_cell BK122.out 2).trans rfl
           have hfz183_0 := blk_frozen BK122.out 0
           have hfz183_1 := blk_frozen BK122.out 1
           have hfz183_2 := blk_frozen BK122.out 2
           go_wp2
           go_meet
           case rel => exact ⟨_, (false), (by first | rfl | (simp; done) | (simp [*]; done) | (simp [*, bnn1]; done) | (simp only [*, bnn1, Bool.not_true, Bool.not_false, Bool.false_or, Bool.true_or]; done)), H', ⟨by have := HJ6.out; have := HJ111.out; first | omega | exact Nat.le_refl _⟩, ⟨by (with_reducible repeat (first | refine blk_drewN ?_ _ | refine blk_drew ?_ | refine blk_alloc ?_ _)); exact BK122.out⟩, ⟨by (with_reducible repeat (first | refine blk_drewN ?_ _ | refine blk_drew ?_ | refine blk_alloc ?_ _)); exact BK123.out⟩, ⟨by (with_reducible repeat (first | refine blk_drewN ?_ _ | refine blk_drew ?_ | refine blk_alloc ?_ _)); exact BK130.out⟩, ⟨by (with_reducible repeat (first | refine blk_drewN ?_ _ | refine blk_drew ?_ | refine blk_alloc ?_ _)); exact BK136.out⟩, ⟨by repeat (first | (with_reducible first | exact HB.out | apply below_alloc | apply pw_below_drewN | apply below_drew1 | refine below_set ?_ GE122.out | refine below_set ?_ GE123.out | refine below_set ?_ GE130.out | refine below_set ?_ GE136.out) | exact HB.out)⟩⟩
          ·
           replace c176 := Bool.eq_false_iff.mpr c176
           subst c176
           have H1 : (if a1_1 = true then (if a1_2 = true then (atlaslaw07_RightsMore.j2 kj111 true false a0_1 a0_2 t125 t126 t127 t128 t131 t132 t133 t134) else (atlaslaw07_RightsMore.j2 kj111 (!a0_2) false a0_1 a0_2 t125 t126 t127 t128 t131 t132 t133 t134)) else (if a0_1 = true then (atlaslaw07_RightsMore.j2 kj111 false false a0_1 a0_2 t125 t126 t127 t128 t131 t132 t133 t134) else (if a1_2 = true then (atlaslaw07_RightsMore.j2 kj111 true false a0_1 a0_2 t125 t126 t127 t128 t131 t132 t133 t134) else (atlaslaw07_RightsMore.j2 kj111 (!a0_2) false a0_1 a0_2 t125 t126 t127 t128 t131 t132 t133 t134)))) = some r := by rw [if_neg (show ¬ (false = true) by decide)] at H; exact H
           clear H
           have H := H1
           clear H1
           by_cases c184 : a1_1 = true
           ·
            subst c184
            have H1 : (if a1_2 = true then (atlaslaw07_RightsMore.j2 kj111 true false a0_1 a0_2 t125 t126 t127 t128 t131 t132 t133 t134) else (atlaslaw07_RightsMore.j2 kj111 (!a0_2) false a0_1 a0_2 t125 t126 t127 t128 t131 t132 t133 t134)) = some r := by rw [if_pos rfl] at H; exact H
            clear H
            have H := H1
            clear H1
            by_cases c185 : a1_2 = true
            ·
             subst c185
             have H1 : (atlaslaw07_RightsMore.j2 kj111 true false a0_1 a0_2 t125 t126 t127 t128 t131 t132 t133 t134) = some r := by rw [if_pos rfl] at H; exact H
             clear H
             have H := H1
             clear H1
             have H' := Aside0.mk H
             clear H
             have hnb186 := NB123_122.out
             have hnc186 := NB122_123.out
             have hnb187 := NB123_130.out
             have hnc187 := NB130_123.out
             have hnb188 := NB123_136.out
             have hnc188 := NB136_123.out
             have hcz189_0 : wc.cell? ⟨gb123, 0, none⟩ = some (.bool false) := (blk_cell BK123.out 0).trans rfl
             have hcz189_1 : wc.cell? ⟨gb123, 1, none⟩ = some (.bool true) := (blk_cell BK123.out 1).trans rfl
             have hcz189_2 : wc.cell? ⟨gb123, 2, none⟩ = some (.bool true) := (blk_cell BK123.out 2).trans rfl
             have hfz189_0 := blk_frozen BK123.out 0
             have hfz189_1 := blk_frozen BK123.out 1
             have hfz189_2 := blk_frozen BK123.out 2
             have hnb190 := NB122_130.out
             have hnc190 := NB130_122.out
             have hnb191 := NB122_136.out
             have hnc191 := NB136_122.out
             have hcz192_0 : wc.cell? ⟨gb122, 0, none⟩ = some (.bool false) := (blk_cell BK122.out 0).trans rfl
             have hcz192_1 : wc.cell? ⟨gb122, 1, none⟩ = some (.bool a0_1) := (blk_cell BK122.out 1).trans rfl
             have hcz192_2 : wc.cell? ⟨gb122, 2, none⟩ = some (.bool a0_2) := (blk_cell BK122.out 2).trans rfl
             have hfz192_0 := blk_frozen BK122.out 0
             have hfz192_1 := blk_frozen BK122.out 1
             have hfz192_2 := blk_frozen BK122.out 2
             go_wp2
             go_meet
             case rel => exact ⟨_, (true), (by first | rfl | (simp; done) | (simp [*]; done) | (simp [*, bnn1]; done) | (simp only [*, bnn1, Bool.not_true, Bool.not_false, Bool.false_or, Bool.true_or]; done)), H', ⟨by have := HJ6.out; have := HJ111.out; first | omega | exact Nat.le_refl _⟩, ⟨by (with_reducible repeat (first | refine blk_drewN ?_ _ | refine blk_drew ?_ | refine blk_alloc ?_ _)); exact BK122.out⟩, ⟨by (with_reducible repeat (first | refine blk_drewN ?_ _ | refine blk_drew ?_ | refine blk_alloc ?_ _)); exact BK123.out⟩, ⟨by (with_reducible repeat (first | refine blk_drewN ?_ _ | refine blk_drew ?_ | refine blk_alloc ?_ _)); exact BK130.out⟩, ⟨by (with_reducible repeat (first | refine blk_drewN ?_ _ | refine blk_drew ?_ | refine blk_alloc ?_ _)); exact BK136.out⟩, ⟨by repeat (first | (with_reducible first | exact HB.out | apply below_alloc | apply pw_below_drewN | apply below_drew1 | refine below_set ?_ GE122.out | refine below_set ?_ GE123.out | refine below_set ?_ GE130.out | refine below_set ?_ GE136.out) | exact HB.out)⟩⟩
            ·
             replace c185 := Bool.eq_false_iff.mpr c185
             subst c185
             have H1 : (atlaslaw07_RightsMore.j2 kj111 (!a0_2) false a0_1 a0_2 t125 t126 t127 t128 t131 t132 t133 t134) = some r := by rw [if_neg (show ¬ (false = true) by decide)] at H; exact H
             clear H
             have H := H1
             clear H1
             have H' := Aside0.mk H
             clear H
             have hnb193 := NB123_122.out
             have hnc193 := NB122_123.out
             have hnb194 := NB123_130.out
             have hnc194 := NB130_123.out
             have hnb195 := NB123_136.out
             have hnc195 := NB136_123.out
             have hcz196_0 : wc.cell? ⟨gb123, 0, none⟩ = some (.bool false) := (blk_cell BK123.out 0).trans rfl
             have hcz196_1 : wc.cell? ⟨gb123, 1, none⟩ = some (.bool true) := (blk_cell BK123.out 1).trans rfl
             have hcz196_2 : wc.cell? ⟨gb123, 2, none⟩ = some (.bool false) := (blk_cell BK123.out 2).trans rfl
             have hfz196_0 := blk_frozen BK123.out 0
             have hfz196_1 := blk_frozen BK123.out 1
             have hfz196_2 := blk_frozen BK123.out 2
             have hnb197 := NB122_130.out
             have hnc197 := NB130_122.out
             have hnb198 := NB122_136.out
             have hnc198 := NB136_122.out
             have hcz199_0 : wc.cell? ⟨gb122, 0, none⟩ = some (.bool false) := (blk_cell BK122.out 0).trans rfl
             have hcz199_1 : wc.cell? ⟨gb122, 1, none⟩ = some (.bool a0_1) := (blk_cell BK122.out 1).trans rfl
             have hcz199_2 : wc.cell? ⟨gb122, 2, none⟩ = some (.bool a0_2) := (blk_cell BK122.out 2).trans rfl
             have hfz199_0 := blk_frozen BK122.out 0
             have hfz199_1 := blk_frozen BK122.out 1
             have hfz199_2 := blk_frozen BK122.out 2
             go_wp2
             go_meet
             case rel => exact ⟨_, (!a0_2), (by first | rfl | (simp; done) | (simp [*]; done) | (simp [*, bnn1]; done) | (simp only [*, bnn1, Bool.not_true, Bool.not_false, Bool.false_or, Bool.true_or]; done)), H', ⟨by have := HJ6.out; have := HJ111.out; first | omega | exact Nat.le_refl _⟩, ⟨by (with_reducible repeat (first | refine blk_drewN ?_ _ | refine blk_drew ?_ | refine blk_alloc ?_ _)); exact BK122.out⟩, ⟨by (with_reducible repeat (first | refine blk_drewN ?_ _ | refine blk_drew ?_ | refine blk_alloc ?_ _)); exact BK123.out⟩, ⟨by (with_reducible repeat (first | refine blk_drewN ?_ _ | refine blk_drew ?_ | refine blk_alloc ?_ _)); exact BK130.out⟩, ⟨by (with_reducible repeat (first | refine blk_drewN ?_ _ | refine blk_drew ?_ | refine blk_alloc ?_ _)); exact BK136.out⟩, ⟨by repeat (first | (with_reducible first | exact HB.out | apply below_alloc | apply pw_below_drewN | apply below_drew1 | refine below_set ?_ GE122.out | refine below_set ?_ GE123.out | refine below_set ?_ GE130.out | refine below_set ?_ GE136.out) | exact HB.out)⟩⟩
           ·
            replace c184 := Bool.eq_false_iff.mpr c184
            subst c184
            have H1 : (if a0_1 = true then (atlaslaw07_RightsMore.j2 kj111 false false a0_1 a0_2 t125 t126 t127 t128 t131 t132 t133 t134) else (if a1_2 = true then (atlaslaw07_RightsMore.j2 kj111 true false a0_1 a0_2 t125 t126 t127 t128 t131 t132 t133 t134) else (atlaslaw07_RightsMore.j2 kj111 (!a0_2) false a0_1 a0_2 t125 t126 t127 t128 t131 t132 t133 t134))) = some r := by rw [if_neg (show ¬ (false = true) by decide)] at H; exact H
            clear H
            have H := H1
            clear H1
            by_cases c200 : a0_1 = true
            ·
             subst c200
             have H1 : (atlaslaw07_RightsMore.j2 kj111 false false true a0_2 t125 t126 t127 t128 t131 t132 t133 t134) = some r := by rw [if_pos rfl] at H; exact H
             clear H
             have H := H1
             clear H1
             have H' := Aside0.mk H
             clear H
             have hnb201 := NB123_122.out
             have hnc201 := NB122_123.out
             have hnb202 := NB123_130.out
             have hnc202 := NB130_123.out
             have hnb203 := NB123_136.out
             have hnc203 := NB136_123.out
             have hcz204_0 : wc.cell? ⟨gb123, 0, none⟩ = some (.bool false) := (blk_cell BK123.out 0).trans rfl
             have hcz204_1 : wc.cell? ⟨gb123, 1, none⟩ = some (.bool false) := (blk_cell BK123.out 1).trans rfl
             have hcz204_2 : wc.cell? ⟨gb123, 2, none⟩ = some (.bool a1_2) := (blk_cell BK123.out 2).trans rfl
             have hfz204_0 := blk_frozen BK123.out 0
             have hfz204_1 := blk_frozen BK123.out 1
             have hfz204_2 := blk_frozen BK123.out 2
             have hnb205 := NB122_130.out
             have hnc205 := NB130_122.out
             have hnb206 := NB122_136.out
             have hnc206 := NB136_122.out
             have hcz207_0 : wc.cell? ⟨gb122, 0, none⟩ = some (.bool false) := (blk_cell BK122.out 0).trans rfl
             have hcz207_1 : wc.cell? ⟨gb122, 1, none⟩ = some (.bool true) := (blk_cell BK122.out 1).trans rfl
             have hcz207_2 : wc.cell? ⟨gb122, 2, none⟩ = some (.bool a0_2) := (blk_cell BK122.out 2).trans rfl
             have hfz207_0 := blk_frozen BK122.out 0
             have hfz207_1 := blk_frozen BK122.out 1
             have hfz207_2 := blk_frozen BK122.out 2
             go_wp2
             go_meet
             case rel => exact ⟨_, (false), (by first | rfl | (simp; done) | (simp [*]; done) | (simp [*, bnn1]; done) | (simp only [*, bnn1, Bool.not_true, Bool.not_false, Bool.false_or, Bool.true_or]; done)), H', ⟨by have := HJ6.out; have := HJ111.out; first | omega | exact Nat.le_refl _⟩, ⟨by (with_reducible repeat (first | refine blk_drewN ?_ _ | refine blk_drew ?_ | refine blk_alloc ?_ _)); exact BK122.out⟩, ⟨by (with_reducible repeat (first | refine blk_drewN ?_ _ | refine blk_drew ?_ | refine blk_alloc ?_ _)); exact BK123.out⟩, ⟨by (with_reducible repeat (first | refine blk_drewN ?_ _ | refine blk_drew ?_ | refine blk_alloc ?_ _)); exact BK130.out⟩, ⟨by (with_reducible repeat (first | refine blk_drewN ?_ _ | refine blk_drew ?_ | refine blk_alloc ?_ _)); exact BK136.out⟩, ⟨by repeat (first | (with_reducible first | exact HB.out | apply below_alloc | apply pw_below_drewN | apply below_drew1 | refine below_set ?_ GE122.out | refine below_set ?_ GE123.out | refine below_set ?_ GE130.out | refine below_set ?_ GE136.out) | exact HB.out)⟩⟩
            ·
             replace c200 := Bool.eq_false_iff.mpr c200
             subst c200
             have H1 : (if a1_2 = true then (atlaslaw07_RightsMore.j2 kj111 true false false a0_2 t125 t126 t127 t128 t131 t132 t133 t134) else (atlaslaw07_RightsMore.j2 kj111 (!a0_2) false false a0_2 t125 t126 t127 t128 t131 t132 t133 t134)) = some r := by rw [if_neg (show ¬ (false = true) by decide)] at H; exact H
             clear H
             have H := H1
             clear H1
             by_cases c208 : a1_2 = true
             ·
              subst c208
              have H1 : (atlaslaw07_RightsMore.j2 kj111 true false false a0_2 t125 t126 t127 t128 t131 t132 t133 t134) = some r := by rw [if_pos rfl] at H; exact H
              clear H
              have H := H1
              clear H1
              have H' := Aside0.mk H
              clear H
              have hnb209 := NB123_122.out
              have hnc209 := NB122_123.out
              have hnb210 := NB123_130.out
              have hnc210 := NB130_123.out
              have hnb211 := NB123_136.out
              have hnc211 := NB136_123.out
              have hcz212_0 : wc.cell? ⟨gb123, 0, none⟩ = some (.bool false) := (blk_cell BK123.out 0).trans rfl
              have hcz212_1 : wc.cell? ⟨gb123, 1, none⟩ = some (.bool false) := (blk_cell BK123.out 1).trans rfl
              have hcz212_2 : wc.cell? ⟨gb123, 2, none⟩ = some (.bool true) := (blk_cell BK123.out 2).trans rfl
              have hfz212_0 := blk_frozen BK123.out 0
              have hfz212_1 := blk_frozen BK123.out 1
              have hfz212_2 := blk_frozen BK123.out 2
              have hnb213 := NB122_130.out
              have hnc213 := NB130_122.out
              have hnb214 := NB122_136.out
              have hnc214 := NB136_122.out
              have hcz215_0 : wc.cell? ⟨gb122, 0, none⟩ = some (.bool false) := (blk_cell BK122.out 0).trans rfl
              have hcz215_1 : wc.cell? ⟨gb122, 1, none⟩ = some (.bool false) := (blk_cell BK122.out 1).trans rfl
              have hcz215_2 : wc.cell? ⟨gb122, 2, none⟩ = some (.bool a0_2) := (blk_cell BK122.out 2).trans rfl
              have hfz215_0 := blk_frozen BK122.out 0
              have hfz215_1 := blk_frozen BK122.out 1
              have hfz215_2 := blk_frozen BK122.out 2
              go_wp2
              go_meet
              case rel => exact ⟨_, (true), (by first | rfl | (simp; done) | (simp [*]; done) | (simp [*, bnn1]; done) | (simp only [*, bnn1, Bool.not_true, Bool.not_false, Bool.false_or, Bool.true_or]; done)), H', ⟨by have := HJ6.out; have := HJ111.out; first | omega | exact Nat.le_refl _⟩, ⟨by (with_reducible repeat (first | refine blk_drewN ?_ _ | refine blk_drew ?_ | refine blk_alloc ?_ _)); exact BK122.out⟩, ⟨by (with_reducible repeat (first | refine blk_drewN ?_ _ | refine blk_drew ?_ | refine blk_alloc ?_ _)); exact BK123.out⟩, ⟨by (with_reducible repeat (first | refine blk_drewN ?_ _ | refine blk_drew ?_ | refine blk_alloc ?_ _)); exact BK130.out⟩, ⟨by (with_reducible repeat (first | refine blk_drewN ?_ _ | refine blk_drew ?_ | refine blk_alloc ?_ _)); exact BK136.out⟩, ⟨by repeat (first | (with_reducible first | exact HB.out | apply below_alloc | apply pw_below_drewN | apply below_drew1 | refine below_set ?_ GE122.out | refine below_set ?_ GE123.out | refine below_set ?_ GE130.out | refine below_set ?_ GE136.out) | exact HB.out)⟩⟩
             ·
              replace c208 := Bool.eq_false_iff.mpr c208
              subst c208
              have H1 : (atlaslaw07_RightsMore.j2 kj111 (!a0_2) false false a0_2 t125 t126 t127 t128 t131 t132 t133 t134) = some r := by rw [if_neg (show ¬ (false = true) by decide)] at H; exact H
              clear H
              have H := H1
              clear H1
              have H' := Aside0.mk H
              clear H
              have hnb216 := NB123_122.out
              have hnc216 := NB122_123.out
              have hnb217 := NB123_130.out
              have hnc217 := NB130_123.out
              have hnb218 := NB123_136.out
              have hnc218 := NB136_123.out
              have hcz219_0 : wc.cell? ⟨gb123, 0, none⟩ = some (.bool false) := (blk_cell BK123.out 0).trans rfl
              have hcz219_1 : wc.cell? ⟨gb123, 1, none⟩ = some (.bool false) := (blk_cell BK123.out 1).trans rfl
              have hcz219_2 : wc.cell? ⟨gb123, 2, none⟩ = some (.bool false) := (blk_cell BK123.out 2).trans rfl
              have hfz219_0 := blk_frozen BK123.out 0
              have hfz219_1 := blk_frozen BK123.out 1
              have hfz219_2 := blk_frozen BK123.out 2
              have hnb220 := NB122_130.out
              have hnc220 := NB130_122.out
              have hnb221 := NB122_136.out
              have hnc221 := NB136_122.out
              have hcz222_0 : wc.cell? ⟨gb122, 0, none⟩ = some (.bool false) := (blk_cell BK122.out 0).trans rfl
              have hcz222_1 : wc.cell? ⟨gb122, 1, none⟩ = some (.bool false) := (blk_cell BK122.out 1).trans rfl
              have hcz222_2 : wc.cell? ⟨gb122, 2, none⟩ = some (.bool a0_2) := (blk_cell BK122.out 2).trans rfl
              have hfz222_0 := blk_frozen BK122.out 0
              have hfz222_1 := blk_frozen BK122.out 1
              have hfz222_2 := blk_frozen BK122.out 2
              go_wp2
              go_meet
              case rel => exact ⟨_, (!a0_2), (by first | rfl | (simp; done) | (simp [*]; done) | (simp [*, bnn1]; done) | (simp only [*, bnn1, Bool.not_true, Bool.not_false, Bool.false_or, Bool.true_or]; done)), H', ⟨by have := HJ6.out; have := HJ111.out; first | omega | exact Nat.le_refl _⟩, ⟨by (with_reducible repeat (first | refine blk_drewN ?_ _ | refine blk_drew ?_ | refine blk_alloc ?_ _)); exact BK122.out⟩, ⟨by (with_reducible repeat (first | refine blk_drewN ?_ _ | refine blk_drew ?_ | refine blk_alloc ?_ _)); exact BK123.out⟩, ⟨by (with_reducible repeat (first | refine blk_drewN ?_ _ | refine blk_drew ?_ | refine blk_alloc ?_ _)); exact BK130.out⟩, ⟨by (with_reducible repeat (first | refine blk_drewN ?_ _ | refine blk_drew ?_ | refine blk_alloc ?_ _)); exact BK136.out⟩, ⟨by repeat (first | (with_reducible first | exact HB.out | apply below_alloc | apply pw_below_drewN | apply below_drew1 | refine below_set ?_ GE122.out | refine below_set ?_ GE123.out | refine below_set ?_ GE130.out | refine below_set ?_ GE136.out) | exact HB.out)⟩⟩
        case rest =>
         clear HC138
         try clear c1
         try clear c2
         try clear p2
         try clear c11
         try clear c12
         try clear c13
         try clear c14
         try clear c15
         try clear c16
         try clear c17
         try clear c18
         try clear c19
         try clear c20
         try clear c21
         try clear c22
         try clear c114
         try clear c115
         try clear c115b0
         try clear c115b1
         try clear c116
         try clear c116b0
         try clear c116b1
         try clear c117
         try clear c118
         try clear c119
         try clear c121
         try clear c121b0
         try clear c121b1
         try clear c121b2
         try clear c122
         try clear c122b0
         try clear c122b1
         try clear c123
         try clear c124
         try clear c125
         try clear c127
         try clear c128
         try clear c129
         try clear c131
         try clear c132
         try clear c134
         try clear c135
         try clear c136
         try clear c139
         try clear c140
         try clear c141
         try clear c142
         try clear c143
         try clear c144
         try clear c146
         try clear c147
         try clear c148
         try clear c150
         try clear c151
         try clear c153
         try clear c154
         try clear c155
         try clear c156
         try clear c158
         try clear c159
         try clear c161
         try clear c162
         try clear c163
         try clear c164
         try clear c166
         try clear c167
         try clear c169
         try clear c170
         try clear c171
         try clear c173
         try clear c174
         try clear c176
         try clear c177
         try clear c178
         try clear c179
         try clear c181
         try clear c182
         try clear c184
         try clear c185
         try clear c186
         try clear c187
         try clear c188
         try clear c190
         try clear c191
         try clear c193
         try clear c194
         try clear c195
         try clear c197
         try clear c198
         try clear c200
         try clear c201
         try clear c202
         try clear c203
         try clear c205
         try clear c206
         try clear c208
         try clear c209
         try clear c210
         try clear c211
         try clear c213
         try clear c214
         try clear c216
         try clear c217
         try clear c218
         try clear c220
         try clear c221
         try clear hcz120_0
         try clear hcz120_1
         try clear hcz120_2
         try clear hcz120_3
         try clear hcz126_0
         try clear hcz126_1
         try clear hcz126_2
         try clear hcz126_3
         try clear hcz130_0
         try clear hcz130_1
         try clear hcz130_2
         try clear hcz130_3
         try clear hcz133_0
         try clear hcz133_1
         try clear hcz133_2
         try clear hcz133_3
         try clear hcz137_0
         try clear hcz137_1
         try clear hcz137_2
         try clear hcz137_3
         try clear hcz145_0
         try clear hcz145_1
         try clear hcz145_2
         try clear hcz149_0
         try clear hcz149_1
         try clear hcz149_2
         try clear hcz152_0
         try clear hcz152_1
         try clear hcz152_2
         try clear hcz157_0
         try clear hcz157_1
         try clear hcz157_2
         try clear hcz160_0
         try clear hcz160_1
         try clear hcz160_2
         try clear hcz165_0
         try clear hcz165_1
         try clear hcz165_2
         try clear hcz168_0
         try clear hcz168_1
         try clear hcz168_2
         try clear hcz172_0
         try clear hcz172_1
         try clear hcz172_2
         try clear hcz175_0
         try clear hcz175_1
         try clear hcz175_2
         try clear hcz180_0
         try clear hcz180_1
         try clear hcz180_2
         try clear hcz183_0
         try clear hcz183_1
         try clear hcz183_2
         try clear hcz189_0
         try clear hcz189_1
         try clear hcz189_2
         try clear hcz192_0
         try clear hcz192_1
         try clear hcz192_2
         try clear hcz196_0
         try clear hcz196_1
         try clear hcz196_2
         try clear hcz199_0
         try clear hcz199_1
         try clear hcz199_2
         try clear hcz204_0
         try clear hcz204_1
         try clear hcz204_2
         try clear hcz207_0
         try clear hcz207_1
         try clear hcz207_2
         try clear hcz212_0
         try clear hcz212_1
         try clear hcz212_2
         try clear hcz215_0
         try clear hcz215_1
         try clear hcz215_2
         try clear hcz219_0
         try clear hcz219_1
         try clear hcz219_2
         try clear hcz222_0
         try clear hcz222_1
         try clear hcz222_2
         try clear hfz120_0
         try clear hfz120_1
         try clear hfz120_2
         try clear hfz120_3
         try clear hfz126_0
         try clear hfz126_1
         try clear hfz126_2
         try clear hfz126_3
         try clear hfz130_0
         try clear hfz130_1
         try clear hfz130_2
         try clear hfz130_3
         try clear hfz133_0
         try clear hfz133_1
         try clear hfz133_2
         try clear hfz133_3
         try clear hfz137_0
         try clear hfz137_1
         try clear hfz137_2
         try clear hfz137_3
         try clear hfz145_0
         try clear hfz145_1
         try clear hfz145_2
         try clear hfz149_0
         try clear hfz149_1
         try clear hfz149_2
         try clear hfz152_0
         try clear hfz152_1
         try clear hfz152_2
         try clear hfz157_0
         try clear hfz157_1
         try clear hfz157_2
         try clear hfz160_0
         try clear hfz160_1
         try clear hfz160_2
         try clear hfz165_0
         try clear hfz165_1
         try clear hfz165_2
         try clear hfz168_0
         try clear hfz168_1
         try clear hfz168_2
         try clear hfz172_0
         try clear hfz172_1
         try clear hfz172_2
         try clear hfz175_0
         try clear hfz175_1
         try clear hfz175_2
         try clear hfz180_0
         try clear hfz180_1
         try clear hfz180_2
         try clear hfz183_0
         try clear hfz183_1
         try clear hfz183_2
         try clear hfz189_0
         try clear hfz189_1
         try clear hfz189_2
         try clear hfz192_0
         try clear hfz192_1
         try clear hfz192_2
         try clear hfz196_0
         try clear hfz196_1
         try clear hfz196_2
         try clear hfz199_0
         try clear hfz199_1
         try clear hfz199_2
         try clear hfz204_0
         try clear hfz204_1
         try clear hfz204_2
         try clear hfz207_0
         try clear hfz207_1
         try clear hfz207_2
         try clear hfz212_0
         try clear hfz212_1
         try clear hfz212_2
         try clear hfz215_0
         try clear hfz215_1
         try clear hfz215_2
         try clear hfz219_0
         try clear hfz219_1
         try clear hfz219_2
         try clear hfz222_0
         try clear hfz222_1
         try clear hfz222_2
         try clear hfz50_2
         try clear hfz53_0
         try clear hfz53_1
         try clear hfz53_2
         try clear hfz59_0
         try clear hfz59_1
         try clear hfz59_2
         try clear hfz64_0
         try clear hfz64_1
         try clear hfz64_2
         try clear hfz67_0
         try clear hfz67_1
         try clear hfz67_2
         try clear hfz72_0
         try clear hfz72_1
         try clear hfz72_2
         try clear hfz75_0
         try clear hfz75_1
         try clear hfz75_2
         try clear hfz79_0
         try clear hfz79_1
         try clear hfz79_2
         try clear hfz82_0
         try clear hfz82_1
         try clear hfz82_2
         try clear hfz87_0
         try clear hfz87_1
         try clear hfz87_2
         try clear hfz92_0
         try clear hfz92_1
         try clear hfz92_2
         try clear hfz95_0
         try clear hfz95_1
         try clear hfz95_2
         try clear p2
         obtain ⟨kq, x9_137, rfl, HA, HJ137, BK122, BK123, BK130, BK136, HB⟩ := hcut
         cases kq with
         | zero => exact absurd HA.out (by simp [atlaslaw07_RightsMore.j2])
         | succ kj137 =>
          have H := HA.out
          clear HA
          simp only [atlaslaw07_RightsMore.j2] at H
          have H' := Aside0.mk H
          clear H
          have hnb223 := NB122_123.out
          have hnc223 := NB123_122.out
          have hnb224 := NB122_130.out
          have hnc224 := NB130_122.out
          have hnb225 := NB122_136.out
          have hnc225 := NB136_122.out
          have hcz226_0 : wc.cell? ⟨gb122, 0, none⟩ = some (.bool a0_0) := (blk_cell BK122.out 0).trans rfl
          have hcz226_1 : wc.cell? ⟨gb122, 1, none⟩ = some (.bool a0_1) := (blk_cell BK122.out 1).trans rfl
          have hcz226_2 : wc.cell? ⟨gb122, 2, none⟩ = some (.bool a0_2) := (blk_cell BK122.out 2).trans rfl
          have hfz226_0 := blk_frozen BK122.out 0
          have hfz226_1 := blk_frozen BK122.out 1
          have hfz226_2 := blk_frozen BK122.out 2
          go_wp2_with (first | ((with_reducible refine gate_dst (N := 10) rfl ?_); refine box_event ?hg (N := 10) ?hd (cs := #[.bool false, .bool false, .bool false, .bool false]) (t := 44) ?hr ?_; (case hd => rfl); (case hg => rfl); (case hr => first | (go_simp; done) | (go_simp; rfl)); intro gb137 hg w227 hbox hb; have n0_ := Aside0.mk (blk_below (g := gb122) (o := .cells #[.bool a0_0, .bool a0_1, .bool a0_2] 28 (0, 0)) (by (with_reducible repeat (first | refine blk_drewN ?_ _ | refine blk_drew ?_ | refine blk_alloc ?_ _)); exact BK122.out) hb); have n1_ := Aside0.mk (blk_below (g := gb123) (o := .cells #[.bool a1_0, .bool a1_1, .bool a1_2] 28 (0, 0)) (by (with_reducible repeat (first | refine blk_drewN ?_ _ | refine blk_drew ?_ | refine blk_alloc ?_ _)); exact BK123.out) hb); have n2_ := Aside0.mk (blk_below (g := gb130) (o := .cells #[.int .i64 t125, .int .u32 t126, .bool t127, .bool t128] 24 (0, 0)) (by (with_reducible repeat (first | refine blk_drewN ?_ _ | refine blk_drew ?_ | refine blk_alloc ?_ _)); exact BK130.out) hb); have n3_ := Aside0.mk (blk_below (g := gb136) (o := .cells #[.int .i64 t131, .int .u32 t132, .bool t133, .bool t134] 24 (0, 0)) (by (with_reducible repeat (first | refine blk_drewN ?_ _ | refine blk_drew ?_ | refine blk_alloc ?_ _)); exact BK136.out) hb); have n4_ := Aside0.mk (below_step (by repeat (first | (with_reducible first | exact HB.out | apply below_alloc | apply pw_below_drewN | apply below_drew1 | refine below_set ?_ GE122.out | refine below_set ?_ GE123.out | refine below_set ?_ GE130.out | refine below_set ?_ GE136.out) | exact HB.out)) hb); have n5_ := Aside0.mk (hbox); have n6_ := Aside0.mk ((by rw [hg]; exact (below_size (by repeat (first | (with_reducible first | exact HB.out | apply below_alloc | apply pw_below_drewN | apply below_drew1 | refine below_set ?_ GE122.out | refine below_set ?_ GE123.out | refine below_set ?_ GE130.out | refine below_set ?_ GE136.out) | exact HB.out))) : w.heap.size ≤ gb137)); have n7_ := Aside0.mk ((by rw [hg]; exact (below_size (by repeat (first | (with_reducible first | exact HB.out | apply below_alloc | apply pw_below_drewN | apply below_drew1 | refine below_set ?_ GE122.out | refine below_set ?_ GE123.out | refine below_set ?_ GE130.out | refine below_set ?_ GE136.out) | exact HB.out))) : w.heap.size ≤ gb137)); have n8_ := Aside0.mk ((by rw [hg]; exact Nat.ne_of_lt (blk_lt (g := gb122) (o := .cells #[.bool a0_0, .bool a0_1, .bool a0_2] 28 (0, 0)) (by (with_reducible repeat (first | refine blk_drewN ?_ _ | refine blk_drew ?_ | refine blk_alloc ?_ _)); exact BK122.out)) : gb122 ≠ gb137)); have n9_ := Aside0.mk ((by rw [hg]; exact Nat.ne_of_gt (blk_lt (g := gb122) (o := .cells #[.bool a0_0, .bool a0_1, .bool a0_2] 28 (0, 0)) (by (with_reducible repeat (first | refine blk_drewN ?_ _ | refine blk_drew ?_ | refine blk_alloc ?_ _)); exact BK122.out)) : gb137 ≠ gb122)); have n10_ := Aside0.mk ((by rw [hg]; exact Nat.ne_of_lt (blk_lt (g := gb123) (o := .cells #[.bool a1_0, .bool a1_1, .bool a1_2] 28 (0, 0)) (by (with_reducible repeat (first | refine blk_drewN ?_ _ | refine blk_drew ?_ | refine blk_alloc ?_ _)); exact BK123.out)) : gb123 ≠ gb137)); have n11_ := Aside0.mk ((by rw [hg]; exact Nat.ne_of_gt (blk_lt (g := gb123) (o := .cells #[.bool a1_0, .bool a1_1, .bool a1_2] 28 (0, 0)) (by (with_reducible repeat (first | refine blk_drewN ?_ _ | refine blk_drew ?_ | refine blk_alloc ?_ _)); exact BK123.out)) : gb137 ≠ gb123)); have n12_ := Aside0.mk ((by rw [hg]; exact Nat.ne_of_lt (blk_lt (g := gb130) (o := .cells #[.int .i64 t125, .int .u32 t126, .bool t127, .bool t128] 24 (0, 0)) (by (with_reducible repeat (first | refine blk_drewN ?_ _ | refine blk_drew ?_ | refine blk_alloc ?_ _)); exact BK130.out)) : gb130 ≠ gb137)); have n13_ := Aside0.mk ((by rw [hg]; exact Nat.ne_of_gt (blk_lt (g := gb130) (o := .cells #[.int .i64 t125, .int .u32 t126, .bool t127, .bool t128] 24 (0, 0)) (by (with_reducible repeat (first | refine blk_drewN ?_ _ | refine blk_drew ?_ | refine blk_alloc ?_ _)); exact BK130.out)) : gb137 ≠ gb130)); have n14_ := Aside0.mk ((by rw [hg]; exact Nat.ne_of_lt (blk_lt (g := gb136) (o := .cells #[.int .i64 t131, .int .u32 t132, .bool t133, .bool t134] 24 (0, 0)) (by (with_reducible repeat (first | refine blk_drewN ?_ _ | refine blk_drew ?_ | refine blk_alloc ?_ _)); exact BK136.out)) : gb136 ≠ gb137)); have n15_ := Aside0.mk ((by rw [hg]; exact Nat.ne_of_gt (blk_lt (g := gb136) (o := .cells #[.int .i64 t131, .int .u32 t132, .bool t133, .bool t134] 24 (0, 0)) (by (with_reducible repeat (first | refine blk_drewN ?_ _ | refine blk_drew ?_ | refine blk_alloc ?_ _)); exact BK136.out)) : gb137 ≠ gb136)); clear BK122; clear BK123; clear BK130; clear BK136; clear HB; have BK122 := n0_; have BK123 := n1_; have BK130 := n2_; have BK136 := n3_; have HB := n4_; have BK137 := n5_; have GW137 := n6_; have GE137 := n7_; have NB122_137 := n8_; have NB137_122 := n9_; have NB123_137 := n10_; have NB137_123 := n11_; have NB130_137 := n12_; have NB137_130 := n13_; have NB136_137 := n14_; have NB137_136 := n15_; clear n0_ n1_ n2_ n3_ n4_ n5_ n6_ n7_ n8_ n9_ n10_ n11_ n12_ n13_ n14_ n15_; clear hb hbox hg; have hnb228 := NB137_122.out; have hnc228 := NB122_137.out; have hnb229 := NB137_123.out; have hnc229 := NB123_137.out; have hnb230 := NB137_130.out; have hnc230 := NB130_137.out; have hnb231 := NB137_136.out; have hnc231 := NB136_137.out; have hcz232_0 : w227.cell? ⟨gb137, 0, none⟩ = some (.bool false) := (blk_cell BK137.out 0).trans rfl; have hcz232_1 : w227.cell? ⟨gb137, 1, none⟩ = some (.bool false) := (blk_cell BK137.out 1).trans rfl; have hcz232_2 : w227.cell? ⟨gb137, 2, none⟩ = some (.bool false) := (blk_cell BK137.out 2).trans rfl; have hcz232_3 : w227.cell? ⟨gb137, 3, none⟩ = some (.bool false) := (blk_cell BK137.out 3).trans rfl; have hfz232_0 := blk_frozen BK137.out 0; have hfz232_1 := blk_frozen BK137.out 1; have hfz232_2 := blk_frozen BK137.out 2; have hfz232_3 := blk_frozen BK137.out 3))
          go_loopg [11] kj137 (fun kq v11 w' => ∃ (x11_4 : Int), v11 = .int .i64 x11_4 ∧ Aside0 (atlaslaw07_RightsMore.l0 kq x9_137 x11_4 t125 t126 t127 t128 t131 t132 t133 t134 false a0_2 a0_0 a0_1 = some r) ∧ Aside0 (kq ≤ kj137) ∧ Aside0 (w'.heap[gb122]? = some (.cells #[.bool a0_0, .bool a0_1, .bool a0_2] 28 (0, 0))) ∧ Aside0 (w'.heap[gb123]? = some (.cells #[.bool a1_0, .bool a1_1, .bool a1_2] 28 (0, 0))) ∧ Aside0 (w'.heap[gb130]? = some (.cells #[.int .i64 t125, .int .u32 t126, .bool t127, .bool t128] 24 (0, 0))) ∧ Aside0 (w'.heap[gb136]? = some (.cells #[.int .i64 t131, .int .u32 t132, .bool t133, .bool t134] 24 (0, 0))) ∧ Aside0 (w'.heap[gb137]? = some (.cells #[.bool false, .bool a0_2, .bool a0_0, .bool a0_1] 44 (0, 0))) ∧ Aside0 (Below w.heap.size w w'))
          case atStart => exact ⟨(1), (by first | rfl | (simp; done) | (simp [*]; done) | (simp [*, bnn1]; done) | (simp only [*, bnn1, Bool.not_true, Bool.not_false, Bool.false_or, Bool.true_or]; done)), H', ⟨Nat.le_refl _⟩, ⟨by (with_reducible repeat (first | refine blk_drewN ?_ _ | refine blk_drew ?_ | refine blk_alloc ?_ _)); refine blk_far ?_ NB122_137.out _; (with_reducible repeat (first | refine blk_drewN ?_ _ | refine blk_drew ?_ | refine blk_alloc ?_ _)); refine blk_far ?_ NB122_137.out _; (with_reducible repeat (first | refine blk_drewN ?_ _ | refine blk_drew ?_ | refine blk_alloc ?_ _)); refine blk_far ?_ NB122_137.out _; (with_reducible repeat (first | refine blk_drewN ?_ _ | refine blk_drew ?_ | refine blk_alloc ?_ _)); refine blk_far ?_ NB122_137.out _; (with_reducible repeat (first | refine blk_drewN ?_ _ | refine blk_drew ?_ | refine blk_alloc ?_ _)); exact BK122.out⟩, ⟨by (with_reducible repeat (first | refine blk_drewN ?_ _ | refine blk_drew ?_ | refine blk_alloc ?_ _)); refine blk_far ?_ NB123_137.out _; (with_reducible repeat (first | refine blk_drewN ?_ _ | refine blk_drew ?_ | refine blk_alloc ?_ _)); refine blk_far ?_ NB123_137.out _; (with_reducible repeat (first | refine blk_drewN ?_ _ | refine blk_drew ?_ | refine blk_alloc ?_ _)); refine blk_far ?_ NB123_137.out _; (with_reducible repeat (first | refine blk_drewN ?_ _ | refine blk_drew ?_ | refine blk_alloc ?_ _)); refine blk_far ?_ NB123_137.out _; (with_reducible repeat (first | refine blk_drewN ?_ _ | refine blk_drew ?_ | refine blk_alloc ?_ _)); exact BK123.out⟩, ⟨by (with_reducible repeat (first | refine blk_drewN ?_ _ | refine blk_drew ?_ | refine blk_alloc ?_ _)); refine blk_far ?_ NB130_137.out _; (with_reducible repeat (first | refine blk_drewN ?_ _ | refine blk_drew ?_ | refine blk_alloc ?_ _)); refine blk_far ?_ NB130_137.out _; (with_reducible repeat (first | refine blk_drewN ?_ _ | refine blk_drew ?_ | refine blk_alloc ?_ _)); refine blk_far ?_ NB130_137.out _; (with_reducible repeat (first | refine blk_drewN ?_ _ | refine blk_drew ?_ | refine blk_alloc ?_ _)); refine blk_far ?_ NB130_137.out _; (with_reducible repeat (first | refine blk_drewN ?_ _ | refine blk_drew ?_ | refine blk_alloc ?_ _)); exact BK130.out⟩, ⟨by (with_reducible repeat (first | refine blk_drewN ?_ _ | refine blk_drew ?_ | refine blk_alloc ?_ _)); refine blk_far ?_ NB136_137.out _; (with_reducible repeat (first | refine blk_drewN ?_ _ | refine blk_drew ?_ | refine blk_alloc ?_ _)); refine blk_far ?_ NB136_137.out _; (with_reducible repeat (first | refine blk_drewN ?_ _ | refine blk_drew ?_ | refine blk_alloc ?_ _)); refine blk_far ?_ NB136_137.out _; (with_reducible repeat (first | refine blk_drewN ?_ _ | refine blk_drew ?_ | refine blk_alloc ?_ _)); refine blk_far ?_ NB136_137.out _; (with_reducible repeat (first | refine blk_drewN ?_ _ | refine blk_drew ?_ | refine blk_alloc ?_ _)); exact BK136.out⟩, ⟨by (with_reducible repeat (first | refine blk_drewN ?_ _ | refine blk_drew ?_ | refine blk_alloc ?_ _)); refine blk_put (cs := #[.bool false, .bool a0_2, .bool a0_0, .bool false]) ?_ 3 _ rfl; (with_reducible repeat (first | refine blk_drewN ?_ _ | refine blk_drew ?_ | refine blk_alloc ?_ _)); refine blk_put (cs := #[.bool false, .bool a0_2, .bool false, .bool false]) ?_ 2 _ rfl; (with_reducible repeat (first | refine blk_drewN ?_ _ | refine blk_drew ?_ | refine blk_alloc ?_ _)); refine blk_put (cs := #[.bool false, .bool false, .bool false, .bool false]) ?_ 1 _ rfl; (with_reducible repeat (first | refine blk_drewN ?_ _ | refine blk_drew ?_ | refine blk_alloc ?_ _)); refine blk_put (cs := #[.bool false, .bool false, .bool false, .bool false]) ?_ 0 _ rfl; (with_reducible repeat (first | refine blk_drewN ?_ _ | refine blk_drew ?_ | refine blk_alloc ?_ _)); exact BK137.out⟩, ⟨by repeat (first | (with_reducible first | exact HB.out | apply below_alloc | apply pw_below_drewN | apply below_drew1 | refine below_set ?_ GE122.out | refine below_set ?_ GE123.out | refine below_set ?_ GE130.out | refine below_set ?_ GE136.out | refine below_set ?_ GE137.out) | exact HB.out)⟩⟩
          case round =>
           clear H'
           try clear c1
           try clear c2
           try clear p2
           try clear c11
           try clear c12
           try clear c13
           try clear c14
           try clear c15
           try clear c16
           try clear c17
           try clear c18
           try clear c19
           try clear c20
           try clear c21
           try clear c22
           try clear c23
           try clear c114
           try clear c115
           try clear c115b0
           try clear c115b1
           try clear c116
           try clear c116b0
           try clear c116b1
           try clear c117
           try clear c118
           try clear c119
           try clear c121
           try clear c121b0
           try clear c121b1
           try clear c121b2
           try clear c122
           try clear c122b0
           try clear c122b1
           try clear c123
           try clear c124
           try clear c125
           try clear c127
           try clear c128
           try clear c129
           try clear c131
           try clear c132
           try clear c134
           try clear c135
           try clear c136
           try clear c139
           try clear c140
           try clear c141
           try clear c142
           try clear c143
           try clear c144
           try clear c146
           try clear c147
           try clear c148
           try clear c150
           try clear c151
           try clear c153
           try clear c154
           try clear c155
           try clear c156
           try clear c158
           try clear c159
           try clear c161
           try clear c162
           try clear c163
           try clear c164
           try clear c166
           try clear c167
           try clear c169
           try clear c170
           try clear c171
           try clear c173
           try clear c174
           try clear c176
           try clear c177
           try clear c178
           try clear c179
           try clear c181
           try clear c182
           try clear c184
           try clear c185
           try clear c186
           try clear c187
           try clear c188
           try clear c190
           try clear c191
           try clear c193
           try clear c194
           try clear c195
           try clear c197
           try clear c198
           try clear c200
           try clear c201
           try clear c202
           try clear c203
           try clear c205
           try clear c206
           try clear c208
           try clear c209
           try clear c210
           try clear c211
           try clear c213
           try clear c214
           try clear c216
           try clear c217
           try clear c218
           try clear c220
           try clear c221
           try clear c223
           try clear c224
           try clear c225
           try clear c228
           try clear c229
           try clear c230
           try clear c231
           try clear hcz120_0
           try clear hcz120_1
           try clear hcz120_2
           try clear hcz120_3
           try clear hcz126_0
           try clear hcz126_1
           try clear hcz126_2
           try clear hcz126_3
           try clear hcz130_0
           try clear hcz130_1
           try clear hcz130_2
           try clear hcz130_3
           try clear hcz133_0
           try clear hcz133_1
           try clear hcz133_2
           try clear hcz133_3
           try clear hcz137_0
           try clear hcz137_1
           try clear hcz137_2
           try clear hcz137_3
           try clear hcz145_0
           try clear hcz145_1
           try clear hcz145_2
           try clear hcz149_0
           try clear hcz149_1
           try clear hcz149_2
           try clear hcz152_0
           try clear hcz152_1
           try clear hcz152_2
           try clear hcz157_0
           try clear hcz157_1
           try clear hcz157_2
           try clear hcz160_0
           try clear hcz160_1
           try clear hcz160_2
           try clear hcz165_0
           try clear hcz165_1
           try clear hcz165_2
           try clear hcz168_0
           try clear hcz168_1
           try clear hcz168_2
           try clear hcz172_0
           try clear hcz172_1
           try clear hcz172_2
           try clear hcz175_0
           try clear hcz175_1
           try clear hcz175_2
           try clear hcz180_0
           try clear hcz180_1
           try clear hcz180_2
           try clear hcz183_0
           try clear hcz183_1
           try clear hcz183_2
           try clear hcz189_0
           try clear hcz189_1
           try clear hcz189_2
           try clear hcz192_0
           try clear hcz192_1
           try clear hcz192_2
           try clear hcz196_0
           try clear hcz196_1
           try clear hcz196_2
           try clear hcz199_0
           try clear hcz199_1
           try clear hcz199_2
           try clear hcz204_0
           try clear hcz204_1
           try clear hcz204_2
           try clear hcz207_0
           try clear hcz207_1
           try clear hcz207_2
           try clear hcz212_0
           try clear hcz212_1
           try clear hcz212_2
           try clear hcz215_0
           try clear hcz215_1
           try clear hcz215_2
           try clear hcz219_0
           try clear hcz219_1
           try clear hcz219_2
           try clear hcz222_0
           try clear hcz222_1
           try clear hcz222_2
           try clear hcz226_0
           try clear hcz226_1
           try clear hcz226_2
           try clear hcz232_0
           try clear hcz232_1
           try clear hcz232_2
           try clear hcz232_3
           try clear hfz120_0
           try clear hfz120_1
           try clear hfz120_2
           try clear hfz120_3
           try clear hfz126_0
           try clear hfz126_1
           try clear hfz126_2
           try clear hfz126_3
           try clear hfz130_0
           try clear hfz130_1
           try clear hfz130_2
           try clear hfz130_3
           try clear hfz133_0
           try clear hfz133_1
           try clear hfz133_2
           try clear hfz133_3
           try clear hfz137_0
           try clear hfz137_1
           try clear hfz137_2
           try clear hfz137_3
           try clear hfz145_0
           try clear hfz145_1
           try clear hfz145_2
           try clear hfz149_0
           try clear hfz149_1
           try clear hfz149_2
           try clear hfz152_0
           try clear hfz152_1
           try clear hfz152_2
           try clear hfz157_0
           try clear hfz157_1
           try clear hfz157_2
           try clear hfz160_0
           try clear hfz160_1
           try clear hfz160_2
           try clear hfz165_0
           try clear hfz165_1
           try clear hfz165_2
           try clear hfz168_0
           try clear hfz168_1
           try clear hfz168_2
           try clear hfz172_0
           try clear hfz172_1
           try clear hfz172_2
           try clear hfz175_0
           try clear hfz175_1
           try clear hfz175_2
           try clear hfz180_0
           try clear hfz180_1
           try clear hfz180_2
           try clear hfz183_0
           try clear hfz183_1
           try clear hfz183_2
           try clear hfz189_0
           try clear hfz189_1
           try clear hfz189_2
           try clear hfz192_0
           try clear hfz192_1
           try clear hfz192_2
           try clear hfz196_0
           try clear hfz196_1
           try clear hfz196_2
           try clear hfz199_0
           try clear hfz199_1
           try clear hfz199_2
           try clear hfz204_0
           try clear hfz204_1
           try clear hfz204_2
           try clear hfz207_0
           try clear hfz207_1
           try clear hfz207_2
           try clear hfz212_0
           try clear hfz212_1
           try clear hfz212_2
           try clear hfz215_0
           try clear hfz215_1
           try clear hfz215_2
           try clear hfz219_0
           try clear hfz219_1
           try clear hfz219_2
           try clear hfz222_0
           try clear hfz222_1
           try clear hfz222_2
           try clear hfz226_0
           try clear hfz226_1
           try clear hfz226_2
           try clear hfz232_0
           try clear hfz232_1
           try clear hfz232_2
           try clear hfz232_3
           try clear hfz50_2
           try clear hfz53_0
           try clear hfz53_1
           try clear hfz53_2
           try clear hfz59_0
           try clear hfz59_1
           try clear hfz59_2
           try clear hfz64_0
           try clear hfz64_1
           try clear hfz64_2
           try clear hfz67_0
           try clear hfz67_1
           try clear hfz67_2
           try clear hfz72_0
           try clear hfz72_1
           try clear hfz72_2
           try clear hfz75_0
           try clear hfz75_1
           try clear hfz75_2
           try clear hfz79_0
           try clear hfz79_1
           try clear hfz79_2
           try clear hfz82_0
           try clear hfz82_1
           try clear hfz82_2
           try clear hfz87_0
           try clear hfz87_1
           try clear hfz87_2
           try clear hfz92_0
           try clear hfz92_1
           try clear hfz92_2
           try clear hfz95_0
           try clear hfz95_1
           try clear hfz95_2
           try clear p2
           obtain ⟨x11_4, rfl, HA, HK4, BK122, BK123, BK130, BK136, BK137, HB⟩ := hrel
           cases gk with
           | zero => exact absurd HA.out (by simp [atlaslaw07_RightsMore.l0])
           | succ k4 =>
            have H := HA.out
            clear HA
            simp only [atlaslaw07_RightsMore.l0] at H
            by_cases c233 : x11_4 ≤ 3
            ·
             rw [if_pos c233] at H
             have c233b0 : decide (x11_4 ≤ 3) = true := decide_eq_true c233
             clear c233
             replace H := Option.bind_eq_some_iff.mp H
             obtain ⟨t138, A2340, H⟩ := H
             replace H : ((rights_Allows.f k4 t131 t132 t133 t134 false false x11_4).bind fun t139 => (if 0 ≤ x11_4 then (if x11_4 < 4 then (if (t138 != (rdOf false ([false, a0_2, a0_0, a0_1] : List Bool) x11_4)) = true then (atlaslaw07_RightsMore.j4 k4 x9_137 x11_4 true t125 t126 t127 t128 t131 t132 t133 t134 false a0_2 a0_0 a0_1) else (if x9_137 = true then (if t138 = true then (atlaslaw07_RightsMore.j4 k4 x9_137 x11_4 (!t139) t125 t126 t127 t128 t131 t132 t133 t134 false a0_2 a0_0 a0_1) else (atlaslaw07_RightsMore.j4 k4 x9_137 x11_4 false t125 t126 t127 t128 t131 t132 t133 t134 false a0_2 a0_0 a0_1)) else (atlaslaw07_RightsMore.j4 k4 x9_137 x11_4 false t125 t126 t127 t128 t131 t132 t133 t134 false a0_2 a0_0 a0_1))) else (none)) else (none))) = some r := H
             have A234 := Aside0.mk A2340
             clear A2340
             replace H := Option.bind_eq_some_iff.mp H
             obtain ⟨t139, A2350, H⟩ := H
             replace H : (if 0 ≤ x11_4 then (if x11_4 < 4 then (if (t138 != (rdOf false ([false, a0_2, a0_0, a0_1] : List Bool) x11_4)) = true then (atlaslaw07_RightsMore.j4 k4 x9_137 x11_4 true t125 t126 t127 t128 t131 t132 t133 t134 false a0_2 a0_0 a0_1) else (if x9_137 = true then (if t138 = true then (atlaslaw07_RightsMore.j4 k4 x9_137 x11_4 (!t139) t125 t126 t127 t128 t131 t132 t133 t134 false a0_2 a0_0 a0_1) else (atlaslaw07_RightsMore.j4 k4 x9_137 x11_4 false t125 t126 t127 t128 t131 t132 t133 t134 false a0_2 a0_0 a0_1)) else (atlaslaw07_RightsMore.j4 k4 x9_137 x11_4 false t125 t126 t127 t128 t131 t132 t133 t134 false a0_2 a0_0 a0_1))) else (none)) else (none)) = some r := H
             have A235 := Aside0.mk A2350
             clear A2350
             have HC236 := Aside0.mk H
             clear H
             have hnb237 := NB130_122.out
             have hnc237 := NB122_130.out
             have hnb238 := NB130_123.out
             have hnc238 := NB123_130.out
             have hnb239 := NB130_136.out
             have hnc239 := NB136_130.out
             have hnb240 := NB130_137.out
             have hnc240 := NB137_130.out
             have hcz241_0 : wr.cell? ⟨gb130, 0, none⟩ = some (.int .i64 t125) := (blk_cell BK130.out 0).trans rfl
             have hcz241_1 : wr.cell? ⟨gb130, 1, none⟩ = some (.int .u32 t126) := (blk_cell BK130.out 1).trans rfl
             have hcz241_2 : wr.cell? ⟨gb130, 2, none⟩ = some (.bool t127) := (blk_cell BK130.out 2).trans rfl
             have hcz241_3 : wr.cell? ⟨gb130, 3, none⟩ = some (.bool t128) := (blk_cell BK130.out 3).trans rfl
             have hfz241_0 := blk_frozen BK130.out 0
             have hfz241_1 := blk_frozen BK130.out 1
             have hfz241_2 := blk_frozen BK130.out 2
             have hfz241_3 := blk_frozen BK130.out 3
             go_upto_region 16 with (first | ((with_reducible refine gate_callee (f := 10) rfl ?_); refine goesL_ (some 118) rfl rfl Tryd.func10 (by kernel_rfl) rfl #[.agg #[.int .i64 t125, .int .u32 t126, .bool t127, .bool t128], .bool false, .bool false, .int .i64 x11_4] rfl (by (try simp only [List.map_toArray, List.map_cons, List.map_nil]); first | done | rfl | (simp only [List.length_drop, List.length_take]; rfl)) ?_; (with_reducible refine (rights_Allows.calls k4 t125 t126 t127 t128 false false x11_4 t138 _ ?side1 ?side2 A234.out).mono ?_); (case side1 => exact ⟨G0.below hG0.out (by repeat (first | (with_reducible first | exact HB.out | apply below_alloc | apply pw_below_drewN | apply below_drew1 | refine below_set ?_ GE122.out | refine below_set ?_ GE123.out | refine below_set ?_ GE130.out | refine below_set ?_ GE136.out | refine below_set ?_ GE137.out) | exact HB.out))⟩); (case side2 => exact ⟨G1.below hG1.out (by repeat (first | (with_reducible first | exact HB.out | apply below_alloc | apply pw_below_drewN | apply below_drew1 | refine below_set ?_ GE122.out | refine below_set ?_ GE123.out | refine below_set ?_ GE130.out | refine below_set ?_ GE136.out | refine below_set ?_ GE137.out) | exact HB.out))⟩); rintro e w242 ⟨rfl, hb⟩; refine ⟨_, rfl, ?_⟩; have n0_ := Aside0.mk (blk_below (g := gb122) (o := .cells #[.bool a0_0, .bool a0_1, .bool a0_2] 28 (0, 0)) (by (with_reducible repeat (first | refine blk_drewN ?_ _ | refine blk_drew ?_ | refine blk_alloc ?_ _)); exact BK122.out) hb); have n1_ := Aside0.mk (blk_below (g := gb123) (o := .cells #[.bool a1_0, .bool a1_1, .bool a1_2] 28 (0, 0)) (by (with_reducible repeat (first | refine blk_drewN ?_ _ | refine blk_drew ?_ | refine blk_alloc ?_ _)); exact BK123.out) hb); have n2_ := Aside0.mk (blk_below (g := gb130) (o := .cells #[.int .i64 t125, .int .u32 t126, .bool t127, .bool t128] 24 (0, 0)) (by (with_reducible repeat (first | refine blk_drewN ?_ _ | refine blk_drew ?_ | refine blk_alloc ?_ _)); exact BK130.out) hb); have n3_ := Aside0.mk (blk_below (g := gb136) (o := .cells #[.int .i64 t131, .int .u32 t132, .bool t133, .bool t134] 24 (0, 0)) (by (with_reducible repeat (first | refine blk_drewN ?_ _ | refine blk_drew ?_ | refine blk_alloc ?_ _)); exact BK136.out) hb); have n4_ := Aside0.mk (blk_below (g := gb137) (o := .cells #[.bool false, .bool a0_2, .bool a0_0, .bool a0_1] 44 (0, 0)) (by (with_reducible repeat (first | refine blk_drewN ?_ _ | refine blk_drew ?_ | refine blk_alloc ?_ _)); exact BK137.out) hb); have n5_ := Aside0.mk (below_step (by repeat (first | (with_reducible first | exact HB.out | apply below_alloc | apply pw_below_drewN | apply below_drew1 | refine below_set ?_ GE122.out | refine below_set ?_ GE123.out | refine below_set ?_ GE130.out | refine below_set ?_ GE136.out | refine below_set ?_ GE137.out) | exact HB.out)) hb); clear BK122; clear BK123; clear BK130; clear BK136; clear BK137; clear HB; have BK122 := n0_; have BK123 := n1_; have BK130 := n2_; have BK136 := n3_; have BK137 := n4_; have HB := n5_; clear n0_ n1_ n2_ n3_ n4_ n5_; (try clear hb); (try clear hb2); (try clear hk); (try clear hi); have hnb243 := NB136_122.out; have hnc243 := NB122_136.out; have hnb244 := NB136_123.out; have hnc244 := NB123_136.out; have hnb245 := NB136_137.out; have hnc245 := NB137_136.out; have hcz246_0 : w242.cell? ⟨gb136, 0, none⟩ = some (.int .i64 t131) := (blk_cell BK136.out 0).trans rfl; have hcz246_1 : w242.cell? ⟨gb136, 1, none⟩ = some (.int .u32 t132) := (blk_cell BK136.out 1).trans rfl; have hcz246_2 : w242.cell? ⟨gb136, 2, none⟩ = some (.bool t133) := (blk_cell BK136.out 2).trans rfl; have hcz246_3 : w242.cell? ⟨gb136, 3, none⟩ = some (.bool t134) := (blk_cell BK136.out 3).trans rfl; have hfz246_0 := blk_frozen BK136.out 0; have hfz246_1 := blk_frozen BK136.out 1; have hfz246_2 := blk_frozen BK136.out 2; have hfz246_3 := blk_frozen BK136.out 3) | ((with_reducible refine gate_callee (f := 10) rfl ?_); refine goesL_ (some 121) rfl rfl Tryd.func10 (by kernel_rfl) rfl #[.agg #[.int .i64 t131, .int .u32 t132, .bool t133, .bool t134], .bool false, .bool false, .int .i64 x11_4] rfl (by (try simp only [List.map_toArray, List.map_cons, List.map_nil]); first | done | rfl | (simp only [List.length_drop, List.length_take]; rfl)) ?_; (with_reducible refine (rights_Allows.calls k4 t131 t132 t133 t134 false false x11_4 t139 _ ?side1 ?side2 A235.out).mono ?_); (case side1 => exact ⟨G0.below hG0.out (by repeat (first | (with_reducible first | exact HB.out | apply below_alloc | apply pw_below_drewN | apply below_drew1 | refine below_set ?_ GE122.out | refine below_set ?_ GE123.out | refine below_set ?_ GE130.out | refine below_set ?_ GE136.out | refine below_set ?_ GE137.out) | exact HB.out))⟩); (case side2 => exact ⟨G1.below hG1.out (by repeat (first | (with_reducible first | exact HB.out | apply below_alloc | apply pw_below_drewN | apply below_drew1 | refine below_set ?_ GE122.out | refine below_set ?_ GE123.out | refine below_set ?_ GE130.out | refine below_set ?_ GE136.out | refine below_set ?_ GE137.out) | exact HB.out))⟩); rintro e w247 ⟨rfl, hb⟩; refine ⟨_, rfl, ?_⟩; have n0_ := Aside0.mk (blk_below (g := gb122) (o := .cells #[.bool a0_0, .bool a0_1, .bool a0_2] 28 (0, 0)) (by (with_reducible repeat (first | refine blk_drewN ?_ _ | refine blk_drew ?_ | refine blk_alloc ?_ _)); exact BK122.out) hb); have n1_ := Aside0.mk (blk_below (g := gb123) (o := .cells #[.bool a1_0, .bool a1_1, .bool a1_2] 28 (0, 0)) (by (with_reducible repeat (first | refine blk_drewN ?_ _ | refine blk_drew ?_ | refine blk_alloc ?_ _)); exact BK123.out) hb); have n2_ := Aside0.mk (blk_below (g := gb130) (o := .cells #[.int .i64 t125, .int .u32 t126, .bool t127, .bool t128] 24 (0, 0)) (by (with_reducible repeat (first | refine blk_drewN ?_ _ | refine blk_drew ?_ | refine blk_alloc ?_ _)); exact BK130.out) hb); have n3_ := Aside0.mk (blk_below (g := gb136) (o := .cells #[.int .i64 t131, .int .u32 t132, .bool t133, .bool t134] 24 (0, 0)) (by (with_reducible repeat (first | refine blk_drewN ?_ _ | refine blk_drew ?_ | refine blk_alloc ?_ _)); exact BK136.out) hb); have n4_ := Aside0.mk (blk_below (g := gb137) (o := .cells #[.bool false, .bool a0_2, .bool a0_0, .bool a0_1] 44 (0, 0)) (by (with_reducible repeat (first | refine blk_drewN ?_ _ | refine blk_drew ?_ | refine blk_alloc ?_ _)); exact BK137.out) hb); have n5_ := Aside0.mk (below_step (by repeat (first | (with_reducible first | exact HB.out | apply below_alloc | apply pw_below_drewN | apply below_drew1 | refine below_set ?_ GE122.out | refine below_set ?_ GE123.out | refine below_set ?_ GE130.out | refine below_set ?_ GE136.out | refine below_set ?_ GE137.out) | exact HB.out)) hb); clear BK122; clear BK123; clear BK130; clear BK136; clear BK137; clear HB; have BK122 := n0_; have BK123 := n1_; have BK130 := n2_; have BK136 := n3_; have BK137 := n4_; have HB := n5_; clear n0_ n1_ n2_ n3_ n4_ n5_; (try clear hb); (try clear hb2); (try clear hk); (try clear hi)))
             (try simp only [Act.put, List.setIfInBounds_toArray, List.set_cons_zero, List.set_cons_succ])
             go_cut [136] (fun v136 wc => ∃ (kq : Nat) (x136_235 : Bool), v136 = .bool x136_235 ∧ Aside0 (atlaslaw07_RightsMore.j4 kq x9_137 x11_4 x136_235 t125 t126 t127 t128 t131 t132 t133 t134 false a0_2 a0_0 a0_1 = some r) ∧ Aside0 (kq ≤ k4) ∧ Aside0 (wc.heap[gb122]? = some (.cells #[.bool a0_0, .bool a0_1, .bool a0_2] 28 (0, 0))) ∧ Aside0 (wc.heap[gb123]? = some (.cells #[.bool a1_0, .bool a1_1, .bool a1_2] 28 (0, 0))) ∧ Aside0 (wc.heap[gb130]? = some (.cells #[.int .i64 t125, .int .u32 t126, .bool t127, .bool t128] 24 (0, 0))) ∧ Aside0 (wc.heap[gb136]? = some (.cells #[.int .i64 t131, .int .u32 t132, .bool t133, .bool t134] 24 (0, 0))) ∧ Aside0 (wc.heap[gb137]? = some (.cells #[.bool false, .bool a0_2, .bool a0_0, .bool a0_1] 44 (0, 0))) ∧ Aside0 (Below w.heap.size w wc))
             case first =>
              have H := HC236.out
              clear HC236
              by_cases c248 : 0 ≤ x11_4
              ·
               rw [if_pos c248] at H
               have c248b0 : decide (0 ≤ x11_4) = true := decide_eq_true c248
               clear c248
               (first | rw [c248b0] | (simp only [i64_w, i32_w]; rw [c248b0]) | skip)
               by_cases c249 : x11_4 < 4
               ·
                rw [if_pos c249] at H
                have c249b0 : decide (x11_4 < 4) = true := decide_eq_true c249
                clear c249
                by_cases c250 : (t138 != (rdOf false ([false, a0_2, a0_0, a0_1] : List Bool) x11_4)) = true
                ·
                 rw [if_pos c250] at H
                 have c250b0 : (t138 != (rdOf false ([false, a0_2, a0_0, a0_1] : List Bool) x11_4)) = true := c250
                 (try (have c250b1 : decide (t138 = (rdOf false ([false, a0_2, a0_0, a0_1] : List Bool) x11_4)) = false := by simpa using c250))
                 (try (have c250b2 : (t138 == (rdOf false ([false, a0_2, a0_0, a0_1] : List Bool) x11_4)) = false := by simpa using c250))
                 (try (have c250b3 : ¬ (t138 = (rdOf false ([false, a0_2, a0_0, a0_1] : List Bool) x11_4)) := by simpa using c250))
                 (try (have c250b4 : decide (t138 = (rdOf false ([false, a0_2, a0_0, a0_1] : List Bool) x11_4)) = false := by have h_ := c250; revert h_; generalize (t138) = x_; generalize ((rdOf false ([false, a0_2, a0_0, a0_1] : List Bool) x11_4)) = y_; revert x_ y_; decide))
                 (try (have c250b5 : ((t138) == ((rdOf false ([false, a0_2, a0_0, a0_1] : List Bool) x11_4))) = false := by have h_ := c250; revert h_; generalize (t138) = x_; generalize ((rdOf false ([false, a0_2, a0_0, a0_1] : List Bool) x11_4)) = y_; revert x_ y_; decide))
                 (try (have c250b6 : ((t138) = ((rdOf false ([false, a0_2, a0_0, a0_1] : List Bool) x11_4))) = False := eq_false (by have h_ := c250; revert h_; generalize (t138) = x_; generalize ((rdOf false ([false, a0_2, a0_0, a0_1] : List Bool) x11_4)) = y_; revert x_ y_; decide)))
                 clear c250
                 have H' := Aside0.mk H
                 clear H
                 have p140251_0 : 0 ≤ (x11_4 : Int) := of_decide_eq_true (by first | (with_reducible assumption) | assumption)
                 have q140251_0 : (x11_4 : Int) < 4 := of_decide_eq_true (by first | (with_reducible assumption) | assumption)
                 have hx140251_0 := (blk_ixb (xs := [false, a0_2, a0_0, a0_1]) (j := x11_4) BK137.out p140251_0 q140251_0)
                 replace p140251_0 := eq_true p140251_0
                 replace q140251_0 := eq_true q140251_0
                 go_wp2
                 go_meet
                 case rel => exact ⟨_, (true), (by first | rfl | (simp; done) | (simp [*]; done) | (simp [*, bnn1]; done) | (simp only [*, bnn1, Bool.not_true, Bool.not_false, Bool.false_or, Bool.true_or]; done)), H', ⟨by have := HJ6.out; have := HJ111.out; have := HJ137.out; have := HK4.out; first | omega | exact Nat.le_refl _⟩, ⟨by (with_reducible repeat (first | refine blk_drewN ?_ _ | refine blk_drew ?_ | refine blk_alloc ?_ _)); exact BK122.out⟩, ⟨by (with_reducible repeat (first | refine blk_drewN ?_ _ | refine blk_drew ?_ | refine blk_alloc ?_ _)); exact BK123.out⟩, ⟨by (with_reducible repeat (first | refine blk_drewN ?_ _ | refine blk_drew ?_ | refine blk_alloc ?_ _)); exact BK130.out⟩, ⟨by (with_reducible repeat (first | refine blk_drewN ?_ _ | refine blk_drew ?_ | refine blk_alloc ?_ _)); exact BK136.out⟩, ⟨by (with_reducible repeat (first | refine blk_drewN ?_ _ | refine blk_drew ?_ | refine blk_alloc ?_ _)); exact BK137.out⟩, ⟨by repeat (first | (with_reducible first | exact HB.out | apply below_alloc | apply pw_below_drewN | apply below_drew1 | refine below_set ?_ GE122.out | refine below_set ?_ GE123.out | refine below_set ?_ GE130.out | refine below_set ?_ GE136.out | refine below_set ?_ GE137.out) | exact HB.out)⟩⟩
                ·
                 rw [if_neg c250] at H
                 have c250b0 : (t138 != (rdOf false ([false, a0_2, a0_0, a0_1] : List Bool) x11_4)) = false := by simpa using c250
                 (try (have c250b1 : decide (t138 = (rdOf false ([false, a0_2, a0_0, a0_1] : List Bool) x11_4)) = true := by simpa using c250))
                 (try (have c250b2 : (t138 == (rdOf false ([false, a0_2, a0_0, a0_1] : List Bool) x11_4)) = true := by simpa using c250))
                 (try (have c250b3 : decide (t138 = (rdOf false ([false, a0_2, a0_0, a0_1] : List Bool) x11_4)) = true := by have h_ := c250; revert h_; generalize (t138) = x_; generalize ((rdOf false ([false, a0_2, a0_0, a0_1] : List Bool) x11_4)) = y_; revert x_ y_; decide))
                 (try (have c250b4 : ((t138) == ((rdOf false ([false, a0_2, a0_0, a0_1] : List Bool) x11_4))) = true := by have h_ := c250; revert h_; generalize (t138) = x_; generalize ((rdOf false ([false, a0_2, a0_0, a0_1] : List Bool) x11_4)) = y_; revert x_ y_; decide))
                 (try (have c250b5 : ((t138) = ((rdOf false ([false, a0_2, a0_0, a0_1] : List Bool) x11_4))) = True := eq_true (by have h_ := c250; revert h_; generalize (t138) = x_; generalize ((rdOf false ([false, a0_2, a0_0, a0_1] : List Bool) x11_4)) = y_; revert x_ y_; decide)))
                 clear c250
                 by_cases c252 : x9_137 = true
                 ·
                  subst c252
                  have H1 : (if t138 = true then (atlaslaw07_RightsMore.j4 k4 true x11_4 (!t139) t125 t126 t127 t128 t131 t132 t133 t134 false a0_2 a0_0 a0_1) else (atlaslaw07_RightsMore.j4 k4 true x11_4 false t125 t126 t127 t128 t131 t132 t133 t134 false a0_2 a0_0 a0_1)) = some r := by rw [if_pos rfl] at H; exact H
                  clear H
                  have H := H1
                  clear H1
                  by_cases c253 : t138 = true
                  ·
                   subst c253
                   have H1 : (atlaslaw07_RightsMore.j4 k4 true x11_4 (!t139) t125 t126 t127 t128 t131 t132 t133 t134 false a0_2 a0_0 a0_1) = some r := by rw [if_pos rfl] at H; exact H
                   clear H
                   have H := H1
                   clear H1
                   have H' := Aside0.mk H
                   clear H
                   have p140254_0 : 0 ≤ (x11_4 : Int) := of_decide_eq_true (by first | (with_reducible assumption) | assumption)
                   have q140254_0 : (x11_4 : Int) < 4 := of_decide_eq_true (by first | (with_reducible assumption) | assumption)
                   have hx140254_0 := (blk_ixb (xs := [false, a0_2, a0_0, a0_1]) (j := x11_4) BK137.out p140254_0 q140254_0)
                   replace p140254_0 := eq_true p140254_0
                   replace q140254_0 := eq_true q140254_0
                   go_wp2
                   go_meet
                   case rel => exact ⟨_, (!t139), (by first | rfl | (simp; done) | (simp [*]; done) | (simp [*, bnn1]; done) | (simp only [*, bnn1, Bool.not_true, Bool.not_false, Bool.false_or, Bool.true_or]; done)), H', ⟨by have := HJ6.out; have := HJ111.out; have := HJ137.out; have := HK4.out; first | omega | exact Nat.le_refl _⟩, ⟨by (with_reducible repeat (first | refine blk_drewN ?_ _ | refine blk_drew ?_ | refine blk_alloc ?_ _)); exact BK122.out⟩, ⟨by (with_reducible repeat (first | refine blk_drewN ?_ _ | refine blk_drew ?_ | refine blk_alloc ?_ _)); exact BK123.out⟩, ⟨by (with_reducible repeat (first | refine blk_drewN ?_ _ | refine blk_drew ?_ | refine blk_alloc ?_ _)); exact BK130.out⟩, ⟨by (with_reducible repeat (first | refine blk_drewN ?_ _ | refine blk_drew ?_ | refine blk_alloc ?_ _)); exact BK136.out⟩, ⟨by (with_reducible repeat (first | refine blk_drewN ?_ _ | refine blk_drew ?_ | refine blk_alloc ?_ _)); exact BK137.out⟩, ⟨by repeat (first | (with_reducible first | exact HB.out | apply below_alloc | apply pw_below_drewN | apply below_drew1 | refine below_set ?_ GE122.out | refine below_set ?_ GE123.out | refine below_set ?_ GE130.out | refine below_set ?_ GE136.out | refine below_set ?_ GE137.out) | exact HB.out)⟩⟩
                  ·
                   replace c253 := Bool.eq_false_iff.mpr c253
                   subst c253
                   have H1 : (atlaslaw07_RightsMore.j4 k4 true x11_4 false t125 t126 t127 t128 t131 t132 t133 t134 false a0_2 a0_0 a0_1) = some r := by rw [if_neg (show ¬ (false = true) by decide)] at H; exact H
                   clear H
                   have H := H1
                   clear H1
                   have H' := Aside0.mk H
                   clear H
                   have p140255_0 : 0 ≤ (x11_4 : Int) := of_decide_eq_true (by first | (with_reducible assumption) | assumption)
                   have q140255_0 : (x11_4 : Int) < 4 := of_decide_eq_true (by first | (with_reducible assumption) | assumption)
                   have hx140255_0 := (blk_ixb (xs := [false, a0_2, a0_0, a0_1]) (j := x11_4) BK137.out p140255_0 q140255_0)
                   replace p140255_0 := eq_true p140255_0
                   replace q140255_0 := eq_true q140255_0
                   go_wp2
                   go_meet
                   case rel => exact ⟨_, (false), (by first | rfl | (simp; done) | (simp [*]; done) | (simp [*, bnn1]; done) | (simp only [*, bnn1, Bool.not_true, Bool.not_false, Bool.false_or, Bool.true_or]; done)), H', ⟨by have := HJ6.out; have := HJ111.out; have := HJ137.out; have := HK4.out; first | omega | exact Nat.le_refl _⟩, ⟨by (with_reducible repeat (first | refine blk_drewN ?_ _ | refine blk_drew ?_ | refine blk_alloc ?_ _)); exact BK122.out⟩, ⟨by (with_reducible repeat (first | refine blk_drewN ?_ _ | refine blk_drew ?_ | refine blk_alloc ?_ _)); exact BK123.out⟩, ⟨by (with_reducible repeat (first | refine blk_drewN ?_ _ | refine blk_drew ?_ | refine blk_alloc ?_ _)); exact BK130.out⟩, ⟨by (with_reducible repeat (first | refine blk_drewN ?_ _ | refine blk_drew ?_ | refine blk_alloc ?_ _)); exact BK136.out⟩, ⟨by (with_reducible repeat (first | refine blk_drewN ?_ _ | refine blk_drew ?_ | refine blk_alloc ?_ _)); exact BK137.out⟩, ⟨by repeat (first | (with_reducible first | exact HB.out | apply below_alloc | apply pw_below_drewN | apply below_drew1 | refine below_set ?_ GE122.out | refine below_set ?_ GE123.out | refine below_set ?_ GE130.out | refine below_set ?_ GE136.out | refine below_set ?_ GE137.out) | exact HB.out)⟩⟩
                 ·
                  replace c252 := Bool.eq_false_iff.mpr c252
                  subst c252
                  have H1 : (atlaslaw07_RightsMore.j4 k4 false x11_4 false t125 t126 t127 t128 t131 t132 t133 t134 false a0_2 a0_0 a0_1) = some r := by rw [if_neg (show ¬ (false = true) by decide)] at H; exact H
                  clear H
                  have H := H1
                  clear H1
                  have H' := Aside0.mk H
                  clear H
                  have p140256_0 : 0 ≤ (x11_4 : Int) := of_decide_eq_true (by first | (with_reducible assumption) | assumption)
                  have q140256_0 : (x11_4 : Int) < 4 := of_decide_eq_true (by first | (with_reducible assumption) | assumption)
                  have hx140256_0 := (blk_ixb (xs := [false, a0_2, a0_0, a0_1]) (j := x11_4) BK137.out p140256_0 q140256_0)
                  replace p140256_0 := eq_true p140256_0
                  replace q140256_0 := eq_true q140256_0
                  go_wp2
                  go_meet
                  case rel => exact ⟨_, (false), (by first | rfl | (simp; done) | (simp [*]; done) | (simp [*, bnn1]; done) | (simp only [*, bnn1, Bool.not_true, Bool.not_false, Bool.false_or, Bool.true_or]; done)), H', ⟨by have := HJ6.out; have := HJ111.out; have := HJ137.out; have := HK4.out; first | omega | exact Nat.le_refl _⟩, ⟨by (with_reducible repeat (first | refine blk_drewN ?_ _ | refine blk_drew ?_ | refine blk_alloc ?_ _)); exact BK122.out⟩, ⟨by (with_reducible repeat (first | refine blk_drewN ?_ _ | refine blk_drew ?_ | refine blk_alloc ?_ _)); exact BK123.out⟩, ⟨by (with_reducible repeat (first | refine blk_drewN ?_ _ | refine blk_drew ?_ | refine blk_alloc ?_ _)); exact BK130.out⟩, ⟨by (with_reducible repeat (first | refine blk_drewN ?_ _ | refine blk_drew ?_ | refine blk_alloc ?_ _)); exact BK136.out⟩, ⟨by (with_reducible repeat (first | refine blk_drewN ?_ _ | refine blk_drew ?_ | refine blk_alloc ?_ _)); exact BK137.out⟩, ⟨by repeat (first | (with_reducible first | exact HB.out | apply below_alloc | apply pw_below_drewN | apply below_drew1 | refine below_set ?_ GE122.out | refine below_set ?_ GE123.out | refine below_set ?_ GE130.out | refine below_set ?_ GE136.out | refine below_set ?_ GE137.out) | exact HB.out)⟩⟩
               ·
                rw [if_neg c249] at H
                exact absurd H (by simp)
              ·
               rw [if_neg c248] at H
               exact absurd H (by simp)
             case rest =>
              clear HC236
              try clear c1
              try clear p1
              try clear q1
              try clear hx1
              try clear c2
              try clear p2
              try clear c10
              try clear c11
              try clear c12
              try clear c13
              try clear c14
              try clear p14
              try clear q14
              try clear hx14
              try clear c15
              try clear c16
              try clear c17
              try clear c18
              try clear c19
              try clear c20
              try clear c21
              try clear c22
              try clear c23
              try clear c24
              try clear c25
              try clear c114
              try clear c115
              try clear c115b0
              try clear c115b1
              try clear c116
              try clear c116b0
              try clear c116b1
              try clear c117
              try clear c118
              try clear c119
              try clear c121
              try clear c121b0
              try clear c121b1
              try clear c121b2
              try clear c122
              try clear c122b0
              try clear c122b1
              try clear c123
              try clear c124
              try clear c125
              try clear c127
              try clear c128
              try clear c129
              try clear c131
              try clear c132
              try clear c134
              try clear c135
              try clear c136
              try clear c139
              try clear c140
              try clear p140
              try clear q140
              try clear hx140
              try clear c141
              try clear c142
              try clear c143
              try clear c144
              try clear c146
              try clear c147
              try clear c148
              try clear c150
              try clear c151
              try clear c153
              try clear c154
              try clear c155
              try clear c156
              try clear c158
              try clear c159
              try clear c161
              try clear c162
              try clear c163
              try clear c164
              try clear c166
              try clear c167
              try clear c169
              try clear c170
              try clear c171
              try clear c173
              try clear c174
              try clear c176
              try clear c177
              try clear c178
              try clear c179
              try clear c181
              try clear c182
              try clear c184
              try clear c185
              try clear c186
              try clear c187
              try clear c188
              try clear c190
              try clear c191
              try clear c193
              try clear c194
              try clear c195
              try clear c197
              try clear c198
              try clear c200
              try clear c201
              try clear c202
              try clear c203
              try clear c205
              try clear c206
              try clear c208
              try clear c209
              try clear c210
              try clear c211
              try clear c213
              try clear c214
              try clear c216
              try clear c217
              try clear c218
              try clear c220
              try clear c221
              try clear c223
              try clear c224
              try clear c225
              try clear c228
              try clear c229
              try clear c230
              try clear c231
              try clear c233
              try clear c233b0
              try clear c237
              try clear c238
              try clear c239
              try clear c240
              try clear c243
              try clear c244
              try clear c245
              try clear c248
              try clear c248b0
              try clear c249
              try clear c249b0
              try clear c250
              try clear c250b0
              try clear c250b1
              try clear c250b2
              try clear c252
              try clear c253
              try clear hcz120_0
              try clear hcz120_1
              try clear hcz120_2
              try clear hcz120_3
              try clear hcz126_0
              try clear hcz126_1
              try clear hcz126_2
              try clear hcz126_3
              try clear hcz130_0
              try clear hcz130_1
              try clear hcz130_2
              try clear hcz130_3
              try clear hcz133_0
              try clear hcz133_1
              try clear hcz133_2
              try clear hcz133_3
              try clear hcz137_0
              try clear hcz137_1
              try clear hcz137_2
              try clear hcz137_3
              try clear hcz145_0
              try clear hcz145_1
              try clear hcz145_2
              try clear hcz149_0
              try clear hcz149_1
              try clear hcz149_2
              try clear hcz152_0
              try clear hcz152_1
              try clear hcz152_2
              try clear hcz157_0
              try clear hcz157_1
              try clear hcz157_2
              try clear hcz160_0
              try clear hcz160_1
              try clear hcz160_2
              try clear hcz165_0
              try clear hcz165_1
              try clear hcz165_2
              try clear hcz168_0
              try clear hcz168_1
              try clear hcz168_2
              try clear hcz172_0
              try clear hcz172_1
              try clear hcz172_2
              try clear hcz175_0
              try clear hcz175_1
              try clear hcz175_2
              try clear hcz180_0
              try clear hcz180_1
              try clear hcz180_2
              try clear hcz183_0
              try clear hcz183_1
              try clear hcz183_2
              try clear hcz189_0
              try clear hcz189_1
              try clear hcz189_2
              try clear hcz192_0
              try clear hcz192_1
              try clear hcz192_2
              try clear hcz196_0
              try clear hcz196_1
              try clear hcz196_2
              try clear hcz199_0
              try clear hcz199_1
              try clear hcz199_2
              try clear hcz204_0
              try clear hcz204_1
              try clear hcz204_2
              try clear hcz207_0
              try clear hcz207_1
              try clear hcz207_2
              try clear hcz212_0
              try clear hcz212_1
              try clear hcz212_2
              try clear hcz215_0
              try clear hcz215_1
              try clear hcz215_2
              try clear hcz219_0
              try clear hcz219_1
              try clear hcz219_2
              try clear hcz222_0
              try clear hcz222_1
              try clear hcz222_2
              try clear hcz226_0
              try clear hcz226_1
              try clear hcz226_2
              try clear hcz232_0
              try clear hcz232_1
              try clear hcz232_2
              try clear hcz232_3
              try clear hcz241_0
              try clear hcz241_1
              try clear hcz241_2
              try clear hcz241_3
              try clear hcz246_0
              try clear hcz246_1
              try clear hcz246_2
              try clear hcz246_3
              try clear hfz120_0
              try clear hfz120_1
              try clear hfz120_2
              try clear hfz120_3
              try clear hfz126_0
              try clear hfz126_1
              try clear hfz126_2
              try clear hfz126_3
              try clear hfz130_0
              try clear hfz130_1
              try clear hfz130_2
              try clear hfz130_3
              try clear hfz133_0
              try clear hfz133_1
              try clear hfz133_2
              try clear hfz133_3
              try clear hfz137_0
              try clear hfz137_1
              try clear hfz137_2
              try clear hfz137_3
              try clear hfz145_0
              try clear hfz145_1
              try clear hfz145_2
              try clear hfz149_0
              try clear hfz149_1
              try clear hfz149_2
              try clear hfz152_0
              try clear hfz152_1
              try clear hfz152_2
              try clear hfz157_0
              try clear hfz157_1
              try clear hfz157_2
              try clear hfz160_0
              try clear hfz160_1
              try clear hfz160_2
              try clear hfz165_0
              try clear hfz165_1
              try clear hfz165_2
              try clear hfz168_0
              try clear hfz168_1
              try clear hfz168_2
              try clear hfz172_0
              try clear hfz172_1
              try clear hfz172_2
              try clear hfz175_0
              try clear hfz175_1
              try clear hfz175_2
              try clear hfz180_0
              try clear hfz180_1
              try clear hfz180_2
              try clear hfz183_0
              try clear hfz183_1
              try clear hfz183_2
              try clear hfz189_0
              try clear hfz189_1
              try clear hfz189_2
              try clear hfz192_0
              try clear hfz192_1
              try clear hfz192_2
              try clear hfz196_0
              try clear hfz196_1
              try clear hfz196_2
              try clear hfz199_0
              try clear hfz199_1
              try clear hfz199_2
              try clear hfz204_0
              try clear hfz204_1
              try clear hfz204_2
              try clear hfz207_0
              try clear hfz207_1
              try clear hfz207_2
              try clear hfz212_0
              try clear hfz212_1
              try clear hfz212_2
              try clear hfz215_0
              try clear hfz215_1
              try clear hfz215_2
              try clear hfz219_0
              try clear hfz219_1
              try clear hfz219_2
              try clear hfz222_0
              try clear hfz222_1
              try clear hfz222_2
              try clear hfz226_0
              try clear hfz226_1
              try clear hfz226_2
              try clear hfz232_0
              try clear hfz232_1
              try clear hfz232_2
              try clear hfz232_3
              try clear hfz241_0
              try clear hfz241_1
              try clear hfz241_2
              try clear hfz241_3
              try clear hfz246_0
              try clear hfz246_1
              try clear hfz246_2
              try clear hfz246_3
              try clear hfz50_2
              try clear hfz53_0
              try clear hfz53_1
              try clear hfz53_2
              try clear hfz59_0
              try clear hfz59_1
              try clear hfz59_2
              try clear hfz64_0
              try clear hfz64_1
              try clear hfz64_2
              try clear hfz67_0
              try clear hfz67_1
              try clear hfz67_2
              try clear hfz72_0
              try clear hfz72_1
              try clear hfz72_2
              try clear hfz75_0
              try clear hfz75_1
              try clear hfz75_2
              try clear hfz79_0
              try clear hfz79_1
              try clear hfz79_2
              try clear hfz82_0
              try clear hfz82_1
              try clear hfz82_2
              try clear hfz87_0
              try clear hfz87_1
              try clear hfz87_2
              try clear hfz92_0
              try clear hfz92_1
              try clear hfz92_2
              try clear hfz95_0
              try clear hfz95_1
              try clear hfz95_2
              try clear hx140251_0
              try clear hx140254_0
              try clear hx140255_0
              try clear hx140256_0
              try clear p2
              obtain ⟨kq, x136_235, rfl, HA, HJ235, BK122, BK123, BK130, BK136, BK137, HB⟩ := hcut
              cases kq with
              | zero => exact absurd HA.out (by simp [atlaslaw07_RightsMore.j4])
              | succ kj235 =>
               have H := HA.out
               clear HA
               simp only [atlaslaw07_RightsMore.j4] at H
               by_cases c257 : x136_235 = true
               ·
                subst c257
                have H1 : (some false) = some r := by rw [if_pos rfl] at H; exact H
                clear H
                have H := H1
                clear H1
                obtain rfl := Option.some.inj H
                go_wp2
                go_ret
                exact ⟨by first | rfl | (simp [errW_none, errW_some] <;> rfl) | (simp [*, errW_none, errW_some] <;> rfl) | (simp [*, errW_none, errW_some] <;> exact isEmpty_ne _), by repeat (first | (with_reducible first | exact HB.out | apply below_alloc | apply pw_below_drewN | apply below_drew1 | refine below_set ?_ GE122.out | refine below_set ?_ GE123.out | refine below_set ?_ GE130.out | refine below_set ?_ GE136.out | refine below_set ?_ GE137.out) | exact HB.out)⟩
               ·
                replace c257 := Bool.eq_false_iff.mpr c257
                subst c257
                have H1 : (atlaslaw07_RightsMore.l0 kj235 x9_137 (wrap64 (x11_4 + 1)) t125 t126 t127 t128 t131 t132 t133 t134 false a0_2 a0_0 a0_1) = some r := by rw [if_neg (show ¬ (false = true) by decide)] at H; exact H
                clear H
                have H := H1
                clear H1
                have H' := Aside0.mk H
                clear H
                go_wp2
                go_roundg kj235
                case measure => have := HJ6.out; have := HJ111.out; have := HJ137.out; have := HK4.out; have := HJ235.out; omega
                case rel => exact ⟨(wrap64 (x11_4 + 1)), (by first | rfl | (simp; done) | (simp [*]; done) | (simp [*, bnn1]; done) | (simp only [*, bnn1, Bool.not_true, Bool.not_false, Bool.false_or, Bool.true_or]; done)), H', ⟨by have := HJ6.out; have := HJ111.out; have := HJ137.out; have := HK4.out; have := HJ235.out; omega⟩, ⟨by (with_reducible repeat (first | refine blk_drewN ?_ _ | refine blk_drew ?_ | refine blk_alloc ?_ _)); exact BK122.out⟩, ⟨by (with_reducible repeat (first | refine blk_drewN ?_ _ | refine blk_drew ?_ | refine blk_alloc ?_ _)); exact BK123.out⟩, ⟨by (with_reducible repeat (first | refine blk_drewN ?_ _ | refine blk_drew ?_ | refine blk_alloc ?_ _)); exact BK130.out⟩, ⟨by (with_reducible repeat (first | refine blk_drewN ?_ _ | refine blk_drew ?_ | refine blk_alloc ?_ _)); exact BK136.out⟩, ⟨by (with_reducible repeat (first | refine blk_drewN ?_ _ | refine blk_drew ?_ | refine blk_alloc ?_ _)); exact BK137.out⟩, ⟨by repeat (first | (with_reducible first | exact HB.out | apply below_alloc | apply pw_below_drewN | apply below_drew1 | refine below_set ?_ GE122.out | refine below_set ?_ GE123.out | refine below_set ?_ GE130.out | refine below_set ?_ GE136.out | refine below_set ?_ GE137.out) | exact HB.out)⟩⟩
            ·
             rw [if_neg c233] at H
             have c233b0 : decide (x11_4 ≤ 3) = false := decide_eq_false c233
             clear c233
             by_cases c258 : t127 = true
             ·
              subst c258
              have H1 : (if t133 = true then ((rights_Allows.f k4 t125 t126 true t128 false true 2).bind fun t141 => (if t141 = true then ((rights_Allows.f k4 t125 t126 true t128 false true 3).bind fun t142 => (some t142)) else (some false))) else (some false)) = some r := by rw [if_pos rfl] at H; exact H
              clear H
              have H := H1
              clear H1
              by_cases c259 : t133 = true
              ·
               subst c259
               have H1 : ((rights_Allows.f k4 t125 t126 true t128 false true 2).bind fun t141 => (if t141 = true then ((rights_Allows.f k4 t125 t126 true t128 false true 3).bind fun t142 => (some t142)) else (some false))) = some r := by rw [if_pos rfl] at H; exact H
               clear H
               have H := H1
               clear H1
               replace H := Option.bind_eq_some_iff.mp H
               obtain ⟨t141, A2600, H⟩ := H
               replace H : (if t141 = true then ((rights_Allows.f k4 t125 t126 true t128 false true 3).bind fun t142 => (some t142)) else (some false)) = some r := H
               have A260 := Aside0.mk A2600
               clear A2600
               by_cases c261 : t141 = true
               ·
                subst c261
                have H1 : ((rights_Allows.f k4 t125 t126 true t128 false true 3).bind fun t142 => (some t142)) = some r := by rw [if_pos rfl] at H; exact H
                clear H
                have H := H1
                clear H1
                replace H := Option.bind_eq_some_iff.mp H
                obtain ⟨t142, A2620, H⟩ := H
                replace H : (some t142) = some r := H
                have A262 := Aside0.mk A2620
                clear A2620
                obtain rfl := Option.some.inj H
                have hnb263 := NB130_122.out
                have hnc263 := NB122_130.out
                have hnb264 := NB130_123.out
                have hnc264 := NB123_130.out
                have hnb265 := NB130_136.out
                have hnc265 := NB136_130.out
                have hnb266 := NB130_137.out
                have hnc266 := NB137_130.out
                have hcz267_0 : wr.cell? ⟨gb130, 0, none⟩ = some (.int .i64 t125) := (blk_cell BK130.out 0).trans rfl
                have hcz267_1 : wr.cell? ⟨gb130, 1, none⟩ = some (.int .u32 t126) := (blk_cell BK130.out 1).trans rfl
                have hcz267_2 : wr.cell? ⟨gb130, 2, none⟩ = some (.bool true) := (blk_cell BK130.out 2).trans rfl
                have hcz267_3 : wr.cell? ⟨gb130, 3, none⟩ = some (.bool t128) := (blk_cell BK130.out 3).trans rfl
                have hfz267_0 := blk_frozen BK130.out 0
                have hfz267_1 := blk_frozen BK130.out 1
                have hfz267_2 := blk_frozen BK130.out 2
                have hfz267_3 := blk_frozen BK130.out 3
                have hnb268 := NB136_122.out
                have hnc268 := NB122_136.out
                have hnb269 := NB136_123.out
                have hnc269 := NB123_136.out
                have hnb270 := NB136_137.out
                have hnc270 := NB137_136.out
                have hcz271_0 : wr.cell? ⟨gb136, 0, none⟩ = some (.int .i64 t131) := (blk_cell BK136.out 0).trans rfl
                have hcz271_1 : wr.cell? ⟨gb136, 1, none⟩ = some (.int .u32 t132) := (blk_cell BK136.out 1).trans rfl
                have hcz271_2 : wr.cell? ⟨gb136, 2, none⟩ = some (.bool true) := (blk_cell BK136.out 2).trans rfl
                have hcz271_3 : wr.cell? ⟨gb136, 3, none⟩ = some (.bool t134) := (blk_cell BK136.out 3).trans rfl
                have hfz271_0 := blk_frozen BK136.out 0
                have hfz271_1 := blk_frozen BK136.out 1
                have hfz271_2 := blk_frozen BK136.out 2
                have hfz271_3 := blk_frozen BK136.out 3
                go_wp2_with (first | (go_at_call 10; (with_reducible refine (rights_Allows.calls k4 t125 t126 true t128 false true 2 true _ ?side1 ?side2 A260.out).mono ?_); (case side1 => exact ⟨G0.below hG0.out (by repeat (first | (with_reducible first | exact HB.out | apply below_alloc | apply pw_below_drewN | apply below_drew1 | refine below_set ?_ GE122.out | refine below_set ?_ GE123.out | refine below_set ?_ GE130.out | refine below_set ?_ GE136.out | refine below_set ?_ GE137.out) | exact HB.out))⟩); (case side2 => exact ⟨G1.below hG1.out (by repeat (first | (with_reducible first | exact HB.out | apply below_alloc | apply pw_below_drewN | apply below_drew1 | refine below_set ?_ GE122.out | refine below_set ?_ GE123.out | refine below_set ?_ GE130.out | refine below_set ?_ GE136.out | refine below_set ?_ GE137.out) | exact HB.out))⟩); rintro e w272 ⟨rfl, hb⟩; have n0_ := Aside0.mk (blk_below (g := gb122) (o := .cells #[.bool a0_0, .bool a0_1, .bool a0_2] 28 (0, 0)) (by (with_reducible repeat (first | refine blk_drewN ?_ _ | refine blk_drew ?_ | refine blk_alloc ?_ _)); exact BK122.out) hb); have n1_ := Aside0.mk (blk_below (g := gb123) (o := .cells #[.bool a1_0, .bool a1_1, .bool a1_2] 28 (0, 0)) (by (with_reducible repeat (first | refine blk_drewN ?_ _ | refine blk_drew ?_ | refine blk_alloc ?_ _)); exact BK123.out) hb); have n2_ := Aside0.mk (blk_below (g := gb130) (o := .cells #[.int .i64 t125, .int .u32 t126, .bool true, .bool t128] 24 (0, 0)) (by (with_reducible repeat (first | refine blk_drewN ?_ _ | refine blk_drew ?_ | refine blk_alloc ?_ _)); exact BK130.out) hb); have n3_ := Aside0.mk (blk_below (g := gb136) (o := .cells #[.int .i64 t131, .int .u32 t132, .bool true, .bool t134] 24 (0, 0)) (by (with_reducible repeat (first | refine blk_drewN ?_ _ | refine blk_drew ?_ | refine blk_alloc ?_ _)); exact BK136.out) hb); have n4_ := Aside0.mk (blk_below (g := gb137) (o := .cells #[.bool false, .bool a0_2, .bool a0_0, .bool a0_1] 44 (0, 0)) (by (with_reducible repeat (first | refine blk_drewN ?_ _ | refine blk_drew ?_ | refine blk_alloc ?_ _)); exact BK137.out) hb); have n5_ := Aside0.mk (below_step (by repeat (first | (with_reducible first | exact HB.out | apply below_alloc | apply pw_below_drewN | apply below_drew1 | refine below_set ?_ GE122.out | refine below_set ?_ GE123.out | refine below_set ?_ GE130.out | refine below_set ?_ GE136.out | refine below_set ?_ GE137.out) | exact HB.out)) hb); clear BK122; clear BK123; clear BK130; clear BK136; clear BK137; clear HB; have BK122 := n0_; have BK123 := n1_; have BK130 := n2_; have BK136 := n3_; have BK137 := n4_; have HB := n5_; clear n0_ n1_ n2_ n3_ n4_ n5_; (try clear hb); (try clear hb2); (try clear hk); (try clear hi); have hcz273_0 : w272.cell? ⟨gb130, 0, none⟩ = some (.int .i64 t125) := (blk_cell BK130.out 0).trans rfl; have hcz273_1 : w272.cell? ⟨gb130, 1, none⟩ = some (.int .u32 t126) := (blk_cell BK130.out 1).trans rfl; have hcz273_2 : w272.cell? ⟨gb130, 2, none⟩ = some (.bool true) := (blk_cell BK130.out 2).trans rfl; have hcz273_3 : w272.cell? ⟨gb130, 3, none⟩ = some (.bool t128) := (blk_cell BK130.out 3).trans rfl; have hfz273_0 := blk_frozen BK130.out 0; have hfz273_1 := blk_frozen BK130.out 1; have hfz273_2 := blk_frozen BK130.out 2; have hfz273_3 := blk_frozen BK130.out 3) | (go_at_call 10; (with_reducible refine (rights_Allows.calls k4 t125 t126 true t128 false true 3 t142 _ ?side1 ?side2 A262.out).mono ?_); (case side1 => exact ⟨G0.below hG0.out (by repeat (first | (with_reducible first | exact HB.out | apply below_alloc | apply pw_below_drewN | apply below_drew1 | refine below_set ?_ GE122.out | refine below_set ?_ GE123.out | refine below_set ?_ GE130.out | refine below_set ?_ GE136.out | refine below_set ?_ GE137.out) | exact HB.out))⟩); (case side2 => exact ⟨G1.below hG1.out (by repeat (first | (with_reducible first | exact HB.out | apply below_alloc | apply pw_below_drewN | apply below_drew1 | refine below_set ?_ GE122.out | refine below_set ?_ GE123.out | refine below_set ?_ GE130.out | refine below_set ?_ GE136.out | refine below_set ?_ GE137.out) | exact HB.out))⟩); rintro e w274 ⟨rfl, hb⟩; have n0_ := Aside0.mk (blk_below (g := gb122) (o := .cells #[.bool a0_0, .bool a0_1, .bool a0_2] 28 (0, 0)) (by (with_reducible repeat (first | refine blk_drewN ?_ _ | refine blk_drew ?_ | refine blk_alloc ?_ _)); exact BK122.out) hb); have n1_ := Aside0.mk (blk_below (g := gb123) (o := .cells #[.bool a1_0, .bool a1_1, .bool a1_2] 28 (0, 0)) (by (with_reducible repeat (first | refine blk_drewN ?_ _ | refine blk_drew ?_ | refine blk_alloc ?_ _)); exact BK123.out) hb); have n2_ := Aside0.mk (blk_below (g := gb130) (o := .cells #[.int .i64 t125, .int .u32 t126, .bool true, .bool t128] 24 (0, 0)) (by (with_reducible repeat (first | refine blk_drewN ?_ _ | refine blk_drew ?_ | refine blk_alloc ?_ _)); exact BK130.out) hb); have n3_ := Aside0.mk (blk_below (g := gb136) (o := .cells #[.int .i64 t131, .int .u32 t132, .bool true, .bool t134] 24 (0, 0)) (by (with_reducible repeat (first | refine blk_drewN ?_ _ | refine blk_drew ?_ | refine blk_alloc ?_ _)); exact BK136.out) hb); have n4_ := Aside0.mk (blk_below (g := gb137) (o := .cells #[.bool false, .bool a0_2, .bool a0_0, .bool a0_1] 44 (0, 0)) (by (with_reducible repeat (first | refine blk_drewN ?_ _ | refine blk_drew ?_ | refine blk_alloc ?_ _)); exact BK137.out) hb); have n5_ := Aside0.mk (below_step (by repeat (first | (with_reducible first | exact HB.out | apply below_alloc | apply pw_below_drewN | apply below_drew1 | refine below_set ?_ GE122.out | refine below_set ?_ GE123.out | refine below_set ?_ GE130.out | refine below_set ?_ GE136.out | refine below_set ?_ GE137.out) | exact HB.out)) hb); clear BK122; clear BK123; clear BK130; clear BK136; clear BK137; clear HB; have BK122 := n0_; have BK123 := n1_; have BK130 := n2_; have BK136 := n3_; have BK137 := n4_; have HB := n5_; clear n0_ n1_ n2_ n3_ n4_ n5_; (try clear hb); (try clear hb2); (try clear hk); (try clear hi)))
                go_ret
                exact ⟨by first | rfl | (simp [errW_none, errW_some] <;> rfl) | (simp [*, errW_none, errW_some] <;> rfl) | (simp [*, errW_none, errW_some] <;> exact isEmpty_ne _), by repeat (first | (with_reducible first | exact HB.out | apply below_alloc | apply pw_below_drewN | apply below_drew1 | refine below_set ?_ GE122.out | refine below_set ?_ GE123.out | refine below_set ?_ GE130.out | refine below_set ?_ GE136.out | refine below_set ?_ GE137.out) | exact HB.out)⟩
               ·
                replace c261 := Bool.eq_false_iff.mpr c261
                subst c261
                have H1 : (some false) = some r := by rw [if_neg (show ¬ (false = true) by decide)] at H; exact H
                clear H
                have H := H1
                clear H1
                obtain rfl := Option.some.inj H
                have hnb275 := NB130_122.out
                have hnc275 := NB122_130.out
                have hnb276 := NB130_123.out
                have hnc276 := NB123_130.out
                have hnb277 := NB130_136.out
                have hnc277 := NB136_130.out
                have hnb278 := NB130_137.out
                have hnc278 := NB137_130.out
                have hcz279_0 : wr.cell? ⟨gb130, 0, none⟩ = some (.int .i64 t125) := (blk_cell BK130.out 0).trans rfl
                have hcz279_1 : wr.cell? ⟨gb130, 1, none⟩ = some (.int .u32 t126) := (blk_cell BK130.out 1).trans rfl
                have hcz279_2 : wr.cell? ⟨gb130, 2, none⟩ = some (.bool true) := (blk_cell BK130.out 2).trans rfl
                have hcz279_3 : wr.cell? ⟨gb130, 3, none⟩ = some (.bool t128) := (blk_cell BK130.out 3).trans rfl
                have hfz279_0 := blk_frozen BK130.out 0
                have hfz279_1 := blk_frozen BK130.out 1
                have hfz279_2 := blk_frozen BK130.out 2
                have hfz279_3 := blk_frozen BK130.out 3
                have hnb280 := NB136_122.out
                have hnc280 := NB122_136.out
                have hnb281 := NB136_123.out
                have hnc281 := NB123_136.out
                have hnb282 := NB136_137.out
                have hnc282 := NB137_136.out
                have hcz283_0 : wr.cell? ⟨gb136, 0, none⟩ = some (.int .i64 t131) := (blk_cell BK136.out 0).trans rfl
                have hcz283_1 : wr.cell? ⟨gb136, 1, none⟩ = some (.int .u32 t132) := (blk_cell BK136.out 1).trans rfl
                have hcz283_2 : wr.cell? ⟨gb136, 2, none⟩ = some (.bool true) := (blk_cell BK136.out 2).trans rfl
                have hcz283_3 : wr.cell? ⟨gb136, 3, none⟩ = some (.bool t134) := (blk_cell BK136.out 3).trans rfl
                have hfz283_0 := blk_frozen BK136.out 0
                have hfz283_1 := blk_frozen BK136.out 1
                have hfz283_2 := blk_frozen BK136.out 2
                have hfz283_3 := blk_frozen BK136.out 3
                go_wp2_with (first | (go_at_call 10; (with_reducible refine (rights_Allows.calls k4 t125 t126 true t128 false true 2 false _ ?side1 ?side2 A260.out).mono ?_); (case side1 => exact ⟨G0.below hG0.out (by repeat (first | (with_reducible first | exact HB.out | apply below_alloc | apply pw_below_drewN | apply below_drew1 | refine below_set ?_ GE122.out | refine below_set ?_ GE123.out | refine below_set ?_ GE130.out | refine below_set ?_ GE136.out | refine below_set ?_ GE137.out) | exact HB.out))⟩); (case side2 => exact ⟨G1.below hG1.out (by repeat (first | (with_reducible first | exact HB.out | apply below_alloc | apply pw_below_drewN | apply below_drew1 | refine below_set ?_ GE122.out | refine below_set ?_ GE123.out | refine below_set ?_ GE130.out | refine below_set ?_ GE136.out | refine below_set ?_ GE137.out) | exact HB.out))⟩); rintro e w284 ⟨rfl, hb⟩; have n0_ := Aside0.mk (blk_below (g := gb122) (o := .cells #[.bool a0_0, .bool a0_1, .bool a0_2] 28 (0, 0)) (by (with_reducible repeat (first | refine blk_drewN ?_ _ | refine blk_drew ?_ | refine blk_alloc ?_ _)); exact BK122.out) hb); have n1_ := Aside0.mk (blk_below (g := gb123) (o := .cells #[.bool a1_0, .bool a1_1, .bool a1_2] 28 (0, 0)) (by (with_reducible repeat (first | refine blk_drewN ?_ _ | refine blk_drew ?_ | refine blk_alloc ?_ _)); exact BK123.out) hb); have n2_ := Aside0.mk (blk_below (g := gb130) (o := .cells #[.int .i64 t125, .int .u32 t126, .bool true, .bool t128] 24 (0, 0)) (by (with_reducible repeat (first | refine blk_drewN ?_ _ | refine blk_drew ?_ | refine blk_alloc ?_ _)); exact BK130.out) hb); have n3_ := Aside0.mk (blk_below (g := gb136) (o := .cells #[.int .i64 t131, .int .u32 t132, .bool true, .bool t134] 24 (0, 0)) (by (with_reducible repeat (first | refine blk_drewN ?_ _ | refine blk_drew ?_ | refine blk_alloc ?_ _)); exact BK136.out) hb); have n4_ := Aside0.mk (blk_below (g := gb137) (o := .cells #[.bool false, .bool a0_2, .bool a0_0, .bool a0_1] 44 (0, 0)) (by (with_reducible repeat (first | refine blk_drewN ?_ _ | refine blk_drew ?_ | refine blk_alloc ?_ _)); exact BK137.out) hb); have n5_ := Aside0.mk (below_step (by repeat (first | (with_reducible first | exact HB.out | apply below_alloc | apply pw_below_drewN | apply below_drew1 | refine below_set ?_ GE122.out | refine below_set ?_ GE123.out | refine below_set ?_ GE130.out | refine below_set ?_ GE136.out | refine below_set ?_ GE137.out) | exact HB.out)) hb); clear BK122; clear BK123; clear BK130; clear BK136; clear BK137; clear HB; have BK122 := n0_; have BK123 := n1_; have BK130 := n2_; have BK136 := n3_; have BK137 := n4_; have HB := n5_; clear n0_ n1_ n2_ n3_ n4_ n5_; (try clear hb); (try clear hb2); (try clear hk); (try clear hi)))
                go_ret
                exact ⟨by first | rfl | (simp [errW_none, errW_some] <;> rfl) | (simp [*, errW_none, errW_some] <;> rfl) | (simp [*, errW_none, errW_some] <;> exact isEmpty_ne _), by repeat (first | (with_reducible first | exact HB.out | apply below_alloc | apply pw_below_drewN | apply below_drew1 | refine below_set ?_ GE122.out | refine below_set ?_ GE123.out | refine below_set ?_ GE130.out | refine below_set ?_ GE136.out | refine below_set ?_ GE137.out) | exact HB.out)⟩
              ·
               replace c259 := Bool.eq_false_iff.mpr c259
               subst c259
               have H1 : (some false) = some r := by rw [if_neg (show ¬ (false = true) by decide)] at H; exact H
               clear H
               have H := H1
               clear H1
               obtain rfl := Option.some.inj H
               have hnb285 := NB130_122.out
               have hnc285 := NB122_130.out
               have hnb286 := NB130_123.out
               have hnc286 := NB123_130.out
               have hnb287 := NB130_136.out
               have hnc287 := NB136_130.out
               have hnb288 := NB130_137.out
               have hnc288 := NB137_130.out
               have hcz289_0 : wr.cell? ⟨gb130, 0, none⟩ = some (.int .i64 t125) := (blk_cell BK130.out 0).trans rfl
               have hcz289_1 : wr.cell? ⟨gb130, 1, none⟩ = some (.int .u32 t126) := (blk_cell BK130.out 1).trans rfl
               have hcz289_2 : wr.cell? ⟨gb130, 2, none⟩ = some (.bool true) := (blk_cell BK130.out 2).trans rfl
               have hcz289_3 : wr.cell? ⟨gb130, 3, none⟩ = some (.bool t128) := (blk_cell BK130.out 3).trans rfl
               have hfz289_0 := blk_frozen BK130.out 0
               have hfz289_1 := blk_frozen BK130.out 1
               have hfz289_2 := blk_frozen BK130.out 2
               have hfz289_3 := blk_frozen BK130.out 3
               have hnb290 := NB136_122.out
               have hnc290 := NB122_136.out
               have hnb291 := NB136_123.out
               have hnc291 := NB123_136.out
               have hnb292 := NB136_137.out
               have hnc292 := NB137_136.out
               have hcz293_0 : wr.cell? ⟨gb136, 0, none⟩ = some (.int .i64 t131) := (blk_cell BK136.out 0).trans rfl
               have hcz293_1 : wr.cell? ⟨gb136, 1, none⟩ = some (.int .u32 t132) := (blk_cell BK136.out 1).trans rfl
               have hcz293_2 : wr.cell? ⟨gb136, 2, none⟩ = some (.bool false) := (blk_cell BK136.out 2).trans rfl
               have hcz293_3 : wr.cell? ⟨gb136, 3, none⟩ = some (.bool t134) := (blk_cell BK136.out 3).trans rfl
               have hfz293_0 := blk_frozen BK136.out 0
               have hfz293_1 := blk_frozen BK136.out 1
               have hfz293_2 := blk_frozen BK136.out 2
               have hfz293_3 := blk_frozen BK136.out 3
               go_wp2
               go_ret
               exact ⟨by first | rfl | (simp [errW_none, errW_some] <;> rfl) | (simp [*, errW_none, errW_some] <;> rfl) | (simp [*, errW_none, errW_some] <;> exact isEmpty_ne _), by repeat (first | (with_reducible first | exact HB.out | apply below_alloc | apply pw_below_drewN | apply below_drew1 | refine below_set ?_ GE122.out | refine below_set ?_ GE123.out | refine below_set ?_ GE130.out | refine below_set ?_ GE136.out | refine below_set ?_ GE137.out) | exact HB.out)⟩
             ·
              replace c258 := Bool.eq_false_iff.mpr c258
              subst c258
              have H1 : (some false) = some r := by rw [if_neg (show ¬ (false = true) by decide)] at H; exact H
              clear H
              have H := H1
              clear H1
              obtain rfl := Option.some.inj H
              have hnb294 := NB130_122.out
              have hnc294 := NB122_130.out
              have hnb295 := NB130_123.out
              have hnc295 := NB123_130.out
              have hnb296 := NB130_136.out
              have hnc296 := NB136_130.out
              have hnb297 := NB130_137.out
              have hnc297 := NB137_130.out
              have hcz298_0 : wr.cell? ⟨gb130, 0, none⟩ = some (.int .i64 t125) := (blk_cell BK130.out 0).trans rfl
              have hcz298_1 : wr.cell? ⟨gb130, 1, none⟩ = some (.int .u32 t126) := (blk_cell BK130.out 1).trans rfl
              have hcz298_2 : wr.cell? ⟨gb130, 2, none⟩ = some (.bool false) := (blk_cell BK130.out 2).trans rfl
              have hcz298_3 : wr.cell? ⟨gb130, 3, none⟩ = some (.bool t128) := (blk_cell BK130.out 3).trans rfl
              have hfz298_0 := blk_frozen BK130.out 0
              have hfz298_1 := blk_frozen BK130.out 1
              have hfz298_2 := blk_frozen BK130.out 2
              have hfz298_3 := blk_frozen BK130.out 3
              go_wp2
              go_ret
              exact ⟨by first | rfl | (simp [errW_none, errW_some] <;> rfl) | (simp [*, errW_none, errW_some] <;> rfl) | (simp [*, errW_none, errW_some] <;> exact isEmpty_ne _), by repeat (first | (with_reducible first | exact HB.out | apply below_alloc | apply pw_below_drewN | apply below_drew1 | refine below_set ?_ GE122.out | refine below_set ?_ GE123.out | refine below_set ?_ GE130.out | refine below_set ?_ GE136.out | refine below_set ?_ GE137.out) | exact HB.out)⟩
 ·
  replace c4 := Bool.eq_false_iff.mpr c4
  subst c4
  have H1 : (some false) = some r := by rw [if_neg (show ¬ (false = true) by decide)] at H; exact H
  clear H
  have H := H1
  clear H1
  obtain rfl := Option.some.inj H
  go_enter Tryd.func6, Tryd.ntmps6
  go_wp2_with (first | ((with_reducible refine gate_dst (N := 2) rfl ?_); refine box_event ?hg (N := 2) ?hd (cs := #[.bool a0_0, .bool a0_1, .bool a0_2]) (t := 28) ?hr ?_; (case hd => rfl); (case hg => rfl); (case hr => first | (go_simp; done) | (go_simp; rfl)); intro gb122 hg w299 hbox hb; have n0_ := Aside0.mk (below_step (by repeat (first | (with_reducible first | exact HB.out | apply below_alloc | apply pw_below_drewN | apply below_drew1) | exact HB.out)) hb); have n1_ := Aside0.mk (hbox); have n2_ := Aside0.mk ((by rw [hg]; exact (below_size (by repeat (first | (with_reducible first | exact HB.out | apply below_alloc | apply pw_below_drewN | apply below_drew1) | exact HB.out))) : w.heap.size ≤ gb122)); have n3_ := Aside0.mk ((by rw [hg]; exact (below_size (by repeat (first | (with_reducible first | exact HB.out | apply below_alloc | apply pw_below_drewN | apply below_drew1) | exact HB.out))) : w.heap.size ≤ gb122)); clear HB; have HB := n0_; have BK122 := n1_; have GW122 := n2_; have GE122 := n3_; clear n0_ n1_ n2_ n3_; clear hb hbox hg) | ((with_reducible refine gate_dst (N := 3) rfl ?_); refine box_event ?hg (N := 3) ?hd (cs := #[.bool a1_0, .bool a1_1, .bool a1_2]) (t := 28) ?hr ?_; (case hd => rfl); (case hg => rfl); (case hr => first | (go_simp; done) | (go_simp; rfl)); intro gb123 hg w300 hbox hb; have n0_ := Aside0.mk (blk_below (g := gb122) (o := .cells #[.bool a0_0, .bool a0_1, .bool a0_2] 28 (0, 0)) (by (with_reducible repeat (first | refine blk_drewN ?_ _ | refine blk_drew ?_ | refine blk_alloc ?_ _)); exact BK122.out) hb); have n1_ := Aside0.mk (below_step (by repeat (first | (with_reducible first | exact HB.out | apply below_alloc | apply pw_below_drewN | apply below_drew1 | refine below_set ?_ GE122.out) | exact HB.out)) hb); have n2_ := Aside0.mk (hbox); have n3_ := Aside0.mk ((by rw [hg]; exact (below_size (by repeat (first | (with_reducible first | exact HB.out | apply below_alloc | apply pw_below_drewN | apply below_drew1 | refine below_set ?_ GE122.out) | exact HB.out))) : w.heap.size ≤ gb123)); have n4_ := Aside0.mk ((by rw [hg]; exact (below_size (by repeat (first | (with_reducible first | exact HB.out | apply below_alloc | apply pw_below_drewN | apply below_drew1 | refine below_set ?_ GE122.out) | exact HB.out))) : w.heap.size ≤ gb123)); have n5_ := Aside0.mk ((by rw [hg]; exact Nat.ne_of_lt (blk_lt (g := gb122) (o := .cells #[.bool a0_0, .bool a0_1, .bool a0_2] 28 (0, 0)) (by (with_reducible repeat (first | refine blk_drewN ?_ _ | refine blk_drew ?_ | refine blk_alloc ?_ _)); exact BK122.out)) : gb122 ≠ gb123)); have n6_ := Aside0.mk ((by rw [hg]; exact Nat.ne_of_gt (blk_lt (g := gb122) (o := .cells #[.bool a0_0, .bool a0_1, .bool a0_2] 28 (0, 0)) (by (with_reducible repeat (first | refine blk_drewN ?_ _ | refine blk_drew ?_ | refine blk_alloc ?_ _)); exact BK122.out)) : gb123 ≠ gb122)); clear BK122; clear HB; have BK122 := n0_; have HB := n1_; have BK123 := n2_; have GW123 := n3_; have GE123 := n4_; have NB122_123 := n5_; have NB123_122 := n6_; clear n0_ n1_ n2_ n3_ n4_ n5_ n6_; clear hb hbox hg) | ((with_reducible refine gate_callee (f := 18) rfl ?_); refine goesL_ (some 14) rfl rfl Tryd.func18 (by kernel_rfl) rfl #[] rfl (by (try simp only [List.map_toArray, List.map_cons, List.map_nil]); first | done | rfl | (simp only [List.length_drop, List.length_take]; rfl)) ?_; (with_reducible refine (atlaslaw07_alive.calls k  false _ ?side1 ?side2 A3.out).mono ?_); (case side1 => exact ⟨G0.below hG0.out (by repeat (first | (with_reducible first | exact HB.out | apply below_alloc | apply pw_below_drewN | apply below_drew1 | refine below_set ?_ GE122.out | refine below_set ?_ GE123.out) | exact HB.out))⟩); (case side2 => exact ⟨G1.below hG1.out (by repeat (first | (with_reducible first | exact HB.out | apply below_alloc | apply pw_below_drewN | apply below_drew1 | refine below_set ?_ GE122.out | refine below_set ?_ GE123.out) | exact HB.out))⟩); rintro e w301 ⟨rfl, hb⟩; refine ⟨_, rfl, ?_⟩; have n0_ := Aside0.mk (blk_below (g := gb122) (o := .cells #[.bool a0_0, .bool a0_1, .bool a0_2] 28 (0, 0)) (by (with_reducible repeat (first | refine blk_drewN ?_ _ | refine blk_drew ?_ | refine blk_alloc ?_ _)); exact BK122.out) hb); have n1_ := Aside0.mk (blk_below (g := gb123) (o := .cells #[.bool a1_0, .bool a1_1, .bool a1_2] 28 (0, 0)) (by (with_reducible repeat (first | refine blk_drewN ?_ _ | refine blk_drew ?_ | refine blk_alloc ?_ _)); exact BK123.out) hb); have n2_ := Aside0.mk (below_step (by repeat (first | (with_reducible first | exact HB.out | apply below_alloc | apply pw_below_drewN | apply below_drew1 | refine below_set ?_ GE122.out | refine below_set ?_ GE123.out) | exact HB.out)) hb); clear BK122; clear BK123; clear HB; have BK122 := n0_; have BK123 := n1_; have HB := n2_; clear n0_ n1_ n2_; (try clear hb); (try clear hb2); (try clear hk); (try clear hi)))
  go_ret
  exact ⟨by first | rfl | (simp [errW_none, errW_some] <;> rfl) | (simp [*, errW_none, errW_some] <;> rfl) | (simp [*, errW_none, errW_some] <;> exact isEmpty_ne _), by repeat (first | (with_reducible first | exact HB.out | apply below_alloc | apply pw_below_drewN | apply below_drew1 | refine below_set ?_ GE122.out | refine below_set ?_ GE123.out) | exact HB.out)⟩

end Go.Proofs.YtglafffghbhnbaaDoor.S
