-- Written by a program of this session (wip/xprint.py), over the kit's print. Not trusted: Lean checks it.
import Derived.Test.YtglafffghbhnbaaDoorS0
import Derived.Test.YtglafffghbhnbaaDoorS4
import Derived.Test.YtglafffghbhnbaaDoorS13
import Derived.Test.YtglafffghbhnbaaDoorS17
namespace Go.Proofs.YtglafffghbhnbaaDoor.S
open Go.Proofs.YtglafffghbhnbaaDoorG
open Go.RowKit Go.Proofs.YtglafffghbhnbaaDoorW.PrintWords Go.Proofs.YtglafffghbhnbaaDoorW.PrintLast Go.Proofs.YtglafffghbhnbaaDoorW.PrintMore
attribute [local go_sem] max2_int min2_int max_two min_two max_three min_three max_four min_four   -- for this text's walks alone
set_option linter.unusedVariables false
set_option linter.unusedSimpArgs false

/-! ### atlaslaw07_RightsPriv: function 8 -/
mutual
def atlaslaw07_RightsPriv.j0 : Nat → Int → Int → Bool → Int → Int → Bool → Bool → Option (Bool)
 | 0, _, _, _, _, _, _, _ => none
 | k + 1, x1, x2, x3, x267000, x267001, x267002, x267003 => atlaslaw07_RightsPriv.l0 k x2 x3 0 x267000 x267001 x267002 x267003 x1 0 0 x2 x267000 x267001 x267002 x267003
def atlaslaw07_RightsPriv.l0 : Nat → Int → Bool → Int → Int → Int → Bool → Bool → Int → Int → Int → Int → Int → Int → Bool → Bool → Option (Bool)
 | 0, _, _, _, _, _, _, _, _, _, _, _, _, _, _, _ => none
 | k + 1, x2, x3, x10, x267000, x267001, x267002, x267003, x269000, x269001, x269002, x269003, x269004, x269005, x269006, x269007 => if x10 < 4 then (if 0 ≤ (wrap64 (2 * x2)) then (atlaslaw07_RightsPriv.l1 k x2 x3 x10 1 x267000 x267001 x267002 x267003 x269000 x269001 x269002 x269003 x269004 x269005 x269006 x269007 true false x3 0 false false 0 0 (shl .u32 x10 (wrap64 (2 * x2))) 0 0 0) else (none)) else (some true)
def atlaslaw07_RightsPriv.l1 : Nat → Int → Bool → Int → Int → Int → Int → Bool → Bool → Int → Int → Int → Int → Int → Int → Bool → Bool → Bool → Bool → Bool → Int → Bool → Bool → Int → Int → Int → Int → Int → Int → Option (Bool)
 | 0, _, _, _, _, _, _, _, _, _, _, _, _, _, _, _, _, _, _, _, _, _, _, _, _, _, _, _, _ => none
 | k + 1, x2, x3, x10, x12, x267000, x267001, x267002, x267003, x269000, x269001, x269002, x269003, x269004, x269005, x269006, x269007, x270000, x270001, x270002, x270003, x270004, x270005, x270006, x270007, x270008, x270009, x270010, x270011 => if x12 ≤ 3 then ((rights_Check.f k x269000 x269001 x269002 x269003 x269004 x269005 x269006 x269007 x270000 x270001 x270002 x270003 x270004 x270005 x270006 x270007 x270008 x270009 x270010 x270011 false x12).bind fun bt270 => ((rights_Check.f k x269000 x269001 x269002 x269003 x269004 x269005 x269006 x269007 x270000 x270001 x270002 x270003 x270004 x270005 x270006 x270007 x270008 x270009 x270010 x270011 true x12).bind fun bt274 => (if x3 = true then (atlaslaw07_RightsPriv.j3 k x2 x3 x10 x12 ((Go.bits .and .i64 x267000 1) == 0) x267000 x267001 x267002 x267003 x269000 x269001 x269002 x269003 x269004 x269005 x269006 x269007 x270000 x270001 x270002 x270003 x270004 x270005 x270006 x270007 x270008 x270009 x270010 x270011 bt270.1 bt270.2.1 bt270.2.2 bt274.1 bt274.2.1 bt274.2.2) else (atlaslaw07_RightsPriv.j3 k x2 x3 x10 x12 false x267000 x267001 x267002 x267003 x269000 x269001 x269002 x269003 x269004 x269005 x269006 x269007 x270000 x270001 x270002 x270003 x270004 x270005 x270006 x270007 x270008 x270009 x270010 x270011 bt270.1 bt270.2.1 bt270.2.2 bt274.1 bt274.2.1 bt274.2.2)))) else (atlaslaw07_RightsPriv.l0 k x2 x3 ((x10 + 1) % 4294967296) x267000 x267001 x267002 x267003 x269000 x269001 x269002 x269003 x269004 x269005 x269006 x269007)
def atlaslaw07_RightsPriv.j3 : Nat → Int → Bool → Int → Int → Bool → Int → Int → Bool → Bool → Int → Int → Int → Int → Int → Int → Bool → Bool → Bool → Bool → Bool → Int → Bool → Bool → Int → Int → Int → Int → Int → Int → Int → Int → Int → Int → Int → Int → Option (Bool)
 | 0, _, _, _, _, _, _, _, _, _, _, _, _, _, _, _, _, _, _, _, _, _, _, _, _, _, _, _, _, _, _, _, _, _, _, _ => none
 | k + 1, x2, x3, x10, x12, x15, x267000, x267001, x267002, x267003, x269000, x269001, x269002, x269003, x269004, x269005, x269006, x269007, x270000, x270001, x270002, x270003, x270004, x270005, x270006, x270007, x270008, x270009, x270010, x270011, x274000, x274001, x274002, x278000, x278001, x278002 => if x274000 = 0 then (if x278000 = 0 then (if (x15 != (x274000 == 7)) = true then (atlaslaw07_RightsPriv.j4 k x2 x3 x10 x12 x15 true x267000 x267001 x267002 x267003 x269000 x269001 x269002 x269003 x269004 x269005 x269006 x269007 x270000 x270001 x270002 x270003 x270004 x270005 x270006 x270007 x270008 x270009 x270010 x270011 x274000 x274001 x274002 x278000 x278001 x278002) else (atlaslaw07_RightsPriv.j4 k x2 x3 x10 x12 x15 (x15 != (x278000 == 7)) x267000 x267001 x267002 x267003 x269000 x269001 x269002 x269003 x269004 x269005 x269006 x269007 x270000 x270001 x270002 x270003 x270004 x270005 x270006 x270007 x270008 x270009 x270010 x270011 x274000 x274001 x274002 x278000 x278001 x278002)) else (atlaslaw07_RightsPriv.j4 k x2 x3 x10 x12 x15 true x267000 x267001 x267002 x267003 x269000 x269001 x269002 x269003 x269004 x269005 x269006 x269007 x270000 x270001 x270002 x270003 x270004 x270005 x270006 x270007 x270008 x270009 x270010 x270011 x274000 x274001 x274002 x278000 x278001 x278002)) else (if (x15 != (x274000 == 7)) = true then (atlaslaw07_RightsPriv.j4 k x2 x3 x10 x12 x15 true x267000 x267001 x267002 x267003 x269000 x269001 x269002 x269003 x269004 x269005 x269006 x269007 x270000 x270001 x270002 x270003 x270004 x270005 x270006 x270007 x270008 x270009 x270010 x270011 x274000 x274001 x274002 x278000 x278001 x278002) else (atlaslaw07_RightsPriv.j4 k x2 x3 x10 x12 x15 (x15 != (x278000 == 7)) x267000 x267001 x267002 x267003 x269000 x269001 x269002 x269003 x269004 x269005 x269006 x269007 x270000 x270001 x270002 x270003 x270004 x270005 x270006 x270007 x270008 x270009 x270010 x270011 x274000 x274001 x274002 x278000 x278001 x278002))
def atlaslaw07_RightsPriv.j4 : Nat → Int → Bool → Int → Int → Bool → Bool → Int → Int → Bool → Bool → Int → Int → Int → Int → Int → Int → Bool → Bool → Bool → Bool → Bool → Int → Bool → Bool → Int → Int → Int → Int → Int → Int → Int → Int → Int → Int → Int → Int → Option (Bool)
 | 0, _, _, _, _, _, _, _, _, _, _, _, _, _, _, _, _, _, _, _, _, _, _, _, _, _, _, _, _, _, _, _, _, _, _, _, _ => none
 | k + 1, x2, x3, x10, x12, x15, x88, x267000, x267001, x267002, x267003, x269000, x269001, x269002, x269003, x269004, x269005, x269006, x269007, x270000, x270001, x270002, x270003, x270004, x270005, x270006, x270007, x270008, x270009, x270010, x270011, x274000, x274001, x274002, x278000, x278001, x278002 => if x88 = true then (some false) else (if x15 = true then (atlaslaw07_RightsPriv.l1 k x2 x3 x10 (wrap64 (x12 + 1)) x267000 x267001 x267002 x267003 x269000 x269001 x269002 x269003 x269004 x269005 x269006 x269007 x270000 x270001 x270002 x270003 x270004 x270005 x270006 x270007 x270008 x270009 x270010 x270011) else (if x10 = 0 then (atlaslaw07_RightsPriv.j5 k x2 x3 x10 x12 true x267000 x267001 x267002 x267003 x269000 x269001 x269002 x269003 x269004 x269005 x269006 x269007 x270000 x270001 x270002 x270003 x270004 x270005 x270006 x270007 x270008 x270009 x270010 x270011 x274000 x274001 x274002 x278000 x278001 x278002) else (atlaslaw07_RightsPriv.j5 k x2 x3 x10 x12 (x10 == 2) x267000 x267001 x267002 x267003 x269000 x269001 x269002 x269003 x269004 x269005 x269006 x269007 x270000 x270001 x270002 x270003 x270004 x270005 x270006 x270007 x270008 x270009 x270010 x270011 x274000 x274001 x274002 x278000 x278001 x278002)))
def atlaslaw07_RightsPriv.j5 : Nat → Int → Bool → Int → Int → Bool → Int → Int → Bool → Bool → Int → Int → Int → Int → Int → Int → Bool → Bool → Bool → Bool → Bool → Int → Bool → Bool → Int → Int → Int → Int → Int → Int → Int → Int → Int → Int → Int → Int → Option (Bool)
 | 0, _, _, _, _, _, _, _, _, _, _, _, _, _, _, _, _, _, _, _, _, _, _, _, _, _, _, _, _, _, _, _, _, _, _, _ => none
 | k + 1, x2, x3, x10, x12, x16, x267000, x267001, x267002, x267003, x269000, x269001, x269002, x269003, x269004, x269005, x269006, x269007, x270000, x270001, x270002, x270003, x270004, x270005, x270006, x270007, x270008, x270009, x270010, x270011, x274000, x274001, x274002, x278000, x278001, x278002 => if (x16 != (x274000 == 8)) = true then (atlaslaw07_RightsPriv.j6 k x2 x3 x10 x12 true x267000 x267001 x267002 x267003 x269000 x269001 x269002 x269003 x269004 x269005 x269006 x269007 x270000 x270001 x270002 x270003 x270004 x270005 x270006 x270007 x270008 x270009 x270010 x270011 x274000 x274001 x274002 x278000 x278001 x278002) else (if (x16 != (x278000 == 8)) = true then (atlaslaw07_RightsPriv.j6 k x2 x3 x10 x12 true x267000 x267001 x267002 x267003 x269000 x269001 x269002 x269003 x269004 x269005 x269006 x269007 x270000 x270001 x270002 x270003 x270004 x270005 x270006 x270007 x270008 x270009 x270010 x270011 x274000 x274001 x274002 x278000 x278001 x278002) else (if x10 = 3 then (if x274000 = 0 then (atlaslaw07_RightsPriv.j6 k x2 x3 x10 x12 (x278000 != 0) x267000 x267001 x267002 x267003 x269000 x269001 x269002 x269003 x269004 x269005 x269006 x269007 x270000 x270001 x270002 x270003 x270004 x270005 x270006 x270007 x270008 x270009 x270010 x270011 x274000 x274001 x274002 x278000 x278001 x278002) else (atlaslaw07_RightsPriv.j6 k x2 x3 x10 x12 true x267000 x267001 x267002 x267003 x269000 x269001 x269002 x269003 x269004 x269005 x269006 x269007 x270000 x270001 x270002 x270003 x270004 x270005 x270006 x270007 x270008 x270009 x270010 x270011 x274000 x274001 x274002 x278000 x278001 x278002)) else (atlaslaw07_RightsPriv.j6 k x2 x3 x10 x12 false x267000 x267001 x267002 x267003 x269000 x269001 x269002 x269003 x269004 x269005 x269006 x269007 x270000 x270001 x270002 x270003 x270004 x270005 x270006 x270007 x270008 x270009 x270010 x270011 x274000 x274001 x274002 x278000 x278001 x278002)))
def atlaslaw07_RightsPriv.j6 : Nat → Int → Bool → Int → Int → Bool → Int → Int → Bool → Bool → Int → Int → Int → Int → Int → Int → Bool → Bool → Bool → Bool → Bool → Int → Bool → Bool → Int → Int → Int → Int → Int → Int → Int → Int → Int → Int → Int → Int → Option (Bool)
 | 0, _, _, _, _, _, _, _, _, _, _, _, _, _, _, _, _, _, _, _, _, _, _, _, _, _, _, _, _, _, _, _, _, _, _, _ => none
 | k + 1, x2, x3, x10, x12, x121, x267000, x267001, x267002, x267003, x269000, x269001, x269002, x269003, x269004, x269005, x269006, x269007, x270000, x270001, x270002, x270003, x270004, x270005, x270006, x270007, x270008, x270009, x270010, x270011, x274000, x274001, x274002, x278000, x278001, x278002 => if x121 = true then (some false) else (if x10 = 1 then ((rights_Allows.f k x267000 x267001 x267002 x267003 x3 false x12).bind fun t278 => (if ((x274000 == 0) != t278) = true then (atlaslaw07_RightsPriv.j7 k x2 x3 x10 x12 true x267000 x267001 x267002 x267003 x269000 x269001 x269002 x269003 x269004 x269005 x269006 x269007 x270000 x270001 x270002 x270003 x270004 x270005 x270006 x270007 x270008 x270009 x270010 x270011) else ((rights_Allows.f k x267000 x267001 x267002 x267003 x3 true x12).bind fun t279 => (atlaslaw07_RightsPriv.j7 k x2 x3 x10 x12 ((x278000 == 0) != t279) x267000 x267001 x267002 x267003 x269000 x269001 x269002 x269003 x269004 x269005 x269006 x269007 x270000 x270001 x270002 x270003 x270004 x270005 x270006 x270007 x270008 x270009 x270010 x270011)))) else (atlaslaw07_RightsPriv.j7 k x2 x3 x10 x12 false x267000 x267001 x267002 x267003 x269000 x269001 x269002 x269003 x269004 x269005 x269006 x269007 x270000 x270001 x270002 x270003 x270004 x270005 x270006 x270007 x270008 x270009 x270010 x270011))
def atlaslaw07_RightsPriv.j7 : Nat → Int → Bool → Int → Int → Bool → Int → Int → Bool → Bool → Int → Int → Int → Int → Int → Int → Bool → Bool → Bool → Bool → Bool → Int → Bool → Bool → Int → Int → Int → Int → Int → Int → Option (Bool)
 | 0, _, _, _, _, _, _, _, _, _, _, _, _, _, _, _, _, _, _, _, _, _, _, _, _, _, _, _, _, _ => none
 | k + 1, x2, x3, x10, x12, x143, x267000, x267001, x267002, x267003, x269000, x269001, x269002, x269003, x269004, x269005, x269006, x269007, x270000, x270001, x270002, x270003, x270004, x270005, x270006, x270007, x270008, x270009, x270010, x270011 => if x143 = true then (some false) else (atlaslaw07_RightsPriv.l1 k x2 x3 x10 (wrap64 (x12 + 1)) x267000 x267001 x267002 x267003 x269000 x269001 x269002 x269003 x269004 x269005 x269006 x269007 x270000 x270001 x270002 x270003 x270004 x270005 x270006 x270007 x270008 x270009 x270010 x270011)
end
def atlaslaw07_RightsPriv.f (k : Nat) (a0_0 : Int) (a0_1 : Int) (a0_2 : Bool) (a0_3 : Bool) (a1 : Int) (a2 : Int) (a3 : Bool) : Option (Bool) := (atlaslaw07_alive.f k).bind fun t267 => (if t267 = true then (if (wrap64 (1 + (Go.bits .and .i64 a1 3))) = 4 then (atlaslaw07_RightsPriv.j0 k (wrap64 (1 + (Go.bits .and .i64 a1 3))) 0 a3 (Go.bits .and .i64 a0_0 7) (Go.bits .and .u32 a0_1 63) a0_2 a0_3) else (atlaslaw07_RightsPriv.j0 k (wrap64 (1 + (Go.bits .and .i64 a1 3))) (Go.bits .and .i64 a2 15) a3 (Go.bits .and .i64 a0_0 7) (Go.bits .and .u32 a0_1 63) a0_2 a0_3)) else (some false))
theorem atlaslaw07_RightsPriv.mono_l : ∀ k, (∀ y0 y1 y2 y3 y4 y5 y6, LeO (atlaslaw07_RightsPriv.j0 k y0 y1 y2 y3 y4 y5 y6) (atlaslaw07_RightsPriv.j0 (k + 1) y0 y1 y2 y3 y4 y5 y6)) ∧ (∀ y0 y1 y2 y3 y4 y5 y6 y7 y8 y9 y10 y11 y12 y13 y14, LeO (atlaslaw07_RightsPriv.l0 k y0 y1 y2 y3 y4 y5 y6 y7 y8 y9 y10 y11 y12 y13 y14) (atlaslaw07_RightsPriv.l0 (k + 1) y0 y1 y2 y3 y4 y5 y6 y7 y8 y9 y10 y11 y12 y13 y14)) ∧ (∀ y0 y1 y2 y3 y4 y5 y6 y7 y8 y9 y10 y11 y12 y13 y14 y15 y16 y17 y18 y19 y20 y21 y22 y23 y24 y25 y26 y27, LeO (atlaslaw07_RightsPriv.l1 k y0 y1 y2 y3 y4 y5 y6 y7 y8 y9 y10 y11 y12 y13 y14 y15 y16 y17 y18 y19 y20 y21 y22 y23 y24 y25 y26 y27) (atlaslaw07_RightsPriv.l1 (k + 1) y0 y1 y2 y3 y4 y5 y6 y7 y8 y9 y10 y11 y12 y13 y14 y15 y16 y17 y18 y19 y20 y21 y22 y23 y24 y25 y26 y27)) ∧ (∀ y0 y1 y2 y3 y4 y5 y6 y7 y8 y9 y10 y11 y12 y13 y14 y15 y16 y17 y18 y19 y20 y21 y22 y23 y24 y25 y26 y27 y28 y29 y30 y31 y32 y33 y34, LeO (atlaslaw07_RightsPriv.j3 k y0 y1 y2 y3 y4 y5 y6 y7 y8 y9 y10 y11 y12 y13 y14 y15 y16 y17 y18 y19 y20 y21 y22 y23 y24 y25 y26 y27 y28 y29 y30 y31 y32 y33 y34) (atlaslaw07_RightsPriv.j3 (k + 1) y0 y1 y2 y3 y4 y5 y6 y7 y8 y9 y10 y11 y12 y13 y14 y15 y16 y17 y18 y19 y20 y21 y22 y23 y24 y25 y26 y27 y28 y29 y30 y31 y32 y33 y34)) ∧ (∀ y0 y1 y2 y3 y4 y5 y6 y7 y8 y9 y10 y11 y12 y13 y14 y15 y16 y17 y18 y19 y20 y21 y22 y23 y24 y25 y26 y27 y28 y29 y30 y31 y32 y33 y34 y35, LeO (atlaslaw07_RightsPriv.j4 k y0 y1 y2 y3 y4 y5 y6 y7 y8 y9 y10 y11 y12 y13 y14 y15 y16 y17 y18 y19 y20 y21 y22 y23 y24 y25 y26 y27 y28 y29 y30 y31 y32 y33 y34 y35) (atlaslaw07_RightsPriv.j4 (k + 1) y0 y1 y2 y3 y4 y5 y6 y7 y8 y9 y10 y11 y12 y13 y14 y15 y16 y17 y18 y19 y20 y21 y22 y23 y24 y25 y26 y27 y28 y29 y30 y31 y32 y33 y34 y35)) ∧ (∀ y0 y1 y2 y3 y4 y5 y6 y7 y8 y9 y10 y11 y12 y13 y14 y15 y16 y17 y18 y19 y20 y21 y22 y23 y24 y25 y26 y27 y28 y29 y30 y31 y32 y33 y34, LeO (atlaslaw07_RightsPriv.j5 k y0 y1 y2 y3 y4 y5 y6 y7 y8 y9 y10 y11 y12 y13 y14 y15 y16 y17 y18 y19 y20 y21 y22 y23 y24 y25 y26 y27 y28 y29 y30 y31 y32 y33 y34) (atlaslaw07_RightsPriv.j5 (k + 1) y0 y1 y2 y3 y4 y5 y6 y7 y8 y9 y10 y11 y12 y13 y14 y15 y16 y17 y18 y19 y20 y21 y22 y23 y24 y25 y26 y27 y28 y29 y30 y31 y32 y33 y34)) ∧ (∀ y0 y1 y2 y3 y4 y5 y6 y7 y8 y9 y10 y11 y12 y13 y14 y15 y16 y17 y18 y19 y20 y21 y22 y23 y24 y25 y26 y27 y28 y29 y30 y31 y32 y33 y34, LeO (atlaslaw07_RightsPriv.j6 k y0 y1 y2 y3 y4 y5 y6 y7 y8 y9 y10 y11 y12 y13 y14 y15 y16 y17 y18 y19 y20 y21 y22 y23 y24 y25 y26 y27 y28 y29 y30 y31 y32 y33 y34) (atlaslaw07_RightsPriv.j6 (k + 1) y0 y1 y2 y3 y4 y5 y6 y7 y8 y9 y10 y11 y12 y13 y14 y15 y16 y17 y18 y19 y20 y21 y22 y23 y24 y25 y26 y27 y28 y29 y30 y31 y32 y33 y34)) ∧ (∀ y0 y1 y2 y3 y4 y5 y6 y7 y8 y9 y10 y11 y12 y13 y14 y15 y16 y17 y18 y19 y20 y21 y22 y23 y24 y25 y26 y27 y28, LeO (atlaslaw07_RightsPriv.j7 k y0 y1 y2 y3 y4 y5 y6 y7 y8 y9 y10 y11 y12 y13 y14 y15 y16 y17 y18 y19 y20 y21 y22 y23 y24 y25 y26 y27 y28) (atlaslaw07_RightsPriv.j7 (k + 1) y0 y1 y2 y3 y4 y5 y6 y7 y8 y9 y10 y11 y12 y13 y14 y15 y16 y17 y18 y19 y20 y21 y22 y23 y24 y25 y26 y27 y28))
 | 0 => ⟨fun _ _ _ _ _ _ _ r h => by simp [atlaslaw07_RightsPriv.j0] at h, fun _ _ _ _ _ _ _ _ _ _ _ _ _ _ _ r h => by simp [atlaslaw07_RightsPriv.l0] at h, fun _ _ _ _ _ _ _ _ _ _ _ _ _ _ _ _ _ _ _ _ _ _ _ _ _ _ _ _ r h => by simp [atlaslaw07_RightsPriv.l1] at h, fun _ _ _ _ _ _ _ _ _ _ _ _ _ _ _ _ _ _ _ _ _ _ _ _ _ _ _ _ _ _ _ _ _ _ _ r h => by simp [atlaslaw07_RightsPriv.j3] at h, fun _ _ _ _ _ _ _ _ _ _ _ _ _ _ _ _ _ _ _ _ _ _ _ _ _ _ _ _ _ _ _ _ _ _ _ _ r h => by simp [atlaslaw07_RightsPriv.j4] at h, fun _ _ _ _ _ _ _ _ _ _ _ _ _ _ _ _ _ _ _ _ _ _ _ _ _ _ _ _ _ _ _ _ _ _ _ r h => by simp [atlaslaw07_RightsPriv.j5] at h, fun _ _ _ _ _ _ _ _ _ _ _ _ _ _ _ _ _ _ _ _ _ _ _ _ _ _ _ _ _ _ _ _ _ _ _ r h => by simp [atlaslaw07_RightsPriv.j6] at h, fun _ _ _ _ _ _ _ _ _ _ _ _ _ _ _ _ _ _ _ _ _ _ _ _ _ _ _ _ _ r h => by simp [atlaslaw07_RightsPriv.j7] at h⟩
 | k + 1 => by
  obtain ⟨ih0, ih1, ih2, ih3, ih4, ih5, ih6, ih7⟩ := atlaslaw07_RightsPriv.mono_l k
  refine ⟨?_, ?_, ?_, ?_, ?_, ?_, ?_, ?_⟩
  ·
   intro y0 y1 y2 y3 y4 y5 y6
   unfold atlaslaw07_RightsPriv.j0
   repeat' first
   | (with_reducible exact ih0 _ _ _ _ _ _ _)
   | (with_reducible exact ih1 _ _ _ _ _ _ _ _ _ _ _ _ _ _ _)
   | (with_reducible exact ih2 _ _ _ _ _ _ _ _ _ _ _ _ _ _ _ _ _ _ _ _ _ _ _ _ _ _ _ _)
   | (with_reducible exact ih3 _ _ _ _ _ _ _ _ _ _ _ _ _ _ _ _ _ _ _ _ _ _ _ _ _ _ _ _ _ _ _ _ _ _ _)
   | (with_reducible exact ih4 _ _ _ _ _ _ _ _ _ _ _ _ _ _ _ _ _ _ _ _ _ _ _ _ _ _ _ _ _ _ _ _ _ _ _ _)
   | (with_reducible exact ih5 _ _ _ _ _ _ _ _ _ _ _ _ _ _ _ _ _ _ _ _ _ _ _ _ _ _ _ _ _ _ _ _ _ _ _)
   | (with_reducible exact ih6 _ _ _ _ _ _ _ _ _ _ _ _ _ _ _ _ _ _ _ _ _ _ _ _ _ _ _ _ _ _ _ _ _ _ _)
   | (with_reducible exact ih7 _ _ _ _ _ _ _ _ _ _ _ _ _ _ _ _ _ _ _ _ _ _ _ _ _ _ _ _ _)
   | (with_reducible exact atlaslaw07_alive.mono _)
   | (with_reducible exact rights_Allows.mono _ _ _ _ _ _ _ _)
   | (with_reducible exact rights_Check.mono _ _ _ _ _ _ _ _ _ _ _ _ _ _ _ _ _ _ _ _ _ _ _)
   | (with_reducible exact LeO.refl _)
   | (with_reducible exact LeO.none _)
   | (with_reducible refine LeO.ite ?_ ?_)
   | (with_reducible refine LeO.bind ?_ (fun _ => ?_))
   | exact ih0 _ _ _ _ _ _ _
   | exact ih1 _ _ _ _ _ _ _ _ _ _ _ _ _ _ _
   | exact ih2 _ _ _ _ _ _ _ _ _ _ _ _ _ _ _ _ _ _ _ _ _ _ _ _ _ _ _ _
   | exact ih3 _ _ _ _ _ _ _ _ _ _ _ _ _ _ _ _ _ _ _ _ _ _ _ _ _ _ _ _ _ _ _ _ _ _ _
   | exact ih4 _ _ _ _ _ _ _ _ _ _ _ _ _ _ _ _ _ _ _ _ _ _ _ _ _ _ _ _ _ _ _ _ _ _ _ _
   | exact ih5 _ _ _ _ _ _ _ _ _ _ _ _ _ _ _ _ _ _ _ _ _ _ _ _ _ _ _ _ _ _ _ _ _ _ _
   | exact ih6 _ _ _ _ _ _ _ _ _ _ _ _ _ _ _ _ _ _ _ _ _ _ _ _ _ _ _ _ _ _ _ _ _ _ _
   | exact ih7 _ _ _ _ _ _ _ _ _ _ _ _ _ _ _ _ _ _ _ _ _ _ _ _ _ _ _ _ _
   | exact atlaslaw07_alive.mono _
   | exact rights_Allows.mono _ _ _ _ _ _ _ _
   | exact rights_Check.mono _ _ _ _ _ _ _ _ _ _ _ _ _ _ _ _ _ _ _ _ _ _ _
   | exact LeO.none _
   | refine LeO.ite ?_ ?_
   | refine LeO.bind ?_ (fun _ => ?_)
  ·
   intro y0 y1 y2 y3 y4 y5 y6 y7 y8 y9 y10 y11 y12 y13 y14
   unfold atlaslaw07_RightsPriv.l0
   repeat' first
   | (with_reducible exact ih0 _ _ _ _ _ _ _)
   | (with_reducible exact ih1 _ _ _ _ _ _ _ _ _ _ _ _ _ _ _)
   | (with_reducible exact ih2 _ _ _ _ _ _ _ _ _ _ _ _ _ _ _ _ _ _ _ _ _ _ _ _ _ _ _ _)
   | (with_reducible exact ih3 _ _ _ _ _ _ _ _ _ _ _ _ _ _ _ _ _ _ _ _ _ _ _ _ _ _ _ _ _ _ _ _ _ _ _)
   | (with_reducible exact ih4 _ _ _ _ _ _ _ _ _ _ _ _ _ _ _ _ _ _ _ _ _ _ _ _ _ _ _ _ _ _ _ _ _ _ _ _)
   | (with_reducible exact ih5 _ _ _ _ _ _ _ _ _ _ _ _ _ _ _ _ _ _ _ _ _ _ _ _ _ _ _ _ _ _ _ _ _ _ _)
   | (with_reducible exact ih6 _ _ _ _ _ _ _ _ _ _ _ _ _ _ _ _ _ _ _ _ _ _ _ _ _ _ _ _ _ _ _ _ _ _ _)
   | (with_reducible exact ih7 _ _ _ _ _ _ _ _ _ _ _ _ _ _ _ _ _ _ _ _ _ _ _ _ _ _ _ _ _)
   | (with_reducible exact atlaslaw07_alive.mono _)
   | (with_reducible exact rights_Allows.mono _ _ _ _ _ _ _ _)
   | (with_reducible exact rights_Check.mono _ _ _ _ _ _ _ _ _ _ _ _ _ _ _ _ _ _ _ _ _ _ _)
   | (with_reducible exact LeO.refl _)
   | (with_reducible exact LeO.none _)
   | (with_reducible refine LeO.ite ?_ ?_)
   | (with_reducible refine LeO.bind ?_ (fun _ => ?_))
   | exact ih0 _ _ _ _ _ _ _
   | exact ih1 _ _ _ _ _ _ _ _ _ _ _ _ _ _ _
   | exact ih2 _ _ _ _ _ _ _ _ _ _ _ _ _ _ _ _ _ _ _ _ _ _ _ _ _ _ _ _
   | exact ih3 _ _ _ _ _ _ _ _ _ _ _ _ _ _ _ _ _ _ _ _ _ _ _ _ _ _ _ _ _ _ _ _ _ _ _
   | exact ih4 _ _ _ _ _ _ _ _ _ _ _ _ _ _ _ _ _ _ _ _ _ _ _ _ _ _ _ _ _ _ _ _ _ _ _ _
   | exact ih5 _ _ _ _ _ _ _ _ _ _ _ _ _ _ _ _ _ _ _ _ _ _ _ _ _ _ _ _ _ _ _ _ _ _ _
   | exact ih6 _ _ _ _ _ _ _ _ _ _ _ _ _ _ _ _ _ _ _ _ _ _ _ _ _ _ _ _ _ _ _ _ _ _ _
   | exact ih7 _ _ _ _ _ _ _ _ _ _ _ _ _ _ _ _ _ _ _ _ _ _ _ _ _ _ _ _ _
   | exact atlaslaw07_alive.mono _
   | exact rights_Allows.mono _ _ _ _ _ _ _ _
   | exact rights_Check.mono _ _ _ _ _ _ _ _ _ _ _ _ _ _ _ _ _ _ _ _ _ _ _
   | exact LeO.none _
   | refine LeO.ite ?_ ?_
   | refine LeO.bind ?_ (fun _ => ?_)
  ·
   intro y0 y1 y2 y3 y4 y5 y6 y7 y8 y9 y10 y11 y12 y13 y14 y15 y16 y17 y18 y19 y20 y21 y22 y23 y24 y25 y26 y27
   unfold atlaslaw07_RightsPriv.l1
   repeat' first
   | (with_reducible exact ih0 _ _ _ _ _ _ _)
   | (with_reducible exact ih1 _ _ _ _ _ _ _ _ _ _ _ _ _ _ _)
   | (with_reducible exact ih2 _ _ _ _ _ _ _ _ _ _ _ _ _ _ _ _ _ _ _ _ _ _ _ _ _ _ _ _)
   | (with_reducible exact ih3 _ _ _ _ _ _ _ _ _ _ _ _ _ _ _ _ _ _ _ _ _ _ _ _ _ _ _ _ _ _ _ _ _ _ _)
   | (with_reducible exact ih4 _ _ _ _ _ _ _ _ _ _ _ _ _ _ _ _ _ _ _ _ _ _ _ _ _ _ _ _ _ _ _ _ _ _ _ _)
   | (with_reducible exact ih5 _ _ _ _ _ _ _ _ _ _ _ _ _ _ _ _ _ _ _ _ _ _ _ _ _ _ _ _ _ _ _ _ _ _ _)
   | (with_reducible exact ih6 _ _ _ _ _ _ _ _ _ _ _ _ _ _ _ _ _ _ _ _ _ _ _ _ _ _ _ _ _ _ _ _ _ _ _)
   | (with_reducible exact ih7 _ _ _ _ _ _ _ _ _ _ _ _ _ _ _ _ _ _ _ _ _ _ _ _ _ _ _ _ _)
   | (with_reducible exact atlaslaw07_alive.mono _)
   | (with_reducible exact rights_Allows.mono _ _ _ _ _ _ _ _)
   | (with_reducible exact rights_Check.mono _ _ _ _ _ _ _ _ _ _ _ _ _ _ _ _ _ _ _ _ _ _ _)
   | (with_reducible exact LeO.refl _)
   | (with_reducible exact LeO.none _)
   | (with_reducible refine LeO.ite ?_ ?_)
   | (with_reducible refine LeO.bind ?_ (fun _ => ?_))
   | exact ih0 _ _ _ _ _ _ _
   | exact ih1 _ _ _ _ _ _ _ _ _ _ _ _ _ _ _
   | exact ih2 _ _ _ _ _ _ _ _ _ _ _ _ _ _ _ _ _ _ _ _ _ _ _ _ _ _ _ _
   | exact ih3 _ _ _ _ _ _ _ _ _ _ _ _ _ _ _ _ _ _ _ _ _ _ _ _ _ _ _ _ _ _ _ _ _ _ _
   | exact ih4 _ _ _ _ _ _ _ _ _ _ _ _ _ _ _ _ _ _ _ _ _ _ _ _ _ _ _ _ _ _ _ _ _ _ _ _
   | exact ih5 _ _ _ _ _ _ _ _ _ _ _ _ _ _ _ _ _ _ _ _ _ _ _ _ _ _ _ _ _ _ _ _ _ _ _
   | exact ih6 _ _ _ _ _ _ _ _ _ _ _ _ _ _ _ _ _ _ _ _ _ _ _ _ _ _ _ _ _ _ _ _ _ _ _
   | exact ih7 _ _ _ _ _ _ _ _ _ _ _ _ _ _ _ _ _ _ _ _ _ _ _ _ _ _ _ _ _
   | exact atlaslaw07_alive.mono _
   | exact rights_Allows.mono _ _ _ _ _ _ _ _
   | exact rights_Check.mono _ _ _ _ _ _ _ _ _ _ _ _ _ _ _ _ _ _ _ _ _ _ _
   | exact LeO.none _
   | refine LeO.ite ?_ ?_
   | refine LeO.bind ?_ (fun _ => ?_)
  ·
   intro y0 y1 y2 y3 y4 y5 y6 y7 y8 y9 y10 y11 y12 y13 y14 y15 y16 y17 y18 y19 y20 y21 y22 y23 y24 y25 y26 y27 y28 y29 y30 y31 y32 y33 y34
   unfold atlaslaw07_RightsPriv.j3
   repeat' first
   | (with_reducible exact ih0 _ _ _ _ _ _ _)
   | (with_reducible exact ih1 _ _ _ _ _ _ _ _ _ _ _ _ _ _ _)
   | (with_reducible exact ih2 _ _ _ _ _ _ _ _ _ _ _ _ _ _ _ _ _ _ _ _ _ _ _ _ _ _ _ _)
   | (with_reducible exact ih3 _ _ _ _ _ _ _ _ _ _ _ _ _ _ _ _ _ _ _ _ _ _ _ _ _ _ _ _ _ _ _ _ _ _ _)
   | (with_reducible exact ih4 _ _ _ _ _ _ _ _ _ _ _ _ _ _ _ _ _ _ _ _ _ _ _ _ _ _ _ _ _ _ _ _ _ _ _ _)
   | (with_reducible exact ih5 _ _ _ _ _ _ _ _ _ _ _ _ _ _ _ _ _ _ _ _ _ _ _ _ _ _ _ _ _ _ _ _ _ _ _)
   | (with_reducible exact ih6 _ _ _ _ _ _ _ _ _ _ _ _ _ _ _ _ _ _ _ _ _ _ _ _ _ _ _ _ _ _ _ _ _ _ _)
   | (with_reducible exact ih7 _ _ _ _ _ _ _ _ _ _ _ _ _ _ _ _ _ _ _ _ _ _ _ _ _ _ _ _ _)
   | (with_reducible exact atlaslaw07_alive.mono _)
   | (with_reducible exact rights_Allows.mono _ _ _ _ _ _ _ _)
   | (with_reducible exact rights_Check.mono _ _ _ _ _ _ _ _ _ _ _ _ _ _ _ _ _ _ _ _ _ _ _)
   | (with_reducible exact LeO.refl _)
   | (with_reducible exact LeO.none _)
   | (with_reducible refine LeO.ite ?_ ?_)
   | (with_reducible refine LeO.bind ?_ (fun _ => ?_))
   | exact ih0 _ _ _ _ _ _ _
   | exact ih1 _ _ _ _ _ _ _ _ _ _ _ _ _ _ _
   | exact ih2 _ _ _ _ _ _ _ _ _ _ _ _ _ _ _ _ _ _ _ _ _ _ _ _ _ _ _ _
   | exact ih3 _ _ _ _ _ _ _ _ _ _ _ _ _ _ _ _ _ _ _ _ _ _ _ _ _ _ _ _ _ _ _ _ _ _ _
   | exact ih4 _ _ _ _ _ _ _ _ _ _ _ _ _ _ _ _ _ _ _ _ _ _ _ _ _ _ _ _ _ _ _ _ _ _ _ _
   | exact ih5 _ _ _ _ _ _ _ _ _ _ _ _ _ _ _ _ _ _ _ _ _ _ _ _ _ _ _ _ _ _ _ _ _ _ _
   | exact ih6 _ _ _ _ _ _ _ _ _ _ _ _ _ _ _ _ _ _ _ _ _ _ _ _ _ _ _ _ _ _ _ _ _ _ _
   | exact ih7 _ _ _ _ _ _ _ _ _ _ _ _ _ _ _ _ _ _ _ _ _ _ _ _ _ _ _ _ _
   | exact atlaslaw07_alive.mono _
   | exact rights_Allows.mono _ _ _ _ _ _ _ _
   | exact rights_Check.mono _ _ _ _ _ _ _ _ _ _ _ _ _ _ _ _ _ _ _ _ _ _ _
   | exact LeO.none _
   | refine LeO.ite ?_ ?_
   | refine LeO.bind ?_ (fun _ => ?_)
  ·
   intro y0 y1 y2 y3 y4 y5 y6 y7 y8 y9 y10 y11 y12 y13 y14 y15 y16 y17 y18 y19 y20 y21 y22 y23 y24 y25 y26 y27 y28 y29 y30 y31 y32 y33 y34 y35
   unfold atlaslaw07_RightsPriv.j4
   repeat' first
   | (with_reducible exact ih0 _ _ _ _ _ _ _)
   | (with_reducible exact ih1 _ _ _ _ _ _ _ _ _ _ _ _ _ _ _)
   | (with_reducible exact ih2 _ _ _ _ _ _ _ _ _ _ _ _ _ _ _ _ _ _ _ _ _ _ _ _ _ _ _ _)
   | (with_reducible exact ih3 _ _ _ _ _ _ _ _ _ _ _ _ _ _ _ _ _ _ _ _ _ _ _ _ _ _ _ _ _ _ _ _ _ _ _)
   | (with_reducible exact ih4 _ _ _ _ _ _ _ _ _ _ _ _ _ _ _ _ _ _ _ _ _ _ _ _ _ _ _ _ _ _ _ _ _ _ _ _)
   | (with_reducible exact ih5 _ _ _ _ _ _ _ _ _ _ _ _ _ _ _ _ _ _ _ _ _ _ _ _ _ _ _ _ _ _ _ _ _ _ _)
   | (with_reducible exact ih6 _ _ _ _ _ _ _ _ _ _ _ _ _ _ _ _ _ _ _ _ _ _ _ _ _ _ _ _ _ _ _ _ _ _ _)
   | (with_reducible exact ih7 _ _ _ _ _ _ _ _ _ _ _ _ _ _ _ _ _ _ _ _ _ _ _ _ _ _ _ _ _)
   | (with_reducible exact atlaslaw07_alive.mono _)
   | (with_reducible exact rights_Allows.mono _ _ _ _ _ _ _ _)
   | (with_reducible exact rights_Check.mono _ _ _ _ _ _ _ _ _ _ _ _ _ _ _ _ _ _ _ _ _ _ _)
   | (with_reducible exact LeO.refl _)
   | (with_reducible exact LeO.none _)
   | (with_reducible refine LeO.ite ?_ ?_)
   | (with_reducible refine LeO.bind ?_ (fun _ => ?_))
   | exact ih0 _ _ _ _ _ _ _
   | exact ih1 _ _ _ _ _ _ _ _ _ _ _ _ _ _ _
   | exact ih2 _ _ _ _ _ _ _ _ _ _ _ _ _ _ _ _ _ _ _ _ _ _ _ _ _ _ _ _
   | exact ih3 _ _ _ _ _ _ _ _ _ _ _ _ _ _ _ _ _ _ _ _ _ _ _ _ _ _ _ _ _ _ _ _ _ _ _
   | exact ih4 _ _ _ _ _ _ _ _ _ _ _ _ _ _ _ _ _ _ _ _ _ _ _ _ _ _ _ _ _ _ _ _ _ _ _ _
   | exact ih5 _ _ _ _ _ _ _ _ _ _ _ _ _ _ _ _ _ _ _ _ _ _ _ _ _ _ _ _ _ _ _ _ _ _ _
   | exact ih6 _ _ _ _ _ _ _ _ _ _ _ _ _ _ _ _ _ _ _ _ _ _ _ _ _ _ _ _ _ _ _ _ _ _ _
   | exact ih7 _ _ _ _ _ _ _ _ _ _ _ _ _ _ _ _ _ _ _ _ _ _ _ _ _ _ _ _ _
   | exact atlaslaw07_alive.mono _
   | exact rights_Allows.mono _ _ _ _ _ _ _ _
   | exact rights_Check.mono _ _ _ _ _ _ _ _ _ _ _ _ _ _ _ _ _ _ _ _ _ _ _
   | exact LeO.none _
   | refine LeO.ite ?_ ?_
   | refine LeO.bind ?_ (fun _ => ?_)
  ·
   intro y0 y1 y2 y3 y4 y5 y6 y7 y8 y9 y10 y11 y12 y13 y14 y15 y16 y17 y18 y19 y20 y21 y22 y23 y24 y25 y26 y27 y28 y29 y30 y31 y32 y33 y34
   unfold atlaslaw07_RightsPriv.j5
   repeat' first
   | (with_reducible exact ih0 _ _ _ _ _ _ _)
   | (with_reducible exact ih1 _ _ _ _ _ _ _ _ _ _ _ _ _ _ _)
   | (with_reducible exact ih2 _ _ _ _ _ _ _ _ _ _ _ _ _ _ _ _ _ _ _ _ _ _ _ _ _ _ _ _)
   | (with_reducible exact ih3 _ _ _ _ _ _ _ _ _ _ _ _ _ _ _ _ _ _ _ _ _ _ _ _ _ _ _ _ _ _ _ _ _ _ _)
   | (with_reducible exact ih4 _ _ _ _ _ _ _ _ _ _ _ _ _ _ _ _ _ _ _ _ _ _ _ _ _ _ _ _ _ _ _ _ _ _ _ _)
   | (with_reducible exact ih5 _ _ _ _ _ _ _ _ _ _ _ _ _ _ _ _ _ _ _ _ _ _ _ _ _ _ _ _ _ _ _ _ _ _ _)
   | (with_reducible exact ih6 _ _ _ _ _ _ _ _ _ _ _ _ _ _ _ _ _ _ _ _ _ _ _ _ _ _ _ _ _ _ _ _ _ _ _)
   | (with_reducible exact ih7 _ _ _ _ _ _ _ _ _ _ _ _ _ _ _ _ _ _ _ _ _ _ _ _ _ _ _ _ _)
   | (with_reducible exact atlaslaw07_alive.mono _)
   | (with_reducible exact rights_Allows.mono _ _ _ _ _ _ _ _)
   | (with_reducible exact rights_Check.mono _ _ _ _ _ _ _ _ _ _ _ _ _ _ _ _ _ _ _ _ _ _ _)
   | (with_reducible exact LeO.refl _)
   | (with_reducible exact LeO.none _)
   | (with_reducible refine LeO.ite ?_ ?_)
   | (with_reducible refine LeO.bind ?_ (fun _ => ?_))
   | exact ih0 _ _ _ _ _ _ _
   | exact ih1 _ _ _ _ _ _ _ _ _ _ _ _ _ _ _
   | exact ih2 _ _ _ _ _ _ _ _ _ _ _ _ _ _ _ _ _ _ _ _ _ _ _ _ _ _ _ _
   | exact ih3 _ _ _ _ _ _ _ _ _ _ _ _ _ _ _ _ _ _ _ _ _ _ _ _ _ _ _ _ _ _ _ _ _ _ _
   | exact ih4 _ _ _ _ _ _ _ _ _ _ _ _ _ _ _ _ _ _ _ _ _ _ _ _ _ _ _ _ _ _ _ _ _ _ _ _
   | exact ih5 _ _ _ _ _ _ _ _ _ _ _ _ _ _ _ _ _ _ _ _ _ _ _ _ _ _ _ _ _ _ _ _ _ _ _
   | exact ih6 _ _ _ _ _ _ _ _ _ _ _ _ _ _ _ _ _ _ _ _ _ _ _ _ _ _ _ _ _ _ _ _ _ _ _
   | exact ih7 _ _ _ _ _ _ _ _ _ _ _ _ _ _ _ _ _ _ _ _ _ _ _ _ _ _ _ _ _
   | exact atlaslaw07_alive.mono _
   | exact rights_Allows.mono _ _ _ _ _ _ _ _
   | exact rights_Check.mono _ _ _ _ _ _ _ _ _ _ _ _ _ _ _ _ _ _ _ _ _ _ _
   | exact LeO.none _
   | refine LeO.ite ?_ ?_
   | refine LeO.bind ?_ (fun _ => ?_)
  ·
   intro y0 y1 y2 y3 y4 y5 y6 y7 y8 y9 y10 y11 y12 y13 y14 y15 y16 y17 y18 y19 y20 y21 y22 y23 y24 y25 y26 y27 y28 y29 y30 y31 y32 y33 y34
   unfold atlaslaw07_RightsPriv.j6
   repeat' first
   | (with_reducible exact ih0 _ _ _ _ _ _ _)
   | (with_reducible exact ih1 _ _ _ _ _ _ _ _ _ _ _ _ _ _ _)
   | (with_reducible exact ih2 _ _ _ _ _ _ _ _ _ _ _ _ _ _ _ _ _ _ _ _ _ _ _ _ _ _ _ _)
   | (with_reducible exact ih3 _ _ _ _ _ _ _ _ _ _ _ _ _ _ _ _ _ _ _ _ _ _ _ _ _ _ _ _ _ _ _ _ _ _ _)
   | (with_reducible exact ih4 _ _ _ _ _ _ _ _ _ _ _ _ _ _ _ _ _ _ _ _ _ _ _ _ _ _ _ _ _ _ _ _ _ _ _ _)
   | (with_reducible exact ih5 _ _ _ _ _ _ _ _ _ _ _ _ _ _ _ _ _ _ _ _ _ _ _ _ _ _ _ _ _ _ _ _ _ _ _)
   | (with_reducible exact ih6 _ _ _ _ _ _ _ _ _ _ _ _ _ _ _ _ _ _ _ _ _ _ _ _ _ _ _ _ _ _ _ _ _ _ _)
   | (with_reducible exact ih7 _ _ _ _ _ _ _ _ _ _ _ _ _ _ _ _ _ _ _ _ _ _ _ _ _ _ _ _ _)
   | (with_reducible exact atlaslaw07_alive.mono _)
   | (with_reducible exact rights_Allows.mono _ _ _ _ _ _ _ _)
   | (with_reducible exact rights_Check.mono _ _ _ _ _ _ _ _ _ _ _ _ _ _ _ _ _ _ _ _ _ _ _)
   | (with_reducible exact LeO.refl _)
   | (with_reducible exact LeO.none _)
   | (with_reducible refine LeO.ite ?_ ?_)
   | (with_reducible refine LeO.bind ?_ (fun _ => ?_))
   | exact ih0 _ _ _ _ _ _ _
   | exact ih1 _ _ _ _ _ _ _ _ _ _ _ _ _ _ _
   | exact ih2 _ _ _ _ _ _ _ _ _ _ _ _ _ _ _ _ _ _ _ _ _ _ _ _ _ _ _ _
   | exact ih3 _ _ _ _ _ _ _ _ _ _ _ _ _ _ _ _ _ _ _ _ _ _ _ _ _ _ _ _ _ _ _ _ _ _ _
   | exact ih4 _ _ _ _ _ _ _ _ _ _ _ _ _ _ _ _ _ _ _ _ _ _ _ _ _ _ _ _ _ _ _ _ _ _ _ _
   | exact ih5 _ _ _ _ _ _ _ _ _ _ _ _ _ _ _ _ _ _ _ _ _ _ _ _ _ _ _ _ _ _ _ _ _ _ _
   | exact ih6 _ _ _ _ _ _ _ _ _ _ _ _ _ _ _ _ _ _ _ _ _ _ _ _ _ _ _ _ _ _ _ _ _ _ _
   | exact ih7 _ _ _ _ _ _ _ _ _ _ _ _ _ _ _ _ _ _ _ _ _ _ _ _ _ _ _ _ _
   | exact atlaslaw07_alive.mono _
   | exact rights_Allows.mono _ _ _ _ _ _ _ _
   | exact rights_Check.mono _ _ _ _ _ _ _ _ _ _ _ _ _ _ _ _ _ _ _ _ _ _ _
   | exact LeO.none _
   | refine LeO.ite ?_ ?_
   | refine LeO.bind ?_ (fun _ => ?_)
  ·
   intro y0 y1 y2 y3 y4 y5 y6 y7 y8 y9 y10 y11 y12 y13 y14 y15 y16 y17 y18 y19 y20 y21 y22 y23 y24 y25 y26 y27 y28
   unfold atlaslaw07_RightsPriv.j7
   repeat' first
   | (with_reducible exact ih0 _ _ _ _ _ _ _)
   | (with_reducible exact ih1 _ _ _ _ _ _ _ _ _ _ _ _ _ _ _)
   | (with_reducible exact ih2 _ _ _ _ _ _ _ _ _ _ _ _ _ _ _ _ _ _ _ _ _ _ _ _ _ _ _ _)
   | (with_reducible exact ih3 _ _ _ _ _ _ _ _ _ _ _ _ _ _ _ _ _ _ _ _ _ _ _ _ _ _ _ _ _ _ _ _ _ _ _)
   | (with_reducible exact ih4 _ _ _ _ _ _ _ _ _ _ _ _ _ _ _ _ _ _ _ _ _ _ _ _ _ _ _ _ _ _ _ _ _ _ _ _)
   | (with_reducible exact ih5 _ _ _ _ _ _ _ _ _ _ _ _ _ _ _ _ _ _ _ _ _ _ _ _ _ _ _ _ _ _ _ _ _ _ _)
   | (with_reducible exact ih6 _ _ _ _ _ _ _ _ _ _ _ _ _ _ _ _ _ _ _ _ _ _ _ _ _ _ _ _ _ _ _ _ _ _ _)
   | (with_reducible exact ih7 _ _ _ _ _ _ _ _ _ _ _ _ _ _ _ _ _ _ _ _ _ _ _ _ _ _ _ _ _)
   | (with_reducible exact atlaslaw07_alive.mono _)
   | (with_reducible exact rights_Allows.mono _ _ _ _ _ _ _ _)
   | (with_reducible exact rights_Check.mono _ _ _ _ _ _ _ _ _ _ _ _ _ _ _ _ _ _ _ _ _ _ _)
   | (with_reducible exact LeO.refl _)
   | (with_reducible exact LeO.none _)
   | (with_reducible refine LeO.ite ?_ ?_)
   | (with_reducible refine LeO.bind ?_ (fun _ => ?_))
   | exact ih0 _ _ _ _ _ _ _
   | exact ih1 _ _ _ _ _ _ _ _ _ _ _ _ _ _ _
   | exact ih2 _ _ _ _ _ _ _ _ _ _ _ _ _ _ _ _ _ _ _ _ _ _ _ _ _ _ _ _
   | exact ih3 _ _ _ _ _ _ _ _ _ _ _ _ _ _ _ _ _ _ _ _ _ _ _ _ _ _ _ _ _ _ _ _ _ _ _
   | exact ih4 _ _ _ _ _ _ _ _ _ _ _ _ _ _ _ _ _ _ _ _ _ _ _ _ _ _ _ _ _ _ _ _ _ _ _ _
   | exact ih5 _ _ _ _ _ _ _ _ _ _ _ _ _ _ _ _ _ _ _ _ _ _ _ _ _ _ _ _ _ _ _ _ _ _ _
   | exact ih6 _ _ _ _ _ _ _ _ _ _ _ _ _ _ _ _ _ _ _ _ _ _ _ _ _ _ _ _ _ _ _ _ _ _ _
   | exact ih7 _ _ _ _ _ _ _ _ _ _ _ _ _ _ _ _ _ _ _ _ _ _ _ _ _ _ _ _ _
   | exact atlaslaw07_alive.mono _
   | exact rights_Allows.mono _ _ _ _ _ _ _ _
   | exact rights_Check.mono _ _ _ _ _ _ _ _ _ _ _ _ _ _ _ _ _ _ _ _ _ _ _
   | exact LeO.none _
   | refine LeO.ite ?_ ?_
   | refine LeO.bind ?_ (fun _ => ?_)
theorem atlaslaw07_RightsPriv.mono : ∀ a0 a1 a2 a3 a4 a5 a6 k, LeO (atlaslaw07_RightsPriv.f k a0 a1 a2 a3 a4 a5 a6) (atlaslaw07_RightsPriv.f (k + 1) a0 a1 a2 a3 a4 a5 a6) := by
 intro a0 a1 a2 a3 a4 a5 a6 k
 obtain ⟨ih0, ih1, ih2, ih3, ih4, ih5, ih6, ih7⟩ := atlaslaw07_RightsPriv.mono_l k
 unfold atlaslaw07_RightsPriv.f
 repeat' first
   | (with_reducible exact ih0 _ _ _ _ _ _ _)
   | (with_reducible exact ih1 _ _ _ _ _ _ _ _ _ _ _ _ _ _ _)
   | (with_reducible exact ih2 _ _ _ _ _ _ _ _ _ _ _ _ _ _ _ _ _ _ _ _ _ _ _ _ _ _ _ _)
   | (with_reducible exact ih3 _ _ _ _ _ _ _ _ _ _ _ _ _ _ _ _ _ _ _ _ _ _ _ _ _ _ _ _ _ _ _ _ _ _ _)
   | (with_reducible exact ih4 _ _ _ _ _ _ _ _ _ _ _ _ _ _ _ _ _ _ _ _ _ _ _ _ _ _ _ _ _ _ _ _ _ _ _ _)
   | (with_reducible exact ih5 _ _ _ _ _ _ _ _ _ _ _ _ _ _ _ _ _ _ _ _ _ _ _ _ _ _ _ _ _ _ _ _ _ _ _)
   | (with_reducible exact ih6 _ _ _ _ _ _ _ _ _ _ _ _ _ _ _ _ _ _ _ _ _ _ _ _ _ _ _ _ _ _ _ _ _ _ _)
   | (with_reducible exact ih7 _ _ _ _ _ _ _ _ _ _ _ _ _ _ _ _ _ _ _ _ _ _ _ _ _ _ _ _ _)
   | (with_reducible exact atlaslaw07_alive.mono _)
   | (with_reducible exact rights_Allows.mono _ _ _ _ _ _ _ _)
   | (with_reducible exact rights_Check.mono _ _ _ _ _ _ _ _ _ _ _ _ _ _ _ _ _ _ _ _ _ _ _)
   | (with_reducible exact LeO.refl _)
   | (with_reducible exact LeO.none _)
   | (with_reducible refine LeO.ite ?_ ?_)
   | (with_reducible refine LeO.bind ?_ (fun _ => ?_))
   | exact ih0 _ _ _ _ _ _ _
   | exact ih1 _ _ _ _ _ _ _ _ _ _ _ _ _ _ _
   | exact ih2 _ _ _ _ _ _ _ _ _ _ _ _ _ _ _ _ _ _ _ _ _ _ _ _ _ _ _ _
   | exact ih3 _ _ _ _ _ _ _ _ _ _ _ _ _ _ _ _ _ _ _ _ _ _ _ _ _ _ _ _ _ _ _ _ _ _ _
   | exact ih4 _ _ _ _ _ _ _ _ _ _ _ _ _ _ _ _ _ _ _ _ _ _ _ _ _ _ _ _ _ _ _ _ _ _ _ _
   | exact ih5 _ _ _ _ _ _ _ _ _ _ _ _ _ _ _ _ _ _ _ _ _ _ _ _ _ _ _ _ _ _ _ _ _ _ _
   | exact ih6 _ _ _ _ _ _ _ _ _ _ _ _ _ _ _ _ _ _ _ _ _ _ _ _ _ _ _ _ _ _ _ _ _ _ _
   | exact ih7 _ _ _ _ _ _ _ _ _ _ _ _ _ _ _ _ _ _ _ _ _ _ _ _ _ _ _ _ _
   | exact atlaslaw07_alive.mono _
   | exact rights_Allows.mono _ _ _ _ _ _ _ _
   | exact rights_Check.mono _ _ _ _ _ _ _ _ _ _ _ _ _ _ _ _ _ _ _ _ _ _ _
   | exact LeO.none _
   | refine LeO.ite ?_ ?_
   | refine LeO.bind ?_ (fun _ => ?_)
def atlaslaw07_RightsPriv.T26 : Bool × List (List Nat × List Nat) := (true, [([], []), ([0], [0]), ([1], [1]), ([2], [2]), ([3, 2], [2, 3]), ([4, 2], [2, 4]), ([2], [2]), ([2], [2]), ([2], [2]), ([6, 7, 8, 2, 2], [2, 6, 7, 8]), ([5, 9, 2], [2, 5, 9]), ([10, 9, 2], [2, 10]), ([11], [11]), ([12, 11], [11, 12]), ([13, 11], [11, 13]), ([11], [11]), ([11], [11]), ([11], [11]), ([15, 16, 17, 11, 11], [11, 15, 16, 17]), ([14, 18, 11], [11, 14, 18]), ([11, 19, 2], [2, 11, 19]), ([2, 20], [2, 20])])
def atlaslaw07_RightsPriv.B26 : List Nat := [0, 1, 3, 7, 15, 31, 7, 7, 7, 455, 1023, 2047, 4095, 8191, 16383, 4095, 4095, 4095, 233471, 524287, 1048575, 2097151]
theorem atlaslaw07_RightsPriv.tab26 : rtab .any (opsOf Tryd.f8 26) = atlaslaw07_RightsPriv.T26 := by kernel_rfl
theorem atlaslaw07_RightsPriv.bits26 : waitsOk atlaslaw07_RightsPriv.T26.2 atlaslaw07_RightsPriv.B26 = true := by kernel_rfl
set_option maxHeartbeats 8000000 in
set_option maxRecDepth 100000 in
theorem atlaslaw07_RightsPriv.calls (k : Nat) (a0_0 : Int) (a0_1 : Int) (a0_2 : Bool) (a0_3 : Bool) (a1 : Int) (a2 : Int) (a3 : Bool) (r : Bool) (w : World) (hG0 : Aside0 (G0 w)) (hG1 : Aside0 (G1 w)) (hG3 : Aside0 (G3 w)) (h : atlaslaw07_RightsPriv.f k a0_0 a0_1 a0_2 a0_3 a1 a2 a3 = some r) :
  Calls Tryd.prog 8 #[.agg #[.int .i64 a0_0, .int .u32 a0_1, .bool a0_2, .bool a0_3], .int .i64 a1, .int .i64 a2, .bool a3] w fun e w' => e = .returned (.bool r) ∧ Below w.heap.size w w' := by
 have hu24 := Tryd.underlying24
 have hu36 := Tryd.underlying36
 have hu38 := Tryd.underlying38
 have hu40 := Tryd.underlying40
 have HB := Aside0.mk (Below.refl w.heap.size w)
 have H : ((atlaslaw07_alive.f k).bind fun t267 => (if t267 = true then (if (wrap64 (1 + (Go.bits .and .i64 a1 3))) = 4 then (atlaslaw07_RightsPriv.j0 k (wrap64 (1 + (Go.bits .and .i64 a1 3))) 0 a3 (Go.bits .and .i64 a0_0 7) (Go.bits .and .u32 a0_1 63) a0_2 a0_3) else (atlaslaw07_RightsPriv.j0 k (wrap64 (1 + (Go.bits .and .i64 a1 3))) (Go.bits .and .i64 a2 15) a3 (Go.bits .and .i64 a0_0 7) (Go.bits .and .u32 a0_1 63) a0_2 a0_3)) else (some false))) = some r := h
 clear h
 replace H := Option.bind_eq_some_iff.mp H
 obtain ⟨t267, A50, H⟩ := H
 replace H : (if t267 = true then (if (wrap64 (1 + (Go.bits .and .i64 a1 3))) = 4 then (atlaslaw07_RightsPriv.j0 k (wrap64 (1 + (Go.bits .and .i64 a1 3))) 0 a3 (Go.bits .and .i64 a0_0 7) (Go.bits .and .u32 a0_1 63) a0_2 a0_3) else (atlaslaw07_RightsPriv.j0 k (wrap64 (1 + (Go.bits .and .i64 a1 3))) (Go.bits .and .i64 a2 15) a3 (Go.bits .and .i64 a0_0 7) (Go.bits .and .u32 a0_1 63) a0_2 a0_3)) else (some false)) = some r := H
 have A5 := Aside0.mk A50
 clear A50
 by_cases c6 : t267 = true
 ·
  subst c6
  have H1 : (if (wrap64 (1 + (Go.bits .and .i64 a1 3))) = 4 then (atlaslaw07_RightsPriv.j0 k (wrap64 (1 + (Go.bits .and .i64 a1 3))) 0 a3 (Go.bits .and .i64 a0_0 7) (Go.bits .and .u32 a0_1 63) a0_2 a0_3) else (atlaslaw07_RightsPriv.j0 k (wrap64 (1 + (Go.bits .and .i64 a1 3))) (Go.bits .and .i64 a2 15) a3 (Go.bits .and .i64 a0_0 7) (Go.bits .and .u32 a0_1 63) a0_2 a0_3)) = some r := by rw [if_pos rfl] at H; exact H
  clear H
  have H := H1
  clear H1
  have HC7 := Aside0.mk H
  clear H
  go_enter Tryd.func8, Tryd.ntmps8
  go_upto_if 33 with (first | ((with_reducible refine gate_dst (N := 4) rfl ?_); refine box_event ?hg (N := 4) ?hd (cs := #[.int .i64 a0_0, .int .u32 a0_1, .bool a0_2, .bool a0_3]) (t := 24) ?hr ?_; (case hd => rfl); (case hg => rfl); (case hr => first | (go_simp; done) | (go_simp; rfl)); intro gb266 hg w8 hbox hb; have n0_ := Aside0.mk (below_step (by repeat (first | (with_reducible first | exact HB.out | apply below_alloc | apply pw_below_drewN | apply below_drew1) | exact HB.out)) hb); have n1_ := Aside0.mk (hbox); have n2_ := Aside0.mk ((by rw [hg]; exact (below_size (by repeat (first | (with_reducible first | exact HB.out | apply below_alloc | apply pw_below_drewN | apply below_drew1) | exact HB.out))) : w.heap.size ≤ gb266)); have n3_ := Aside0.mk ((by rw [hg]; exact (below_size (by repeat (first | (with_reducible first | exact HB.out | apply below_alloc | apply pw_below_drewN | apply below_drew1) | exact HB.out))) : w.heap.size ≤ gb266)); clear HB; have HB := n0_; have BK266 := n1_; have GW266 := n2_; have GE266 := n3_; clear n0_ n1_ n2_ n3_; clear hb hbox hg) | ((with_reducible refine gate_callee (f := 18) rfl ?_); refine goesL_ (some 17) rfl rfl Tryd.func18 (by kernel_rfl) rfl #[] rfl (by (try simp only [List.map_toArray, List.map_cons, List.map_nil]); first | done | rfl | (simp only [List.length_drop, List.length_take]; rfl)) ?_; (with_reducible refine (atlaslaw07_alive.calls k  true _ ?side1 ?side2 A5.out).mono ?_); (case side1 => exact ⟨G0.below hG0.out (by repeat (first | (with_reducible first | exact HB.out | apply below_alloc | apply pw_below_drewN | apply below_drew1 | refine below_set ?_ GE266.out) | exact HB.out))⟩); (case side2 => exact ⟨G1.below hG1.out (by repeat (first | (with_reducible first | exact HB.out | apply below_alloc | apply pw_below_drewN | apply below_drew1 | refine below_set ?_ GE266.out) | exact HB.out))⟩); rintro e w9 ⟨rfl, hb⟩; refine ⟨_, rfl, ?_⟩; have n0_ := Aside0.mk (blk_below (g := gb266) (o := .cells #[.int .i64 a0_0, .int .u32 a0_1, .bool a0_2, .bool a0_3] 24 (0, 0)) (by (with_reducible repeat (first | refine blk_drewN ?_ _ | refine blk_drew ?_ | refine blk_alloc ?_ _)); exact BK266.out) hb); have n1_ := Aside0.mk (below_step (by repeat (first | (with_reducible first | exact HB.out | apply below_alloc | apply pw_below_drewN | apply below_drew1 | refine below_set ?_ GE266.out) | exact HB.out)) hb); clear BK266; clear HB; have BK266 := n0_; have HB := n1_; clear n0_ n1_; (try clear hb); (try clear hb2); (try clear hk); (try clear hi); have hcz10_0 : w9.cell? ⟨gb266, 0, none⟩ = some (.int .i64 a0_0) := (blk_cell BK266.out 0).trans rfl; have hcz10_1 : w9.cell? ⟨gb266, 1, none⟩ = some (.int .u32 a0_1) := (blk_cell BK266.out 1).trans rfl; have hcz10_2 : w9.cell? ⟨gb266, 2, none⟩ = some (.bool a0_2) := (blk_cell BK266.out 2).trans rfl; have hcz10_3 : w9.cell? ⟨gb266, 3, none⟩ = some (.bool a0_3) := (blk_cell BK266.out 3).trans rfl; have hfz10_0 := blk_frozen BK266.out 0; have hfz10_1 := blk_frozen BK266.out 1; have hfz10_2 := blk_frozen BK266.out 2; have hfz10_3 := blk_frozen BK266.out 3))
  (try simp only [Act.put, List.setIfInBounds_toArray, List.set_cons_zero, List.set_cons_succ])
  go_cut [2] (fun v2 wc => ∃ (kq : Nat) (x2_6 : Int), v2 = .int .i64 x2_6 ∧ Aside0 (atlaslaw07_RightsPriv.j0 kq (wrap64 (1 + (Go.bits .and .i64 a1 3))) x2_6 a3 (Go.bits .and .i64 a0_0 7) (Go.bits .and .u32 a0_1 63) a0_2 a0_3 = some r) ∧ Aside0 (kq ≤ k) ∧ Aside0 (wc.heap[gb266]? = some (.cells #[.int .i64 (Go.bits .and .i64 a0_0 7), .int .u32 (Go.bits .and .u32 a0_1 63), .bool a0_2, .bool a0_3] 24 (0, 0))) ∧ Aside0 (Below w.heap.size w wc))
  case first =>
   have H := HC7.out
   clear HC7
   by_cases c11 : (wrap64 (1 + (Go.bits .and .i64 a1 3))) = 4
   ·
    rw [if_pos c11] at H
    have c11b0 : ((wrap64 (1 + (Go.bits .and .i64 a1 3))) == 4) = true := beq_iff_eq.mpr c11
    have c11b1 : ((wrap64 (1 + (Go.bits .and .i64 a1 3))) != 4) = false := bne_eq_false_iff_eq.mpr c11
    clear c11
    (first | rw [c11b0] | (simp only [i64_w, i32_w]; rw [c11b0]) | skip)
    have H' := Aside0.mk H
    clear H
    go_wp2
    go_meet
    case rel => exact ⟨_, (0), (by first | rfl | (simp; done) | (simp [*]; done)), H', ⟨by first | omega | exact Nat.le_refl _⟩, ⟨by (with_reducible repeat (first | refine blk_drewN ?_ _ | refine blk_drew ?_ | refine blk_alloc ?_ _)); refine blk_put (cs := #[.int .i64 (Go.bits .and .i64 a0_0 7), .int .u32 a0_1, .bool a0_2, .bool a0_3]) ?_ 1 _ rfl; (with_reducible repeat (first | refine blk_drewN ?_ _ | refine blk_drew ?_ | refine blk_alloc ?_ _)); refine blk_put (cs := #[.int .i64 a0_0, .int .u32 a0_1, .bool a0_2, .bool a0_3]) ?_ 0 _ rfl; (with_reducible repeat (first | refine blk_drewN ?_ _ | refine blk_drew ?_ | refine blk_alloc ?_ _)); exact BK266.out⟩, ⟨by repeat (first | (with_reducible first | exact HB.out | apply below_alloc | apply pw_below_drewN | apply below_drew1 | refine below_set ?_ GE266.out) | exact HB.out)⟩⟩
   ·
    rw [if_neg c11] at H
    have c11b0 : ((wrap64 (1 + (Go.bits .and .i64 a1 3))) == 4) = false := beq_eq_false_iff_ne.mpr c11
    have c11b1 : ((wrap64 (1 + (Go.bits .and .i64 a1 3))) != 4) = true := bne_iff_ne.mpr c11
    (first | rw [c11b0] | (simp only [i64_w, i32_w]; rw [c11b0]) | skip)
    have H' := Aside0.mk H
    clear H
    go_wp2
    go_meet
    case rel => exact ⟨_, (Go.bits .and .i64 a2 15), (by first | rfl | (simp; done) | (simp [*]; done)), H', ⟨by first | omega | exact Nat.le_refl _⟩, ⟨by (with_reducible repeat (first | refine blk_drewN ?_ _ | refine blk_drew ?_ | refine blk_alloc ?_ _)); refine blk_put (cs := #[.int .i64 (Go.bits .and .i64 a0_0 7), .int .u32 a0_1, .bool a0_2, .bool a0_3]) ?_ 1 _ rfl; (with_reducible repeat (first | refine blk_drewN ?_ _ | refine blk_drew ?_ | refine blk_alloc ?_ _)); refine blk_put (cs := #[.int .i64 a0_0, .int .u32 a0_1, .bool a0_2, .bool a0_3]) ?_ 0 _ rfl; (with_reducible repeat (first | refine blk_drewN ?_ _ | refine blk_drew ?_ | refine blk_alloc ?_ _)); exact BK266.out⟩, ⟨by repeat (first | (with_reducible first | exact HB.out | apply below_alloc | apply pw_below_drewN | apply below_drew1 | refine below_set ?_ GE266.out) | exact HB.out)⟩⟩
  case rest =>
   clear HC7
   try clear c1
   try clear p2
   try clear c6
   try clear p6
   try clear c8
   try clear c11
   try clear c11b0
   try clear c11b1
   try clear hcz10_0
   try clear hcz10_1
   try clear hcz10_2
   try clear hcz10_3
   try clear hfz10_0
   try clear hfz10_1
   try clear hfz10_2
   try clear hfz10_3
   obtain ⟨kq, x2_6, rfl, HA, HJ6, BK266, HB⟩ := hcut
   cases kq with
   | zero => exact absurd HA.out (by simp [atlaslaw07_RightsPriv.j0])
   | succ kj6 =>
    have H := HA.out
    clear HA
    simp only [atlaslaw07_RightsPriv.j0] at H
    have H' := Aside0.mk H
    clear H
    have hcz12_0 : wc.cell? ⟨gb266, 0, none⟩ = some (.int .i64 (Go.bits .and .i64 a0_0 7)) := (blk_cell BK266.out 0).trans rfl
    have hcz12_1 : wc.cell? ⟨gb266, 1, none⟩ = some (.int .u32 (Go.bits .and .u32 a0_1 63)) := (blk_cell BK266.out 1).trans rfl
    have hcz12_2 : wc.cell? ⟨gb266, 2, none⟩ = some (.bool a0_2) := (blk_cell BK266.out 2).trans rfl
    have hcz12_3 : wc.cell? ⟨gb266, 3, none⟩ = some (.bool a0_3) := (blk_cell BK266.out 3).trans rfl
    have hfz12_0 := blk_frozen BK266.out 0
    have hfz12_1 := blk_frozen BK266.out 1
    have hfz12_2 := blk_frozen BK266.out 2
    have hfz12_3 := blk_frozen BK266.out 3
    go_wp2_with (first | ((with_reducible refine gate_dst (N := 9) rfl ?_); refine box_event ?hg (N := 9) ?hd (cs := #[.int .i64 0, .int .u32 0, .int .u64 0, .int .i64 0, .int .i64 0, .int .u32 0, .bool false, .bool false]) (t := 36) ?hr ?_; (case hd => rfl); (case hg => rfl); (case hr => first | (go_simp; done) | (go_simp; rfl)); intro gb268 hg w13 hbox hb; have n0_ := Aside0.mk (blk_below (g := gb266) (o := .cells #[.int .i64 (Go.bits .and .i64 a0_0 7), .int .u32 (Go.bits .and .u32 a0_1 63), .bool a0_2, .bool a0_3] 24 (0, 0)) (by (with_reducible repeat (first | refine blk_drewN ?_ _ | refine blk_drew ?_ | refine blk_alloc ?_ _)); exact BK266.out) hb); have n1_ := Aside0.mk (below_step (by repeat (first | (with_reducible first | exact HB.out | apply below_alloc | apply pw_below_drewN | apply below_drew1 | refine below_set ?_ GE266.out) | exact HB.out)) hb); have n2_ := Aside0.mk (hbox); have n3_ := Aside0.mk ((by rw [hg]; exact (below_size (by repeat (first | (with_reducible first | exact HB.out | apply below_alloc | apply pw_below_drewN | apply below_drew1 | refine below_set ?_ GE266.out) | exact HB.out))) : w.heap.size ≤ gb268)); have n4_ := Aside0.mk ((by rw [hg]; exact (below_size (by repeat (first | (with_reducible first | exact HB.out | apply below_alloc | apply pw_below_drewN | apply below_drew1 | refine below_set ?_ GE266.out) | exact HB.out))) : w.heap.size ≤ gb268)); have n5_ := Aside0.mk ((by rw [hg]; exact Nat.ne_of_lt (blk_lt (g := gb266) (o := .cells #[.int .i64 (Go.bits .and .i64 a0_0 7), .int .u32 (Go.bits .and .u32 a0_1 63), .bool a0_2, .bool a0_3] 24 (0, 0)) (by (with_reducible repeat (first | refine blk_drewN ?_ _ | refine blk_drew ?_ | refine blk_alloc ?_ _)); exact BK266.out)) : gb266 ≠ gb268)); have n6_ := Aside0.mk ((by rw [hg]; exact Nat.ne_of_gt (blk_lt (g := gb266) (o := .cells #[.int .i64 (Go.bits .and .i64 a0_0 7), .int .u32 (Go.bits .and .u32 a0_1 63), .bool a0_2, .bool a0_3] 24 (0, 0)) (by (with_reducible repeat (first | refine blk_drewN ?_ _ | refine blk_drew ?_ | refine blk_alloc ?_ _)); exact BK266.out)) : gb268 ≠ gb266)); clear BK266; clear HB; have BK266 := n0_; have HB := n1_; have BK268 := n2_; have GW268 := n3_; have GE268 := n4_; have NB266_268 := n5_; have NB268_266 := n6_; clear n0_ n1_ n2_ n3_ n4_ n5_ n6_; clear hb hbox hg; have hnb14 := NB268_266.out; have hnc14 := NB266_268.out; have hcz15_0 : w13.cell? ⟨gb268, 0, none⟩ = some (.int .i64 0) := (blk_cell BK268.out 0).trans rfl; have hcz15_1 : w13.cell? ⟨gb268, 1, none⟩ = some (.int .u32 0) := (blk_cell BK268.out 1).trans rfl; have hcz15_2 : w13.cell? ⟨gb268, 2, none⟩ = some (.int .u64 0) := (blk_cell BK268.out 2).trans rfl; have hcz15_3 : w13.cell? ⟨gb268, 3, none⟩ = some (.int .i64 0) := (blk_cell BK268.out 3).trans rfl; have hcz15_4 : w13.cell? ⟨gb268, 4, none⟩ = some (.int .i64 0) := (blk_cell BK268.out 4).trans rfl; have hcz15_5 : w13.cell? ⟨gb268, 5, none⟩ = some (.int .u32 0) := (blk_cell BK268.out 5).trans rfl; have hcz15_6 : w13.cell? ⟨gb268, 6, none⟩ = some (.bool false) := (blk_cell BK268.out 6).trans rfl; have hcz15_7 : w13.cell? ⟨gb268, 7, none⟩ = some (.bool false) := (blk_cell BK268.out 7).trans rfl; have hfz15_0 := blk_frozen BK268.out 0; have hfz15_1 := blk_frozen BK268.out 1; have hfz15_2 := blk_frozen BK268.out 2; have hfz15_3 := blk_frozen BK268.out 3; have hfz15_4 := blk_frozen BK268.out 4; have hfz15_5 := blk_frozen BK268.out 5; have hfz15_6 := blk_frozen BK268.out 6; have hfz15_7 := blk_frozen BK268.out 7))
    go_loopg [10] kj6 (fun kq v10 w' => ∃ (x10_2 : Int), v10 = .int .u32 x10_2 ∧ Aside0 (atlaslaw07_RightsPriv.l0 kq x2_6 a3 x10_2 (Go.bits .and .i64 a0_0 7) (Go.bits .and .u32 a0_1 63) a0_2 a0_3 (wrap64 (1 + (Go.bits .and .i64 a1 3))) 0 0 x2_6 (Go.bits .and .i64 a0_0 7) (Go.bits .and .u32 a0_1 63) a0_2 a0_3 = some r) ∧ Aside0 (kq ≤ kj6) ∧ Aside0 (w'.heap[gb266]? = some (.cells #[.int .i64 (Go.bits .and .i64 a0_0 7), .int .u32 (Go.bits .and .u32 a0_1 63), .bool a0_2, .bool a0_3] 24 (0, 0))) ∧ Aside0 (w'.heap[gb268]? = some (.cells #[.int .i64 (wrap64 (1 + (Go.bits .and .i64 a1 3))), .int .u32 0, .int .u64 0, .int .i64 x2_6, .int .i64 (Go.bits .and .i64 a0_0 7), .int .u32 (Go.bits .and .u32 a0_1 63), .bool a0_2, .bool a0_3] 36 (0, 0))) ∧ Aside0 (Below w.heap.size w w'))
    case atStart => exact ⟨(0), (by first | rfl | (simp; done) | (simp [*]; done)), H', ⟨Nat.le_refl _⟩, ⟨by (with_reducible repeat (first | refine blk_drewN ?_ _ | refine blk_drew ?_ | refine blk_alloc ?_ _)); refine blk_far ?_ NB266_268.out _; (with_reducible repeat (first | refine blk_drewN ?_ _ | refine blk_drew ?_ | refine blk_alloc ?_ _)); refine blk_far ?_ NB266_268.out _; (with_reducible repeat (first | refine blk_drewN ?_ _ | refine blk_drew ?_ | refine blk_alloc ?_ _)); refine blk_far ?_ NB266_268.out _; (with_reducible repeat (first | refine blk_drewN ?_ _ | refine blk_drew ?_ | refine blk_alloc ?_ _)); refine blk_far ?_ NB266_268.out _; (with_reducible repeat (first | refine blk_drewN ?_ _ | refine blk_drew ?_ | refine blk_alloc ?_ _)); refine blk_far ?_ NB266_268.out _; (with_reducible repeat (first | refine blk_drewN ?_ _ | refine blk_drew ?_ | refine blk_alloc ?_ _)); refine blk_far ?_ NB266_268.out _; (with_reducible repeat (first | refine blk_drewN ?_ _ | refine blk_drew ?_ | refine blk_alloc ?_ _)); refine blk_far ?_ NB266_268.out _; (with_reducible repeat (first | refine blk_drewN ?_ _ | refine blk_drew ?_ | refine blk_alloc ?_ _)); refine blk_far ?_ NB266_268.out _; (with_reducible repeat (first | refine blk_drewN ?_ _ | refine blk_drew ?_ | refine blk_alloc ?_ _)); exact BK266.out⟩, ⟨by (with_reducible repeat (first | refine blk_drewN ?_ _ | refine blk_drew ?_ | refine blk_alloc ?_ _)); refine blk_put (cs := #[.int .i64 (wrap64 (1 + (Go.bits .and .i64 a1 3))), .int .u32 0, .int .u64 0, .int .i64 x2_6, .int .i64 (Go.bits .and .i64 a0_0 7), .int .u32 (Go.bits .and .u32 a0_1 63), .bool a0_2, .bool false]) ?_ 7 _ rfl; (with_reducible repeat (first | refine blk_drewN ?_ _ | refine blk_drew ?_ | refine blk_alloc ?_ _)); refine blk_put (cs := #[.int .i64 (wrap64 (1 + (Go.bits .and .i64 a1 3))), .int .u32 0, .int .u64 0, .int .i64 x2_6, .int .i64 (Go.bits .and .i64 a0_0 7), .int .u32 (Go.bits .and .u32 a0_1 63), .bool false, .bool false]) ?_ 6 _ rfl; (with_reducible repeat (first | refine blk_drewN ?_ _ | refine blk_drew ?_ | refine blk_alloc ?_ _)); refine blk_put (cs := #[.int .i64 (wrap64 (1 + (Go.bits .and .i64 a1 3))), .int .u32 0, .int .u64 0, .int .i64 x2_6, .int .i64 (Go.bits .and .i64 a0_0 7), .int .u32 0, .bool false, .bool false]) ?_ 5 _ rfl; (with_reducible repeat (first | refine blk_drewN ?_ _ | refine blk_drew ?_ | refine blk_alloc ?_ _)); refine blk_put (cs := #[.int .i64 (wrap64 (1 + (Go.bits .and .i64 a1 3))), .int .u32 0, .int .u64 0, .int .i64 x2_6, .int .i64 0, .int .u32 0, .bool false, .bool false]) ?_ 4 _ rfl; (with_reducible repeat (first | refine blk_drewN ?_ _ | refine blk_drew ?_ | refine blk_alloc ?_ _)); refine blk_put (cs := #[.int .i64 (wrap64 (1 + (Go.bits .and .i64 a1 3))), .int .u32 0, .int .u64 0, .int .i64 0, .int .i64 0, .int .u32 0, .bool false, .bool false]) ?_ 3 _ rfl; (with_reducible repeat (first | refine blk_drewN ?_ _ | refine blk_drew ?_ | refine blk_alloc ?_ _)); refine blk_put (cs := #[.int .i64 (wrap64 (1 + (Go.bits .and .i64 a1 3))), .int .u32 0, .int .u64 0, .int .i64 0, .int .i64 0, .int .u32 0, .bool false, .bool false]) ?_ 2 _ rfl; (with_reducible repeat (first | refine blk_drewN ?_ _ | refine blk_drew ?_ | refine blk_alloc ?_ _)); refine blk_put (cs := #[.int .i64 (wrap64 (1 + (Go.bits .and .i64 a1 3))), .int .u32 0, .int .u64 0, .int .i64 0, .int .i64 0, .int .u32 0, .bool false, .bool false]) ?_ 1 _ rfl; (with_reducible repeat (first | refine blk_drewN ?_ _ | refine blk_drew ?_ | refine blk_alloc ?_ _)); refine blk_put (cs := #[.int .i64 0, .int .u32 0, .int .u64 0, .int .i64 0, .int .i64 0, .int .u32 0, .bool false, .bool false]) ?_ 0 _ rfl; (with_reducible repeat (first | refine blk_drewN ?_ _ | refine blk_drew ?_ | refine blk_alloc ?_ _)); exact BK268.out⟩, ⟨by repeat (first | (with_reducible first | exact HB.out | apply below_alloc | apply pw_below_drewN | apply below_drew1 | refine below_set ?_ GE266.out | refine below_set ?_ GE268.out) | exact HB.out)⟩⟩
    case round =>
     clear H'
     try clear c1
     try clear p2
     try clear c6
     try clear p6
     try clear c8
     try clear c11
     try clear c11b0
     try clear c11b1
     try clear c14
     try clear hcz10_0
     try clear hcz10_1
     try clear hcz10_2
     try clear hcz10_3
     try clear hcz12_0
     try clear hcz12_1
     try clear hcz12_2
     try clear hcz12_3
     try clear hcz15_0
     try clear hcz15_1
     try clear hcz15_2
     try clear hcz15_3
     try clear hcz15_4
     try clear hcz15_5
     try clear hcz15_6
     try clear hcz15_7
     try clear hfz10_0
     try clear hfz10_1
     try clear hfz10_2
     try clear hfz10_3
     try clear hfz12_0
     try clear hfz12_1
     try clear hfz12_2
     try clear hfz12_3
     try clear hfz15_0
     try clear hfz15_1
     try clear hfz15_2
     try clear hfz15_3
     try clear hfz15_4
     try clear hfz15_5
     try clear hfz15_6
     try clear hfz15_7
     try clear p2
     try clear p6
     obtain ⟨x10_2, rfl, HA, HK2, BK266, BK268, HB⟩ := hrel
     cases gk with
     | zero => exact absurd HA.out (by simp [atlaslaw07_RightsPriv.l0])
     | succ k2 =>
      have H := HA.out
      clear HA
      simp only [atlaslaw07_RightsPriv.l0] at H
      by_cases c16 : x10_2 < 4
      ·
       rw [if_pos c16] at H
       have c16b0 : decide (x10_2 < 4) = true := decide_eq_true c16
       clear c16
       obtain ⟨ji17, hji17⟩ : ∃ j_ : Int, (wrap64 (2 * x2_6)) = j_ := ⟨_, rfl⟩
       replace H : (if 0 ≤ (ji17) then (atlaslaw07_RightsPriv.l1 k2 x2_6 a3 x10_2 1 (Go.bits .and .i64 a0_0 7) (Go.bits .and .u32 a0_1 63) a0_2 a0_3 (wrap64 (1 + (Go.bits .and .i64 a1 3))) 0 0 x2_6 (Go.bits .and .i64 a0_0 7) (Go.bits .and .u32 a0_1 63) a0_2 a0_3 true false a3 0 false false 0 0 (shl .u32 x10_2 (ji17)) 0 0 0) else (none)) = some r := by first | (rw [hji17] at H; exact H) | (simp only [hji17] at H ⊢; exact H)
       have hji17w : (IntKind.i64.wrap (2 * x2_6)) = ji17 := (i64_w _).trans hji17
       by_cases c18 : 0 ≤ (ji17)
       ·
        rw [if_pos c18] at H
        have c18b0 := eq_true c18
        have c18b1 : decide (0 ≤ (ji17)) = true := decide_eq_true c18
        clear c18
        obtain ⟨ji19, hji19⟩ : ∃ j_ : Int, (shl .u32 x10_2 (ji17)) = j_ := ⟨_, rfl⟩
        replace H : (atlaslaw07_RightsPriv.l1 k2 x2_6 a3 x10_2 1 (Go.bits .and .i64 a0_0 7) (Go.bits .and .u32 a0_1 63) a0_2 a0_3 (wrap64 (1 + (Go.bits .and .i64 a1 3))) 0 0 x2_6 (Go.bits .and .i64 a0_0 7) (Go.bits .and .u32 a0_1 63) a0_2 a0_3 true false a3 0 false false 0 0 ji19 0 0 0) = some r := by first | (rw [hji19] at H; exact H) | (simp only [hji19] at H ⊢; exact H)
        have hji19_ : (IntKind.u32.wrap (x10_2 * 2 ^ min (ji17).toNat 32)) = ji19 := hji19
        have hji19z : (ji17) ≤ 32 → (IntKind.u32.wrap (x10_2 * 2 ^ (ji17).toNat)) = ji19 := shl_small hji19
        have H' := Aside0.mk H
        clear H
        go_wp2_with (first | ((with_reducible refine gate_dst (N := 11) rfl ?_); refine box_event ?hg (N := 11) ?hd (cs := #[.bool false, .bool false, .bool false, .int .i64 0, .bool false, .bool false, .int .u64 0, .int .u64 0, .int .u32 0, .int .u32 0, .int .u32 0, .int .i64 0]) (t := 38) ?hr ?_; (case hd => rfl); (case hg => rfl); (case hr => first | (go_simp; done) | (go_simp; rfl)); intro gb269 hg w20 hbox hb; have n0_ := Aside0.mk (blk_below (g := gb266) (o := .cells #[.int .i64 (Go.bits .and .i64 a0_0 7), .int .u32 (Go.bits .and .u32 a0_1 63), .bool a0_2, .bool a0_3] 24 (0, 0)) (by (with_reducible repeat (first | refine blk_drewN ?_ _ | refine blk_drew ?_ | refine blk_alloc ?_ _)); exact BK266.out) hb); have n1_ := Aside0.mk (blk_below (g := gb268) (o := .cells #[.int .i64 (wrap64 (1 + (Go.bits .and .i64 a1 3))), .int .u32 0, .int .u64 0, .int .i64 x2_6, .int .i64 (Go.bits .and .i64 a0_0 7), .int .u32 (Go.bits .and .u32 a0_1 63), .bool a0_2, .bool a0_3] 36 (0, 0)) (by (with_reducible repeat (first | refine blk_drewN ?_ _ | refine blk_drew ?_ | refine blk_alloc ?_ _)); exact BK268.out) hb); have n2_ := Aside0.mk (below_step (by repeat (first | (with_reducible first | exact HB.out | apply below_alloc | apply pw_below_drewN | apply below_drew1 | refine below_set ?_ GE266.out | refine below_set ?_ GE268.out) | exact HB.out)) hb); have n3_ := Aside0.mk (hbox); have n4_ := Aside0.mk ((by rw [hg]; exact (below_size (by repeat (first | (with_reducible first | exact HB.out | apply below_alloc | apply pw_below_drewN | apply below_drew1 | refine below_set ?_ GE266.out | refine below_set ?_ GE268.out) | exact HB.out))) : w.heap.size ≤ gb269)); have n5_ := Aside0.mk ((by rw [hg]; exact (below_size (by repeat (first | (with_reducible first | exact HB.out | apply below_alloc | apply pw_below_drewN | apply below_drew1 | refine below_set ?_ GE266.out | refine below_set ?_ GE268.out) | exact HB.out))) : w.heap.size ≤ gb269)); have n6_ := Aside0.mk ((by rw [hg]; exact Nat.ne_of_lt (blk_lt (g := gb266) (o := .cells #[.int .i64 (Go.bits .and .i64 a0_0 7), .int .u32 (Go.bits .and .u32 a0_1 63), .bool a0_2, .bool a0_3] 24 (0, 0)) (by (with_reducible repeat (first | refine blk_drewN ?_ _ | refine blk_drew ?_ | refine blk_alloc ?_ _)); exact BK266.out)) : gb266 ≠ gb269)); have n7_ := Aside0.mk ((by rw [hg]; exact Nat.ne_of_gt (blk_lt (g := gb266) (o := .cells #[.int .i64 (Go.bits .and .i64 a0_0 7), .int .u32 (Go.bits .and .u32 a0_1 63), .bool a0_2, .bool a0_3] 24 (0, 0)) (by (with_reducible repeat (first | refine blk_drewN ?_ _ | refine blk_drew ?_ | refine blk_alloc ?_ _)); exact BK266.out)) : gb269 ≠ gb266)); have n8_ := Aside0.mk ((by rw [hg]; exact Nat.ne_of_lt (blk_lt (g := gb268) (o := .cells #[.int .i64 (wrap64 (1 + (Go.bits .and .i64 a1 3))), .int .u32 0, .int .u64 0, .int .i64 x2_6, .int .i64 (Go.bits .and .i64 a0_0 7), .int .u32 (Go.bits .and .u32 a0_1 63), .bool a0_2, .bool a0_3] 36 (0, 0)) (by (with_reducible repeat (first | refine blk_drewN ?_ _ | refine blk_drew ?_ | refine blk_alloc ?_ _)); exact BK268.out)) : gb268 ≠ gb269)); have n9_ := Aside0.mk ((by rw [hg]; exact Nat.ne_of_gt (blk_lt (g := gb268) (o := .cells #[.int .i64 (wrap64 (1 + (Go.bits .and .i64 a1 3))), .int .u32 0, .int .u64 0, .int .i64 x2_6, .int .i64 (Go.bits .and .i64 a0_0 7), .int .u32 (Go.bits .and .u32 a0_1 63), .bool a0_2, .bool a0_3] 36 (0, 0)) (by (with_reducible repeat (first | refine blk_drewN ?_ _ | refine blk_drew ?_ | refine blk_alloc ?_ _)); exact BK268.out)) : gb269 ≠ gb268)); clear BK266; clear BK268; clear HB; have BK266 := n0_; have BK268 := n1_; have HB := n2_; have BK269 := n3_; have GW269 := n4_; have GE269 := n5_; have NB266_269 := n6_; have NB269_266 := n7_; have NB268_269 := n8_; have NB269_268 := n9_; clear n0_ n1_ n2_ n3_ n4_ n5_ n6_ n7_ n8_ n9_; clear hb hbox hg; have hnb21 := NB269_266.out; have hnc21 := NB266_269.out; have hnb22 := NB269_268.out; have hnc22 := NB268_269.out; have hcz23_0 : w20.cell? ⟨gb269, 0, none⟩ = some (.bool false) := (blk_cell BK269.out 0).trans rfl; have hcz23_1 : w20.cell? ⟨gb269, 1, none⟩ = some (.bool false) := (blk_cell BK269.out 1).trans rfl; have hcz23_2 : w20.cell? ⟨gb269, 2, none⟩ = some (.bool false) := (blk_cell BK269.out 2).trans rfl; have hcz23_3 : w20.cell? ⟨gb269, 3, none⟩ = some (.int .i64 0) := (blk_cell BK269.out 3).trans rfl; have hcz23_4 : w20.cell? ⟨gb269, 4, none⟩ = some (.bool false) := (blk_cell BK269.out 4).trans rfl; have hcz23_5 : w20.cell? ⟨gb269, 5, none⟩ = some (.bool false) := (blk_cell BK269.out 5).trans rfl; have hcz23_6 : w20.cell? ⟨gb269, 6, none⟩ = some (.int .u64 0) := (blk_cell BK269.out 6).trans rfl; have hcz23_7 : w20.cell? ⟨gb269, 7, none⟩ = some (.int .u64 0) := (blk_cell BK269.out 7).trans rfl; have hcz23_8 : w20.cell? ⟨gb269, 8, none⟩ = some (.int .u32 0) := (blk_cell BK269.out 8).trans rfl; have hcz23_9 : w20.cell? ⟨gb269, 9, none⟩ = some (.int .u32 0) := (blk_cell BK269.out 9).trans rfl; have hcz23_10 : w20.cell? ⟨gb269, 10, none⟩ = some (.int .u32 0) := (blk_cell BK269.out 10).trans rfl; have hcz23_11 : w20.cell? ⟨gb269, 11, none⟩ = some (.int .i64 0) := (blk_cell BK269.out 11).trans rfl; have hfz23_0 := blk_frozen BK269.out 0; have hfz23_1 := blk_frozen BK269.out 1; have hfz23_2 := blk_frozen BK269.out 2; have hfz23_3 := blk_frozen BK269.out 3; have hfz23_4 := blk_frozen BK269.out 4; have hfz23_5 := blk_frozen BK269.out 5; have hfz23_6 := blk_frozen BK269.out 6; have hfz23_7 := blk_frozen BK269.out 7; have hfz23_8 := blk_frozen BK269.out 8; have hfz23_9 := blk_frozen BK269.out 9; have hfz23_10 := blk_frozen BK269.out 10; have hfz23_11 := blk_frozen BK269.out 11))
        go_loopg [12] k2 (fun kq v12 w' => ∃ (x12_3 : Int), v12 = .int .i64 x12_3 ∧ Aside0 (atlaslaw07_RightsPriv.l1 kq x2_6 a3 x10_2 x12_3 (Go.bits .and .i64 a0_0 7) (Go.bits .and .u32 a0_1 63) a0_2 a0_3 (wrap64 (1 + (Go.bits .and .i64 a1 3))) 0 0 x2_6 (Go.bits .and .i64 a0_0 7) (Go.bits .and .u32 a0_1 63) a0_2 a0_3 true false a3 0 false false 0 0 ji19 0 0 0 = some r) ∧ Aside0 (kq ≤ k2) ∧ Aside0 (w'.heap[gb266]? = some (.cells #[.int .i64 (Go.bits .and .i64 a0_0 7), .int .u32 (Go.bits .and .u32 a0_1 63), .bool a0_2, .bool a0_3] 24 (0, 0))) ∧ Aside0 (w'.heap[gb268]? = some (.cells #[.int .i64 (wrap64 (1 + (Go.bits .and .i64 a1 3))), .int .u32 0, .int .u64 0, .int .i64 x2_6, .int .i64 (Go.bits .and .i64 a0_0 7), .int .u32 (Go.bits .and .u32 a0_1 63), .bool a0_2, .bool a0_3] 36 (0, 0))) ∧ Aside0 (w'.heap[gb269]? = some (.cells #[.bool true, .bool false, .bool a3, .int .i64 0, .bool false, .bool false, .int .u64 0, .int .u64 0, .int .u32 ji19, .int .u32 0, .int .u32 0, .int .i64 0] 38 (0, 0))) ∧ Aside0 (Below w.heap.size w w'))
        case atStart => exact ⟨(1), (by first | rfl | (simp; done) | (simp [*]; done)), H', ⟨Nat.le_refl _⟩, ⟨by (with_reducible repeat (first | refine blk_drewN ?_ _ | refine blk_drew ?_ | refine blk_alloc ?_ _)); refine blk_far ?_ NB266_269.out _; (with_reducible repeat (first | refine blk_drewN ?_ _ | refine blk_drew ?_ | refine blk_alloc ?_ _)); refine blk_far ?_ NB266_269.out _; (with_reducible repeat (first | refine blk_drewN ?_ _ | refine blk_drew ?_ | refine blk_alloc ?_ _)); refine blk_far ?_ NB266_269.out _; (with_reducible repeat (first | refine blk_drewN ?_ _ | refine blk_drew ?_ | refine blk_alloc ?_ _)); refine blk_far ?_ NB266_269.out _; (with_reducible repeat (first | refine blk_drewN ?_ _ | refine blk_drew ?_ | refine blk_alloc ?_ _)); refine blk_far ?_ NB266_269.out _; (with_reducible repeat (first | refine blk_drewN ?_ _ | refine blk_drew ?_ | refine blk_alloc ?_ _)); refine blk_far ?_ NB266_269.out _; (with_reducible repeat (first | refine blk_drewN ?_ _ | refine blk_drew ?_ | refine blk_alloc ?_ _)); refine blk_far ?_ NB266_269.out _; (with_reducible repeat (first | refine blk_drewN ?_ _ | refine blk_drew ?_ | refine blk_alloc ?_ _)); refine blk_far ?_ NB266_269.out _; (with_reducible repeat (first | refine blk_drewN ?_ _ | refine blk_drew ?_ | refine blk_alloc ?_ _)); refine blk_far ?_ NB266_269.out _; (with_reducible repeat (first | refine blk_drewN ?_ _ | refine blk_drew ?_ | refine blk_alloc ?_ _)); refine blk_far ?_ NB266_269.out _; (with_reducible repeat (first | refine blk_drewN ?_ _ | refine blk_drew ?_ | refine blk_alloc ?_ _)); refine blk_far ?_ NB266_269.out _; (with_reducible repeat (first | refine blk_drewN ?_ _ | refine blk_drew ?_ | refine blk_alloc ?_ _)); refine blk_far ?_ NB266_269.out _; (with_reducible repeat (first | refine blk_drewN ?_ _ | refine blk_drew ?_ | refine blk_alloc ?_ _)); exact BK266.out⟩, ⟨by (with_reducible repeat (first | refine blk_drewN ?_ _ | refine blk_drew ?_ | refine blk_alloc ?_ _)); refine blk_far ?_ NB268_269.out _; (with_reducible repeat (first | refine blk_drewN ?_ _ | refine blk_drew ?_ | refine blk_alloc ?_ _)); refine blk_far ?_ NB268_269.out _; (with_reducible repeat (first | refine blk_drewN ?_ _ | refine blk_drew ?_ | refine blk_alloc ?_ _)); refine blk_far ?_ NB268_269.out _; (with_reducible repeat (first | refine blk_drewN ?_ _ | refine blk_drew ?_ | refine blk_alloc ?_ _)); refine blk_far ?_ NB268_269.out _; (with_reducible repeat (first | refine blk_drewN ?_ _ | refine blk_drew ?_ | refine blk_alloc ?_ _)); refine blk_far ?_ NB268_269.out _; (with_reducible repeat (first | refine blk_drewN ?_ _ | refine blk_drew ?_ | refine blk_alloc ?_ _)); refine blk_far ?_ NB268_269.out _; (with_reducible repeat (first | refine blk_drewN ?_ _ | refine blk_drew ?_ | refine blk_alloc ?_ _)); refine blk_far ?_ NB268_269.out _; (with_reducible repeat (first | refine blk_drewN ?_ _ | refine blk_drew ?_ | refine blk_alloc ?_ _)); refine blk_far ?_ NB268_269.out _; (with_reducible repeat (first | refine blk_drewN ?_ _ | refine blk_drew ?_ | refine blk_alloc ?_ _)); refine blk_far ?_ NB268_269.out _; (with_reducible repeat (first | refine blk_drewN ?_ _ | refine blk_drew ?_ | refine blk_alloc ?_ _)); refine blk_far ?_ NB268_269.out _; (with_reducible repeat (first | refine blk_drewN ?_ _ | refine blk_drew ?_ | refine blk_alloc ?_ _)); refine blk_far ?_ NB268_269.out _; (with_reducible repeat (first | refine blk_drewN ?_ _ | refine blk_drew ?_ | refine blk_alloc ?_ _)); refine blk_far ?_ NB268_269.out _; (with_reducible repeat (first | refine blk_drewN ?_ _ | refine blk_drew ?_ | refine blk_alloc ?_ _)); exact BK268.out⟩, ⟨by (with_reducible repeat (first | refine blk_drewN ?_ _ | refine blk_drew ?_ | refine blk_alloc ?_ _)); refine blk_put (cs := #[.bool true, .bool false, .bool a3, .int .i64 0, .bool false, .bool false, .int .u64 0, .int .u64 0, .int .u32 ji19, .int .u32 0, .int .u32 0, .int .i64 0]) ?_ 11 _ rfl; (with_reducible repeat (first | refine blk_drewN ?_ _ | refine blk_drew ?_ | refine blk_alloc ?_ _)); refine blk_put (cs := #[.bool true, .bool false, .bool a3, .int .i64 0, .bool false, .bool false, .int .u64 0, .int .u64 0, .int .u32 ji19, .int .u32 0, .int .u32 0, .int .i64 0]) ?_ 10 _ rfl; (with_reducible repeat (first | refine blk_drewN ?_ _ | refine blk_drew ?_ | refine blk_alloc ?_ _)); refine blk_put (cs := #[.bool true, .bool false, .bool a3, .int .i64 0, .bool false, .bool false, .int .u64 0, .int .u64 0, .int .u32 ji19, .int .u32 0, .int .u32 0, .int .i64 0]) ?_ 9 _ rfl; (with_reducible repeat (first | refine blk_drewN ?_ _ | refine blk_drew ?_ | refine blk_alloc ?_ _)); refine blk_put (cs := #[.bool true, .bool false, .bool a3, .int .i64 0, .bool false, .bool false, .int .u64 0, .int .u64 0, .int .u32 0, .int .u32 0, .int .u32 0, .int .i64 0]) ?_ 8 _ rfl; (with_reducible repeat (first | refine blk_drewN ?_ _ | refine blk_drew ?_ | refine blk_alloc ?_ _)); refine blk_put (cs := #[.bool true, .bool false, .bool a3, .int .i64 0, .bool false, .bool false, .int .u64 0, .int .u64 0, .int .u32 0, .int .u32 0, .int .u32 0, .int .i64 0]) ?_ 7 _ rfl; (with_reducible repeat (first | refine blk_drewN ?_ _ | refine blk_drew ?_ | refine blk_alloc ?_ _)); refine blk_put (cs := #[.bool true, .bool false, .bool a3, .int .i64 0, .bool false, .bool false, .int .u64 0, .int .u64 0, .int .u32 0, .int .u32 0, .int .u32 0, .int .i64 0]) ?_ 6 _ rfl; (with_reducible repeat (first | refine blk_drewN ?_ _ | refine blk_drew ?_ | refine blk_alloc ?_ _)); refine blk_put (cs := #[.bool true, .bool false, .bool a3, .int .i64 0, .bool false, .bool false, .int .u64 0, .int .u64 0, .int .u32 0, .int .u32 0, .int .u32 0, .int .i64 0]) ?_ 5 _ rfl; (with_reducible repeat (first | refine blk_drewN ?_ _ | refine blk_drew ?_ | refine blk_alloc ?_ _)); refine blk_put (cs := #[.bool true, .bool false, .bool a3, .int .i64 0, .bool false, .bool false, .int .u64 0, .int .u64 0, .int .u32 0, .int .u32 0, .int .u32 0, .int .i64 0]) ?_ 4 _ rfl; (with_reducible repeat (first | refine blk_drewN ?_ _ | refine blk_drew ?_ | refine blk_alloc ?_ _)); refine blk_put (cs := #[.bool true, .bool false, .bool a3, .int .i64 0, .bool false, .bool false, .int .u64 0, .int .u64 0, .int .u32 0, .int .u32 0, .int .u32 0, .int .i64 0]) ?_ 3 _ rfl; (with_reducible repeat (first | refine blk_drewN ?_ _ | refine blk_drew ?_ | refine blk_alloc ?_ _)); refine blk_put (cs := #[.bool true, .bool false, .bool false, .int .i64 0, .bool false, .bool false, .int .u64 0, .int .u64 0, .int .u32 0, .int .u32 0, .int .u32 0, .int .i64 0]) ?_ 2 _ rfl; (with_reducible repeat (first | refine blk_drewN ?_ _ | refine blk_drew ?_ | refine blk_alloc ?_ _)); refine blk_put (cs := #[.bool true, .bool false, .bool false, .int .i64 0, .bool false, .bool false, .int .u64 0, .int .u64 0, .int .u32 0, .int .u32 0, .int .u32 0, .int .i64 0]) ?_ 1 _ rfl; (with_reducible repeat (first | refine blk_drewN ?_ _ | refine blk_drew ?_ | refine blk_alloc ?_ _)); refine blk_put (cs := #[.bool false, .bool false, .bool false, .int .i64 0, .bool false, .bool false, .int .u64 0, .int .u64 0, .int .u32 0, .int .u32 0, .int .u32 0, .int .i64 0]) ?_ 0 _ rfl; (with_reducible repeat (first | refine blk_drewN ?_ _ | refine blk_drew ?_ | refine blk_alloc ?_ _)); exact BK269.out⟩, ⟨by repeat (first | (with_reducible first | exact HB.out | apply below_alloc | apply pw_below_drewN | apply below_drew1 | refine below_set ?_ GE266.out | refine below_set ?_ GE268.out | refine below_set ?_ GE269.out) | exact HB.out)⟩⟩
        case round =>
         clear H'
         try clear c1
         try clear c2
         try clear p2
         try clear c6
         try clear p6
         try clear c8
         try clear c11
         try clear c11b0
         try clear c11b1
         try clear c14
         try clear c16
         try clear c16b0
         try clear c18
         try clear c18b0
         try clear c18b1
         try clear c21
         try clear c22
         try clear hcz10_0
         try clear hcz10_1
         try clear hcz10_2
         try clear hcz10_3
         try clear hcz12_0
         try clear hcz12_1
         try clear hcz12_2
         try clear hcz12_3
         try clear hcz15_0
         try clear hcz15_1
         try clear hcz15_2
         try clear hcz15_3
         try clear hcz15_4
         try clear hcz15_5
         try clear hcz15_6
         try clear hcz15_7
         try clear hcz23_0
         try clear hcz23_1
         try clear hcz23_10
         try clear hcz23_11
         try clear hcz23_2
         try clear hcz23_3
         try clear hcz23_4
         try clear hcz23_5
         try clear hcz23_6
         try clear hcz23_7
         try clear hcz23_8
         try clear hcz23_9
         try clear hfz10_0
         try clear hfz10_1
         try clear hfz10_2
         try clear hfz10_3
         try clear hfz12_0
         try clear hfz12_1
         try clear hfz12_2
         try clear hfz12_3
         try clear hfz15_0
         try clear hfz15_1
         try clear hfz15_2
         try clear hfz15_3
         try clear hfz15_4
         try clear hfz15_5
         try clear hfz15_6
         try clear hfz15_7
         try clear hfz23_0
         try clear hfz23_1
         try clear hfz23_10
         try clear hfz23_11
         try clear hfz23_2
         try clear hfz23_3
         try clear hfz23_4
         try clear hfz23_5
         try clear hfz23_6
         try clear hfz23_7
         try clear hfz23_8
         try clear hfz23_9
         try clear p2
         try clear p6
         obtain ⟨x12_3, rfl, HA, HK3, BK266, BK268, BK269, HB⟩ := hrel
         cases gk with
         | zero => exact absurd HA.out (by simp [atlaslaw07_RightsPriv.l1])
         | succ k3 =>
          have H := HA.out
          clear HA
          simp only [atlaslaw07_RightsPriv.l1] at H
          by_cases c24 : x12_3 ≤ 3
          ·
           rw [if_pos c24] at H
           have c24b0 : decide (x12_3 ≤ 3) = true := decide_eq_true c24
           clear c24
           replace H := Option.bind_eq_some_iff.mp H
           obtain ⟨⟨t270, t271, t272⟩, A250, H⟩ := H
           replace H : ((rights_Check.f k3 (wrap64 (1 + (Go.bits .and .i64 a1 3))) 0 0 x2_6 (Go.bits .and .i64 a0_0 7) (Go.bits .and .u32 a0_1 63) a0_2 a0_3 true false a3 0 false false 0 0 ji19 0 0 0 true x12_3).bind fun bt274 => (if a3 = true then (atlaslaw07_RightsPriv.j3 k3 x2_6 a3 x10_2 x12_3 ((Go.bits .and .i64 (Go.bits .and .i64 a0_0 7) 1) == 0) (Go.bits .and .i64 a0_0 7) (Go.bits .and .u32 a0_1 63) a0_2 a0_3 (wrap64 (1 + (Go.bits .and .i64 a1 3))) 0 0 x2_6 (Go.bits .and .i64 a0_0 7) (Go.bits .and .u32 a0_1 63) a0_2 a0_3 true false a3 0 false false 0 0 ji19 0 0 0 t270 t271 t272 bt274.1 bt274.2.1 bt274.2.2) else (atlaslaw07_RightsPriv.j3 k3 x2_6 a3 x10_2 x12_3 false (Go.bits .and .i64 a0_0 7) (Go.bits .and .u32 a0_1 63) a0_2 a0_3 (wrap64 (1 + (Go.bits .and .i64 a1 3))) 0 0 x2_6 (Go.bits .and .i64 a0_0 7) (Go.bits .and .u32 a0_1 63) a0_2 a0_3 true false a3 0 false false 0 0 ji19 0 0 0 t270 t271 t272 bt274.1 bt274.2.1 bt274.2.2))) = some r := H
           have A25 := Aside0.mk A250
           clear A250
           replace H := Option.bind_eq_some_iff.mp H
           obtain ⟨⟨t274, t275, t276⟩, A260, H⟩ := H
           replace H : (if a3 = true then (atlaslaw07_RightsPriv.j3 k3 x2_6 a3 x10_2 x12_3 ((Go.bits .and .i64 (Go.bits .and .i64 a0_0 7) 1) == 0) (Go.bits .and .i64 a0_0 7) (Go.bits .and .u32 a0_1 63) a0_2 a0_3 (wrap64 (1 + (Go.bits .and .i64 a1 3))) 0 0 x2_6 (Go.bits .and .i64 a0_0 7) (Go.bits .and .u32 a0_1 63) a0_2 a0_3 true false a3 0 false false 0 0 ji19 0 0 0 t270 t271 t272 t274 t275 t276) else (atlaslaw07_RightsPriv.j3 k3 x2_6 a3 x10_2 x12_3 false (Go.bits .and .i64 a0_0 7) (Go.bits .and .u32 a0_1 63) a0_2 a0_3 (wrap64 (1 + (Go.bits .and .i64 a1 3))) 0 0 x2_6 (Go.bits .and .i64 a0_0 7) (Go.bits .and .u32 a0_1 63) a0_2 a0_3 true false a3 0 false false 0 0 ji19 0 0 0 t270 t271 t272 t274 t275 t276)) = some r := H
           have A26 := Aside0.mk A260
           clear A260
           have HC27 := Aside0.mk H
           clear H
           have hnb28 := NB268_266.out
           have hnc28 := NB266_268.out
           have hnb29 := NB268_269.out
           have hnc29 := NB269_268.out
           have hcz30_0 : wr.cell? ⟨gb268, 0, none⟩ = some (.int .i64 (wrap64 (1 + (Go.bits .and .i64 a1 3)))) := (blk_cell BK268.out 0).trans rfl
           have hcz30_1 : wr.cell? ⟨gb268, 1, none⟩ = some (.int .u32 0) := (blk_cell BK268.out 1).trans rfl
           have hcz30_2 : wr.cell? ⟨gb268, 2, none⟩ = some (.int .u64 0) := (blk_cell BK268.out 2).trans rfl
           have hcz30_3 : wr.cell? ⟨gb268, 3, none⟩ = some (.int .i64 x2_6) := (blk_cell BK268.out 3).trans rfl
           have hcz30_4 : wr.cell? ⟨gb268, 4, none⟩ = some (.int .i64 (Go.bits .and .i64 a0_0 7)) := (blk_cell BK268.out 4).trans rfl
           have hcz30_5 : wr.cell? ⟨gb268, 5, none⟩ = some (.int .u32 (Go.bits .and .u32 a0_1 63)) := (blk_cell BK268.out 5).trans rfl
           have hcz30_6 : wr.cell? ⟨gb268, 6, none⟩ = some (.bool a0_2) := (blk_cell BK268.out 6).trans rfl
           have hcz30_7 : wr.cell? ⟨gb268, 7, none⟩ = some (.bool a0_3) := (blk_cell BK268.out 7).trans rfl
           have hfz30_0 := blk_frozen BK268.out 0
           have hfz30_1 := blk_frozen BK268.out 1
           have hfz30_2 := blk_frozen BK268.out 2
           have hfz30_3 := blk_frozen BK268.out 3
           have hfz30_4 := blk_frozen BK268.out 4
           have hfz30_5 := blk_frozen BK268.out 5
           have hfz30_6 := blk_frozen BK268.out 6
           have hfz30_7 := blk_frozen BK268.out 7
           have hnb31 := NB269_266.out
           have hnc31 := NB266_269.out
           have hcz32_0 : wr.cell? ⟨gb269, 0, none⟩ = some (.bool true) := (blk_cell BK269.out 0).trans rfl
           have hcz32_1 : wr.cell? ⟨gb269, 1, none⟩ = some (.bool false) := (blk_cell BK269.out 1).trans rfl
           have hcz32_2 : wr.cell? ⟨gb269, 2, none⟩ = some (.bool a3) := (blk_cell BK269.out 2).trans rfl
           have hcz32_3 : wr.cell? ⟨gb269, 3, none⟩ = some (.int .i64 0) := (blk_cell BK269.out 3).trans rfl
           have hcz32_4 : wr.cell? ⟨gb269, 4, none⟩ = some (.bool false) := (blk_cell BK269.out 4).trans rfl
           have hcz32_5 : wr.cell? ⟨gb269, 5, none⟩ = some (.bool false) := (blk_cell BK269.out 5).trans rfl
           have hcz32_6 : wr.cell? ⟨gb269, 6, none⟩ = some (.int .u64 0) := (blk_cell BK269.out 6).trans rfl
           have hcz32_7 : wr.cell? ⟨gb269, 7, none⟩ = some (.int .u64 0) := (blk_cell BK269.out 7).trans rfl
           have hcz32_8 : wr.cell? ⟨gb269, 8, none⟩ = some (.int .u32 ji19) := (blk_cell BK269.out 8).trans rfl
           have hcz32_9 : wr.cell? ⟨gb269, 9, none⟩ = some (.int .u32 0) := (blk_cell BK269.out 9).trans rfl
           have hcz32_10 : wr.cell? ⟨gb269, 10, none⟩ = some (.int .u32 0) := (blk_cell BK269.out 10).trans rfl
           have hcz32_11 : wr.cell? ⟨gb269, 11, none⟩ = some (.int .i64 0) := (blk_cell BK269.out 11).trans rfl
           have hfz32_0 := blk_frozen BK269.out 0
           have hfz32_1 := blk_frozen BK269.out 1
           have hfz32_2 := blk_frozen BK269.out 2
           have hfz32_3 := blk_frozen BK269.out 3
           have hfz32_4 := blk_frozen BK269.out 4
           have hfz32_5 := blk_frozen BK269.out 5
           have hfz32_6 := blk_frozen BK269.out 6
           have hfz32_7 := blk_frozen BK269.out 7
           have hfz32_8 := blk_frozen BK269.out 8
           have hfz32_9 := blk_frozen BK269.out 9
           have hfz32_10 := blk_frozen BK269.out 10
           have hfz32_11 := blk_frozen BK269.out 11
           go_upto_region 19 with (first | ((with_reducible refine gate_callee (f := 16) rfl ?_); refine goesL_ (some 55) rfl rfl Tryd.func16 (by kernel_rfl) rfl #[.agg #[.int .i64 (wrap64 (1 + (Go.bits .and .i64 a1 3))), .int .u32 0, .int .u64 0, .int .i64 x2_6, .int .i64 (Go.bits .and .i64 a0_0 7), .int .u32 (Go.bits .and .u32 a0_1 63), .bool a0_2, .bool a0_3], .agg #[.bool true, .bool false, .bool a3, .int .i64 0, .bool false, .bool false, .int .u64 0, .int .u64 0, .int .u32 ji19, .int .u32 0, .int .u32 0, .int .i64 0], .bool false, .int .i64 x12_3] rfl (by (try simp only [List.map_toArray, List.map_cons, List.map_nil]); first | done | (simp only [hji19]; rfl) | rfl | (simp only [List.length_drop, List.length_take]; rfl)) ?_; (with_reducible refine (rights_Check.calls k3 (wrap64 (1 + (Go.bits .and .i64 a1 3))) 0 0 x2_6 (Go.bits .and .i64 a0_0 7) (Go.bits .and .u32 a0_1 63) a0_2 a0_3 true false a3 0 false false 0 0 ji19 0 0 0 false x12_3 t270 t271 t272 _ ?side1 ?side2 ?side3 A25.out).mono ?_); (case side1 => exact ⟨G0.below hG0.out (by repeat (first | (with_reducible first | exact HB.out | apply below_alloc | apply pw_below_drewN | apply below_drew1 | refine below_set ?_ GE266.out | refine below_set ?_ GE268.out | refine below_set ?_ GE269.out) | exact HB.out))⟩); (case side2 => exact ⟨G1.below hG1.out (by repeat (first | (with_reducible first | exact HB.out | apply below_alloc | apply pw_below_drewN | apply below_drew1 | refine below_set ?_ GE266.out | refine below_set ?_ GE268.out | refine below_set ?_ GE269.out) | exact HB.out))⟩); (case side3 => exact ⟨G3.below hG3.out (by repeat (first | (with_reducible first | exact HB.out | apply below_alloc | apply pw_below_drewN | apply below_drew1 | refine below_set ?_ GE266.out | refine below_set ?_ GE268.out | refine below_set ?_ GE269.out) | exact HB.out))⟩); rintro e w33 ⟨rfl, hb⟩; refine ⟨_, rfl, ?_⟩; have n0_ := Aside0.mk (blk_below (g := gb266) (o := .cells #[.int .i64 (Go.bits .and .i64 a0_0 7), .int .u32 (Go.bits .and .u32 a0_1 63), .bool a0_2, .bool a0_3] 24 (0, 0)) (by (with_reducible repeat (first | refine blk_drewN ?_ _ | refine blk_drew ?_ | refine blk_alloc ?_ _)); exact BK266.out) hb); have n1_ := Aside0.mk (blk_below (g := gb268) (o := .cells #[.int .i64 (wrap64 (1 + (Go.bits .and .i64 a1 3))), .int .u32 0, .int .u64 0, .int .i64 x2_6, .int .i64 (Go.bits .and .i64 a0_0 7), .int .u32 (Go.bits .and .u32 a0_1 63), .bool a0_2, .bool a0_3] 36 (0, 0)) (by (with_reducible repeat (first | refine blk_drewN ?_ _ | refine blk_drew ?_ | refine blk_alloc ?_ _)); exact BK268.out) hb); have n2_ := Aside0.mk (blk_below (g := gb269) (o := .cells #[.bool true, .bool false, .bool a3, .int .i64 0, .bool false, .bool false, .int .u64 0, .int .u64 0, .int .u32 ji19, .int .u32 0, .int .u32 0, .int .i64 0] 38 (0, 0)) (by (with_reducible repeat (first | refine blk_drewN ?_ _ | refine blk_drew ?_ | refine blk_alloc ?_ _)); exact BK269.out) hb); have n3_ := Aside0.mk (below_step (by repeat (first | (with_reducible first | exact HB.out | apply below_alloc | apply pw_below_drewN | apply below_drew1 | refine below_set ?_ GE266.out | refine below_set ?_ GE268.out | refine below_set ?_ GE269.out) | exact HB.out)) hb); clear BK266; clear BK268; clear BK269; clear HB; have BK266 := n0_; have BK268 := n1_; have BK269 := n2_; have HB := n3_; clear n0_ n1_ n2_ n3_; (try clear hb); (try clear hb2); (try clear hk); (try clear hi)) | ((with_reducible refine gate_dst (N := 13) rfl ?_); refine box_event ?hg (N := 13) ?hd (cs := #[.int .i64 0, .int .i64 0, .int .i64 0]) (t := 40) ?hr ?_; (case hd => rfl); (case hg => rfl); (case hr => first | (go_simp; done) | (go_simp; rfl)); intro gb273 hg w34 hbox hb; have n0_ := Aside0.mk (blk_below (g := gb266) (o := .cells #[.int .i64 (Go.bits .and .i64 a0_0 7), .int .u32 (Go.bits .and .u32 a0_1 63), .bool a0_2, .bool a0_3] 24 (0, 0)) (by (with_reducible repeat (first | refine blk_drewN ?_ _ | refine blk_drew ?_ | refine blk_alloc ?_ _)); exact BK266.out) hb); have n1_ := Aside0.mk (blk_below (g := gb268) (o := .cells #[.int .i64 (wrap64 (1 + (Go.bits .and .i64 a1 3))), .int .u32 0, .int .u64 0, .int .i64 x2_6, .int .i64 (Go.bits .and .i64 a0_0 7), .int .u32 (Go.bits .and .u32 a0_1 63), .bool a0_2, .bool a0_3] 36 (0, 0)) (by (with_reducible repeat (first | refine blk_drewN ?_ _ | refine blk_drew ?_ | refine blk_alloc ?_ _)); exact BK268.out) hb); have n2_ := Aside0.mk (blk_below (g := gb269) (o := .cells #[.bool true, .bool false, .bool a3, .int .i64 0, .bool false, .bool false, .int .u64 0, .int .u64 0, .int .u32 ji19, .int .u32 0, .int .u32 0, .int .i64 0] 38 (0, 0)) (by (with_reducible repeat (first | refine blk_drewN ?_ _ | refine blk_drew ?_ | refine blk_alloc ?_ _)); exact BK269.out) hb); have n3_ := Aside0.mk (below_step (by repeat (first | (with_reducible first | exact HB.out | apply below_alloc | apply pw_below_drewN | apply below_drew1 | refine below_set ?_ GE266.out | refine below_set ?_ GE268.out | refine below_set ?_ GE269.out) | exact HB.out)) hb); have n4_ := Aside0.mk (hbox); have n5_ := Aside0.mk ((by rw [hg]; exact (below_size (by repeat (first | (with_reducible first | exact HB.out | apply below_alloc | apply pw_below_drewN | apply below_drew1 | refine below_set ?_ GE266.out | refine below_set ?_ GE268.out | refine below_set ?_ GE269.out) | exact HB.out))) : w.heap.size ≤ gb273)); have n6_ := Aside0.mk ((by rw [hg]; exact (below_size (by repeat (first | (with_reducible first | exact HB.out | apply below_alloc | apply pw_below_drewN | apply below_drew1 | refine below_set ?_ GE266.out | refine below_set ?_ GE268.out | refine below_set ?_ GE269.out) | exact HB.out))) : w.heap.size ≤ gb273)); have n7_ := Aside0.mk ((by rw [hg]; exact Nat.ne_of_lt (blk_lt (g := gb266) (o := .cells #[.int .i64 (Go.bits .and .i64 a0_0 7), .int .u32 (Go.bits .and .u32 a0_1 63), .bool a0_2, .bool a0_3] 24 (0, 0)) (by (with_reducible repeat (first | refine blk_drewN ?_ _ | refine blk_drew ?_ | refine blk_alloc ?_ _)); exact BK266.out)) : gb266 ≠ gb273)); have n8_ := Aside0.mk ((by rw [hg]; exact Nat.ne_of_gt (blk_lt (g := gb266) (o := .cells #[.int .i64 (Go.bits .and .i64 a0_0 7), .int .u32 (Go.bits .and .u32 a0_1 63), .bool a0_2, .bool a0_3] 24 (0, 0)) (by (with_reducible repeat (first | refine blk_drewN ?_ _ | refine blk_drew ?_ | refine blk_alloc ?_ _)); exact BK266.out)) : gb273 ≠ gb266)); have n9_ := Aside0.mk ((by rw [hg]; exact Nat.ne_of_lt (blk_lt (g := gb268) (o := .cells #[.int .i64 (wrap64 (1 + (Go.bits .and .i64 a1 3))), .int .u32 0, .int .u64 0, .int .i64 x2_6, .int .i64 (Go.bits .and .i64 a0_0 7), .int .u32 (Go.bits .and .u32 a0_1 63), .bool a0_2, .bool a0_3] 36 (0, 0)) (by (with_reducible repeat (first | refine blk_drewN ?_ _ | refine blk_drew ?_ | refine blk_alloc ?_ _)); exact BK268.out)) : gb268 ≠ gb273)); have n10_ := Aside0.mk ((by rw [hg]; exact Nat.ne_of_gt (blk_lt (g := gb268) (o := .cells #[.int .i64 (wrap64 (1 + (Go.bits .and .i64 a1 3))), .int .u32 0, .int .u64 0, .int .i64 x2_6, .int .i64 (Go.bits .and .i64 a0_0 7), .int .u32 (Go.bits .and .u32 a0_1 63), .bool a0_2, .bool a0_3] 36 (0, 0)) (by (with_reducible repeat (first | refine blk_drewN ?_ _ | refine blk_drew ?_ | refine blk_alloc ?_ _)); exact BK268.out)) : gb273 ≠ gb268)); have n11_ := Aside0.mk ((by rw [hg]; exact Nat.ne_of_lt (blk_lt (g := gb269) (o := .cells #[.bool true, .bool false, .bool a3, .int .i64 0, .bool false, .bool false, .int .u64 0, .int .u64 0, .int .u32 ji19, .int .u32 0, .int .u32 0, .int .i64 0] 38 (0, 0)) (by (with_reducible repeat (first | refine blk_drewN ?_ _ | refine blk_drew ?_ | refine blk_alloc ?_ _)); exact BK269.out)) : gb269 ≠ gb273)); have n12_ := Aside0.mk ((by rw [hg]; exact Nat.ne_of_gt (blk_lt (g := gb269) (o := .cells #[.bool true, .bool false, .bool a3, .int .i64 0, .bool false, .bool false, .int .u64 0, .int .u64 0, .int .u32 ji19, .int .u32 0, .int .u32 0, .int .i64 0] 38 (0, 0)) (by (with_reducible repeat (first | refine blk_drewN ?_ _ | refine blk_drew ?_ | refine blk_alloc ?_ _)); exact BK269.out)) : gb273 ≠ gb269)); clear BK266; clear BK268; clear BK269; clear HB; have BK266 := n0_; have BK268 := n1_; have BK269 := n2_; have HB := n3_; have BK273 := n4_; have GW273 := n5_; have GE273 := n6_; have NB266_273 := n7_; have NB273_266 := n8_; have NB268_273 := n9_; have NB273_268 := n10_; have NB269_273 := n11_; have NB273_269 := n12_; clear n0_ n1_ n2_ n3_ n4_ n5_ n6_ n7_ n8_ n9_ n10_ n11_ n12_; clear hb hbox hg; have hnb35 := NB273_266.out; have hnc35 := NB266_273.out; have hnb36 := NB273_268.out; have hnc36 := NB268_273.out; have hnb37 := NB273_269.out; have hnc37 := NB269_273.out; have hcz38_0 : w34.cell? ⟨gb273, 0, none⟩ = some (.int .i64 0) := (blk_cell BK273.out 0).trans rfl; have hcz38_1 : w34.cell? ⟨gb273, 1, none⟩ = some (.int .i64 0) := (blk_cell BK273.out 1).trans rfl; have hcz38_2 : w34.cell? ⟨gb273, 2, none⟩ = some (.int .i64 0) := (blk_cell BK273.out 2).trans rfl; have hfz38_0 := blk_frozen BK273.out 0; have hfz38_1 := blk_frozen BK273.out 1; have hfz38_2 := blk_frozen BK273.out 2; have hcz39_0 : w34.cell? ⟨gb268, 0, none⟩ = some (.int .i64 (wrap64 (1 + (Go.bits .and .i64 a1 3)))) := (blk_cell BK268.out 0).trans rfl; have hcz39_1 : w34.cell? ⟨gb268, 1, none⟩ = some (.int .u32 0) := (blk_cell BK268.out 1).trans rfl; have hcz39_2 : w34.cell? ⟨gb268, 2, none⟩ = some (.int .u64 0) := (blk_cell BK268.out 2).trans rfl; have hcz39_3 : w34.cell? ⟨gb268, 3, none⟩ = some (.int .i64 x2_6) := (blk_cell BK268.out 3).trans rfl; have hcz39_4 : w34.cell? ⟨gb268, 4, none⟩ = some (.int .i64 (Go.bits .and .i64 a0_0 7)) := (blk_cell BK268.out 4).trans rfl; have hcz39_5 : w34.cell? ⟨gb268, 5, none⟩ = some (.int .u32 (Go.bits .and .u32 a0_1 63)) := (blk_cell BK268.out 5).trans rfl; have hcz39_6 : w34.cell? ⟨gb268, 6, none⟩ = some (.bool a0_2) := (blk_cell BK268.out 6).trans rfl; have hcz39_7 : w34.cell? ⟨gb268, 7, none⟩ = some (.bool a0_3) := (blk_cell BK268.out 7).trans rfl; have hfz39_0 := blk_frozen BK268.out 0; have hfz39_1 := blk_frozen BK268.out 1; have hfz39_2 := blk_frozen BK268.out 2; have hfz39_3 := blk_frozen BK268.out 3; have hfz39_4 := blk_frozen BK268.out 4; have hfz39_5 := blk_frozen BK268.out 5; have hfz39_6 := blk_frozen BK268.out 6; have hfz39_7 := blk_frozen BK268.out 7; have hcz40_0 : w34.cell? ⟨gb269, 0, none⟩ = some (.bool true) := (blk_cell BK269.out 0).trans rfl; have hcz40_1 : w34.cell? ⟨gb269, 1, none⟩ = some (.bool false) := (blk_cell BK269.out 1).trans rfl; have hcz40_2 : w34.cell? ⟨gb269, 2, none⟩ = some (.bool a3) := (blk_cell BK269.out 2).trans rfl; have hcz40_3 : w34.cell? ⟨gb269, 3, none⟩ = some (.int .i64 0) := (blk_cell BK269.out 3).trans rfl; have hcz40_4 : w34.cell? ⟨gb269, 4, none⟩ = some (.bool false) := (blk_cell BK269.out 4).trans rfl; have hcz40_5 : w34.cell? ⟨gb269, 5, none⟩ = some (.bool false) := (blk_cell BK269.out 5).trans rfl; have hcz40_6 : w34.cell? ⟨gb269, 6, none⟩ = some (.int .u64 0) := (blk_cell BK269.out 6).trans rfl; have hcz40_7 : w34.cell? ⟨gb269, 7, none⟩ = some (.int .u64 0) := (blk_cell BK269.out 7).trans rfl; have hcz40_8 : w34.cell? ⟨gb269, 8, none⟩ = some (.int .u32 ji19) := (blk_cell BK269.out 8).trans rfl; have hcz40_9 : w34.cell? ⟨gb269, 9, none⟩ = some (.int .u32 0) := (blk_cell BK269.out 9).trans rfl; have hcz40_10 : w34.cell? ⟨gb269, 10, none⟩ = some (.int .u32 0) := (blk_cell BK269.out 10).trans rfl; have hcz40_11 : w34.cell? ⟨gb269, 11, none⟩ = some (.int .i64 0) := (blk_cell BK269.out 11).trans rfl; have hfz40_0 := blk_frozen BK269.out 0; have hfz40_1 := blk_frozen BK269.out 1; have hfz40_2 := blk_frozen BK269.out 2; have hfz40_3 := blk_frozen BK269.out 3; have hfz40_4 := blk_frozen BK269.out 4; have hfz40_5 := blk_frozen BK269.out 5; have hfz40_6 := blk_frozen BK269.out 6; have hfz40_7 := blk_frozen BK269.out 7; have hfz40_8 := blk_frozen BK269.out 8; have hfz40_9 := blk_frozen BK269.out 9; have hfz40_10 := blk_frozen BK269.out 10; have hfz40_11 := blk_frozen BK269.out 11) | ((with_reducible refine gate_callee (f := 16) rfl ?_); refine goesL_ (some 59) rfl rfl Tryd.func16 (by kernel_rfl) rfl #[.agg #[.int .i64 (wrap64 (1 + (Go.bits .and .i64 a1 3))), .int .u32 0, .int .u64 0, .int .i64 x2_6, .int .i64 (Go.bits .and .i64 a0_0 7), .int .u32 (Go.bits .and .u32 a0_1 63), .bool a0_2, .bool a0_3], .agg #[.bool true, .bool false, .bool a3, .int .i64 0, .bool false, .bool false, .int .u64 0, .int .u64 0, .int .u32 ji19, .int .u32 0, .int .u32 0, .int .i64 0], .bool true, .int .i64 x12_3] rfl (by (try simp only [List.map_toArray, List.map_cons, List.map_nil]); first | done | (simp only [hji19]; rfl) | rfl | (simp only [List.length_drop, List.length_take]; rfl)) ?_; (with_reducible refine (rights_Check.calls k3 (wrap64 (1 + (Go.bits .and .i64 a1 3))) 0 0 x2_6 (Go.bits .and .i64 a0_0 7) (Go.bits .and .u32 a0_1 63) a0_2 a0_3 true false a3 0 false false 0 0 ji19 0 0 0 true x12_3 t274 t275 t276 _ ?side1 ?side2 ?side3 A26.out).mono ?_); (case side1 => exact ⟨G0.below hG0.out (by repeat (first | (with_reducible first | exact HB.out | apply below_alloc | apply pw_below_drewN | apply below_drew1 | refine below_set ?_ GE266.out | refine below_set ?_ GE268.out | refine below_set ?_ GE269.out | refine below_set ?_ GE273.out) | exact HB.out))⟩); (case side2 => exact ⟨G1.below hG1.out (by repeat (first | (with_reducible first | exact HB.out | apply below_alloc | apply pw_below_drewN | apply below_drew1 | refine below_set ?_ GE266.out | refine below_set ?_ GE268.out | refine below_set ?_ GE269.out | refine below_set ?_ GE273.out) | exact HB.out))⟩); (case side3 => exact ⟨G3.below hG3.out (by repeat (first | (with_reducible first | exact HB.out | apply below_alloc | apply pw_below_drewN | apply below_drew1 | refine below_set ?_ GE266.out | refine below_set ?_ GE268.out | refine below_set ?_ GE269.out | refine below_set ?_ GE273.out) | exact HB.out))⟩); rintro e w41 ⟨rfl, hb⟩; refine ⟨_, rfl, ?_⟩; have n0_ := Aside0.mk (blk_below (g := gb266) (o := .cells #[.int .i64 (Go.bits .and .i64 a0_0 7), .int .u32 (Go.bits .and .u32 a0_1 63), .bool a0_2, .bool a0_3] 24 (0, 0)) (by (with_reducible repeat (first | refine blk_drewN ?_ _ | refine blk_drew ?_ | refine blk_alloc ?_ _)); refine blk_far ?_ NB266_273.out _; (with_reducible repeat (first | refine blk_drewN ?_ _ | refine blk_drew ?_ | refine blk_alloc ?_ _)); refine blk_far ?_ NB266_273.out _; (with_reducible repeat (first | refine blk_drewN ?_ _ | refine blk_drew ?_ | refine blk_alloc ?_ _)); refine blk_far ?_ NB266_273.out _; (with_reducible repeat (first | refine blk_drewN ?_ _ | refine blk_drew ?_ | refine blk_alloc ?_ _)); exact BK266.out) hb); have n1_ := Aside0.mk (blk_below (g := gb268) (o := .cells #[.int .i64 (wrap64 (1 + (Go.bits .and .i64 a1 3))), .int .u32 0, .int .u64 0, .int .i64 x2_6, .int .i64 (Go.bits .and .i64 a0_0 7), .int .u32 (Go.bits .and .u32 a0_1 63), .bool a0_2, .bool a0_3] 36 (0, 0)) (by (with_reducible repeat (first | refine blk_drewN ?_ _ | refine blk_drew ?_ | refine blk_alloc ?_ _)); refine blk_far ?_ NB268_273.out _; (with_reducible repeat (first | refine blk_drewN ?_ _ | refine blk_drew ?_ | refine blk_alloc ?_ _)); refine blk_far ?_ NB268_273.out _; (with_reducible repeat (first | refine blk_drewN ?_ _ | refine blk_drew ?_ | refine blk_alloc ?_ _)); refine blk_far ?_ NB268_273.out _; (with_reducible repeat (first | refine blk_drewN ?_ _ | refine blk_drew ?_ | refine blk_alloc ?_ _)); exact BK268.out) hb); have n2_ := Aside0.mk (blk_below (g := gb269) (o := .cells #[.bool true, .bool false, .bool a3, .int .i64 0, .bool false, .bool false, .int .u64 0, .int .u64 0, .int .u32 ji19, .int .u32 0, .int .u32 0, .int .i64 0] 38 (0, 0)) (by (with_reducible repeat (first | refine blk_drewN ?_ _ | refine blk_drew ?_ | refine blk_alloc ?_ _)); refine blk_far ?_ NB269_273.out _; (with_reducible repeat (first | refine blk_drewN ?_ _ | refine blk_drew ?_ | refine blk_alloc ?_ _)); refine blk_far ?_ NB269_273.out _; (with_reducible repeat (first | refine blk_drewN ?_ _ | refine blk_drew ?_ | refine blk_alloc ?_ _)); refine blk_far ?_ NB269_273.out _; (with_reducible repeat (first | refine blk_drewN ?_ _ | refine blk_drew ?_ | refine blk_alloc ?_ _)); exact BK269.out) hb); have n3_ := Aside0.mk (blk_below (g := gb273) (o := .cells #[.int .i64 t270, .int .i64 t271, .int .i64 t272] 40 (0, 0)) (by (with_reducible repeat (first | refine blk_drewN ?_ _ | refine blk_drew ?_ | refine blk_alloc ?_ _)); refine blk_put (cs := #[.int .i64 t270, .int .i64 t271, .int .i64 0]) ?_ 2 _ rfl; (with_reducible repeat (first | refine blk_drewN ?_ _ | refine blk_drew ?_ | refine blk_alloc ?_ _)); refine blk_put (cs := #[.int .i64 t270, .int .i64 0, .int .i64 0]) ?_ 1 _ rfl; (with_reducible repeat (first | refine blk_drewN ?_ _ | refine blk_drew ?_ | refine blk_alloc ?_ _)); refine blk_put (cs := #[.int .i64 0, .int .i64 0, .int .i64 0]) ?_ 0 _ rfl; (with_reducible repeat (first | refine blk_drewN ?_ _ | refine blk_drew ?_ | refine blk_alloc ?_ _)); exact BK273.out) hb); have n4_ := Aside0.mk (below_step (by repeat (first | (with_reducible first | exact HB.out | apply below_alloc | apply pw_below_drewN | apply below_drew1 | refine below_set ?_ GE266.out | refine below_set ?_ GE268.out | refine below_set ?_ GE269.out | refine below_set ?_ GE273.out) | exact HB.out)) hb); clear BK266; clear BK268; clear BK269; clear BK273; clear HB; have BK266 := n0_; have BK268 := n1_; have BK269 := n2_; have BK273 := n3_; have HB := n4_; clear n0_ n1_ n2_ n3_ n4_; (try clear hb); (try clear hb2); (try clear hk); (try clear hi)) | ((with_reducible refine gate_dst (N := 14) rfl ?_); refine box_event ?hg (N := 14) ?hd (cs := #[.int .i64 0, .int .i64 0, .int .i64 0]) (t := 40) ?hr ?_; (case hd => rfl); (case hg => rfl); (case hr => first | (go_simp; done) | (go_simp; rfl)); intro gb277 hg w42 hbox hb; have n0_ := Aside0.mk (blk_below (g := gb266) (o := .cells #[.int .i64 (Go.bits .and .i64 a0_0 7), .int .u32 (Go.bits .and .u32 a0_1 63), .bool a0_2, .bool a0_3] 24 (0, 0)) (by (with_reducible repeat (first | refine blk_drewN ?_ _ | refine blk_drew ?_ | refine blk_alloc ?_ _)); exact BK266.out) hb); have n1_ := Aside0.mk (blk_below (g := gb268) (o := .cells #[.int .i64 (wrap64 (1 + (Go.bits .and .i64 a1 3))), .int .u32 0, .int .u64 0, .int .i64 x2_6, .int .i64 (Go.bits .and .i64 a0_0 7), .int .u32 (Go.bits .and .u32 a0_1 63), .bool a0_2, .bool a0_3] 36 (0, 0)) (by (with_reducible repeat (first | refine blk_drewN ?_ _ | refine blk_drew ?_ | refine blk_alloc ?_ _)); exact BK268.out) hb); have n2_ := Aside0.mk (blk_below (g := gb269) (o := .cells #[.bool true, .bool false, .bool a3, .int .i64 0, .bool false, .bool false, .int .u64 0, .int .u64 0, .int .u32 ji19, .int .u32 0, .int .u32 0, .int .i64 0] 38 (0, 0)) (by (with_reducible repeat (first | refine blk_drewN ?_ _ | refine blk_drew ?_ | refine blk_alloc ?_ _)); exact BK269.out) hb); have n3_ := Aside0.mk (blk_below (g := gb273) (o := .cells #[.int .i64 t270, .int .i64 t271, .int .i64 t272] 40 (0, 0)) (by (with_reducible repeat (first | refine blk_drewN ?_ _ | refine blk_drew ?_ | refine blk_alloc ?_ _)); exact BK273.out) hb); have n4_ := Aside0.mk (below_step (by repeat (first | (with_reducible first | exact HB.out | apply below_alloc | apply pw_below_drewN | apply below_drew1 | refine below_set ?_ GE266.out | refine below_set ?_ GE268.out | refine below_set ?_ GE269.out | refine below_set ?_ GE273.out) | exact HB.out)) hb); have n5_ := Aside0.mk (hbox); have n6_ := Aside0.mk ((by rw [hg]; exact (below_size (by repeat (first | (with_reducible first | exact HB.out | apply below_alloc | apply pw_below_drewN | apply below_drew1 | refine below_set ?_ GE266.out | refine below_set ?_ GE268.out | refine below_set ?_ GE269.out | refine below_set ?_ GE273.out) | exact HB.out))) : w.heap.size ≤ gb277)); have n7_ := Aside0.mk ((by rw [hg]; exact (below_size (by repeat (first | (with_reducible first | exact HB.out | apply below_alloc | apply pw_below_drewN | apply below_drew1 | refine below_set ?_ GE266.out | refine below_set ?_ GE268.out | refine below_set ?_ GE269.out | refine below_set ?_ GE273.out) | exact HB.out))) : w.heap.size ≤ gb277)); have n8_ := Aside0.mk ((by rw [hg]; exact Nat.ne_of_lt (blk_lt (g := gb266) (o := .cells #[.int .i64 (Go.bits .and .i64 a0_0 7), .int .u32 (Go.bits .and .u32 a0_1 63), .bool a0_2, .bool a0_3] 24 (0, 0)) (by (with_reducible repeat (first | refine blk_drewN ?_ _ | refine blk_drew ?_ | refine blk_alloc ?_ _)); exact BK266.out)) : gb266 ≠ gb277)); have n9_ := Aside0.mk ((by rw [hg]; exact Nat.ne_of_gt (blk_lt (g := gb266) (o := .cells #[.int .i64 (Go.bits .and .i64 a0_0 7), .int .u32 (Go.bits .and .u32 a0_1 63), .bool a0_2, .bool a0_3] 24 (0, 0)) (by (with_reducible repeat (first | refine blk_drewN ?_ _ | refine blk_drew ?_ | refine blk_alloc ?_ _)); exact BK266.out)) : gb277 ≠ gb266)); have n10_ := Aside0.mk ((by rw [hg]; exact Nat.ne_of_lt (blk_lt (g := gb268) (o := .cells #[.int .i64 (wrap64 (1 + (Go.bits .and .i64 a1 3))), .int .u32 0, .int .u64 0, .int .i64 x2_6, .int .i64 (Go.bits .and .i64 a0_0 7), .int .u32 (Go.bits .and .u32 a0_1 63), .bool a0_2, .bool a0_3] 36 (0, 0)) (by (with_reducible repeat (first | refine blk_drewN ?_ _ | refine blk_drew ?_ | refine blk_alloc ?_ _)); exact BK268.out)) : gb268 ≠ gb277)); have n11_ := Aside0.mk ((by rw [hg]; exact Nat.ne_of_gt (blk_lt (g := gb268) (o := .cells #[.int .i64 (wrap64 (1 + (Go.bits .and .i64 a1 3))), .int .u32 0, .int .u64 0, .int .i64 x2_6, .int .i64 (Go.bits .and .i64 a0_0 7), .int .u32 (Go.bits .and .u32 a0_1 63), .bool a0_2, .bool a0_3] 36 (0, 0)) (by (with_reducible repeat (first | refine blk_drewN ?_ _ | refine blk_drew ?_ | refine blk_alloc ?_ _)); exact BK268.out)) : gb277 ≠ gb268)); have n12_ := Aside0.mk ((by rw [hg]; exact Nat.ne_of_lt (blk_lt (g := gb269) (o := .cells #[.bool true, .bool false, .bool a3, .int .i64 0, .bool false, .bool false, .int .u64 0, .int .u64 0, .int .u32 ji19, .int .u32 0, .int .u32 0, .int .i64 0] 38 (0, 0)) (by (with_reducible repeat (first | refine blk_drewN ?_ _ | refine blk_drew ?_ | refine blk_alloc ?_ _)); exact BK269.out)) : gb269 ≠ gb277)); have n13_ := Aside0.mk ((by rw [hg]; exact Nat.ne_of_gt (blk_lt (g := gb269) (o := .cells #[.bool true, .bool false, .bool a3, .int .i64 0, .bool false, .bool false, .int .u64 0, .int .u64 0, .int .u32 ji19, .int .u32 0, .int .u32 0, .int .i64 0] 38 (0, 0)) (by (with_reducible repeat (first | refine blk_drewN ?_ _ | refine blk_drew ?_ | refine blk_alloc ?_ _)); exact BK269.out)) : gb277 ≠ gb269)); have n14_ := Aside0.mk ((by rw [hg]; exact Nat.ne_of_lt (blk_lt (g := gb273) (o := .cells #[.int .i64 t270, .int .i64 t271, .int .i64 t272] 40 (0, 0)) (by (with_reducible repeat (first | refine blk_drewN ?_ _ | refine blk_drew ?_ | refine blk_alloc ?_ _)); exact BK273.out)) : gb273 ≠ gb277)); have n15_ := Aside0.mk ((by rw [hg]; exact Nat.ne_of_gt (blk_lt (g := gb273) (o := .cells #[.int .i64 t270, .int .i64 t271, .int .i64 t272] 40 (0, 0)) (by (with_reducible repeat (first | refine blk_drewN ?_ _ | refine blk_drew ?_ | refine blk_alloc ?_ _)); exact BK273.out)) : gb277 ≠ gb273)); clear BK266; clear BK268; clear BK269; clear BK273; clear HB; have BK266 := n0_; have BK268 := n1_; have BK269 := n2_; have BK273 := n3_; have HB := n4_; have BK277 := n5_; have GW277 := n6_; have GE277 := n7_; have NB266_277 := n8_; have NB277_266 := n9_; have NB268_277 := n10_; have NB277_268 := n11_; have NB269_277 := n12_; have NB277_269 := n13_; have NB273_277 := n14_; have NB277_273 := n15_; clear n0_ n1_ n2_ n3_ n4_ n5_ n6_ n7_ n8_ n9_ n10_ n11_ n12_ n13_ n14_ n15_; clear hb hbox hg; have hnb43 := NB277_266.out; have hnc43 := NB266_277.out; have hnb44 := NB277_268.out; have hnc44 := NB268_277.out; have hnb45 := NB277_269.out; have hnc45 := NB269_277.out; have hnb46 := NB277_273.out; have hnc46 := NB273_277.out; have hcz47_0 : w42.cell? ⟨gb277, 0, none⟩ = some (.int .i64 0) := (blk_cell BK277.out 0).trans rfl; have hcz47_1 : w42.cell? ⟨gb277, 1, none⟩ = some (.int .i64 0) := (blk_cell BK277.out 1).trans rfl; have hcz47_2 : w42.cell? ⟨gb277, 2, none⟩ = some (.int .i64 0) := (blk_cell BK277.out 2).trans rfl; have hfz47_0 := blk_frozen BK277.out 0; have hfz47_1 := blk_frozen BK277.out 1; have hfz47_2 := blk_frozen BK277.out 2))
           (try simp only [Act.put, List.setIfInBounds_toArray, List.set_cons_zero, List.set_cons_succ])
           go_cut [15] (fun v15 wc => ∃ (kq : Nat) (x15_26 : Bool), v15 = .bool x15_26 ∧ Aside0 (atlaslaw07_RightsPriv.j3 kq x2_6 a3 x10_2 x12_3 x15_26 (Go.bits .and .i64 a0_0 7) (Go.bits .and .u32 a0_1 63) a0_2 a0_3 (wrap64 (1 + (Go.bits .and .i64 a1 3))) 0 0 x2_6 (Go.bits .and .i64 a0_0 7) (Go.bits .and .u32 a0_1 63) a0_2 a0_3 true false a3 0 false false 0 0 ji19 0 0 0 t270 t271 t272 t274 t275 t276 = some r) ∧ Aside0 (kq ≤ k3) ∧ Aside0 (wc.heap[gb266]? = some (.cells #[.int .i64 (Go.bits .and .i64 a0_0 7), .int .u32 (Go.bits .and .u32 a0_1 63), .bool a0_2, .bool a0_3] 24 (0, 0))) ∧ Aside0 (wc.heap[gb268]? = some (.cells #[.int .i64 (wrap64 (1 + (Go.bits .and .i64 a1 3))), .int .u32 0, .int .u64 0, .int .i64 x2_6, .int .i64 (Go.bits .and .i64 a0_0 7), .int .u32 (Go.bits .and .u32 a0_1 63), .bool a0_2, .bool a0_3] 36 (0, 0))) ∧ Aside0 (wc.heap[gb269]? = some (.cells #[.bool true, .bool false, .bool a3, .int .i64 0, .bool false, .bool false, .int .u64 0, .int .u64 0, .int .u32 ji19, .int .u32 0, .int .u32 0, .int .i64 0] 38 (0, 0))) ∧ Aside0 (wc.heap[gb273]? = some (.cells #[.int .i64 t270, .int .i64 t271, .int .i64 t272] 40 (0, 0))) ∧ Aside0 (wc.heap[gb277]? = some (.cells #[.int .i64 t274, .int .i64 t275, .int .i64 t276] 40 (0, 0))) ∧ Aside0 (Below w.heap.size w wc))
           case first =>
            have H := HC27.out
            clear HC27
            by_cases c48 : a3 = true
            ·
             subst c48
             have H1 : (atlaslaw07_RightsPriv.j3 k3 x2_6 true x10_2 x12_3 ((Go.bits .and .i64 (Go.bits .and .i64 a0_0 7) 1) == 0) (Go.bits .and .i64 a0_0 7) (Go.bits .and .u32 a0_1 63) a0_2 a0_3 (wrap64 (1 + (Go.bits .and .i64 a1 3))) 0 0 x2_6 (Go.bits .and .i64 a0_0 7) (Go.bits .and .u32 a0_1 63) a0_2 a0_3 true false true 0 false false 0 0 ji19 0 0 0 t270 t271 t272 t274 t275 t276) = some r := by rw [if_pos rfl] at H; exact H
             clear H
             have H := H1
             clear H1
             have H' := Aside0.mk H
             clear H
             have hnb49 := NB266_268.out
             have hnc49 := NB268_266.out
             have hnb50 := NB266_269.out
             have hnc50 := NB269_266.out
             have hnb51 := NB266_273.out
             have hnc51 := NB273_266.out
             have hnb52 := NB266_277.out
             have hnc52 := NB277_266.out
             have hcz53_0 : w42.cell? ⟨gb266, 0, none⟩ = some (.int .i64 (Go.bits .and .i64 a0_0 7)) := (blk_cell BK266.out 0).trans rfl
             have hcz53_1 : w42.cell? ⟨gb266, 1, none⟩ = some (.int .u32 (Go.bits .and .u32 a0_1 63)) := (blk_cell BK266.out 1).trans rfl
             have hcz53_2 : w42.cell? ⟨gb266, 2, none⟩ = some (.bool a0_2) := (blk_cell BK266.out 2).trans rfl
             have hcz53_3 : w42.cell? ⟨gb266, 3, none⟩ = some (.bool a0_3) := (blk_cell BK266.out 3).trans rfl
             have hfz53_0 := blk_frozen BK266.out 0
             have hfz53_1 := blk_frozen BK266.out 1
             have hfz53_2 := blk_frozen BK266.out 2
             have hfz53_3 := blk_frozen BK266.out 3
             go_wp2
             go_meet
             case rel => exact ⟨_, (((Go.bits .and .i64 (Go.bits .and .i64 a0_0 7) 1) == 0)), (by first | rfl | (simp; done) | (simp [*]; done)), H', ⟨by have := HJ6.out; have := HK2.out; have := HK3.out; first | omega | exact Nat.le_refl _⟩, ⟨by (with_reducible repeat (first | refine blk_drewN ?_ _ | refine blk_drew ?_ | refine blk_alloc ?_ _)); refine blk_far ?_ NB266_277.out _; (with_reducible repeat (first | refine blk_drewN ?_ _ | refine blk_drew ?_ | refine blk_alloc ?_ _)); refine blk_far ?_ NB266_277.out _; (with_reducible repeat (first | refine blk_drewN ?_ _ | refine blk_drew ?_ | refine blk_alloc ?_ _)); refine blk_far ?_ NB266_277.out _; (with_reducible repeat (first | refine blk_drewN ?_ _ | refine blk_drew ?_ | refine blk_alloc ?_ _)); exact BK266.out⟩, ⟨by (with_reducible repeat (first | refine blk_drewN ?_ _ | refine blk_drew ?_ | refine blk_alloc ?_ _)); refine blk_far ?_ NB268_277.out _; (with_reducible repeat (first | refine blk_drewN ?_ _ | refine blk_drew ?_ | refine blk_alloc ?_ _)); refine blk_far ?_ NB268_277.out _; (with_reducible repeat (first | refine blk_drewN ?_ _ | refine blk_drew ?_ | refine blk_alloc ?_ _)); refine blk_far ?_ NB268_277.out _; (with_reducible repeat (first | refine blk_drewN ?_ _ | refine blk_drew ?_ | refine blk_alloc ?_ _)); exact BK268.out⟩, ⟨by (with_reducible repeat (first | refine blk_drewN ?_ _ | refine blk_drew ?_ | refine blk_alloc ?_ _)); refine blk_far ?_ NB269_277.out _; (with_reducible repeat (first | refine blk_drewN ?_ _ | refine blk_drew ?_ | refine blk_alloc ?_ _)); refine blk_far ?_ NB269_277.out _; (with_reducible repeat (first | refine blk_drewN ?_ _ | refine blk_drew ?_ | refine blk_alloc ?_ _)); refine blk_far ?_ NB269_277.out _; (with_reducible repeat (first | refine blk_drewN ?_ _ | refine blk_drew ?_ | refine blk_alloc ?_ _)); exact BK269.out⟩, ⟨by (with_reducible repeat (first | refine blk_drewN ?_ _ | refine blk_drew ?_ | refine blk_alloc ?_ _)); refine blk_far ?_ NB273_277.out _; (with_reducible repeat (first | refine blk_drewN ?_ _ | refine blk_drew ?_ | refine blk_alloc ?_ _)); refine blk_far ?_ NB273_277.out _; (with_reducible repeat (first | refine blk_drewN ?_ _ | refine blk_drew ?_ | refine blk_alloc ?_ _)); refine blk_far ?_ NB273_277.out _; (with_reducible repeat (first | refine blk_drewN ?_ _ | refine blk_drew ?_ | refine blk_alloc ?_ _)); exact BK273.out⟩, ⟨by (with_reducible repeat (first | refine blk_drewN ?_ _ | refine blk_drew ?_ | refine blk_alloc ?_ _)); refine blk_put (cs := #[.int .i64 t274, .int .i64 t275, .int .i64 0]) ?_ 2 _ rfl; (with_reducible repeat (first | refine blk_drewN ?_ _ | refine blk_drew ?_ | refine blk_alloc ?_ _)); refine blk_put (cs := #[.int .i64 t274, .int .i64 0, .int .i64 0]) ?_ 1 _ rfl; (with_reducible repeat (first | refine blk_drewN ?_ _ | refine blk_drew ?_ | refine blk_alloc ?_ _)); refine blk_put (cs := #[.int .i64 0, .int .i64 0, .int .i64 0]) ?_ 0 _ rfl; (with_reducible repeat (first | refine blk_drewN ?_ _ | refine blk_drew ?_ | refine blk_alloc ?_ _)); exact BK277.out⟩, ⟨by repeat (first | (with_reducible first | exact HB.out | apply below_alloc | apply pw_below_drewN | apply below_drew1 | refine below_set ?_ GE266.out | refine below_set ?_ GE268.out | refine below_set ?_ GE269.out | refine below_set ?_ GE273.out | refine below_set ?_ GE277.out) | exact HB.out)⟩⟩
            ·
             replace c48 := Bool.eq_false_iff.mpr c48
             subst c48
             have H1 : (atlaslaw07_RightsPriv.j3 k3 x2_6 false x10_2 x12_3 false (Go.bits .and .i64 a0_0 7) (Go.bits .and .u32 a0_1 63) a0_2 a0_3 (wrap64 (1 + (Go.bits .and .i64 a1 3))) 0 0 x2_6 (Go.bits .and .i64 a0_0 7) (Go.bits .and .u32 a0_1 63) a0_2 a0_3 true false false 0 false false 0 0 ji19 0 0 0 t270 t271 t272 t274 t275 t276) = some r := by rw [if_neg (show ¬ (false = true) by decide)] at H; exact H
             clear H
             have H := H1
             clear H1
             have H' := Aside0.mk H
             clear H
             go_wp2
             go_meet
             case rel => exact ⟨_, (false), (by first | rfl | (simp; done) | (simp [*]; done)), H', ⟨by have := HJ6.out; have := HK2.out; have := HK3.out; first | omega | exact Nat.le_refl _⟩, ⟨by (with_reducible repeat (first | refine blk_drewN ?_ _ | refine blk_drew ?_ | refine blk_alloc ?_ _)); refine blk_far ?_ NB266_277.out _; (with_reducible repeat (first | refine blk_drewN ?_ _ | refine blk_drew ?_ | refine blk_alloc ?_ _)); refine blk_far ?_ NB266_277.out _; (with_reducible repeat (first | refine blk_drewN ?_ _ | refine blk_drew ?_ | refine blk_alloc ?_ _)); refine blk_far ?_ NB266_277.out _; (with_reducible repeat (first | refine blk_drewN ?_ _ | refine blk_drew ?_ | refine blk_alloc ?_ _)); exact BK266.out⟩, ⟨by (with_reducible repeat (first | refine blk_drewN ?_ _ | refine blk_drew ?_ | refine blk_alloc ?_ _)); refine blk_far ?_ NB268_277.out _; (with_reducible repeat (first | refine blk_drewN ?_ _ | refine blk_drew ?_ | refine blk_alloc ?_ _)); refine blk_far ?_ NB268_277.out _; (with_reducible repeat (first | refine blk_drewN ?_ _ | refine blk_drew ?_ | refine blk_alloc ?_ _)); refine blk_far ?_ NB268_277.out _; (with_reducible repeat (first | refine blk_drewN ?_ _ | refine blk_drew ?_ | refine blk_alloc ?_ _)); exact BK268.out⟩, ⟨by (with_reducible repeat (first | refine blk_drewN ?_ _ | refine blk_drew ?_ | refine blk_alloc ?_ _)); refine blk_far ?_ NB269_277.out _; (with_reducible repeat (first | refine blk_drewN ?_ _ | refine blk_drew ?_ | refine blk_alloc ?_ _)); refine blk_far ?_ NB269_277.out _; (with_reducible repeat (first | refine blk_drewN ?_ _ | refine blk_drew ?_ | refine blk_alloc ?_ _)); refine blk_far ?_ NB269_277.out _; (with_reducible repeat (first | refine blk_drewN ?_ _ | refine blk_drew ?_ | refine blk_alloc ?_ _)); exact BK269.out⟩, ⟨by (with_reducible repeat (first | refine blk_drewN ?_ _ | refine blk_drew ?_ | refine blk_alloc ?_ _)); refine blk_far ?_ NB273_277.out _; (with_reducible repeat (first | refine blk_drewN ?_ _ | refine blk_drew ?_ | refine blk_alloc ?_ _)); refine blk_far ?_ NB273_277.out _; (with_reducible repeat (first | refine blk_drewN ?_ _ | refine blk_drew ?_ | refine blk_alloc ?_ _)); refine blk_far ?_ NB273_277.out _; (with_reducible repeat (first | refine blk_drewN ?_ _ | refine blk_drew ?_ | refine blk_alloc ?_ _)); exact BK273.out⟩, ⟨by (with_reducible repeat (first | refine blk_drewN ?_ _ | refine blk_drew ?_ | refine blk_alloc ?_ _)); refine blk_put (cs := #[.int .i64 t274, .int .i64 t275, .int .i64 0]) ?_ 2 _ rfl; (with_reducible repeat (first | refine blk_drewN ?_ _ | refine blk_drew ?_ | refine blk_alloc ?_ _)); refine blk_put (cs := #[.int .i64 t274, .int .i64 0, .int .i64 0]) ?_ 1 _ rfl; (with_reducible repeat (first | refine blk_drewN ?_ _ | refine blk_drew ?_ | refine blk_alloc ?_ _)); refine blk_put (cs := #[.int .i64 0, .int .i64 0, .int .i64 0]) ?_ 0 _ rfl; (with_reducible repeat (first | refine blk_drewN ?_ _ | refine blk_drew ?_ | refine blk_alloc ?_ _)); exact BK277.out⟩, ⟨by repeat (first | (with_reducible first | exact HB.out | apply below_alloc | apply pw_below_drewN | apply below_drew1 | refine below_set ?_ GE266.out | refine below_set ?_ GE268.out | refine below_set ?_ GE269.out | refine below_set ?_ GE273.out | refine below_set ?_ GE277.out) | exact HB.out)⟩⟩
           case rest =>
            clear HC27
            try clear c1
            try clear c2
            try clear p2
            try clear c3
            try clear c4
            try clear c5
            try clear c6
            try clear p6
            try clear c8
            try clear c11
            try clear c11b0
            try clear c11b1
            try clear c14
            try clear c16
            try clear c16b0
            try clear c18
            try clear c18b0
            try clear c18b1
            try clear c21
            try clear c22
            try clear c24
            try clear c24b0
            try clear c28
            try clear c29
            try clear c31
            try clear c35
            try clear c36
            try clear c37
            try clear c43
            try clear c44
            try clear c45
            try clear c46
            try clear c48
            try clear c49
            try clear c50
            try clear c51
            try clear c52
            try clear hcz10_0
            try clear hcz10_1
            try clear hcz10_2
            try clear hcz10_3
            try clear hcz12_0
            try clear hcz12_1
            try clear hcz12_2
            try clear hcz12_3
            try clear hcz15_0
            try clear hcz15_1
            try clear hcz15_2
            try clear hcz15_3
            try clear hcz15_4
            try clear hcz15_5
            try clear hcz15_6
            try clear hcz15_7
            try clear hcz23_0
            try clear hcz23_1
            try clear hcz23_10
            try clear hcz23_11
            try clear hcz23_2
            try clear hcz23_3
            try clear hcz23_4
            try clear hcz23_5
            try clear hcz23_6
            try clear hcz23_7
            try clear hcz23_8
            try clear hcz23_9
            try clear hcz30_0
            try clear hcz30_1
            try clear hcz30_2
            try clear hcz30_3
            try clear hcz30_4
            try clear hcz30_5
            try clear hcz30_6
            try clear hcz30_7
            try clear hcz32_0
            try clear hcz32_1
            try clear hcz32_10
            try clear hcz32_11
            try clear hcz32_2
            try clear hcz32_3
            try clear hcz32_4
            try clear hcz32_5
            try clear hcz32_6
            try clear hcz32_7
            try clear hcz32_8
            try clear hcz32_9
            try clear hcz38_0
            try clear hcz38_1
            try clear hcz38_2
            try clear hcz39_0
            try clear hcz39_1
            try clear hcz39_2
            try clear hcz39_3
            try clear hcz39_4
            try clear hcz39_5
            try clear hcz39_6
            try clear hcz39_7
            try clear hcz40_0
            try clear hcz40_1
            try clear hcz40_10
            try clear hcz40_11
            try clear hcz40_2
            try clear hcz40_3
            try clear hcz40_4
            try clear hcz40_5
            try clear hcz40_6
            try clear hcz40_7
            try clear hcz40_8
            try clear hcz40_9
            try clear hcz47_0
            try clear hcz47_1
            try clear hcz47_2
            try clear hcz53_0
            try clear hcz53_1
            try clear hcz53_2
            try clear hcz53_3
            try clear hfz10_0
            try clear hfz10_1
            try clear hfz10_2
            try clear hfz10_3
            try clear hfz12_0
            try clear hfz12_1
            try clear hfz12_2
            try clear hfz12_3
            try clear hfz15_0
            try clear hfz15_1
            try clear hfz15_2
            try clear hfz15_3
            try clear hfz15_4
            try clear hfz15_5
            try clear hfz15_6
            try clear hfz15_7
            try clear hfz23_0
            try clear hfz23_1
            try clear hfz23_10
            try clear hfz23_11
            try clear hfz23_2
            try clear hfz23_3
            try clear hfz23_4
            try clear hfz23_5
            try clear hfz23_6
            try clear hfz23_7
            try clear hfz23_8
            try clear hfz23_9
            try clear hfz30_0
            try clear hfz30_1
            try clear hfz30_2
            try clear hfz30_3
            try clear hfz30_4
            try clear hfz30_5
            try clear hfz30_6
            try clear hfz30_7
            try clear hfz32_0
            try clear hfz32_1
            try clear hfz32_10
            try clear hfz32_11
            try clear hfz32_2
            try clear hfz32_3
            try clear hfz32_4
            try clear hfz32_5
            try clear hfz32_6
            try clear hfz32_7
            try clear hfz32_8
            try clear hfz32_9
            try clear hfz38_0
            try clear hfz38_1
            try clear hfz38_2
            try clear hfz39_0
            try clear hfz39_1
            try clear hfz39_2
            try clear hfz39_3
            try clear hfz39_4
            try clear hfz39_5
            try clear hfz39_6
            try clear hfz39_7
            try clear hfz40_0
            try clear hfz40_1
            try clear hfz40_10
            try clear hfz40_11
            try clear hfz40_2
            try clear hfz40_3
            try clear hfz40_4
            try clear hfz40_5
            try clear hfz40_6
            try clear hfz40_7
            try clear hfz40_8
            try clear hfz40_9
            try clear hfz47_0
            try clear hfz47_1
            try clear hfz47_2
            try clear hfz53_0
            try clear hfz53_1
            try clear hfz53_2
            try clear hfz53_3
            try clear p2
            try clear p6
            obtain ⟨kq, x15_26, rfl, HA, HJ26, BK266, BK268, BK269, BK273, BK277, HB⟩ := hcut
            cases kq with
            | zero => exact absurd HA.out (by simp [atlaslaw07_RightsPriv.j3])
            | succ kj26 =>
             have H := HA.out
             clear HA
             simp only [atlaslaw07_RightsPriv.j3] at H
             have HC54 := Aside0.mk H
             clear H
             go_upto_region 20 with (fail)
             go_cut [88] (fun v88 wc => ∃ (kq : Nat) (x88_53 : Bool), v88 = .bool x88_53 ∧ Aside0 (atlaslaw07_RightsPriv.j4 kq x2_6 a3 x10_2 x12_3 x15_26 x88_53 (Go.bits .and .i64 a0_0 7) (Go.bits .and .u32 a0_1 63) a0_2 a0_3 (wrap64 (1 + (Go.bits .and .i64 a1 3))) 0 0 x2_6 (Go.bits .and .i64 a0_0 7) (Go.bits .and .u32 a0_1 63) a0_2 a0_3 true false a3 0 false false 0 0 ji19 0 0 0 t270 t271 t272 t274 t275 t276 = some r) ∧ Aside0 (kq ≤ kj26) ∧ Aside0 (wc.heap[gb266]? = some (.cells #[.int .i64 (Go.bits .and .i64 a0_0 7), .int .u32 (Go.bits .and .u32 a0_1 63), .bool a0_2, .bool a0_3] 24 (0, 0))) ∧ Aside0 (wc.heap[gb268]? = some (.cells #[.int .i64 (wrap64 (1 + (Go.bits .and .i64 a1 3))), .int .u32 0, .int .u64 0, .int .i64 x2_6, .int .i64 (Go.bits .and .i64 a0_0 7), .int .u32 (Go.bits .and .u32 a0_1 63), .bool a0_2, .bool a0_3] 36 (0, 0))) ∧ Aside0 (wc.heap[gb269]? = some (.cells #[.bool true, .bool false, .bool a3, .int .i64 0, .bool false, .bool false, .int .u64 0, .int .u64 0, .int .u32 ji19, .int .u32 0, .int .u32 0, .int .i64 0] 38 (0, 0))) ∧ Aside0 (wc.heap[gb273]? = some (.cells #[.int .i64 t270, .int .i64 t271, .int .i64 t272] 40 (0, 0))) ∧ Aside0 (wc.heap[gb277]? = some (.cells #[.int .i64 t274, .int .i64 t275, .int .i64 t276] 40 (0, 0))) ∧ Aside0 (Below w.heap.size w wc))
             case first =>
              have H := HC54.out
              clear HC54
              by_cases c55 : t270 = 0
              ·
               rw [if_pos c55] at H
               have c55b0 : (t270 == 0) = true := beq_iff_eq.mpr c55
               have c55b1 : (t270 != 0) = false := bne_eq_false_iff_eq.mpr c55
               clear c55
               (first | rw [c55b0] | (simp only [i64_w, i32_w]; rw [c55b0]) | skip)
               by_cases c56 : t274 = 0
               ·
                rw [if_pos c56] at H
                have c56b0 : (t274 == 0) = true := beq_iff_eq.mpr c56
                have c56b1 : (t274 != 0) = false := bne_eq_false_iff_eq.mpr c56
                clear c56
                by_cases c57 : (x15_26 != (t270 == 7)) = true
                ·
                 rw [if_pos c57] at H
                 have c57b0 : (x15_26 != (t270 == 7)) = true := c57
                 (try (have c57b1 : decide (x15_26 = (t270 == 7)) = false := by simpa using c57))
                 (try (have c57b2 : (x15_26 == (t270 == 7)) = false := by simpa using c57))
                 (try (have c57b3 : ¬ (x15_26 = (t270 == 7)) := by simpa using c57))
                 clear c57
                 have H' := Aside0.mk H
                 clear H
                 have hnb58 := NB273_266.out
                 have hnc58 := NB266_273.out
                 have hnb59 := NB273_268.out
                 have hnc59 := NB268_273.out
                 have hnb60 := NB273_269.out
                 have hnc60 := NB269_273.out
                 have hnb61 := NB273_277.out
                 have hnc61 := NB277_273.out
                 have hcz62_0 : wc.cell? ⟨gb273, 0, none⟩ = some (.int .i64 t270) := (blk_cell BK273.out 0).trans rfl
                 have hcz62_1 : wc.cell? ⟨gb273, 1, none⟩ = some (.int .i64 t271) := (blk_cell BK273.out 1).trans rfl
                 have hcz62_2 : wc.cell? ⟨gb273, 2, none⟩ = some (.int .i64 t272) := (blk_cell BK273.out 2).trans rfl
                 have hfz62_0 := blk_frozen BK273.out 0
                 have hfz62_1 := blk_frozen BK273.out 1
                 have hfz62_2 := blk_frozen BK273.out 2
                 have hnb63 := NB277_266.out
                 have hnc63 := NB266_277.out
                 have hnb64 := NB277_268.out
                 have hnc64 := NB268_277.out
                 have hnb65 := NB277_269.out
                 have hnc65 := NB269_277.out
                 have hcz66_0 : wc.cell? ⟨gb277, 0, none⟩ = some (.int .i64 t274) := (blk_cell BK277.out 0).trans rfl
                 have hcz66_1 : wc.cell? ⟨gb277, 1, none⟩ = some (.int .i64 t275) := (blk_cell BK277.out 1).trans rfl
                 have hcz66_2 : wc.cell? ⟨gb277, 2, none⟩ = some (.int .i64 t276) := (blk_cell BK277.out 2).trans rfl
                 have hfz66_0 := blk_frozen BK277.out 0
                 have hfz66_1 := blk_frozen BK277.out 1
                 have hfz66_2 := blk_frozen BK277.out 2
                 go_wp2
                 go_meet
                 case rel => exact ⟨_, (true), (by first | rfl | (simp; done) | (simp [*]; done)), H', ⟨by have := HJ6.out; have := HK2.out; have := HK3.out; have := HJ26.out; first | omega | exact Nat.le_refl _⟩, ⟨by (with_reducible repeat (first | refine blk_drewN ?_ _ | refine blk_drew ?_ | refine blk_alloc ?_ _)); exact BK266.out⟩, ⟨by (with_reducible repeat (first | refine blk_drewN ?_ _ | refine blk_drew ?_ | refine blk_alloc ?_ _)); exact BK268.out⟩, ⟨by (with_reducible repeat (first | refine blk_drewN ?_ _ | refine blk_drew ?_ | refine blk_alloc ?_ _)); exact BK269.out⟩, ⟨by (with_reducible repeat (first | refine blk_drewN ?_ _ | refine blk_drew ?_ | refine blk_alloc ?_ _)); exact BK273.out⟩, ⟨by (with_reducible repeat (first | refine blk_drewN ?_ _ | refine blk_drew ?_ | refine blk_alloc ?_ _)); exact BK277.out⟩, ⟨by repeat (first | (with_reducible first | exact HB.out | apply below_alloc | apply pw_below_drewN | apply below_drew1 | refine below_set ?_ GE266.out | refine below_set ?_ GE268.out | refine below_set ?_ GE269.out | refine below_set ?_ GE273.out | refine below_set ?_ GE277.out) | exact HB.out)⟩⟩
                ·
                 rw [if_neg c57] at H
                 have c57b0 : (x15_26 != (t270 == 7)) = false := by simpa using c57
                 (try (have c57b1 : decide (x15_26 = (t270 == 7)) = true := by simpa using c57))
                 (try (have c57b2 : (x15_26 == (t270 == 7)) = true := by simpa using c57))
                 clear c57
                 have H' := Aside0.mk H
                 clear H
                 have hnb67 := NB273_266.out
                 have hnc67 := NB266_273.out
                 have hnb68 := NB273_268.out
                 have hnc68 := NB268_273.out
                 have hnb69 := NB273_269.out
                 have hnc69 := NB269_273.out
                 have hnb70 := NB273_277.out
                 have hnc70 := NB277_273.out
                 have hcz71_0 : wc.cell? ⟨gb273, 0, none⟩ = some (.int .i64 t270) := (blk_cell BK273.out 0).trans rfl
                 have hcz71_1 : wc.cell? ⟨gb273, 1, none⟩ = some (.int .i64 t271) := (blk_cell BK273.out 1).trans rfl
                 have hcz71_2 : wc.cell? ⟨gb273, 2, none⟩ = some (.int .i64 t272) := (blk_cell BK273.out 2).trans rfl
                 have hfz71_0 := blk_frozen BK273.out 0
                 have hfz71_1 := blk_frozen BK273.out 1
                 have hfz71_2 := blk_frozen BK273.out 2
                 have hnb72 := NB277_266.out
                 have hnc72 := NB266_277.out
                 have hnb73 := NB277_268.out
                 have hnc73 := NB268_277.out
                 have hnb74 := NB277_269.out
                 have hnc74 := NB269_277.out
                 have hcz75_0 : wc.cell? ⟨gb277, 0, none⟩ = some (.int .i64 t274) := (blk_cell BK277.out 0).trans rfl
                 have hcz75_1 : wc.cell? ⟨gb277, 1, none⟩ = some (.int .i64 t275) := (blk_cell BK277.out 1).trans rfl
                 have hcz75_2 : wc.cell? ⟨gb277, 2, none⟩ = some (.int .i64 t276) := (blk_cell BK277.out 2).trans rfl
                 have hfz75_0 := blk_frozen BK277.out 0
                 have hfz75_1 := blk_frozen BK277.out 1
                 have hfz75_2 := blk_frozen BK277.out 2
                 go_wp2
                 go_meet
                 case rel => exact ⟨_, ((x15_26 != (t274 == 7))), (by first | rfl | (simp; done) | (simp [*]; done)), H', ⟨by have := HJ6.out; have := HK2.out; have := HK3.out; have := HJ26.out; first | omega | exact Nat.le_refl _⟩, ⟨by (with_reducible repeat (first | refine blk_drewN ?_ _ | refine blk_drew ?_ | refine blk_alloc ?_ _)); exact BK266.out⟩, ⟨by (with_reducible repeat (first | refine blk_drewN ?_ _ | refine blk_drew ?_ | refine blk_alloc ?_ _)); exact BK268.out⟩, ⟨by (with_reducible repeat (first | refine blk_drewN ?_ _ | refine blk_drew ?_ | refine blk_alloc ?_ _)); exact BK269.out⟩, ⟨by (with_reducible repeat (first | refine blk_drewN ?_ _ | refine blk_drew ?_ | refine blk_alloc ?_ _)); exact BK273.out⟩, ⟨by (with_reducible repeat (first | refine blk_drewN ?_ _ | refine blk_drew ?_ | refine blk_alloc ?_ _)); exact BK277.out⟩, ⟨by repeat (first | (with_reducible first | exact HB.out | apply below_alloc | apply pw_below_drewN | apply below_drew1 | refine below_set ?_ GE266.out | refine below_set ?_ GE268.out | refine below_set ?_ GE269.out | refine below_set ?_ GE273.out | refine below_set ?_ GE277.out) | exact HB.out)⟩⟩
               ·
                rw [if_neg c56] at H
                have c56b0 : (t274 == 0) = false := beq_eq_false_iff_ne.mpr c56
                have c56b1 : (t274 != 0) = true := bne_iff_ne.mpr c56
                have H' := Aside0.mk H
                clear H
                have hnb76 := NB273_266.out
                have hnc76 := NB266_273.out
                have hnb77 := NB273_268.out
                have hnc77 := NB268_273.out
                have hnb78 := NB273_269.out
                have hnc78 := NB269_273.out
                have hnb79 := NB273_277.out
                have hnc79 := NB277_273.out
                have hcz80_0 : wc.cell? ⟨gb273, 0, none⟩ = some (.int .i64 t270) := (blk_cell BK273.out 0).trans rfl
                have hcz80_1 : wc.cell? ⟨gb273, 1, none⟩ = some (.int .i64 t271) := (blk_cell BK273.out 1).trans rfl
                have hcz80_2 : wc.cell? ⟨gb273, 2, none⟩ = some (.int .i64 t272) := (blk_cell BK273.out 2).trans rfl
                have hfz80_0 := blk_frozen BK273.out 0
                have hfz80_1 := blk_frozen BK273.out 1
                have hfz80_2 := blk_frozen BK273.out 2
                have hnb81 := NB277_266.out
                have hnc81 := NB266_277.out
                have hnb82 := NB277_268.out
                have hnc82 := NB268_277.out
                have hnb83 := NB277_269.out
                have hnc83 := NB269_277.out
                have hcz84_0 : wc.cell? ⟨gb277, 0, none⟩ = some (.int .i64 t274) := (blk_cell BK277.out 0).trans rfl
                have hcz84_1 : wc.cell? ⟨gb277, 1, none⟩ = some (.int .i64 t275) := (blk_cell BK277.out 1).trans rfl
                have hcz84_2 : wc.cell? ⟨gb277, 2, none⟩ = some (.int .i64 t276) := (blk_cell BK277.out 2).trans rfl
                have hfz84_0 := blk_frozen BK277.out 0
                have hfz84_1 := blk_frozen BK277.out 1
                have hfz84_2 := blk_frozen BK277.out 2
                go_wp2
                go_meet
                case rel => exact ⟨_, (true), (by first | rfl | (simp; done) | (simp [*]; done)), H', ⟨by have := HJ6.out; have := HK2.out; have := HK3.out; have := HJ26.out; first | omega | exact Nat.le_refl _⟩, ⟨by (with_reducible repeat (first | refine blk_drewN ?_ _ | refine blk_drew ?_ | refine blk_alloc ?_ _)); exact BK266.out⟩, ⟨by (with_reducible repeat (first | refine blk_drewN ?_ _ | refine blk_drew ?_ | refine blk_alloc ?_ _)); exact BK268.out⟩, ⟨by (with_reducible repeat (first | refine blk_drewN ?_ _ | refine blk_drew ?_ | refine blk_alloc ?_ _)); exact BK269.out⟩, ⟨by (with_reducible repeat (first | refine blk_drewN ?_ _ | refine blk_drew ?_ | refine blk_alloc ?_ _)); exact BK273.out⟩, ⟨by (with_reducible repeat (first | refine blk_drewN ?_ _ | refine blk_drew ?_ | refine blk_alloc ?_ _)); exact BK277.out⟩, ⟨by repeat (first | (with_reducible first | exact HB.out | apply below_alloc | apply pw_below_drewN | apply below_drew1 | refine below_set ?_ GE266.out | refine below_set ?_ GE268.out | refine below_set ?_ GE269.out | refine below_set ?_ GE273.out | refine below_set ?_ GE277.out) | exact HB.out)⟩⟩
              ·
               rw [if_neg c55] at H
               have c55b0 : (t270 == 0) = false := beq_eq_false_iff_ne.mpr c55
               have c55b1 : (t270 != 0) = true := bne_iff_ne.mpr c55
               (first | rw [c55b0] | (simp only [i64_w, i32_w]; rw [c55b0]) | skip)
               by_cases c85 : (x15_26 != (t270 == 7)) = true
               ·
                rw [if_pos c85] at H
                have c85b0 : (x15_26 != (t270 == 7)) = true := c85
                (try (have c85b1 : decide (x15_26 = (t270 == 7)) = false := by simpa using c85))
                (try (have c85b2 : (x15_26 == (t270 == 7)) = false := by simpa using c85))
                (try (have c85b3 : ¬ (x15_26 = (t270 == 7)) := by simpa using c85))
                clear c85
                have H' := Aside0.mk H
                clear H
                have hnb86 := NB273_266.out
                have hnc86 := NB266_273.out
                have hnb87 := NB273_268.out
                have hnc87 := NB268_273.out
                have hnb88 := NB273_269.out
                have hnc88 := NB269_273.out
                have hnb89 := NB273_277.out
                have hnc89 := NB277_273.out
                have hcz90_0 : wc.cell? ⟨gb273, 0, none⟩ = some (.int .i64 t270) := (blk_cell BK273.out 0).trans rfl
                have hcz90_1 : wc.cell? ⟨gb273, 1, none⟩ = some (.int .i64 t271) := (blk_cell BK273.out 1).trans rfl
                have hcz90_2 : wc.cell? ⟨gb273, 2, none⟩ = some (.int .i64 t272) := (blk_cell BK273.out 2).trans rfl
                have hfz90_0 := blk_frozen BK273.out 0
                have hfz90_1 := blk_frozen BK273.out 1
                have hfz90_2 := blk_frozen BK273.out 2
                go_wp2
                go_meet
                case rel => exact ⟨_, (true), (by first | rfl | (simp; done) | (simp [*]; done)), H', ⟨by have := HJ6.out; have := HK2.out; have := HK3.out; have := HJ26.out; first | omega | exact Nat.le_refl _⟩, ⟨by (with_reducible repeat (first | refine blk_drewN ?_ _ | refine blk_drew ?_ | refine blk_alloc ?_ _)); exact BK266.out⟩, ⟨by (with_reducible repeat (first | refine blk_drewN ?_ _ | refine blk_drew ?_ | refine blk_alloc ?_ _)); exact BK268.out⟩, ⟨by (with_reducible repeat (first | refine blk_drewN ?_ _ | refine blk_drew ?_ | refine blk_alloc ?_ _)); exact BK269.out⟩, ⟨by (with_reducible repeat (first | refine blk_drewN ?_ _ | refine blk_drew ?_ | refine blk_alloc ?_ _)); exact BK273.out⟩, ⟨by (with_reducible repeat (first | refine blk_drewN ?_ _ | refine blk_drew ?_ | refine blk_alloc ?_ _)); exact BK277.out⟩, ⟨by repeat (first | (with_reducible first | exact HB.out | apply below_alloc | apply pw_below_drewN | apply below_drew1 | refine below_set ?_ GE266.out | refine below_set ?_ GE268.out | refine below_set ?_ GE269.out | refine below_set ?_ GE273.out | refine below_set ?_ GE277.out) | exact HB.out)⟩⟩
               ·
                rw [if_neg c85] at H
                have c85b0 : (x15_26 != (t270 == 7)) = false := by simpa using c85
                (try (have c85b1 : decide (x15_26 = (t270 == 7)) = true := by simpa using c85))
                (try (have c85b2 : (x15_26 == (t270 == 7)) = true := by simpa using c85))
                clear c85
                have H' := Aside0.mk H
                clear H
                have hnb91 := NB273_266.out
                have hnc91 := NB266_273.out
                have hnb92 := NB273_268.out
                have hnc92 := NB268_273.out
                have hnb93 := NB273_269.out
                have hnc93 := NB269_273.out
                have hnb94 := NB273_277.out
                have hnc94 := NB277_273.out
                have hcz95_0 : wc.cell? ⟨gb273, 0, none⟩ = some (.int .i64 t270) := (blk_cell BK273.out 0).trans rfl
                have hcz95_1 : wc.cell? ⟨gb273, 1, none⟩ = some (.int .i64 t271) := (blk_cell BK273.out 1).trans rfl
                have hcz95_2 : wc.cell? ⟨gb273, 2, none⟩ = some (.int .i64 t272) := (blk_cell BK273.out 2).trans rfl
                have hfz95_0 := blk_frozen BK273.out 0
                have hfz95_1 := blk_frozen BK273.out 1
                have hfz95_2 := blk_frozen BK273.out 2
                have hnb96 := NB277_266.out
                have hnc96 := NB266_277.out
                have hnb97 := NB277_268.out
                have hnc97 := NB268_277.out
                have hnb98 := NB277_269.out
                have hnc98 := NB269_277.out
                have hcz99_0 : wc.cell? ⟨gb277, 0, none⟩ = some (.int .i64 t274) := (blk_cell BK277.out 0).trans rfl
                have hcz99_1 : wc.cell? ⟨gb277, 1, none⟩ = some (.int .i64 t275) := (blk_cell BK277.out 1).trans rfl
                have hcz99_2 : wc.cell? ⟨gb277, 2, none⟩ = some (.int .i64 t276) := (blk_cell BK277.out 2).trans rfl
                have hfz99_0 := blk_frozen BK277.out 0
                have hfz99_1 := blk_frozen BK277.out 1
                have hfz99_2 := blk_frozen BK277.out 2
                go_wp2
                go_meet
                case rel => exact ⟨_, ((x15_26 != (t274 == 7))), (by first | rfl | (simp; done) | (simp [*]; done)), H', ⟨by have := HJ6.out; have := HK2.out; have := HK3.out; have := HJ26.out; first | omega | exact Nat.le_refl _⟩, ⟨by (with_reducible repeat (first | refine blk_drewN ?_ _ | refine blk_drew ?_ | refine blk_alloc ?_ _)); exact BK266.out⟩, ⟨by (with_reducible repeat (first | refine blk_drewN ?_ _ | refine blk_drew ?_ | refine blk_alloc ?_ _)); exact BK268.out⟩, ⟨by (with_reducible repeat (first | refine blk_drewN ?_ _ | refine blk_drew ?_ | refine blk_alloc ?_ _)); exact BK269.out⟩, ⟨by (with_reducible repeat (first | refine blk_drewN ?_ _ | refine blk_drew ?_ | refine blk_alloc ?_ _)); exact BK273.out⟩, ⟨by (with_reducible repeat (first | refine blk_drewN ?_ _ | refine blk_drew ?_ | refine blk_alloc ?_ _)); exact BK277.out⟩, ⟨by repeat (first | (with_reducible first | exact HB.out | apply below_alloc | apply pw_below_drewN | apply below_drew1 | refine below_set ?_ GE266.out | refine below_set ?_ GE268.out | refine below_set ?_ GE269.out | refine below_set ?_ GE273.out | refine below_set ?_ GE277.out) | exact HB.out)⟩⟩
             case rest =>
              clear HC54
              try clear c1
              try clear c2
              try clear p2
              try clear c3
              try clear c4
              try clear c5
              try clear c6
              try clear p6
              try clear c7
              try clear c8
              try clear c9
              try clear c11
              try clear c11b0
              try clear c11b1
              try clear c14
              try clear c16
              try clear c16b0
              try clear c18
              try clear c18b0
              try clear c18b1
              try clear c21
              try clear c22
              try clear c24
              try clear c24b0
              try clear c28
              try clear c29
              try clear c31
              try clear c35
              try clear c36
              try clear c37
              try clear c43
              try clear c44
              try clear c45
              try clear c46
              try clear c48
              try clear c49
              try clear c50
              try clear c51
              try clear c52
              try clear c55
              try clear c55b0
              try clear c55b1
              try clear c56
              try clear c56b0
              try clear c56b1
              try clear c57
              try clear c57b0
              try clear c57b1
              try clear c57b2
              try clear c58
              try clear c59
              try clear c60
              try clear c61
              try clear c63
              try clear c64
              try clear p64
              try clear c65
              try clear c67
              try clear c68
              try clear c69
              try clear c70
              try clear c72
              try clear c73
              try clear c74
              try clear c76
              try clear c77
              try clear c78
              try clear c79
              try clear c81
              try clear c82
              try clear c83
              try clear c85
              try clear c85b0
              try clear c85b1
              try clear c85b2
              try clear c86
              try clear c87
              try clear c88
              try clear c89
              try clear c91
              try clear c92
              try clear c93
              try clear c94
              try clear c96
              try clear c97
              try clear c98
              try clear hcz10_0
              try clear hcz10_1
              try clear hcz10_2
              try clear hcz10_3
              try clear hcz12_0
              try clear hcz12_1
              try clear hcz12_2
              try clear hcz12_3
              try clear hcz15_0
              try clear hcz15_1
              try clear hcz15_2
              try clear hcz15_3
              try clear hcz15_4
              try clear hcz15_5
              try clear hcz15_6
              try clear hcz15_7
              try clear hcz23_0
              try clear hcz23_1
              try clear hcz23_10
              try clear hcz23_11
              try clear hcz23_2
              try clear hcz23_3
              try clear hcz23_4
              try clear hcz23_5
              try clear hcz23_6
              try clear hcz23_7
              try clear hcz23_8
              try clear hcz23_9
              try clear hcz30_0
              try clear hcz30_1
              try clear hcz30_2
              try clear hcz30_3
              try clear hcz30_4
              try clear hcz30_5
              try clear hcz30_6
              try clear hcz30_7
              try clear hcz32_0
              try clear hcz32_1
              try clear hcz32_10
              try clear hcz32_11
              try clear hcz32_2
              try clear hcz32_3
              try clear hcz32_4
              try clear hcz32_5
              try clear hcz32_6
              try clear hcz32_7
              try clear hcz32_8
              try clear hcz32_9
              try clear hcz38_0
              try clear hcz38_1
              try clear hcz38_2
              try clear hcz39_0
              try clear hcz39_1
              try clear hcz39_2
              try clear hcz39_3
              try clear hcz39_4
              try clear hcz39_5
              try clear hcz39_6
              try clear hcz39_7
              try clear hcz40_0
              try clear hcz40_1
              try clear hcz40_10
              try clear hcz40_11
              try clear hcz40_2
              try clear hcz40_3
              try clear hcz40_4
              try clear hcz40_5
              try clear hcz40_6
              try clear hcz40_7
              try clear hcz40_8
              try clear hcz40_9
              try clear hcz47_0
              try clear hcz47_1
              try clear hcz47_2
              try clear hcz53_0
              try clear hcz53_1
              try clear hcz53_2
              try clear hcz53_3
              try clear hcz62_0
              try clear hcz62_1
              try clear hcz62_2
              try clear hcz66_0
              try clear hcz66_1
              try clear hcz66_2
              try clear hcz71_0
              try clear hcz71_1
              try clear hcz71_2
              try clear hcz75_0
              try clear hcz75_1
              try clear hcz75_2
              try clear hcz80_0
              try clear hcz80_1
              try clear hcz80_2
              try clear hcz84_0
              try clear hcz84_1
              try clear hcz84_2
              try clear hcz90_0
              try clear hcz90_1
              try clear hcz90_2
              try clear hcz95_0
              try clear hcz95_1
              try clear hcz95_2
              try clear hcz99_0
              try clear hcz99_1
              try clear hcz99_2
              try clear hfz10_0
              try clear hfz10_1
              try clear hfz10_2
              try clear hfz10_3
              try clear hfz12_0
              try clear hfz12_1
              try clear hfz12_2
              try clear hfz12_3
              try clear hfz15_0
              try clear hfz15_1
              try clear hfz15_2
              try clear hfz15_3
              try clear hfz15_4
              try clear hfz15_5
              try clear hfz15_6
              try clear hfz15_7
              try clear hfz23_0
              try clear hfz23_1
              try clear hfz23_10
              try clear hfz23_11
              try clear hfz23_2
              try clear hfz23_3
              try clear hfz23_4
              try clear hfz23_5
              try clear hfz23_6
              try clear hfz23_7
              try clear hfz23_8
              try clear hfz23_9
              try clear hfz30_0
              try clear hfz30_1
              try clear hfz30_2
              try clear hfz30_3
              try clear hfz30_4
              try clear hfz30_5
              try clear hfz30_6
              try clear hfz30_7
              try clear hfz32_0
              try clear hfz32_1
              try clear hfz32_10
              try clear hfz32_11
              try clear hfz32_2
              try clear hfz32_3
              try clear hfz32_4
              try clear hfz32_5
              try clear hfz32_6
              try clear hfz32_7
              try clear hfz32_8
              try clear hfz32_9
              try clear hfz38_0
              try clear hfz38_1
              try clear hfz38_2
              try clear hfz39_0
              try clear hfz39_1
              try clear hfz39_2
              try clear hfz39_3
              try clear hfz39_4
              try clear hfz39_5
              try clear hfz39_6
              try clear hfz39_7
              try clear hfz40_0
              try clear hfz40_1
              try clear hfz40_10
              try clear hfz40_11
              try clear hfz40_2
              try clear hfz40_3
              try clear hfz40_4
              try clear hfz40_5
              try clear hfz40_6
              try clear hfz40_7
              try clear hfz40_8
              try clear hfz40_9
              try clear hfz47_0
              try clear hfz47_1
              try clear hfz47_2
              try clear hfz53_0
              try clear hfz53_1
              try clear hfz53_2
              try clear hfz53_3
              try clear hfz62_0
              try clear hfz62_1
              try clear hfz62_2
              try clear hfz66_0
              try clear hfz66_1
              try clear hfz66_2
              try clear hfz71_0
              try clear hfz71_1
              try clear hfz71_2
              try clear hfz75_0
              try clear hfz75_1
              try clear hfz75_2
              try clear hfz80_0
              try clear hfz80_1
              try clear hfz80_2
              try clear hfz84_0
              try clear hfz84_1
              try clear hfz84_2
              try clear hfz90_0
              try clear hfz90_1
              try clear hfz90_2
              try clear hfz95_0
              try clear hfz95_1
              try clear hfz95_2
              try clear hfz99_0
              try clear hfz99_1
              try clear hfz99_2
              try clear p2
              try clear p6
              obtain ⟨kq, x88_53, rfl, HA, HJ53, BK266, BK268, BK269, BK273, BK277, HB⟩ := hcut
              cases kq with
              | zero => exact absurd HA.out (by simp [atlaslaw07_RightsPriv.j4])
              | succ kj53 =>
               have H := HA.out
               clear HA
               simp only [atlaslaw07_RightsPriv.j4] at H
               by_cases c100 : x88_53 = true
               ·
                subst c100
                have H1 : (some false) = some r := by rw [if_pos rfl] at H; exact H
                clear H
                have H := H1
                clear H1
                obtain rfl := Option.some.inj H
                go_wp2
                go_ret
                exact ⟨by first | rfl | (simp [errW_none, errW_some] <;> rfl) | (simp only [← hji17, ← hji19]; first | rfl | (simp [errW_none, errW_some] <;> rfl)) | (simp [*, errW_none, errW_some] <;> rfl) | (simp [*, errW_none, errW_some] <;> exact isEmpty_ne _), by repeat (first | (with_reducible first | exact HB.out | apply below_alloc | apply pw_below_drewN | apply below_drew1 | refine below_set ?_ GE266.out | refine below_set ?_ GE268.out | refine below_set ?_ GE269.out | refine below_set ?_ GE273.out | refine below_set ?_ GE277.out) | exact HB.out)⟩
               ·
                replace c100 := Bool.eq_false_iff.mpr c100
                subst c100
                have H1 : (if x15_26 = true then (atlaslaw07_RightsPriv.l1 kj53 x2_6 a3 x10_2 (wrap64 (x12_3 + 1)) (Go.bits .and .i64 a0_0 7) (Go.bits .and .u32 a0_1 63) a0_2 a0_3 (wrap64 (1 + (Go.bits .and .i64 a1 3))) 0 0 x2_6 (Go.bits .and .i64 a0_0 7) (Go.bits .and .u32 a0_1 63) a0_2 a0_3 true false a3 0 false false 0 0 ji19 0 0 0) else (if x10_2 = 0 then (atlaslaw07_RightsPriv.j5 kj53 x2_6 a3 x10_2 x12_3 true (Go.bits .and .i64 a0_0 7) (Go.bits .and .u32 a0_1 63) a0_2 a0_3 (wrap64 (1 + (Go.bits .and .i64 a1 3))) 0 0 x2_6 (Go.bits .and .i64 a0_0 7) (Go.bits .and .u32 a0_1 63) a0_2 a0_3 true false a3 0 false false 0 0 ji19 0 0 0 t270 t271 t272 t274 t275 t276) else (atlaslaw07_RightsPriv.j5 kj53 x2_6 a3 x10_2 x12_3 (x10_2 == 2) (Go.bits .and .i64 a0_0 7) (Go.bits .and .u32 a0_1 63) a0_2 a0_3 (wrap64 (1 + (Go.bits .and .i64 a1 3))) 0 0 x2_6 (Go.bits .and .i64 a0_0 7) (Go.bits .and .u32 a0_1 63) a0_2 a0_3 true false a3 0 false false 0 0 ji19 0 0 0 t270 t271 t272 t274 t275 t276))) = some r := by rw [if_neg (show ¬ (false = true) by decide)] at H; exact H
                clear H
                have H := H1
                clear H1
                by_cases c101 : x15_26 = true
                ·
                 subst c101
                 have H1 : (atlaslaw07_RightsPriv.l1 kj53 x2_6 a3 x10_2 (wrap64 (x12_3 + 1)) (Go.bits .and .i64 a0_0 7) (Go.bits .and .u32 a0_1 63) a0_2 a0_3 (wrap64 (1 + (Go.bits .and .i64 a1 3))) 0 0 x2_6 (Go.bits .and .i64 a0_0 7) (Go.bits .and .u32 a0_1 63) a0_2 a0_3 true false a3 0 false false 0 0 ji19 0 0 0) = some r := by rw [if_pos rfl] at H; exact H
                 clear H
                 have H := H1
                 clear H1
                 have H' := Aside0.mk H
                 clear H
                 go_wp2
                 go_roundg kj53
                 case measure => have := HJ6.out; have := HK2.out; have := HK3.out; have := HJ26.out; have := HJ53.out; omega
                 case rel => exact ⟨(wrap64 (x12_3 + 1)), (by first | rfl | (simp; done) | (simp [*]; done)), H', ⟨by have := HJ6.out; have := HK2.out; have := HK3.out; have := HJ26.out; have := HJ53.out; omega⟩, ⟨by (with_reducible repeat (first | refine blk_drewN ?_ _ | refine blk_drew ?_ | refine blk_alloc ?_ _)); exact BK266.out⟩, ⟨by (with_reducible repeat (first | refine blk_drewN ?_ _ | refine blk_drew ?_ | refine blk_alloc ?_ _)); exact BK268.out⟩, ⟨by (with_reducible repeat (first | refine blk_drewN ?_ _ | refine blk_drew ?_ | refine blk_alloc ?_ _)); exact BK269.out⟩, ⟨by repeat (first | (with_reducible first | exact HB.out | apply below_alloc | apply pw_below_drewN | apply below_drew1 | refine below_set ?_ GE266.out | refine below_set ?_ GE268.out | refine below_set ?_ GE269.out | refine below_set ?_ GE273.out | refine below_set ?_ GE277.out) | exact HB.out)⟩⟩
                ·
                 replace c101 := Bool.eq_false_iff.mpr c101
                 subst c101
                 have H1 : (if x10_2 = 0 then (atlaslaw07_RightsPriv.j5 kj53 x2_6 a3 x10_2 x12_3 true (Go.bits .and .i64 a0_0 7) (Go.bits .and .u32 a0_1 63) a0_2 a0_3 (wrap64 (1 + (Go.bits .and .i64 a1 3))) 0 0 x2_6 (Go.bits .and .i64 a0_0 7) (Go.bits .and .u32 a0_1 63) a0_2 a0_3 true false a3 0 false false 0 0 ji19 0 0 0 t270 t271 t272 t274 t275 t276) else (atlaslaw07_RightsPriv.j5 kj53 x2_6 a3 x10_2 x12_3 (x10_2 == 2) (Go.bits .and .i64 a0_0 7) (Go.bits .and .u32 a0_1 63) a0_2 a0_3 (wrap64 (1 + (Go.bits .and .i64 a1 3))) 0 0 x2_6 (Go.bits .and .i64 a0_0 7) (Go.bits .and .u32 a0_1 63) a0_2 a0_3 true false a3 0 false false 0 0 ji19 0 0 0 t270 t271 t272 t274 t275 t276)) = some r := by rw [if_neg (show ¬ (false = true) by decide)] at H; exact H
                 clear H
                 have H := H1
                 clear H1
                 have HC102 := Aside0.mk H
                 clear H
                 go_upto_region 23 with (fail)
                 go_cut [16] (fun v16 wc => ∃ (kq : Nat) (x16_101 : Bool), v16 = .bool x16_101 ∧ Aside0 (atlaslaw07_RightsPriv.j5 kq x2_6 a3 x10_2 x12_3 x16_101 (Go.bits .and .i64 a0_0 7) (Go.bits .and .u32 a0_1 63) a0_2 a0_3 (wrap64 (1 + (Go.bits .and .i64 a1 3))) 0 0 x2_6 (Go.bits .and .i64 a0_0 7) (Go.bits .and .u32 a0_1 63) a0_2 a0_3 true false a3 0 false false 0 0 ji19 0 0 0 t270 t271 t272 t274 t275 t276 = some r) ∧ Aside0 (kq ≤ kj53) ∧ Aside0 (wc.heap[gb266]? = some (.cells #[.int .i64 (Go.bits .and .i64 a0_0 7), .int .u32 (Go.bits .and .u32 a0_1 63), .bool a0_2, .bool a0_3] 24 (0, 0))) ∧ Aside0 (wc.heap[gb268]? = some (.cells #[.int .i64 (wrap64 (1 + (Go.bits .and .i64 a1 3))), .int .u32 0, .int .u64 0, .int .i64 x2_6, .int .i64 (Go.bits .and .i64 a0_0 7), .int .u32 (Go.bits .and .u32 a0_1 63), .bool a0_2, .bool a0_3] 36 (0, 0))) ∧ Aside0 (wc.heap[gb269]? = some (.cells #[.bool true, .bool false, .bool a3, .int .i64 0, .bool false, .bool false, .int .u64 0, .int .u64 0, .int .u32 ji19, .int .u32 0, .int .u32 0, .int .i64 0] 38 (0, 0))) ∧ Aside0 (wc.heap[gb273]? = some (.cells #[.int .i64 t270, .int .i64 t271, .int .i64 t272] 40 (0, 0))) ∧ Aside0 (wc.heap[gb277]? = some (.cells #[.int .i64 t274, .int .i64 t275, .int .i64 t276] 40 (0, 0))) ∧ Aside0 (Below w.heap.size w wc))
                 case first =>
                  have H := HC102.out
                  clear HC102
                  by_cases c103 : x10_2 = 0
                  ·
                   rw [if_pos c103] at H
                   have c103b0 : (x10_2 == 0) = true := beq_iff_eq.mpr c103
                   have c103b1 : (x10_2 != 0) = false := bne_eq_false_iff_eq.mpr c103
                   clear c103
                   (first | rw [c103b0] | (simp only [i64_w, i32_w]; rw [c103b0]) | skip)
                   have H' := Aside0.mk H
                   clear H
                   go_wp2
                   go_meet
                   case rel => exact ⟨_, (true), (by first | rfl | (simp; done) | (simp [*]; done)), H', ⟨by have := HJ6.out; have := HK2.out; have := HK3.out; have := HJ26.out; have := HJ53.out; first | omega | exact Nat.le_refl _⟩, ⟨by (with_reducible repeat (first | refine blk_drewN ?_ _ | refine blk_drew ?_ | refine blk_alloc ?_ _)); exact BK266.out⟩, ⟨by (with_reducible repeat (first | refine blk_drewN ?_ _ | refine blk_drew ?_ | refine blk_alloc ?_ _)); exact BK268.out⟩, ⟨by (with_reducible repeat (first | refine blk_drewN ?_ _ | refine blk_drew ?_ | refine blk_alloc ?_ _)); exact BK269.out⟩, ⟨by (with_reducible repeat (first | refine blk_drewN ?_ _ | refine blk_drew ?_ | refine blk_alloc ?_ _)); exact BK273.out⟩, ⟨by (with_reducible repeat (first | refine blk_drewN ?_ _ | refine blk_drew ?_ | refine blk_alloc ?_ _)); exact BK277.out⟩, ⟨by repeat (first | (with_reducible first | exact HB.out | apply below_alloc | apply pw_below_drewN | apply below_drew1 | refine below_set ?_ GE266.out | refine below_set ?_ GE268.out | refine below_set ?_ GE269.out | refine below_set ?_ GE273.out | refine below_set ?_ GE277.out) | exact HB.out)⟩⟩
                  ·
                   rw [if_neg c103] at H
                   have c103b0 : (x10_2 == 0) = false := beq_eq_false_iff_ne.mpr c103
                   have c103b1 : (x10_2 != 0) = true := bne_iff_ne.mpr c103
                   (first | rw [c103b0] | (simp only [i64_w, i32_w]; rw [c103b0]) | skip)
                   have H' := Aside0.mk H
                   clear H
                   go_wp2
                   go_meet
                   case rel => exact ⟨_, ((x10_2 == 2)), (by first | rfl | (simp; done) | (simp [*]; done)), H', ⟨by have := HJ6.out; have := HK2.out; have := HK3.out; have := HJ26.out; have := HJ53.out; first | omega | exact Nat.le_refl _⟩, ⟨by (with_reducible repeat (first | refine blk_drewN ?_ _ | refine blk_drew ?_ | refine blk_alloc ?_ _)); exact BK266.out⟩, ⟨by (with_reducible repeat (first | refine blk_drewN ?_ _ | refine blk_drew ?_ | refine blk_alloc ?_ _)); exact BK268.out⟩, ⟨by (with_reducible repeat (first | refine blk_drewN ?_ _ | refine blk_drew ?_ | refine blk_alloc ?_ _)); exact BK269.out⟩, ⟨by (with_reducible repeat (first | refine blk_drewN ?_ _ | refine blk_drew ?_ | refine blk_alloc ?_ _)); exact BK273.out⟩, ⟨by (with_reducible repeat (first | refine blk_drewN ?_ _ | refine blk_drew ?_ | refine blk_alloc ?_ _)); exact BK277.out⟩, ⟨by repeat (first | (with_reducible first | exact HB.out | apply below_alloc | apply pw_below_drewN | apply below_drew1 | refine below_set ?_ GE266.out | refine below_set ?_ GE268.out | refine below_set ?_ GE269.out | refine below_set ?_ GE273.out | refine below_set ?_ GE277.out) | exact HB.out)⟩⟩
                 case rest =>
                  clear HC102
                  try clear c1
                  try clear c2
                  try clear p2
                  try clear c3
                  try clear c4
                  try clear c5
                  try clear c6
                  try clear p6
                  try clear c7
                  try clear c8
                  try clear c9
                  try clear c10
                  try clear c11
                  try clear c11b0
                  try clear c11b1
                  try clear c14
                  try clear c16
                  try clear c16b0
                  try clear c18
                  try clear c18b0
                  try clear c18b1
                  try clear c21
                  try clear c22
                  try clear c24
                  try clear c24b0
                  try clear c28
                  try clear c29
                  try clear c31
                  try clear c35
                  try clear c36
                  try clear c37
                  try clear c43
                  try clear c44
                  try clear c45
                  try clear c46
                  try clear c48
                  try clear c49
                  try clear c50
                  try clear c51
                  try clear c52
                  try clear c55
                  try clear c55b0
                  try clear c55b1
                  try clear c56
                  try clear c56b0
                  try clear c56b1
                  try clear c57
                  try clear c57b0
                  try clear c57b1
                  try clear c57b2
                  try clear c58
                  try clear c59
                  try clear c60
                  try clear c61
                  try clear c63
                  try clear c64
                  try clear p64
                  try clear c65
                  try clear c67
                  try clear c68
                  try clear c69
                  try clear c70
                  try clear c72
                  try clear c73
                  try clear c74
                  try clear c76
                  try clear c77
                  try clear c78
                  try clear c79
                  try clear c81
                  try clear c82
                  try clear c83
                  try clear c85
                  try clear c85b0
                  try clear c85b1
                  try clear c85b2
                  try clear c86
                  try clear c87
                  try clear c88
                  try clear c89
                  try clear c91
                  try clear c92
                  try clear c93
                  try clear c94
                  try clear c96
                  try clear c97
                  try clear c98
                  try clear c100
                  try clear c101
                  try clear c103
                  try clear c103b0
                  try clear c103b1
                  try clear hcz10_0
                  try clear hcz10_1
                  try clear hcz10_2
                  try clear hcz10_3
                  try clear hcz12_0
                  try clear hcz12_1
                  try clear hcz12_2
                  try clear hcz12_3
                  try clear hcz15_0
                  try clear hcz15_1
                  try clear hcz15_2
                  try clear hcz15_3
                  try clear hcz15_4
                  try clear hcz15_5
                  try clear hcz15_6
                  try clear hcz15_7
                  try clear hcz23_0
                  try clear hcz23_1
                  try clear hcz23_10
                  try clear hcz23_11
                  try clear hcz23_2
                  try clear hcz23_3
                  try clear hcz23_4
                  try clear hcz23_5
                  try clear hcz23_6
                  try clear hcz23_7
                  try clear hcz23_8
                  try clear hcz23_9
                  try clear hcz30_0
                  try clear hcz30_1
                  try clear hcz30_2
                  try clear hcz30_3
                  try clear hcz30_4
                  try clear hcz30_5
                  try clear hcz30_6
                  try clear hcz30_7
                  try clear hcz32_0
                  try clear hcz32_1
                  try clear hcz32_10
                  try clear hcz32_11
                  try clear hcz32_2
                  try clear hcz32_3
                  try clear hcz32_4
                  try clear hcz32_5
                  try clear hcz32_6
                  try clear hcz32_7
                  try clear hcz32_8
                  try clear hcz32_9
                  try clear hcz38_0
                  try clear hcz38_1
                  try clear hcz38_2
                  try clear hcz39_0
                  try clear hcz39_1
                  try clear hcz39_2
                  try clear hcz39_3
                  try clear hcz39_4
                  try clear hcz39_5
                  try clear hcz39_6
                  try clear hcz39_7
                  try clear hcz40_0
                  try clear hcz40_1
                  try clear hcz40_10
                  try clear hcz40_11
                  try clear hcz40_2
                  try clear hcz40_3
                  try clear hcz40_4
                  try clear hcz40_5
                  try clear hcz40_6
                  try clear hcz40_7
                  try clear hcz40_8
                  try clear hcz40_9
                  try clear hcz47_0
                  try clear hcz47_1
                  try clear hcz47_2
                  try clear hcz53_0
                  try clear hcz53_1
                  try clear hcz53_2
                  try clear hcz53_3
                  try clear hcz62_0
                  try clear hcz62_1
                  try clear hcz62_2
                  try clear hcz66_0
                  try clear hcz66_1
                  try clear hcz66_2
                  try clear hcz71_0
                  try clear hcz71_1
                  try clear hcz71_2
                  try clear hcz75_0
                  try clear hcz75_1
                  try clear hcz75_2
                  try clear hcz80_0
                  try clear hcz80_1
                  try clear hcz80_2
                  try clear hcz84_0
                  try clear hcz84_1
                  try clear hcz84_2
                  try clear hcz90_0
                  try clear hcz90_1
                  try clear hcz90_2
                  try clear hcz95_0
                  try clear hcz95_1
                  try clear hcz95_2
                  try clear hcz99_0
                  try clear hcz99_1
                  try clear hcz99_2
                  try clear hfz10_0
                  try clear hfz10_1
                  try clear hfz10_2
                  try clear hfz10_3
                  try clear hfz12_0
                  try clear hfz12_1
                  try clear hfz12_2
                  try clear hfz12_3
                  try clear hfz15_0
                  try clear hfz15_1
                  try clear hfz15_2
                  try clear hfz15_3
                  try clear hfz15_4
                  try clear hfz15_5
                  try clear hfz15_6
                  try clear hfz15_7
                  try clear hfz23_0
                  try clear hfz23_1
                  try clear hfz23_10
                  try clear hfz23_11
                  try clear hfz23_2
                  try clear hfz23_3
                  try clear hfz23_4
                  try clear hfz23_5
                  try clear hfz23_6
                  try clear hfz23_7
                  try clear hfz23_8
                  try clear hfz23_9
                  try clear hfz30_0
                  try clear hfz30_1
                  try clear hfz30_2
                  try clear hfz30_3
                  try clear hfz30_4
                  try clear hfz30_5
                  try clear hfz30_6
                  try clear hfz30_7
                  try clear hfz32_0
                  try clear hfz32_1
                  try clear hfz32_10
                  try clear hfz32_11
                  try clear hfz32_2
                  try clear hfz32_3
                  try clear hfz32_4
                  try clear hfz32_5
                  try clear hfz32_6
                  try clear hfz32_7
                  try clear hfz32_8
                  try clear hfz32_9
                  try clear hfz38_0
                  try clear hfz38_1
                  try clear hfz38_2
                  try clear hfz39_0
                  try clear hfz39_1
                  try clear hfz39_2
                  try clear hfz39_3
                  try clear hfz39_4
                  try clear hfz39_5
                  try clear hfz39_6
                  try clear hfz39_7
                  try clear hfz40_0
                  try clear hfz40_1
                  try clear hfz40_10
                  try clear hfz40_11
                  try clear hfz40_2
                  try clear hfz40_3
                  try clear hfz40_4
                  try clear hfz40_5
                  try clear hfz40_6
                  try clear hfz40_7
                  try clear hfz40_8
                  try clear hfz40_9
                  try clear hfz47_0
                  try clear hfz47_1
                  try clear hfz47_2
                  try clear hfz53_0
                  try clear hfz53_1
                  try clear hfz53_2
                  try clear hfz53_3
                  try clear hfz62_0
                  try clear hfz62_1
                  try clear hfz62_2
                  try clear hfz66_0
                  try clear hfz66_1
                  try clear hfz66_2
                  try clear hfz71_0
                  try clear hfz71_1
                  try clear hfz71_2
                  try clear hfz75_0
                  try clear hfz75_1
                  try clear hfz75_2
                  try clear hfz80_0
                  try clear hfz80_1
                  try clear hfz80_2
                  try clear hfz84_0
                  try clear hfz84_1
                  try clear hfz84_2
                  try clear hfz90_0
                  try clear hfz90_1
                  try clear hfz90_2
                  try clear hfz95_0
                  try clear hfz95_1
                  try clear hfz95_2
                  try clear hfz99_0
                  try clear hfz99_1
                  try clear hfz99_2
                  try clear p2
                  try clear p6
                  try clear p64
                  obtain ⟨kq, x16_101, rfl, HA, HJ101, BK266, BK268, BK269, BK273, BK277, HB⟩ := hcut
                  cases kq with
                  | zero => exact absurd HA.out (by simp [atlaslaw07_RightsPriv.j5])
                  | succ kj101 =>
                   have H := HA.out
                   clear HA
                   simp only [atlaslaw07_RightsPriv.j5] at H
                   have HC104 := Aside0.mk H
                   clear H
                   go_upto_region 24 with (fail)
                   go_cut [121] (fun v121 wc => ∃ (kq : Nat) (x121_103 : Bool), v121 = .bool x121_103 ∧ Aside0 (atlaslaw07_RightsPriv.j6 kq x2_6 a3 x10_2 x12_3 x121_103 (Go.bits .and .i64 a0_0 7) (Go.bits .and .u32 a0_1 63) a0_2 a0_3 (wrap64 (1 + (Go.bits .and .i64 a1 3))) 0 0 x2_6 (Go.bits .and .i64 a0_0 7) (Go.bits .and .u32 a0_1 63) a0_2 a0_3 true false a3 0 false false 0 0 ji19 0 0 0 t270 t271 t272 t274 t275 t276 = some r) ∧ Aside0 (kq ≤ kj101) ∧ Aside0 (wc.heap[gb266]? = some (.cells #[.int .i64 (Go.bits .and .i64 a0_0 7), .int .u32 (Go.bits .and .u32 a0_1 63), .bool a0_2, .bool a0_3] 24 (0, 0))) ∧ Aside0 (wc.heap[gb268]? = some (.cells #[.int .i64 (wrap64 (1 + (Go.bits .and .i64 a1 3))), .int .u32 0, .int .u64 0, .int .i64 x2_6, .int .i64 (Go.bits .and .i64 a0_0 7), .int .u32 (Go.bits .and .u32 a0_1 63), .bool a0_2, .bool a0_3] 36 (0, 0))) ∧ Aside0 (wc.heap[gb269]? = some (.cells #[.bool true, .bool false, .bool a3, .int .i64 0, .bool false, .bool false, .int .u64 0, .int .u64 0, .int .u32 ji19, .int .u32 0, .int .u32 0, .int .i64 0] 38 (0, 0))) ∧ Aside0 (wc.heap[gb273]? = some (.cells #[.int .i64 t270, .int .i64 t271, .int .i64 t272] 40 (0, 0))) ∧ Aside0 (wc.heap[gb277]? = some (.cells #[.int .i64 t274, .int .i64 t275, .int .i64 t276] 40 (0, 0))) ∧ Aside0 (Below w.heap.size w wc))
                   case first =>
                    have H := HC104.out
                    clear HC104
                    by_cases c105 : (x16_101 != (t270 == 8)) = true
                    ·
                     rw [if_pos c105] at H
                     have c105b0 : (x16_101 != (t270 == 8)) = true := c105
                     (try (have c105b1 : decide (x16_101 = (t270 == 8)) = false := by simpa using c105))
                     (try (have c105b2 : (x16_101 == (t270 == 8)) = false := by simpa using c105))
                     (try (have c105b3 : ¬ (x16_101 = (t270 == 8)) := by simpa using c105))
                     clear c105
                     (first | rw [c105b0] | (simp only [i64_w, i32_w]; rw [c105b0]) | skip)
                     have H' := Aside0.mk H
                     clear H
                     have hnb106 := NB273_266.out
                     have hnc106 := NB266_273.out
                     have hnb107 := NB273_268.out
                     have hnc107 := NB268_273.out
                     have hnb108 := NB273_269.out
                     have hnc108 := NB269_273.out
                     have hnb109 := NB273_277.out
                     have hnc109 := NB277_273.out
                     have hcz110_0 : wc.cell? ⟨gb273, 0, none⟩ = some (.int .i64 t270) := (blk_cell BK273.out 0).trans rfl
                     have hcz110_1 : wc.cell? ⟨gb273, 1, none⟩ = some (.int .i64 t271) := (blk_cell BK273.out 1).trans rfl
                     have hcz110_2 : wc.cell? ⟨gb273, 2, none⟩ = some (.int .i64 t272) := (blk_cell BK273.out 2).trans rfl
                     have hfz110_0 := blk_frozen BK273.out 0
                     have hfz110_1 := blk_frozen BK273.out 1
                     have hfz110_2 := blk_frozen BK273.out 2
                     go_wp2
                     go_meet
                     case rel => exact ⟨_, (true), (by first | rfl | (simp; done) | (simp [*]; done)), H', ⟨by have := HJ6.out; have := HK2.out; have := HK3.out; have := HJ26.out; have := HJ53.out; have := HJ101.out; first | omega | exact Nat.le_refl _⟩, ⟨by (with_reducible repeat (first | refine blk_drewN ?_ _ | refine blk_drew ?_ | refine blk_alloc ?_ _)); exact BK266.out⟩, ⟨by (with_reducible repeat (first | refine blk_drewN ?_ _ | refine blk_drew ?_ | refine blk_alloc ?_ _)); exact BK268.out⟩, ⟨by (with_reducible repeat (first | refine blk_drewN ?_ _ | refine blk_drew ?_ | refine blk_alloc ?_ _)); exact BK269.out⟩, ⟨by (with_reducible repeat (first | refine blk_drewN ?_ _ | refine blk_drew ?_ | refine blk_alloc ?_ _)); exact BK273.out⟩, ⟨by (with_reducible repeat (first | refine blk_drewN ?_ _ | refine blk_drew ?_ | refine blk_alloc ?_ _)); exact BK277.out⟩, ⟨by repeat (first | (with_reducible first | exact HB.out | apply below_alloc | apply pw_below_drewN | apply below_drew1 | refine below_set ?_ GE266.out | refine below_set ?_ GE268.out | refine below_set ?_ GE269.out | refine below_set ?_ GE273.out | refine below_set ?_ GE277.out) | exact HB.out)⟩⟩
                    ·
                     rw [if_neg c105] at H
                     have c105b0 : (x16_101 != (t270 == 8)) = false := by simpa using c105
                     (try (have c105b1 : decide (x16_101 = (t270 == 8)) = true := by simpa using c105))
                     (try (have c105b2 : (x16_101 == (t270 == 8)) = true := by simpa using c105))
                     clear c105
                     (first | rw [c105b0] | (simp only [i64_w, i32_w]; rw [c105b0]) | skip)
                     by_cases c111 : (x16_101 != (t274 == 8)) = true
                     ·
                      rw [if_pos c111] at H
                      have c111b0 : (x16_101 != (t274 == 8)) = true := c111
                      (try (have c111b1 : decide (x16_101 = (t274 == 8)) = false := by simpa using c111))
                      (try (have c111b2 : (x16_101 == (t274 == 8)) = false := by simpa using c111))
                      (try (have c111b3 : ¬ (x16_101 = (t274 == 8)) := by simpa using c111))
                      clear c111
                      have H' := Aside0.mk H
                      clear H
                      have hnb112 := NB273_266.out
                      have hnc112 := NB266_273.out
                      have hnb113 := NB273_268.out
                      have hnc113 := NB268_273.out
                      have hnb114 := NB273_269.out
                      have hnc114 := NB269_273.out
                      have hnb115 := NB273_277.out
                      have hnc115 := NB277_273.out
                      have hcz116_0 : wc.cell? ⟨gb273, 0, none⟩ = some (.int .i64 t270) := (blk_cell BK273.out 0).trans rfl
                      have hcz116_1 : wc.cell? ⟨gb273, 1, none⟩ = some (.int .i64 t271) := (blk_cell BK273.out 1).trans rfl
                      have hcz116_2 : wc.cell? ⟨gb273, 2, none⟩ = some (.int .i64 t272) := (blk_cell BK273.out 2).trans rfl
                      have hfz116_0 := blk_frozen BK273.out 0
                      have hfz116_1 := blk_frozen BK273.out 1
                      have hfz116_2 := blk_frozen BK273.out 2
                      have hnb117 := NB277_266.out
                      have hnc117 := NB266_277.out
                      have hnb118 := NB277_268.out
                      have hnc118 := NB268_277.out
                      have hnb119 := NB277_269.out
                      have hnc119 := NB269_277.out
                      have hcz120_0 : wc.cell? ⟨gb277, 0, none⟩ = some (.int .i64 t274) := (blk_cell BK277.out 0).trans rfl
                      have hcz120_1 : wc.cell? ⟨gb277, 1, none⟩ = some (.int .i64 t275) := (blk_cell BK277.out 1).trans rfl
                      have hcz120_2 : wc.cell? ⟨gb277, 2, none⟩ = some (.int .i64 t276) := (blk_cell BK277.out 2).trans rfl
                      have hfz120_0 := blk_frozen BK277.out 0
                      have hfz120_1 := blk_frozen BK277.out 1
                      have hfz120_2 := blk_frozen BK277.out 2
                      go_wp2
                      go_meet
                      case rel => exact ⟨_, (true), (by first | rfl | (simp; done) | (simp [*]; done)), H', ⟨by have := HJ6.out; have := HK2.out; have := HK3.out; have := HJ26.out; have := HJ53.out; have := HJ101.out; first | omega | exact Nat.le_refl _⟩, ⟨by (with_reducible repeat (first | refine blk_drewN ?_ _ | refine blk_drew ?_ | refine blk_alloc ?_ _)); exact BK266.out⟩, ⟨by (with_reducible repeat (first | refine blk_drewN ?_ _ | refine blk_drew ?_ | refine blk_alloc ?_ _)); exact BK268.out⟩, ⟨by (with_reducible repeat (first | refine blk_drewN ?_ _ | refine blk_drew ?_ | refine blk_alloc ?_ _)); exact BK269.out⟩, ⟨by (with_reducible repeat (first | refine blk_drewN ?_ _ | refine blk_drew ?_ | refine blk_alloc ?_ _)); exact BK273.out⟩, ⟨by (with_reducible repeat (first | refine blk_drewN ?_ _ | refine blk_drew ?_ | refine blk_alloc ?_ _)); exact BK277.out⟩, ⟨by repeat (first | (with_reducible first | exact HB.out | apply below_alloc | apply pw_below_drewN | apply below_drew1 | refine below_set ?_ GE266.out | refine below_set ?_ GE268.out | refine below_set ?_ GE269.out | refine below_set ?_ GE273.out | refine below_set ?_ GE277.out) | exact HB.out)⟩⟩
                     ·
                      rw [if_neg c111] at H
                      have c111b0 : (x16_101 != (t274 == 8)) = false := by simpa using c111
                      (try (have c111b1 : decide (x16_101 = (t274 == 8)) = true := by simpa using c111))
                      (try (have c111b2 : (x16_101 == (t274 == 8)) = true := by simpa using c111))
                      clear c111
                      by_cases c121 : x10_2 = 3
                      ·
                       rw [if_pos c121] at H
                       have c121b0 : (x10_2 == 3) = true := beq_iff_eq.mpr c121
                       have c121b1 : (x10_2 != 3) = false := bne_eq_false_iff_eq.mpr c121
                       clear c121
                       by_cases c122 : t270 = 0
                       ·
                        rw [if_pos c122] at H
                        have c122b0 : (t270 == 0) = true := beq_iff_eq.mpr c122
                        have c122b1 : (t270 != 0) = false := bne_eq_false_iff_eq.mpr c122
                        clear c122
                        have H' := Aside0.mk H
                        clear H
                        have hnb123 := NB273_266.out
                        have hnc123 := NB266_273.out
                        have hnb124 := NB273_268.out
                        have hnc124 := NB268_273.out
                        have hnb125 := NB273_269.out
                        have hnc125 := NB269_273.out
                        have hnb126 := NB273_277.out
                        have hnc126 := NB277_273.out
                        have hcz127_0 : wc.cell? ⟨gb273, 0, none⟩ = some (.int .i64 t270) := (blk_cell BK273.out 0).trans rfl
                        have hcz127_1 : wc.cell? ⟨gb273, 1, none⟩ = some (.int .i64 t271) := (blk_cell BK273.out 1).trans rfl
                        have hcz127_2 : wc.cell? ⟨gb273, 2, none⟩ = some (.int .i64 t272) := (blk_cell BK273.out 2).trans rfl
                        have hfz127_0 := blk_frozen BK273.out 0
                        have hfz127_1 := blk_frozen BK273.out 1
                        have hfz127_2 := blk_frozen BK273.out 2
                        have hnb128 := NB277_266.out
                        have hnc128 := NB266_277.out
                        have hnb129 := NB277_268.out
                        have hnc129 := NB268_277.out
                        have hnb130 := NB277_269.out
                        have hnc130 := NB269_277.out
                        have hcz131_0 : wc.cell? ⟨gb277, 0, none⟩ = some (.int .i64 t274) := (blk_cell BK277.out 0).trans rfl
                        have hcz131_1 : wc.cell? ⟨gb277, 1, none⟩ = some (.int .i64 t275) := (blk_cell BK277.out 1).trans rfl
                        have hcz131_2 : wc.cell? ⟨gb277, 2, none⟩ = some (.int .i64 t276) := (blk_cell BK277.out 2).trans rfl
                        have hfz131_0 := blk_frozen BK277.out 0
                        have hfz131_1 := blk_frozen BK277.out 1
                        have hfz131_2 := blk_frozen BK277.out 2
                        go_wp2
                        go_meet
                        case rel => exact ⟨_, ((t274 != 0)), (by first | rfl | (simp; done) | (simp [*]; done)), H', ⟨by have := HJ6.out; have := HK2.out; have := HK3.out; have := HJ26.out; have := HJ53.out; have := HJ101.out; first | omega | exact Nat.le_refl _⟩, ⟨by (with_reducible repeat (first | refine blk_drewN ?_ _ | refine blk_drew ?_ | refine blk_alloc ?_ _)); exact BK266.out⟩, ⟨by (with_reducible repeat (first | refine blk_drewN ?_ _ | refine blk_drew ?_ | refine blk_alloc ?_ _)); exact BK268.out⟩, ⟨by (with_reducible repeat (first | refine blk_drewN ?_ _ | refine blk_drew ?_ | refine blk_alloc ?_ _)); exact BK269.out⟩, ⟨by (with_reducible repeat (first | refine blk_drewN ?_ _ | refine blk_drew ?_ | refine blk_alloc ?_ _)); exact BK273.out⟩, ⟨by (with_reducible repeat (first | refine blk_drewN ?_ _ | refine blk_drew ?_ | refine blk_alloc ?_ _)); exact BK277.out⟩, ⟨by repeat (first | (with_reducible first | exact HB.out | apply below_alloc | apply pw_below_drewN | apply below_drew1 | refine below_set ?_ GE266.out | refine below_set ?_ GE268.out | refine below_set ?_ GE269.out | refine below_set ?_ GE273.out | refine below_set ?_ GE277.out) | exact HB.out)⟩⟩
                       ·
                        rw [if_neg c122] at H
                        have c122b0 : (t270 == 0) = false := beq_eq_false_iff_ne.mpr c122
                        have c122b1 : (t270 != 0) = true := bne_iff_ne.mpr c122
                        have H' := Aside0.mk H
                        clear H
                        have hnb132 := NB273_266.out
                        have hnc132 := NB266_273.out
                        have hnb133 := NB273_268.out
                        have hnc133 := NB268_273.out
                        have hnb134 := NB273_269.out
                        have hnc134 := NB269_273.out
                        have hnb135 := NB273_277.out
                        have hnc135 := NB277_273.out
                        have hcz136_0 : wc.cell? ⟨gb273, 0, none⟩ = some (.int .i64 t270) := (blk_cell BK273.out 0).trans rfl
                        have hcz136_1 : wc.cell? ⟨gb273, 1, none⟩ = some (.int .i64 t271) := (blk_cell BK273.out 1).trans rfl
                        have hcz136_2 : wc.cell? ⟨gb273, 2, none⟩ = some (.int .i64 t272) := (blk_cell BK273.out 2).trans rfl
                        have hfz136_0 := blk_frozen BK273.out 0
                        have hfz136_1 := blk_frozen BK273.out 1
                        have hfz136_2 := blk_frozen BK273.out 2
                        have hnb137 := NB277_266.out
                        have hnc137 := NB266_277.out
                        have hnb138 := NB277_268.out
                        have hnc138 := NB268_277.out
                        have hnb139 := NB277_269.out
                        have hnc139 := NB269_277.out
                        have hcz140_0 : wc.cell? ⟨gb277, 0, none⟩ = some (.int .i64 t274) := (blk_cell BK277.out 0).trans rfl
                        have hcz140_1 : wc.cell? ⟨gb277, 1, none⟩ = some (.int .i64 t275) := (blk_cell BK277.out 1).trans rfl
                        have hcz140_2 : wc.cell? ⟨gb277, 2, none⟩ = some (.int .i64 t276) := (blk_cell BK277.out 2).trans rfl
                        have hfz140_0 := blk_frozen BK277.out 0
                        have hfz140_1 := blk_frozen BK277.out 1
                        have hfz140_2 := blk_frozen BK277.out 2
                        go_wp2
                        go_meet
                        case rel => exact ⟨_, (true), (by first | rfl | (simp; done) | (simp [*]; done)), H', ⟨by have := HJ6.out; have := HK2.out; have := HK3.out; have := HJ26.out; have := HJ53.out; have := HJ101.out; first | omega | exact Nat.le_refl _⟩, ⟨by (with_reducible repeat (first | refine blk_drewN ?_ _ | refine blk_drew ?_ | refine blk_alloc ?_ _)); exact BK266.out⟩, ⟨by (with_reducible repeat (first | refine blk_drewN ?_ _ | refine blk_drew ?_ | refine blk_alloc ?_ _)); exact BK268.out⟩, ⟨by (with_reducible repeat (first | refine blk_drewN ?_ _ | refine blk_drew ?_ | refine blk_alloc ?_ _)); exact BK269.out⟩, ⟨by (with_reducible repeat (first | refine blk_drewN ?_ _ | refine blk_drew ?_ | refine blk_alloc ?_ _)); exact BK273.out⟩, ⟨by (with_reducible repeat (first | refine blk_drewN ?_ _ | refine blk_drew ?_ | refine blk_alloc ?_ _)); exact BK277.out⟩, ⟨by repeat (first | (with_reducible first | exact HB.out | apply below_alloc | apply pw_below_drewN | apply below_drew1 | refine below_set ?_ GE266.out | refine below_set ?_ GE268.out | refine below_set ?_ GE269.out | refine below_set ?_ GE273.out | refine below_set ?_ GE277.out) | exact HB.out)⟩⟩
                      ·
                       rw [if_neg c121] at H
                       have c121b0 : (x10_2 == 3) = false := beq_eq_false_iff_ne.mpr c121
                       have c121b1 : (x10_2 != 3) = true := bne_iff_ne.mpr c121
                       have H' := Aside0.mk H
                       clear H
                       have hnb141 := NB273_266.out
                       have hnc141 := NB266_273.out
                       have hnb142 := NB273_268.out
                       have hnc142 := NB268_273.out
                       have hnb143 := NB273_269.out
                       have hnc143 := NB269_273.out
                       have hnb144 := NB273_277.out
                       have hnc144 := NB277_273.out
                       have hcz145_0 : wc.cell? ⟨gb273, 0, none⟩ = some (.int .i64 t270) := (blk_cell BK273.out 0).trans rfl
                       have hcz145_1 : wc.cell? ⟨gb273, 1, none⟩ = some (.int .i64 t271) := (blk_cell BK273.out 1).trans rfl
                       have hcz145_2 : wc.cell? ⟨gb273, 2, none⟩ = some (.int .i64 t272) := (blk_cell BK273.out 2).trans rfl
                       have hfz145_0 := blk_frozen BK273.out 0
                       have hfz145_1 := blk_frozen BK273.out 1
                       have hfz145_2 := blk_frozen BK273.out 2
                       have hnb146 := NB277_266.out
                       have hnc146 := NB266_277.out
                       have hnb147 := NB277_268.out
                       have hnc147 := NB268_277.out
                       have hnb148 := NB277_269.out
                       have hnc148 := NB269_277.out
                       have hcz149_0 : wc.cell? ⟨gb277, 0, none⟩ = some (.int .i64 t274) := (blk_cell BK277.out 0).trans rfl
                       have hcz149_1 : wc.cell? ⟨gb277, 1, none⟩ = some (.int .i64 t275) := (blk_cell BK277.out 1).trans rfl
                       have hcz149_2 : wc.cell? ⟨gb277, 2, none⟩ = some (.int .i64 t276) := (blk_cell BK277.out 2).trans rfl
                       have hfz149_0 := blk_frozen BK277.out 0
                       have hfz149_1 := blk_frozen BK277.out 1
                       have hfz149_2 := blk_frozen BK277.out 2
                       go_wp2
                       go_meet
                       case rel => exact ⟨_, (false), (by first | rfl | (simp; done) | (simp [*]; done)), H', ⟨by have := HJ6.out; have := HK2.out; have := HK3.out; have := HJ26.out; have := HJ53.out; have := HJ101.out; first | omega | exact Nat.le_refl _⟩, ⟨by (with_reducible repeat (first | refine blk_drewN ?_ _ | refine blk_drew ?_ | refine blk_alloc ?_ _)); exact BK266.out⟩, ⟨by (with_reducible repeat (first | refine blk_drewN ?_ _ | refine blk_drew ?_ | refine blk_alloc ?_ _)); exact BK268.out⟩, ⟨by (with_reducible repeat (first | refine blk_drewN ?_ _ | refine blk_drew ?_ | refine blk_alloc ?_ _)); exact BK269.out⟩, ⟨by (with_reducible repeat (first | refine blk_drewN ?_ _ | refine blk_drew ?_ | refine blk_alloc ?_ _)); exact BK273.out⟩, ⟨by (with_reducible repeat (first | refine blk_drewN ?_ _ | refine blk_drew ?_ | refine blk_alloc ?_ _)); exact BK277.out⟩, ⟨by repeat (first | (with_reducible first | exact HB.out | apply below_alloc | apply pw_below_drewN | apply below_drew1 | refine below_set ?_ GE266.out | refine below_set ?_ GE268.out | refine below_set ?_ GE269.out | refine below_set ?_ GE273.out | refine below_set ?_ GE277.out) | exact HB.out)⟩⟩
                   case rest =>
                    clear HC104
                    try clear c1
                    try clear c2
                    try clear p2
                    try clear c3
                    try clear c4
                    try clear c5
                    try clear c6
                    try clear p6
                    try clear c7
                    try clear c8
                    try clear c9
                    try clear c10
                    try clear c11
                    try clear c11b0
                    try clear c11b1
                    try clear c12
                    try clear c13
                    try clear c14
                    try clear c16
                    try clear c16b0
                    try clear c18
                    try clear c18b0
                    try clear c18b1
                    try clear c21
                    try clear c22
                    try clear c24
                    try clear c24b0
                    try clear c28
                    try clear c29
                    try clear c31
                    try clear c35
                    try clear c36
                    try clear c37
                    try clear c43
                    try clear c44
                    try clear c45
                    try clear c46
                    try clear c48
                    try clear c49
                    try clear c50
                    try clear c51
                    try clear c52
                    try clear c55
                    try clear c55b0
                    try clear c55b1
                    try clear c56
                    try clear c56b0
                    try clear c56b1
                    try clear c57
                    try clear c57b0
                    try clear c57b1
                    try clear c57b2
                    try clear c58
                    try clear c59
                    try clear c60
                    try clear c61
                    try clear c63
                    try clear c64
                    try clear p64
                    try clear c65
                    try clear c67
                    try clear c68
                    try clear c69
                    try clear c70
                    try clear c72
                    try clear c73
                    try clear c74
                    try clear c76
                    try clear c77
                    try clear c78
                    try clear c79
                    try clear c81
                    try clear c82
                    try clear c83
                    try clear c85
                    try clear c85b0
                    try clear c85b1
                    try clear c85b2
                    try clear c86
                    try clear c87
                    try clear c88
                    try clear c89
                    try clear c91
                    try clear c92
                    try clear c93
                    try clear c94
                    try clear c96
                    try clear c97
                    try clear c98
                    try clear c100
                    try clear c101
                    try clear c103
                    try clear c103b0
                    try clear c103b1
                    try clear c105
                    try clear c105b0
                    try clear c105b1
                    try clear c105b2
                    try clear c106
                    try clear c107
                    try clear c108
                    try clear c109
                    try clear c111
                    try clear c111b0
                    try clear c111b1
                    try clear c111b2
                    try clear c112
                    try clear c113
                    try clear c114
                    try clear c115
                    try clear c117
                    try clear c118
                    try clear c119
                    try clear c121
                    try clear c121b0
                    try clear c121b1
                    try clear c122
                    try clear c122b0
                    try clear c122b1
                    try clear c123
                    try clear c124
                    try clear c125
                    try clear c126
                    try clear c128
                    try clear c129
                    try clear c130
                    try clear c132
                    try clear c133
                    try clear c134
                    try clear c135
                    try clear c137
                    try clear c138
                    try clear c139
                    try clear c141
                    try clear c142
                    try clear c143
                    try clear c144
                    try clear c146
                    try clear c147
                    try clear c148
                    try clear hcz10_0
                    try clear hcz10_1
                    try clear hcz10_2
                    try clear hcz10_3
                    try clear hcz110_0
                    try clear hcz110_1
                    try clear hcz110_2
                    try clear hcz116_0
                    try clear hcz116_1
                    try clear hcz116_2
                    try clear hcz120_0
                    try clear hcz120_1
                    try clear hcz120_2
                    try clear hcz127_0
                    try clear hcz127_1
                    try clear hcz127_2
                    try clear hcz12_0
                    try clear hcz12_1
                    try clear hcz12_2
                    try clear hcz12_3
                    try clear hcz131_0
                    try clear hcz131_1
                    try clear hcz131_2
                    try clear hcz136_0
                    try clear hcz136_1
                    try clear hcz136_2
                    try clear hcz140_0
                    try clear hcz140_1
                    try clear hcz140_2
                    try clear hcz145_0
                    try clear hcz145_1
                    try clear hcz145_2
                    try clear hcz149_0
                    try clear hcz149_1
                    try clear hcz149_2
                    try clear hcz15_0
                    try clear hcz15_1
                    try clear hcz15_2
                    try clear hcz15_3
                    try clear hcz15_4
                    try clear hcz15_5
                    try clear hcz15_6
                    try clear hcz15_7
                    try clear hcz23_0
                    try clear hcz23_1
                    try clear hcz23_10
                    try clear hcz23_11
                    try clear hcz23_2
                    try clear hcz23_3
                    try clear hcz23_4
                    try clear hcz23_5
                    try clear hcz23_6
                    try clear hcz23_7
                    try clear hcz23_8
                    try clear hcz23_9
                    try clear hcz30_0
                    try clear hcz30_1
                    try clear hcz30_2
                    try clear hcz30_3
                    try clear hcz30_4
                    try clear hcz30_5
                    try clear hcz30_6
                    try clear hcz30_7
                    try clear hcz32_0
                    try clear hcz32_1
                    try clear hcz32_10
                    try clear hcz32_11
                    try clear hcz32_2
                    try clear hcz32_3
                    try clear hcz32_4
                    try clear hcz32_5
                    try clear hcz32_6
                    try clear hcz32_7
                    try clear hcz32_8
                    try clear hcz32_9
                    try clear hcz38_0
                    try clear hcz38_1
                    try clear hcz38_2
                    try clear hcz39_0
                    try clear hcz39_1
                    try clear hcz39_2
                    try clear hcz39_3
                    try clear hcz39_4
                    try clear hcz39_5
                    try clear hcz39_6
                    try clear hcz39_7
                    try clear hcz40_0
                    try clear hcz40_1
                    try clear hcz40_10
                    try clear hcz40_11
                    try clear hcz40_2
                    try clear hcz40_3
                    try clear hcz40_4
                    try clear hcz40_5
                    try clear hcz40_6
                    try clear hcz40_7
                    try clear hcz40_8
                    try clear hcz40_9
                    try clear hcz47_0
                    try clear hcz47_1
                    try clear hcz47_2
                    try clear hcz53_0
                    try clear hcz53_1
                    try clear hcz53_2
                    try clear hcz53_3
                    try clear hcz62_0
                    try clear hcz62_1
                    try clear hcz62_2
                    try clear hcz66_0
                    try clear hcz66_1
                    try clear hcz66_2
                    try clear hcz71_0
                    try clear hcz71_1
                    try clear hcz71_2
                    try clear hcz75_0
                    try clear hcz75_1
                    try clear hcz75_2
                    try clear hcz80_0
                    try clear hcz80_1
                    try clear hcz80_2
                    try clear hcz84_0
                    try clear hcz84_1
                    try clear hcz84_2
                    try clear hcz90_0
                    try clear hcz90_1
                    try clear hcz90_2
                    try clear hcz95_0
                    try clear hcz95_1
                    try clear hcz95_2
                    try clear hcz99_0
                    try clear hcz99_1
                    try clear hcz99_2
                    try clear hfz10_0
                    try clear hfz10_1
                    try clear hfz10_2
                    try clear hfz10_3
                    try clear hfz110_0
                    try clear hfz110_1
                    try clear hfz110_2
                    try clear hfz116_0
                    try clear hfz116_1
                    try clear hfz116_2
                    try clear hfz120_0
                    try clear hfz120_1
                    try clear hfz120_2
                    try clear hfz127_0
                    try clear hfz127_1
                    try clear hfz127_2
                    try clear hfz12_0
                    try clear hfz12_1
                    try clear hfz12_2
                    try clear hfz12_3
                    try clear hfz131_0
                    try clear hfz131_1
                    try clear hfz131_2
                    try clear hfz136_0
                    try clear hfz136_1
                    try clear hfz136_2
                    try clear hfz140_0
                    try clear hfz140_1
                    try clear hfz140_2
                    try clear hfz145_0
                    try clear hfz145_1
                    try clear hfz145_2
                    try clear hfz149_0
                    try clear hfz149_1
                    try clear hfz149_2
                    try clear hfz15_0
                    try clear hfz15_1
                    try clear hfz15_2
                    try clear hfz15_3
                    try clear hfz15_4
                    try clear hfz15_5
                    try clear hfz15_6
                    try clear hfz15_7
                    try clear hfz23_0
                    try clear hfz23_1
                    try clear hfz23_10
                    try clear hfz23_11
                    try clear hfz23_2
                    try clear hfz23_3
                    try clear hfz23_4
                    try clear hfz23_5
                    try clear hfz23_6
                    try clear hfz23_7
                    try clear hfz23_8
                    try clear hfz23_9
                    try clear hfz30_0
                    try clear hfz30_1
                    try clear hfz30_2
                    try clear hfz30_3
                    try clear hfz30_4
                    try clear hfz30_5
                    try clear hfz30_6
                    try clear hfz30_7
                    try clear hfz32_0
                    try clear hfz32_1
                    try clear hfz32_10
                    try clear hfz32_11
                    try clear hfz32_2
                    try clear hfz32_3
                    try clear hfz32_4
                    try clear hfz32_5
                    try clear hfz32_6
                    try clear hfz32_7
                    try clear hfz32_8
                    try clear hfz32_9
                    try clear hfz38_0
                    try clear hfz38_1
                    try clear hfz38_2
                    try clear hfz39_0
                    try clear hfz39_1
                    try clear hfz39_2
                    try clear hfz39_3
                    try clear hfz39_4
                    try clear hfz39_5
                    try clear hfz39_6
                    try clear hfz39_7
                    try clear hfz40_0
                    try clear hfz40_1
                    try clear hfz40_10
                    try clear hfz40_11
                    try clear hfz40_2
                    try clear hfz40_3
                    try clear hfz40_4
                    try clear hfz40_5
                    try clear hfz40_6
                    try clear hfz40_7
                    try clear hfz40_8
                    try clear hfz40_9
                    try clear hfz47_0
                    try clear hfz47_1
                    try clear hfz47_2
                    try clear hfz53_0
                    try clear hfz53_1
                    try clear hfz53_2
                    try clear hfz53_3
                    try clear hfz62_0
                    try clear hfz62_1
                    try clear hfz62_2
                    try clear hfz66_0
                    try clear hfz66_1
                    try clear hfz66_2
                    try clear hfz71_0
                    try clear hfz71_1
                    try clear hfz71_2
                    try clear hfz75_0
                    try clear hfz75_1
                    try clear hfz75_2
                    try clear hfz80_0
                    try clear hfz80_1
                    try clear hfz80_2
                    try clear hfz84_0
                    try clear hfz84_1
                    try clear hfz84_2
                    try clear hfz90_0
                    try clear hfz90_1
                    try clear hfz90_2
                    try clear hfz95_0
                    try clear hfz95_1
                    try clear hfz95_2
                    try clear hfz99_0
                    try clear hfz99_1
                    try clear hfz99_2
                    try clear p2
                    try clear p6
                    try clear p64
                    obtain ⟨kq, x121_103, rfl, HA, HJ103, BK266, BK268, BK269, BK273, BK277, HB⟩ := hcut
                    cases kq with
                    | zero => exact absurd HA.out (by simp [atlaslaw07_RightsPriv.j6])
                    | succ kj103 =>
                     have H := HA.out
                     clear HA
                     simp only [atlaslaw07_RightsPriv.j6] at H
                     by_cases c150 : x121_103 = true
                     ·
                      subst c150
                      have H1 : (some false) = some r := by rw [if_pos rfl] at H; exact H
                      clear H
                      have H := H1
                      clear H1
                      obtain rfl := Option.some.inj H
                      go_wp2
                      go_ret
                      exact ⟨by first | rfl | (simp [errW_none, errW_some] <;> rfl) | (simp only [← hji17, ← hji19]; first | rfl | (simp [errW_none, errW_some] <;> rfl)) | (simp [*, errW_none, errW_some] <;> rfl) | (simp [*, errW_none, errW_some] <;> exact isEmpty_ne _), by repeat (first | (with_reducible first | exact HB.out | apply below_alloc | apply pw_below_drewN | apply below_drew1 | refine below_set ?_ GE266.out | refine below_set ?_ GE268.out | refine below_set ?_ GE269.out | refine below_set ?_ GE273.out | refine below_set ?_ GE277.out) | exact HB.out)⟩
                     ·
                      replace c150 := Bool.eq_false_iff.mpr c150
                      subst c150
                      have H1 : (if x10_2 = 1 then ((rights_Allows.f kj103 (Go.bits .and .i64 a0_0 7) (Go.bits .and .u32 a0_1 63) a0_2 a0_3 a3 false x12_3).bind fun t278 => (if ((t270 == 0) != t278) = true then (atlaslaw07_RightsPriv.j7 kj103 x2_6 a3 x10_2 x12_3 true (Go.bits .and .i64 a0_0 7) (Go.bits .and .u32 a0_1 63) a0_2 a0_3 (wrap64 (1 + (Go.bits .and .i64 a1 3))) 0 0 x2_6 (Go.bits .and .i64 a0_0 7) (Go.bits .and .u32 a0_1 63) a0_2 a0_3 true false a3 0 false false 0 0 ji19 0 0 0) else ((rights_Allows.f kj103 (Go.bits .and .i64 a0_0 7) (Go.bits .and .u32 a0_1 63) a0_2 a0_3 a3 true x12_3).bind fun t279 => (atlaslaw07_RightsPriv.j7 kj103 x2_6 a3 x10_2 x12_3 ((t274 == 0) != t279) (Go.bits .and .i64 a0_0 7) (Go.bits .and .u32 a0_1 63) a0_2 a0_3 (wrap64 (1 + (Go.bits .and .i64 a1 3))) 0 0 x2_6 (Go.bits .and .i64 a0_0 7) (Go.bits .and .u32 a0_1 63) a0_2 a0_3 true false a3 0 false false 0 0 ji19 0 0 0)))) else (atlaslaw07_RightsPriv.j7 kj103 x2_6 a3 x10_2 x12_3 false (Go.bits .and .i64 a0_0 7) (Go.bits .and .u32 a0_1 63) a0_2 a0_3 (wrap64 (1 + (Go.bits .and .i64 a1 3))) 0 0 x2_6 (Go.bits .and .i64 a0_0 7) (Go.bits .and .u32 a0_1 63) a0_2 a0_3 true false a3 0 false false 0 0 ji19 0 0 0)) = some r := by rw [if_neg (show ¬ (false = true) by decide)] at H; exact H
                      clear H
                      have H := H1
                      clear H1
                      have HC151 := Aside0.mk H
                      clear H
                      go_upto_region 26 with (fail)
                      go_cut [143] (fun v143 wc => ∃ (kq : Nat) (x143_150 : Bool), v143 = .bool x143_150 ∧ Aside0 (atlaslaw07_RightsPriv.j7 kq x2_6 a3 x10_2 x12_3 x143_150 (Go.bits .and .i64 a0_0 7) (Go.bits .and .u32 a0_1 63) a0_2 a0_3 (wrap64 (1 + (Go.bits .and .i64 a1 3))) 0 0 x2_6 (Go.bits .and .i64 a0_0 7) (Go.bits .and .u32 a0_1 63) a0_2 a0_3 true false a3 0 false false 0 0 ji19 0 0 0 = some r) ∧ Aside0 (kq ≤ kj103) ∧ Aside0 (wc.heap[gb266]? = some (.cells #[.int .i64 (Go.bits .and .i64 a0_0 7), .int .u32 (Go.bits .and .u32 a0_1 63), .bool a0_2, .bool a0_3] 24 (0, 0))) ∧ Aside0 (wc.heap[gb268]? = some (.cells #[.int .i64 (wrap64 (1 + (Go.bits .and .i64 a1 3))), .int .u32 0, .int .u64 0, .int .i64 x2_6, .int .i64 (Go.bits .and .i64 a0_0 7), .int .u32 (Go.bits .and .u32 a0_1 63), .bool a0_2, .bool a0_3] 36 (0, 0))) ∧ Aside0 (wc.heap[gb269]? = some (.cells #[.bool true, .bool false, .bool a3, .int .i64 0, .bool false, .bool false, .int .u64 0, .int .u64 0, .int .u32 ji19, .int .u32 0, .int .u32 0, .int .i64 0] 38 (0, 0))) ∧ Aside0 (wc.heap[gb273]? = some (.cells #[.int .i64 t270, .int .i64 t271, .int .i64 t272] 40 (0, 0))) ∧ Aside0 (wc.heap[gb277]? = some (.cells #[.int .i64 t274, .int .i64 t275, .int .i64 t276] 40 (0, 0))) ∧ Aside0 (Below w.heap.size w wc))
                      case first =>
                       have H := HC151.out
                       clear HC151
                       by_cases c152 : x10_2 = 1
                       ·
                        rw [if_pos c152] at H
                        have c152b0 : (x10_2 == 1) = true := beq_iff_eq.mpr c152
                        have c152b1 : (x10_2 != 1) = false := bne_eq_false_iff_eq.mpr c152
                        clear c152
                        (first | rw [c152b0] | (simp only [i64_w, i32_w]; rw [c152b0]) | skip)
                        replace H := Option.bind_eq_some_iff.mp H
                        obtain ⟨t278, A1530, H⟩ := H
                        replace H : (if ((t270 == 0) != t278) = true then (atlaslaw07_RightsPriv.j7 kj103 x2_6 a3 x10_2 x12_3 true (Go.bits .and .i64 a0_0 7) (Go.bits .and .u32 a0_1 63) a0_2 a0_3 (wrap64 (1 + (Go.bits .and .i64 a1 3))) 0 0 x2_6 (Go.bits .and .i64 a0_0 7) (Go.bits .and .u32 a0_1 63) a0_2 a0_3 true false a3 0 false false 0 0 ji19 0 0 0) else ((rights_Allows.f kj103 (Go.bits .and .i64 a0_0 7) (Go.bits .and .u32 a0_1 63) a0_2 a0_3 a3 true x12_3).bind fun t279 => (atlaslaw07_RightsPriv.j7 kj103 x2_6 a3 x10_2 x12_3 ((t274 == 0) != t279) (Go.bits .and .i64 a0_0 7) (Go.bits .and .u32 a0_1 63) a0_2 a0_3 (wrap64 (1 + (Go.bits .and .i64 a1 3))) 0 0 x2_6 (Go.bits .and .i64 a0_0 7) (Go.bits .and .u32 a0_1 63) a0_2 a0_3 true false a3 0 false false 0 0 ji19 0 0 0))) = some r := H
                        have A153 := Aside0.mk A1530
                        clear A1530
                        by_cases c154 : ((t270 == 0) != t278) = true
                        ·
                         rw [if_pos c154] at H
                         have c154b0 : ((t270 == 0) != t278) = true := c154
                         (try (have c154b1 : decide ((t270 == 0) = t278) = false := by simpa using c154))
                         (try (have c154b2 : ((t270 == 0) == t278) = false := by simpa using c154))
                         (try (have c154b3 : ¬ ((t270 == 0) = t278) := by simpa using c154))
                         clear c154
                         have H' := Aside0.mk H
                         clear H
                         try go_wp2
                         have n0_ := Aside0.mk (blk_drew BK266.out)
                         have n1_ := Aside0.mk (blk_drew BK268.out)
                         have n2_ := Aside0.mk (blk_drew BK269.out)
                         have n3_ := Aside0.mk (blk_drew BK273.out)
                         have n4_ := Aside0.mk (blk_drew BK277.out)
                         have n5_ := Aside0.mk (below_drew1 HB.out)
                         clear BK266
                         clear BK268
                         clear BK269
                         clear BK273
                         clear BK277
                         clear HB
                         have BK266 := n0_
                         have BK268 := n1_
                         have BK269 := n2_
                         have BK273 := n3_
                         have BK277 := n4_
                         have HB := n5_
                         clear n0_ n1_ n2_ n3_ n4_ n5_
                         refine start_ (n := 22) (S := fun w' => w'.cell? ⟨gb273, 0, none⟩ = some (.int .i64 t270) ∧ w'.cell? ⟨gb273, 1, none⟩ = some (.int .i64 t271) ∧ w'.cell? ⟨gb273, 2, none⟩ = some (.int .i64 t272) ∧ w'.cell? ⟨gb266, 0, none⟩ = some (.int .i64 (Go.bits .and .i64 a0_0 7)) ∧ w'.cell? ⟨gb266, 1, none⟩ = some (.int .u32 (Go.bits .and .u32 a0_1 63)) ∧ w'.cell? ⟨gb266, 2, none⟩ = some (.bool a0_2) ∧ w'.cell? ⟨gb266, 3, none⟩ = some (.bool a0_3)) (ds := []) #[false, false, false, false, false, false, false, false, false, false, false, false, false, false, false, false, false, false, false, false, false, false] (by kernel_rfl) rfl rfl ⟨(blk_cell BK273.out 0).trans rfl, (blk_cell BK273.out 1).trans rfl, (blk_cell BK273.out 2).trans rfl, (blk_cell BK266.out 0).trans rfl, (blk_cell BK266.out 1).trans rfl, (blk_cell BK266.out 2).trans rfl, (blk_cell BK266.out 3).trans rfl⟩ (fun hHeld => ?_); refine with_tabW atlaslaw07_RightsPriv.tab26 atlaslaw07_RightsPriv.bits26 (fun HT_ HW_ => ?_)
                         generalize wc.drew = w155 at BK266 BK268 BK269 BK273 BK277 HB hHeld ⊢
                         refine pure_ (i := 0) (N := some 122) (v := ?_) (a' := ?_) #[true, false, false, false, false, false, false, false, false, false, false, false, false, false, false, false, false, false, false, false, false, false] rfl rfl (any_of HT_.out (by kernel_rfl)) (fun _ _ _ h => h) (Or.inl ⟨by rfl, ?_⟩) ?_ ?_
                         rotate_left
                         ·
                          intro w'
                          go_simp
                          with_reducible rfl
                         rotate_left
                         ·
                          simp only [Act.put, List.setIfInBounds_toArray, List.set_cons_zero, List.set_cons_succ, i64_w, i32_w]
                          rfl
                         refine pure_ (i := 1) (N := some 123) (v := ?_) (a' := ?_) #[true, true, false, false, false, false, false, false, false, false, false, false, false, false, false, false, false, false, false, false, false, false] rfl rfl (any_of HT_.out (by kernel_rfl)) (fun _ _ _ h => h) (Or.inl ⟨by rfl, ?_⟩) ?_ ?_
                         rotate_left
                         ·
                          intro w'
                          go_simp
                          with_reducible rfl
                         rotate_left
                         ·
                          simp only [Act.put, List.setIfInBounds_toArray, List.set_cons_zero, List.set_cons_succ, i64_w, i32_w]
                          rfl
                         refine pure_ (i := 2) (N := some 124) (v := ?_) (a' := ?_) #[true, true, true, false, false, false, false, false, false, false, false, false, false, false, false, false, false, false, false, false, false, false] rfl rfl (any_of HT_.out (by kernel_rfl)) (fun _ _ _ h => h) (Or.inl ⟨by rfl, ?_⟩) ?_ ?_
                         rotate_left
                         ·
                          intro w'
                          go_simp
                          with_reducible rfl
                         rotate_left
                         ·
                          simp only [Act.put, List.setIfInBounds_toArray, List.set_cons_zero, List.set_cons_succ, i64_w, i32_w]
                          rfl
                         refine pure_ (i := 3) (N := some 125) (v := ?_) (a' := ?_) #[true, true, true, true, false, false, false, false, false, false, false, false, false, false, false, false, false, false, false, false, false, false] rfl rfl (any_of HT_.out (by kernel_rfl)) (fun _ _ _ h => h) (Or.inl ⟨by rfl, ?_⟩) ?_ ?_
                         rotate_left
                         ·
                          intro w'
                          go_simp
                          with_reducible rfl
                         rotate_left
                         ·
                          simp only [Act.put, List.setIfInBounds_toArray, List.set_cons_zero, List.set_cons_succ, i64_w, i32_w]
                          rfl
                         refine pure_ (i := 7) (N := some 129) (v := ?_) (a' := ?_) #[true, true, true, true, false, false, false, true, false, false, false, false, false, false, false, false, false, false, false, false, false, false] rfl rfl (any_of HT_.out (by kernel_rfl)) (fun _ _ _ h => h) (Or.inl ⟨by rfl, ?_⟩) ?_ ?_
                         rotate_left
                         ·
                          intro w'
                          go_simp
                          with_reducible rfl
                         rotate_left
                         ·
                          simp only [Act.put, List.setIfInBounds_toArray, List.set_cons_zero, List.set_cons_succ, i64_w, i32_w]
                          rfl
                         refine pure_ (i := 8) (N := some 130) (v := ?_) (a' := ?_) #[true, true, true, true, false, false, false, true, true, false, false, false, false, false, false, false, false, false, false, false, false, false] rfl rfl (any_of HT_.out (by kernel_rfl)) (fun _ _ _ h => h) (Or.inl ⟨by rfl, ?_⟩) ?_ ?_
                         rotate_left
                         ·
                          intro w'
                          go_simp
                          with_reducible rfl
                         rotate_left
                         ·
                          simp only [Act.put, List.setIfInBounds_toArray, List.set_cons_zero, List.set_cons_succ, i64_w, i32_w]
                          rfl
                         refine take_ (i := 4) (N := some 126) (v := ?_) (a' := ?_) #[true, true, true, true, true, false, false, true, true, false, false, false, false, false, false, false, false, false, false, false, false, false] rfl rfl (take_ofW HT_.out HW_.out (by kernel_rfl)) (fun _ _ _ h => h) (Or.inl ⟨by rfl, ?_⟩) hHeld ?_ ?_
                         rotate_left
                         ·
                          rintro w' ⟨s0, s1, s2, s3, s4, s5, s6⟩
                          go_simp
                          with_reducible rfl
                         rotate_left
                         ·
                          simp only [Act.put, List.setIfInBounds_toArray, List.set_cons_zero, List.set_cons_succ, i64_w, i32_w]
                          rfl
                         refine pure_ (i := 5) (N := some 127) (v := ?_) (a' := ?_) #[true, true, true, true, true, true, false, true, true, false, false, false, false, false, false, false, false, false, false, false, false, false] rfl rfl (any_of HT_.out (by kernel_rfl)) (fun _ _ _ h => h) (Or.inl ⟨by rfl, ?_⟩) ?_ ?_
                         rotate_left
                         ·
                          intro w'
                          go_simp
                          with_reducible rfl
                         rotate_left
                         ·
                          simp only [Act.put, List.setIfInBounds_toArray, List.set_cons_zero, List.set_cons_succ, i64_w, i32_w]
                          rfl
                         refine take_ (i := 6) (N := some 128) (v := ?_) (a' := ?_) #[true, true, true, true, true, true, true, true, true, false, false, false, false, false, false, false, false, false, false, false, false, false] rfl rfl (take_ofW HT_.out HW_.out (by kernel_rfl)) (fun _ _ _ h => h) (Or.inl ⟨by rfl, ?_⟩) hHeld ?_ ?_
                         rotate_left
                         ·
                          rintro w' ⟨s0, s1, s2, s3, s4, s5, s6⟩
                          go_simp
                          with_reducible rfl
                         rotate_left
                         ·
                          simp only [Act.put, List.setIfInBounds_toArray, List.set_cons_zero, List.set_cons_succ, i64_w, i32_w]
                          rfl
                         refine one_ (i := 9) (N := some 131) #[true, true, true, true, true, true, true, true, true, true, false, false, false, false, false, false, false, false, false, false, false, false] rfl rfl (one_of HT_.out (by kernel_rfl)) (by decide) (fun K hK => ?_)
                         refine goes_ Tryd.func10 (by kernel_rfl) rfl #[.agg #[.int .i64 (Go.bits .and .i64 a0_0 7), .int .u32 (Go.bits .and .u32 a0_1 63), .bool a0_2, .bool a0_3], .bool a3, .bool false, .int .i64 x12_3] (by rfl) rfl rfl (by (try simp only [List.map_toArray, List.map_cons, List.map_nil]); first | done | rfl | (simp only [List.length_drop, List.length_take]; rfl)) ?_
                         with_reducible refine (rights_Allows.calls kj103 (Go.bits .and .i64 a0_0 7) (Go.bits .and .u32 a0_1 63) a0_2 a0_3 a3 false x12_3 t278 _ ?side1 ?side2 A153.out).mono ?_
                         (case side1 => exact ⟨G0.below hG0.out (by repeat (first | (with_reducible first | exact HB.out | apply below_alloc | apply pw_below_drewN | apply below_drew1 | refine below_set ?_ GE266.out | refine below_set ?_ GE268.out | refine below_set ?_ GE269.out | refine below_set ?_ GE273.out | refine below_set ?_ GE277.out) | exact HB.out))⟩)
                         (case side2 => exact ⟨G1.below hG1.out (by repeat (first | (with_reducible first | exact HB.out | apply below_alloc | apply pw_below_drewN | apply below_drew1 | refine below_set ?_ GE266.out | refine below_set ?_ GE268.out | refine below_set ?_ GE269.out | refine below_set ?_ GE273.out | refine below_set ?_ GE277.out) | exact HB.out))⟩)
                         rintro e w156 ⟨rfl, hb⟩
                         refine ⟨_, rfl, ?_⟩
                         have n0_ := Aside0.mk (blk_below (g := gb266) (o := .cells #[.int .i64 (Go.bits .and .i64 a0_0 7), .int .u32 (Go.bits .and .u32 a0_1 63), .bool a0_2, .bool a0_3] 24 (0, 0)) (by (with_reducible repeat (first | refine blk_drewN ?_ _ | refine blk_drew ?_ | refine blk_alloc ?_ _)); exact BK266.out) hb)
                         have n1_ := Aside0.mk (blk_below (g := gb268) (o := .cells #[.int .i64 (wrap64 (1 + (Go.bits .and .i64 a1 3))), .int .u32 0, .int .u64 0, .int .i64 x2_6, .int .i64 (Go.bits .and .i64 a0_0 7), .int .u32 (Go.bits .and .u32 a0_1 63), .bool a0_2, .bool a0_3] 36 (0, 0)) (by (with_reducible repeat (first | refine blk_drewN ?_ _ | refine blk_drew ?_ | refine blk_alloc ?_ _)); exact BK268.out) hb)
                         have n2_ := Aside0.mk (blk_below (g := gb269) (o := .cells #[.bool true, .bool false, .bool a3, .int .i64 0, .bool false, .bool false, .int .u64 0, .int .u64 0, .int .u32 ji19, .int .u32 0, .int .u32 0, .int .i64 0] 38 (0, 0)) (by (with_reducible repeat (first | refine blk_drewN ?_ _ | refine blk_drew ?_ | refine blk_alloc ?_ _)); exact BK269.out) hb)
                         have n3_ := Aside0.mk (blk_below (g := gb273) (o := .cells #[.int .i64 t270, .int .i64 t271, .int .i64 t272] 40 (0, 0)) (by (with_reducible repeat (first | refine blk_drewN ?_ _ | refine blk_drew ?_ | refine blk_alloc ?_ _)); exact BK273.out) hb)
                         have n4_ := Aside0.mk (blk_below (g := gb277) (o := .cells #[.int .i64 t274, .int .i64 t275, .int .i64 t276] 40 (0, 0)) (by (with_reducible repeat (first | refine blk_drewN ?_ _ | refine blk_drew ?_ | refine blk_alloc ?_ _)); exact BK277.out) hb)
                         have n5_ := Aside0.mk (below_step (by repeat (first | (with_reducible first | exact HB.out | apply below_alloc | apply pw_below_drewN | apply below_drew1 | refine below_set ?_ GE266.out | refine below_set ?_ GE268.out | refine below_set ?_ GE269.out | refine below_set ?_ GE273.out | refine below_set ?_ GE277.out) | exact HB.out)) hb)
                         clear BK266
                         clear BK268
                         clear BK269
                         clear BK273
                         clear BK277
                         clear HB
                         have BK266 := n0_
                         have BK268 := n1_
                         have BK269 := n2_
                         have BK273 := n3_
                         have BK277 := n4_
                         have HB := n5_
                         clear n0_ n1_ n2_ n3_ n4_ n5_
                         (try clear hb)
                         (try clear hb2)
                         (try clear hk)
                         (try clear hi)
                         refine hK.out _ _ ⟨(blk_cell BK273.out 0).trans rfl, (blk_cell BK273.out 1).trans rfl, (blk_cell BK273.out 2).trans rfl, (blk_cell BK266.out 0).trans rfl, (blk_cell BK266.out 1).trans rfl, (blk_cell BK266.out 2).trans rfl, (blk_cell BK266.out 3).trans rfl⟩ (fun hHeld => ?_)
                         clear hK K
                         refine norm_ (a' := ?_) ?_ ?_
                         rotate_left
                         ·
                          show Act.put _ (some 131) _ = _
                          simp only [Act.put, List.setIfInBounds_toArray, List.set_cons_zero, List.set_cons_succ, i64_w, i32_w]
                          rfl
                         refine pure_ (i := 10) (N := some 132) (v := ?_) (a' := ?_) #[true, true, true, true, true, true, true, true, true, true, true, false, false, false, false, false, false, false, false, false, false, false] rfl rfl (any_of HT_.out (by kernel_rfl)) (fun _ _ _ h => h) (Or.inl ⟨by rfl, ?_⟩) ?_ ?_
                         rotate_left
                         ·
                          intro w'
                          go_simp
                          with_reducible rfl
                         rotate_left
                         ·
                          simp only [Act.put, List.setIfInBounds_toArray, List.set_cons_zero, List.set_cons_succ, i64_w, i32_w]
                          rfl
                         refine pure_ (i := 11) (N := some 133) (v := ?_) (a' := ?_) #[true, true, true, true, true, true, true, true, true, true, true, true, false, false, false, false, false, false, false, false, false, false] rfl rfl (any_of HT_.out (by kernel_rfl)) (fun _ _ _ h => h) (Or.inl ⟨by rfl, ?_⟩) ?_ ?_
                         rotate_left
                         ·
                          intro w'
                          go_simp
                          with_reducible rfl
                         rotate_left
                         ·
                          simp only [Act.put, List.setIfInBounds_toArray, List.set_cons_zero, List.set_cons_succ, i64_w, i32_w]
                          rfl
                         refine pure_ (i := 12) (N := some 134) (v := undef) (a' := ?_) #[true, true, true, true, true, true, true, true, true, true, true, true, true, false, false, false, false, false, false, false, false, false] rfl rfl (any_of HT_.out (by kernel_rfl)) (fun _ _ _ h => h) (Or.inr ⟨by rfl, rfl⟩) ?_ ?_
                         rotate_left
                         ·
                          simp only [Act.put, List.setIfInBounds_toArray, List.set_cons_zero, List.set_cons_succ, i64_w, i32_w]
                          rfl
                         refine pure_ (i := 13) (N := some 135) (v := undef) (a' := ?_) #[true, true, true, true, true, true, true, true, true, true, true, true, true, true, false, false, false, false, false, false, false, false] rfl rfl (any_of HT_.out (by kernel_rfl)) (fun _ _ _ h => h) (Or.inr ⟨by rfl, rfl⟩) ?_ ?_
                         rotate_left
                         ·
                          simp only [Act.put, List.setIfInBounds_toArray, List.set_cons_zero, List.set_cons_succ, i64_w, i32_w]
                          rfl
                         refine pure_ (i := 14) (N := some 136) (v := undef) (a' := ?_) #[true, true, true, true, true, true, true, true, true, true, true, true, true, true, true, false, false, false, false, false, false, false] rfl rfl (any_of HT_.out (by kernel_rfl)) (fun _ _ _ h => h) (Or.inr ⟨by rfl, rfl⟩) ?_ ?_
                         rotate_left
                         ·
                          simp only [Act.put, List.setIfInBounds_toArray, List.set_cons_zero, List.set_cons_succ, i64_w, i32_w]
                          rfl
                         refine pure_ (i := 15) (N := some 137) (v := undef) (a' := ?_) #[true, true, true, true, true, true, true, true, true, true, true, true, true, true, true, true, false, false, false, false, false, false] rfl rfl (any_of HT_.out (by kernel_rfl)) (fun _ _ _ h => h) (Or.inr ⟨by rfl, rfl⟩) ?_ ?_
                         rotate_left
                         ·
                          simp only [Act.put, List.setIfInBounds_toArray, List.set_cons_zero, List.set_cons_succ, i64_w, i32_w]
                          rfl
                         refine pure_ (i := 16) (N := some 138) (v := undef) (a' := ?_) #[true, true, true, true, true, true, true, true, true, true, true, true, true, true, true, true, true, false, false, false, false, false] rfl rfl (any_of HT_.out (by kernel_rfl)) (fun _ _ _ h => h) (Or.inr ⟨by rfl, rfl⟩) ?_ ?_
                         rotate_left
                         ·
                          simp only [Act.put, List.setIfInBounds_toArray, List.set_cons_zero, List.set_cons_succ, i64_w, i32_w]
                          rfl
                         refine pure_ (i := 17) (N := some 139) (v := undef) (a' := ?_) #[true, true, true, true, true, true, true, true, true, true, true, true, true, true, true, true, true, true, false, false, false, false] rfl rfl (any_of HT_.out (by kernel_rfl)) (fun _ _ _ h => h) (Or.inr ⟨by rfl, rfl⟩) ?_ ?_
                         rotate_left
                         ·
                          simp only [Act.put, List.setIfInBounds_toArray, List.set_cons_zero, List.set_cons_succ, i64_w, i32_w]
                          rfl
                         refine pure_ (i := 18) (N := some 140) (v := undef) (a' := ?_) #[true, true, true, true, true, true, true, true, true, true, true, true, true, true, true, true, true, true, true, false, false, false] rfl rfl (any_of HT_.out (by kernel_rfl)) (fun _ _ _ h => h) (Or.inr ⟨by rfl, rfl⟩) ?_ ?_
                         rotate_left
                         ·
                          simp only [Act.put, List.setIfInBounds_toArray, List.set_cons_zero, List.set_cons_succ, i64_w, i32_w]
                          rfl
                         refine pure_ (i := 19) (N := some 141) (v := undef) (a' := ?_) #[true, true, true, true, true, true, true, true, true, true, true, true, true, true, true, true, true, true, true, true, false, false] rfl rfl (any_of HT_.out (by kernel_rfl)) (fun _ _ _ h => h) (Or.inr ⟨by rfl, rfl⟩) ?_ ?_
                         rotate_left
                         ·
                          simp only [Act.put, List.setIfInBounds_toArray, List.set_cons_zero, List.set_cons_succ, i64_w, i32_w]
                          rfl
                         refine pure_ (i := 20) (N := some 142) (v := ?_) (a' := ?_) #[true, true, true, true, true, true, true, true, true, true, true, true, true, true, true, true, true, true, true, true, true, false] rfl rfl (any_of HT_.out (by kernel_rfl)) (fun _ _ _ h => h) (Or.inl ⟨by rfl, ?_⟩) ?_ ?_
                         rotate_left
                         ·
                          intro w'
                          go_simp
                          with_reducible rfl
                         rotate_left
                         ·
                          simp only [Act.put, List.setIfInBounds_toArray, List.set_cons_zero, List.set_cons_succ, i64_w, i32_w]
                          rfl
                         refine pure_ (i := 21) (N := some 143) (v := ?_) (a' := ?_) #[true, true, true, true, true, true, true, true, true, true, true, true, true, true, true, true, true, true, true, true, true, true] rfl rfl (any_of HT_.out (by kernel_rfl)) (fun _ _ _ h => h) (Or.inl ⟨by rfl, ?_⟩) ?_ ?_
                         rotate_left
                         ·
                          intro w'
                          go_simp
                          with_reducible rfl
                         rotate_left
                         ·
                          simp only [Act.put, List.setIfInBounds_toArray, List.set_cons_zero, List.set_cons_succ, i64_w, i32_w]
                          rfl
                         refine done_ (done_of HT_.out (by kernel_rfl)) ?_
                         try go_wp2
                         go_meet
                         case rel => exact ⟨_, (true), (by first | rfl | (simp; done) | (simp [*]; done)), H', ⟨by have := HJ6.out; have := HK2.out; have := HK3.out; have := HJ26.out; have := HJ53.out; have := HJ101.out; have := HJ103.out; first | omega | exact Nat.le_refl _⟩, ⟨by (with_reducible repeat (first | refine blk_drewN ?_ _ | refine blk_drew ?_ | refine blk_alloc ?_ _)); exact BK266.out⟩, ⟨by (with_reducible repeat (first | refine blk_drewN ?_ _ | refine blk_drew ?_ | refine blk_alloc ?_ _)); exact BK268.out⟩, ⟨by (with_reducible repeat (first | refine blk_drewN ?_ _ | refine blk_drew ?_ | refine blk_alloc ?_ _)); exact BK269.out⟩, ⟨by (with_reducible repeat (first | refine blk_drewN ?_ _ | refine blk_drew ?_ | refine blk_alloc ?_ _)); exact BK273.out⟩, ⟨by (with_reducible repeat (first | refine blk_drewN ?_ _ | refine blk_drew ?_ | refine blk_alloc ?_ _)); exact BK277.out⟩, ⟨by repeat (first | (with_reducible first | exact HB.out | apply below_alloc | apply pw_below_drewN | apply below_drew1 | refine below_set ?_ GE266.out | refine below_set ?_ GE268.out | refine below_set ?_ GE269.out | refine below_set ?_ GE273.out | refine below_set ?_ GE277.out) | exact HB.out)⟩⟩
                        ·
                         rw [if_neg c154] at H
                         have c154b0 : ((t270 == 0) != t278) = false := by simpa using c154
                         (try (have c154b1 : decide ((t270 == 0) = t278) = true := by simpa using c154))
                         (try (have c154b2 : ((t270 == 0) == t278) = true := by simpa using c154))
                         clear c154
                         replace H := Option.bind_eq_some_iff.mp H
                         obtain ⟨t279, A1570, H⟩ := H
                         replace H : (atlaslaw07_RightsPriv.j7 kj103 x2_6 a3 x10_2 x12_3 ((t274 == 0) != t279) (Go.bits .and .i64 a0_0 7) (Go.bits .and .u32 a0_1 63) a0_2 a0_3 (wrap64 (1 + (Go.bits .and .i64 a1 3))) 0 0 x2_6 (Go.bits .and .i64 a0_0 7) (Go.bits .and .u32 a0_1 63) a0_2 a0_3 true false a3 0 false false 0 0 ji19 0 0 0) = some r := H
                         have A157 := Aside0.mk A1570
                         clear A1570
                         have H' := Aside0.mk H
                         clear H
                         try go_wp2
                         have n0_ := Aside0.mk (blk_drew BK266.out)
                         have n1_ := Aside0.mk (blk_drew BK268.out)
                         have n2_ := Aside0.mk (blk_drew BK269.out)
                         have n3_ := Aside0.mk (blk_drew BK273.out)
                         have n4_ := Aside0.mk (blk_drew BK277.out)
                         have n5_ := Aside0.mk (below_drew1 HB.out)
                         clear BK266
                         clear BK268
                         clear BK269
                         clear BK273
                         clear BK277
                         clear HB
                         have BK266 := n0_
                         have BK268 := n1_
                         have BK269 := n2_
                         have BK273 := n3_
                         have BK277 := n4_
                         have HB := n5_
                         clear n0_ n1_ n2_ n3_ n4_ n5_
                         refine start_ (n := 22) (S := fun w' => w'.cell? ⟨gb273, 0, none⟩ = some (.int .i64 t270) ∧ w'.cell? ⟨gb273, 1, none⟩ = some (.int .i64 t271) ∧ w'.cell? ⟨gb273, 2, none⟩ = some (.int .i64 t272) ∧ w'.cell? ⟨gb266, 0, none⟩ = some (.int .i64 (Go.bits .and .i64 a0_0 7)) ∧ w'.cell? ⟨gb266, 1, none⟩ = some (.int .u32 (Go.bits .and .u32 a0_1 63)) ∧ w'.cell? ⟨gb266, 2, none⟩ = some (.bool a0_2) ∧ w'.cell? ⟨gb266, 3, none⟩ = some (.bool a0_3) ∧ w'.cell? ⟨gb277, 0, none⟩ = some (.int .i64 t274) ∧ w'.cell? ⟨gb277, 1, none⟩ = some (.int .i64 t275) ∧ w'.cell? ⟨gb277, 2, none⟩ = some (.int .i64 t276)) (ds := []) #[false, false, false, false, false, false, false, false, false, false, false, false, false, false, false, false, false, false, false, false, false, false] (by kernel_rfl) rfl rfl ⟨(blk_cell BK273.out 0).trans rfl, (blk_cell BK273.out 1).trans rfl, (blk_cell BK273.out 2).trans rfl, (blk_cell BK266.out 0).trans rfl, (blk_cell BK266.out 1).trans rfl, (blk_cell BK266.out 2).trans rfl, (blk_cell BK266.out 3).trans rfl, (blk_cell BK277.out 0).trans rfl, (blk_cell BK277.out 1).trans rfl, (blk_cell BK277.out 2).trans rfl⟩ (fun hHeld => ?_); refine with_tabW atlaslaw07_RightsPriv.tab26 atlaslaw07_RightsPriv.bits26 (fun HT_ HW_ => ?_)
                         generalize wc.drew = w158 at BK266 BK268 BK269 BK273 BK277 HB hHeld ⊢
                         refine pure_ (i := 0) (N := some 122) (v := ?_) (a' := ?_) #[true, false, false, false, false, false, false, false, false, false, false, false, false, false, false, false, false, false, false, false, false, false] rfl rfl (any_of HT_.out (by kernel_rfl)) (fun _ _ _ h => h) (Or.inl ⟨by rfl, ?_⟩) ?_ ?_
                         rotate_left
                         ·
                          intro w'
                          go_simp
                          with_reducible rfl
                         rotate_left
                         ·
                          simp only [Act.put, List.setIfInBounds_toArray, List.set_cons_zero, List.set_cons_succ, i64_w, i32_w]
                          rfl
                         refine pure_ (i := 1) (N := some 123) (v := ?_) (a' := ?_) #[true, true, false, false, false, false, false, false, false, false, false, false, false, false, false, false, false, false, false, false, false, false] rfl rfl (any_of HT_.out (by kernel_rfl)) (fun _ _ _ h => h) (Or.inl ⟨by rfl, ?_⟩) ?_ ?_
                         rotate_left
                         ·
                          intro w'
                          go_simp
                          with_reducible rfl
                         rotate_left
                         ·
                          simp only [Act.put, List.setIfInBounds_toArray, List.set_cons_zero, List.set_cons_succ, i64_w, i32_w]
                          rfl
                         refine pure_ (i := 2) (N := some 124) (v := ?_) (a' := ?_) #[true, true, true, false, false, false, false, false, false, false, false, false, false, false, false, false, false, false, false, false, false, false] rfl rfl (any_of HT_.out (by kernel_rfl)) (fun _ _ _ h => h) (Or.inl ⟨by rfl, ?_⟩) ?_ ?_
                         rotate_left
                         ·
                          intro w'
                          go_simp
                          with_reducible rfl
                         rotate_left
                         ·
                          simp only [Act.put, List.setIfInBounds_toArray, List.set_cons_zero, List.set_cons_succ, i64_w, i32_w]
                          rfl
                         refine pure_ (i := 3) (N := some 125) (v := ?_) (a' := ?_) #[true, true, true, true, false, false, false, false, false, false, false, false, false, false, false, false, false, false, false, false, false, false] rfl rfl (any_of HT_.out (by kernel_rfl)) (fun _ _ _ h => h) (Or.inl ⟨by rfl, ?_⟩) ?_ ?_
                         rotate_left
                         ·
                          intro w'
                          go_simp
                          with_reducible rfl
                         rotate_left
                         ·
                          simp only [Act.put, List.setIfInBounds_toArray, List.set_cons_zero, List.set_cons_succ, i64_w, i32_w]
                          rfl
                         refine pure_ (i := 7) (N := some 129) (v := ?_) (a' := ?_) #[true, true, true, true, false, false, false, true, false, false, false, false, false, false, false, false, false, false, false, false, false, false] rfl rfl (any_of HT_.out (by kernel_rfl)) (fun _ _ _ h => h) (Or.inl ⟨by rfl, ?_⟩) ?_ ?_
                         rotate_left
                         ·
                          intro w'
                          go_simp
                          with_reducible rfl
                         rotate_left
                         ·
                          simp only [Act.put, List.setIfInBounds_toArray, List.set_cons_zero, List.set_cons_succ, i64_w, i32_w]
                          rfl
                         refine pure_ (i := 8) (N := some 130) (v := ?_) (a' := ?_) #[true, true, true, true, false, false, false, true, true, false, false, false, false, false, false, false, false, false, false, false, false, false] rfl rfl (any_of HT_.out (by kernel_rfl)) (fun _ _ _ h => h) (Or.inl ⟨by rfl, ?_⟩) ?_ ?_
                         rotate_left
                         ·
                          intro w'
                          go_simp
                          with_reducible rfl
                         rotate_left
                         ·
                          simp only [Act.put, List.setIfInBounds_toArray, List.set_cons_zero, List.set_cons_succ, i64_w, i32_w]
                          rfl
                         refine take_ (i := 4) (N := some 126) (v := ?_) (a' := ?_) #[true, true, true, true, true, false, false, true, true, false, false, false, false, false, false, false, false, false, false, false, false, false] rfl rfl (take_ofW HT_.out HW_.out (by kernel_rfl)) (fun _ _ _ h => h) (Or.inl ⟨by rfl, ?_⟩) hHeld ?_ ?_
                         rotate_left
                         ·
                          rintro w' ⟨s0, s1, s2, s3, s4, s5, s6, s7, s8, s9⟩
                          go_simp
                          with_reducible rfl
                         rotate_left
                         ·
                          simp only [Act.put, List.setIfInBounds_toArray, List.set_cons_zero, List.set_cons_succ, i64_w, i32_w]
                          rfl
                         refine pure_ (i := 5) (N := some 127) (v := ?_) (a' := ?_) #[true, true, true, true, true, true, false, true, true, false, false, false, false, false, false, false, false, false, false, false, false, false] rfl rfl (any_of HT_.out (by kernel_rfl)) (fun _ _ _ h => h) (Or.inl ⟨by rfl, ?_⟩) ?_ ?_
                         rotate_left
                         ·
                          intro w'
                          go_simp
                          with_reducible rfl
                         rotate_left
                         ·
                          simp only [Act.put, List.setIfInBounds_toArray, List.set_cons_zero, List.set_cons_succ, i64_w, i32_w]
                          rfl
                         refine take_ (i := 6) (N := some 128) (v := ?_) (a' := ?_) #[true, true, true, true, true, true, true, true, true, false, false, false, false, false, false, false, false, false, false, false, false, false] rfl rfl (take_ofW HT_.out HW_.out (by kernel_rfl)) (fun _ _ _ h => h) (Or.inl ⟨by rfl, ?_⟩) hHeld ?_ ?_
                         rotate_left
                         ·
                          rintro w' ⟨s0, s1, s2, s3, s4, s5, s6, s7, s8, s9⟩
                          go_simp
                          with_reducible rfl
                         rotate_left
                         ·
                          simp only [Act.put, List.setIfInBounds_toArray, List.set_cons_zero, List.set_cons_succ, i64_w, i32_w]
                          rfl
                         refine one_ (i := 9) (N := some 131) #[true, true, true, true, true, true, true, true, true, true, false, false, false, false, false, false, false, false, false, false, false, false] rfl rfl (one_of HT_.out (by kernel_rfl)) (by decide) (fun K hK => ?_)
                         refine goes_ Tryd.func10 (by kernel_rfl) rfl #[.agg #[.int .i64 (Go.bits .and .i64 a0_0 7), .int .u32 (Go.bits .and .u32 a0_1 63), .bool a0_2, .bool a0_3], .bool a3, .bool false, .int .i64 x12_3] (by rfl) rfl rfl (by (try simp only [List.map_toArray, List.map_cons, List.map_nil]); first | done | rfl | (simp only [List.length_drop, List.length_take]; rfl)) ?_
                         with_reducible refine (rights_Allows.calls kj103 (Go.bits .and .i64 a0_0 7) (Go.bits .and .u32 a0_1 63) a0_2 a0_3 a3 false x12_3 t278 _ ?side1 ?side2 A153.out).mono ?_
                         (case side1 => exact ⟨G0.below hG0.out (by repeat (first | (with_reducible first | exact HB.out | apply below_alloc | apply pw_below_drewN | apply below_drew1 | refine below_set ?_ GE266.out | refine below_set ?_ GE268.out | refine below_set ?_ GE269.out | refine below_set ?_ GE273.out | refine below_set ?_ GE277.out) | exact HB.out))⟩)
                         (case side2 => exact ⟨G1.below hG1.out (by repeat (first | (with_reducible first | exact HB.out | apply below_alloc | apply pw_below_drewN | apply below_drew1 | refine below_set ?_ GE266.out | refine below_set ?_ GE268.out | refine below_set ?_ GE269.out | refine below_set ?_ GE273.out | refine below_set ?_ GE277.out) | exact HB.out))⟩)
                         rintro e w159 ⟨rfl, hb⟩
                         refine ⟨_, rfl, ?_⟩
                         have n0_ := Aside0.mk (blk_below (g := gb266) (o := .cells #[.int .i64 (Go.bits .and .i64 a0_0 7), .int .u32 (Go.bits .and .u32 a0_1 63), .bool a0_2, .bool a0_3] 24 (0, 0)) (by (with_reducible repeat (first | refine blk_drewN ?_ _ | refine blk_drew ?_ | refine blk_alloc ?_ _)); exact BK266.out) hb)
                         have n1_ := Aside0.mk (blk_below (g := gb268) (o := .cells #[.int .i64 (wrap64 (1 + (Go.bits .and .i64 a1 3))), .int .u32 0, .int .u64 0, .int .i64 x2_6, .int .i64 (Go.bits .and .i64 a0_0 7), .int .u32 (Go.bits .and .u32 a0_1 63), .bool a0_2, .bool a0_3] 36 (0, 0)) (by (with_reducible repeat (first | refine blk_drewN ?_ _ | refine blk_drew ?_ | refine blk_alloc ?_ _)); exact BK268.out) hb)
                         have n2_ := Aside0.mk (blk_below (g := gb269) (o := .cells #[.bool true, .bool false, .bool a3, .int .i64 0, .bool false, .bool false, .int .u64 0, .int .u64 0, .int .u32 ji19, .int .u32 0, .int .u32 0, .int .i64 0] 38 (0, 0)) (by (with_reducible repeat (first | refine blk_drewN ?_ _ | refine blk_drew ?_ | refine blk_alloc ?_ _)); exact BK269.out) hb)
                         have n3_ := Aside0.mk (blk_below (g := gb273) (o := .cells #[.int .i64 t270, .int .i64 t271, .int .i64 t272] 40 (0, 0)) (by (with_reducible repeat (first | refine blk_drewN ?_ _ | refine blk_drew ?_ | refine blk_alloc ?_ _)); exact BK273.out) hb)
                         have n4_ := Aside0.mk (blk_below (g := gb277) (o := .cells #[.int .i64 t274, .int .i64 t275, .int .i64 t276] 40 (0, 0)) (by (with_reducible repeat (first | refine blk_drewN ?_ _ | refine blk_drew ?_ | refine blk_alloc ?_ _)); exact BK277.out) hb)
                         have n5_ := Aside0.mk (below_step (by repeat (first | (with_reducible first | exact HB.out | apply below_alloc | apply pw_below_drewN | apply below_drew1 | refine below_set ?_ GE266.out | refine below_set ?_ GE268.out | refine below_set ?_ GE269.out | refine below_set ?_ GE273.out | refine below_set ?_ GE277.out) | exact HB.out)) hb)
                         clear BK266
                         clear BK268
                         clear BK269
                         clear BK273
                         clear BK277
                         clear HB
                         have BK266 := n0_
                         have BK268 := n1_
                         have BK269 := n2_
                         have BK273 := n3_
                         have BK277 := n4_
                         have HB := n5_
                         clear n0_ n1_ n2_ n3_ n4_ n5_
                         (try clear hb)
                         (try clear hb2)
                         (try clear hk)
                         (try clear hi)
                         refine hK.out _ _ ⟨(blk_cell BK273.out 0).trans rfl, (blk_cell BK273.out 1).trans rfl, (blk_cell BK273.out 2).trans rfl, (blk_cell BK266.out 0).trans rfl, (blk_cell BK266.out 1).trans rfl, (blk_cell BK266.out 2).trans rfl, (blk_cell BK266.out 3).trans rfl, (blk_cell BK277.out 0).trans rfl, (blk_cell BK277.out 1).trans rfl, (blk_cell BK277.out 2).trans rfl⟩ (fun hHeld => ?_)
                         clear hK K
                         refine norm_ (a' := ?_) ?_ ?_
                         rotate_left
                         ·
                          show Act.put _ (some 131) _ = _
                          simp only [Act.put, List.setIfInBounds_toArray, List.set_cons_zero, List.set_cons_succ, i64_w, i32_w]
                          rfl
                         refine pure_ (i := 10) (N := some 132) (v := ?_) (a' := ?_) #[true, true, true, true, true, true, true, true, true, true, true, false, false, false, false, false, false, false, false, false, false, false] rfl rfl (any_of HT_.out (by kernel_rfl)) (fun _ _ _ h => h) (Or.inl ⟨by rfl, ?_⟩) ?_ ?_
                         rotate_left
                         ·
                          intro w'
                          go_simp
                          with_reducible rfl
                         rotate_left
                         ·
                          simp only [Act.put, List.setIfInBounds_toArray, List.set_cons_zero, List.set_cons_succ, i64_w, i32_w]
                          rfl
                         refine pure_ (i := 11) (N := some 133) (v := ?_) (a' := ?_) #[true, true, true, true, true, true, true, true, true, true, true, true, false, false, false, false, false, false, false, false, false, false] rfl rfl (any_of HT_.out (by kernel_rfl)) (fun _ _ _ h => h) (Or.inl ⟨by rfl, ?_⟩) ?_ ?_
                         rotate_left
                         ·
                          intro w'
                          go_simp
                          with_reducible rfl
                         rotate_left
                         ·
                          simp only [Act.put, List.setIfInBounds_toArray, List.set_cons_zero, List.set_cons_succ, i64_w, i32_w]
                          rfl
                         refine pure_ (i := 12) (N := some 134) (v := ?_) (a' := ?_) #[true, true, true, true, true, true, true, true, true, true, true, true, true, false, false, false, false, false, false, false, false, false] rfl rfl (any_of HT_.out (by kernel_rfl)) (fun _ _ _ h => h) (Or.inl ⟨by rfl, ?_⟩) ?_ ?_
                         rotate_left
                         ·
                          intro w'
                          go_simp
                          with_reducible rfl
                         rotate_left
                         ·
                          simp only [Act.put, List.setIfInBounds_toArray, List.set_cons_zero, List.set_cons_succ, i64_w, i32_w]
                          rfl
                         refine pure_ (i := 16) (N := some 138) (v := ?_) (a' := ?_) #[true, true, true, true, true, true, true, true, true, true, true, true, true, false, false, false, true, false, false, false, false, false] rfl rfl (any_of HT_.out (by kernel_rfl)) (fun _ _ _ h => h) (Or.inl ⟨by rfl, ?_⟩) ?_ ?_
                         rotate_left
                         ·
                          intro w'
                          go_simp
                          with_reducible rfl
                         rotate_left
                         ·
                          simp only [Act.put, List.setIfInBounds_toArray, List.set_cons_zero, List.set_cons_succ, i64_w, i32_w]
                          rfl
                         refine pure_ (i := 17) (N := some 139) (v := ?_) (a' := ?_) #[true, true, true, true, true, true, true, true, true, true, true, true, true, false, false, false, true, true, false, false, false, false] rfl rfl (any_of HT_.out (by kernel_rfl)) (fun _ _ _ h => h) (Or.inl ⟨by rfl, ?_⟩) ?_ ?_
                         rotate_left
                         ·
                          intro w'
                          go_simp
                          with_reducible rfl
                         rotate_left
                         ·
                          simp only [Act.put, List.setIfInBounds_toArray, List.set_cons_zero, List.set_cons_succ, i64_w, i32_w]
                          rfl
                         refine take_ (i := 13) (N := some 135) (v := ?_) (a' := ?_) #[true, true, true, true, true, true, true, true, true, true, true, true, true, true, false, false, true, true, false, false, false, false] rfl rfl (take_ofW HT_.out HW_.out (by kernel_rfl)) (fun _ _ _ h => h) (Or.inl ⟨by rfl, ?_⟩) hHeld ?_ ?_
                         rotate_left
                         ·
                          rintro w' ⟨s0, s1, s2, s3, s4, s5, s6, s7, s8, s9⟩
                          go_simp
                          with_reducible rfl
                         rotate_left
                         ·
                          simp only [Act.put, List.setIfInBounds_toArray, List.set_cons_zero, List.set_cons_succ, i64_w, i32_w]
                          rfl
                         refine pure_ (i := 14) (N := some 136) (v := ?_) (a' := ?_) #[true, true, true, true, true, true, true, true, true, true, true, true, true, true, true, false, true, true, false, false, false, false] rfl rfl (any_of HT_.out (by kernel_rfl)) (fun _ _ _ h => h) (Or.inl ⟨by rfl, ?_⟩) ?_ ?_
                         rotate_left
                         ·
                          intro w'
                          go_simp
                          with_reducible rfl
                         rotate_left
                         ·
                          simp only [Act.put, List.setIfInBounds_toArray, List.set_cons_zero, List.set_cons_succ, i64_w, i32_w]
                          rfl
                         refine take_ (i := 15) (N := some 137) (v := ?_) (a' := ?_) #[true, true, true, true, true, true, true, true, true, true, true, true, true, true, true, true, true, true, false, false, false, false] rfl rfl (take_ofW HT_.out HW_.out (by kernel_rfl)) (fun _ _ _ h => h) (Or.inl ⟨by rfl, ?_⟩) hHeld ?_ ?_
                         rotate_left
                         ·
                          rintro w' ⟨s0, s1, s2, s3, s4, s5, s6, s7, s8, s9⟩
                          go_simp
                          with_reducible rfl
                         rotate_left
                         ·
                          simp only [Act.put, List.setIfInBounds_toArray, List.set_cons_zero, List.set_cons_succ, i64_w, i32_w]
                          rfl
                         refine one_ (i := 18) (N := some 140) #[true, true, true, true, true, true, true, true, true, true, true, true, true, true, true, true, true, true, true, false, false, false] rfl rfl (one_of HT_.out (by kernel_rfl)) (by decide) (fun K hK => ?_)
                         refine goes_ Tryd.func10 (by kernel_rfl) rfl #[.agg #[.int .i64 (Go.bits .and .i64 a0_0 7), .int .u32 (Go.bits .and .u32 a0_1 63), .bool a0_2, .bool a0_3], .bool a3, .bool true, .int .i64 x12_3] (by rfl) rfl rfl (by (try simp only [List.map_toArray, List.map_cons, List.map_nil]); first | done | rfl | (simp only [List.length_drop, List.length_take]; rfl)) ?_
                         with_reducible refine (rights_Allows.calls kj103 (Go.bits .and .i64 a0_0 7) (Go.bits .and .u32 a0_1 63) a0_2 a0_3 a3 true x12_3 t279 _ ?side1 ?side2 A157.out).mono ?_
                         (case side1 => exact ⟨G0.below hG0.out (by repeat (first | (with_reducible first | exact HB.out | apply below_alloc | apply pw_below_drewN | apply below_drew1 | refine below_set ?_ GE266.out | refine below_set ?_ GE268.out | refine below_set ?_ GE269.out | refine below_set ?_ GE273.out | refine below_set ?_ GE277.out) | exact HB.out))⟩)
                         (case side2 => exact ⟨G1.below hG1.out (by repeat (first | (with_reducible first | exact HB.out | apply below_alloc | apply pw_below_drewN | apply below_drew1 | refine below_set ?_ GE266.out | refine below_set ?_ GE268.out | refine below_set ?_ GE269.out | refine below_set ?_ GE273.out | refine below_set ?_ GE277.out) | exact HB.out))⟩)
                         rintro e w160 ⟨rfl, hb⟩
                         refine ⟨_, rfl, ?_⟩
                         have n0_ := Aside0.mk (blk_below (g := gb266) (o := .cells #[.int .i64 (Go.bits .and .i64 a0_0 7), .int .u32 (Go.bits .and .u32 a0_1 63), .bool a0_2, .bool a0_3] 24 (0, 0)) (by (with_reducible repeat (first | refine blk_drewN ?_ _ | refine blk_drew ?_ | refine blk_alloc ?_ _)); exact BK266.out) hb)
                         have n1_ := Aside0.mk (blk_below (g := gb268) (o := .cells #[.int .i64 (wrap64 (1 + (Go.bits .and .i64 a1 3))), .int .u32 0, .int .u64 0, .int .i64 x2_6, .int .i64 (Go.bits .and .i64 a0_0 7), .int .u32 (Go.bits .and .u32 a0_1 63), .bool a0_2, .bool a0_3] 36 (0, 0)) (by (with_reducible repeat (first | refine blk_drewN ?_ _ | refine blk_drew ?_ | refine blk_alloc ?_ _)); exact BK268.out) hb)
                         have n2_ := Aside0.mk (blk_below (g := gb269) (o := .cells #[.bool true, .bool false, .bool a3, .int .i64 0, .bool false, .bool false, .int .u64 0, .int .u64 0, .int .u32 ji19, .int .u32 0, .int .u32 0, .int .i64 0] 38 (0, 0)) (by (with_reducible repeat (first | refine blk_drewN ?_ _ | refine blk_drew ?_ | refine blk_alloc ?_ _)); exact BK269.out) hb)
                         have n3_ := Aside0.mk (blk_below (g := gb273) (o := .cells #[.int .i64 t270, .int .i64 t271, .int .i64 t272] 40 (0, 0)) (by (with_reducible repeat (first | refine blk_drewN ?_ _ | refine blk_drew ?_ | refine blk_alloc ?_ _)); exact BK273.out) hb)
                         have n4_ := Aside0.mk (blk_below (g := gb277) (o := .cells #[.int .i64 t274, .int .i64 t275, .int .i64 t276] 40 (0, 0)) (by (with_reducible repeat (first | refine blk_drewN ?_ _ | refine blk_drew ?_ | refine blk_alloc ?_ _)); exact BK277.out) hb)
                         have n5_ := Aside0.mk (below_step (by repeat (first | (with_reducible first | exact HB.out | apply below_alloc | apply pw_below_drewN | apply below_drew1 | refine below_set ?_ GE266.out | refine below_set ?_ GE268.out | refine below_set ?_ GE269.out | refine below_set ?_ GE273.out | refine below_set ?_ GE277.out) | exact HB.out)) hb)
                         clear BK266
                         clear BK268
                         clear BK269
                         clear BK273
                         clear BK277
                         clear HB
                         have BK266 := n0_
                         have BK268 := n1_
                         have BK269 := n2_
                         have BK273 := n3_
                         have BK277 := n4_
                         have HB := n5_
                         clear n0_ n1_ n2_ n3_ n4_ n5_
                         (try clear hb)
                         (try clear hb2)
                         (try clear hk)
                         (try clear hi)
                         refine hK.out _ _ ⟨(blk_cell BK273.out 0).trans rfl, (blk_cell BK273.out 1).trans rfl, (blk_cell BK273.out 2).trans rfl, (blk_cell BK266.out 0).trans rfl, (blk_cell BK266.out 1).trans rfl, (blk_cell BK266.out 2).trans rfl, (blk_cell BK266.out 3).trans rfl, (blk_cell BK277.out 0).trans rfl, (blk_cell BK277.out 1).trans rfl, (blk_cell BK277.out 2).trans rfl⟩ (fun hHeld => ?_)
                         clear hK K
                         refine norm_ (a' := ?_) ?_ ?_
                         rotate_left
                         ·
                          show Act.put _ (some 140) _ = _
                          simp only [Act.put, List.setIfInBounds_toArray, List.set_cons_zero, List.set_cons_succ, i64_w, i32_w]
                          rfl
                         refine pure_ (i := 19) (N := some 141) (v := ?_) (a' := ?_) #[true, true, true, true, true, true, true, true, true, true, true, true, true, true, true, true, true, true, true, true, false, false] rfl rfl (any_of HT_.out (by kernel_rfl)) (fun _ _ _ h => h) (Or.inl ⟨by rfl, ?_⟩) ?_ ?_
                         rotate_left
                         ·
                          intro w'
                          go_simp
                          with_reducible rfl
                         rotate_left
                         ·
                          simp only [Act.put, List.setIfInBounds_toArray, List.set_cons_zero, List.set_cons_succ, i64_w, i32_w]
                          rfl
                         refine pure_ (i := 20) (N := some 142) (v := ?_) (a' := ?_) #[true, true, true, true, true, true, true, true, true, true, true, true, true, true, true, true, true, true, true, true, true, false] rfl rfl (any_of HT_.out (by kernel_rfl)) (fun _ _ _ h => h) (Or.inl ⟨by rfl, ?_⟩) ?_ ?_
                         rotate_left
                         ·
                          intro w'
                          go_simp
                          with_reducible rfl
                         rotate_left
                         ·
                          simp only [Act.put, List.setIfInBounds_toArray, List.set_cons_zero, List.set_cons_succ, i64_w, i32_w]
                          rfl
                         refine pure_ (i := 21) (N := some 143) (v := ?_) (a' := ?_) #[true, true, true, true, true, true, true, true, true, true, true, true, true, true, true, true, true, true, true, true, true, true] rfl rfl (any_of HT_.out (by kernel_rfl)) (fun _ _ _ h => h) (Or.inl ⟨by rfl, ?_⟩) ?_ ?_
                         rotate_left
                         ·
                          intro w'
                          go_simp
                          with_reducible rfl
                         rotate_left
                         ·
                          simp only [Act.put, List.setIfInBounds_toArray, List.set_cons_zero, List.set_cons_succ, i64_w, i32_w]
                          rfl
                         refine done_ (done_of HT_.out (by kernel_rfl)) ?_
                         try go_wp2
                         go_meet
                         case rel => exact ⟨_, (((t274 == 0) != t279)), (by first | rfl | (simp; done) | (simp [*]; done)), H', ⟨by have := HJ6.out; have := HK2.out; have := HK3.out; have := HJ26.out; have := HJ53.out; have := HJ101.out; have := HJ103.out; first | omega | exact Nat.le_refl _⟩, ⟨by (with_reducible repeat (first | refine blk_drewN ?_ _ | refine blk_drew ?_ | refine blk_alloc ?_ _)); exact BK266.out⟩, ⟨by (with_reducible repeat (first | refine blk_drewN ?_ _ | refine blk_drew ?_ | refine blk_alloc ?_ _)); exact BK268.out⟩, ⟨by (with_reducible repeat (first | refine blk_drewN ?_ _ | refine blk_drew ?_ | refine blk_alloc ?_ _)); exact BK269.out⟩, ⟨by (with_reducible repeat (first | refine blk_drewN ?_ _ | refine blk_drew ?_ | refine blk_alloc ?_ _)); exact BK273.out⟩, ⟨by (with_reducible repeat (first | refine blk_drewN ?_ _ | refine blk_drew ?_ | refine blk_alloc ?_ _)); exact BK277.out⟩, ⟨by repeat (first | (with_reducible first | exact HB.out | apply below_alloc | apply pw_below_drewN | apply below_drew1 | refine below_set ?_ GE266.out | refine below_set ?_ GE268.out | refine below_set ?_ GE269.out | refine below_set ?_ GE273.out | refine below_set ?_ GE277.out) | exact HB.out)⟩⟩
                       ·
                        rw [if_neg c152] at H
                        have c152b0 : (x10_2 == 1) = false := beq_eq_false_iff_ne.mpr c152
                        have c152b1 : (x10_2 != 1) = true := bne_iff_ne.mpr c152
                        (first | rw [c152b0] | (simp only [i64_w, i32_w]; rw [c152b0]) | skip)
                        have H' := Aside0.mk H
                        clear H
                        try go_wp2
                        have n0_ := Aside0.mk (blk_drew BK266.out)
                        have n1_ := Aside0.mk (blk_drew BK268.out)
                        have n2_ := Aside0.mk (blk_drew BK269.out)
                        have n3_ := Aside0.mk (blk_drew BK273.out)
                        have n4_ := Aside0.mk (blk_drew BK277.out)
                        have n5_ := Aside0.mk (below_drew1 HB.out)
                        clear BK266
                        clear BK268
                        clear BK269
                        clear BK273
                        clear BK277
                        clear HB
                        have BK266 := n0_
                        have BK268 := n1_
                        have BK269 := n2_
                        have BK273 := n3_
                        have BK277 := n4_
                        have HB := n5_
                        clear n0_ n1_ n2_ n3_ n4_ n5_
                        refine start_ (n := 22) (S := fun w' => True) (ds := []) #[false, false, false, false, false, false, false, false, false, false, false, false, false, false, false, false, false, false, false, false, false, false] (by kernel_rfl) rfl rfl trivial (fun hHeld => ?_); refine with_tabW atlaslaw07_RightsPriv.tab26 atlaslaw07_RightsPriv.bits26 (fun HT_ HW_ => ?_)
                        generalize wc.drew = w161 at BK266 BK268 BK269 BK273 BK277 HB hHeld ⊢
                        refine pure_ (i := 0) (N := some 122) (v := ?_) (a' := ?_) #[true, false, false, false, false, false, false, false, false, false, false, false, false, false, false, false, false, false, false, false, false, false] rfl rfl (any_of HT_.out (by kernel_rfl)) (fun _ _ _ h => h) (Or.inl ⟨by rfl, ?_⟩) ?_ ?_
                        rotate_left
                        ·
                         intro w'
                         go_simp
                         with_reducible rfl
                        rotate_left
                        ·
                         simp only [Act.put, List.setIfInBounds_toArray, List.set_cons_zero, List.set_cons_succ, i64_w, i32_w]
                         rfl
                        refine pure_ (i := 1) (N := some 123) (v := ?_) (a' := ?_) #[true, true, false, false, false, false, false, false, false, false, false, false, false, false, false, false, false, false, false, false, false, false] rfl rfl (any_of HT_.out (by kernel_rfl)) (fun _ _ _ h => h) (Or.inl ⟨by rfl, ?_⟩) ?_ ?_
                        rotate_left
                        ·
                         intro w'
                         go_simp
                         with_reducible rfl
                        rotate_left
                        ·
                         simp only [Act.put, List.setIfInBounds_toArray, List.set_cons_zero, List.set_cons_succ, i64_w, i32_w]
                         rfl
                        refine pure_ (i := 2) (N := some 124) (v := ?_) (a' := ?_) #[true, true, true, false, false, false, false, false, false, false, false, false, false, false, false, false, false, false, false, false, false, false] rfl rfl (any_of HT_.out (by kernel_rfl)) (fun _ _ _ h => h) (Or.inl ⟨by rfl, ?_⟩) ?_ ?_
                        rotate_left
                        ·
                         intro w'
                         go_simp
                         with_reducible rfl
                        rotate_left
                        ·
                         simp only [Act.put, List.setIfInBounds_toArray, List.set_cons_zero, List.set_cons_succ, i64_w, i32_w]
                         rfl
                        refine pure_ (i := 3) (N := some 125) (v := undef) (a' := ?_) #[true, true, true, true, false, false, false, false, false, false, false, false, false, false, false, false, false, false, false, false, false, false] rfl rfl (any_of HT_.out (by kernel_rfl)) (fun _ _ _ h => h) (Or.inr ⟨by rfl, rfl⟩) ?_ ?_
                        rotate_left
                        ·
                         simp only [Act.put, List.setIfInBounds_toArray, List.set_cons_zero, List.set_cons_succ, i64_w, i32_w]
                         rfl
                        refine pure_ (i := 4) (N := some 126) (v := undef) (a' := ?_) #[true, true, true, true, true, false, false, false, false, false, false, false, false, false, false, false, false, false, false, false, false, false] rfl rfl (any_of HT_.out (by kernel_rfl)) (fun _ _ _ h => h) (Or.inr ⟨by rfl, rfl⟩) ?_ ?_
                        rotate_left
                        ·
                         simp only [Act.put, List.setIfInBounds_toArray, List.set_cons_zero, List.set_cons_succ, i64_w, i32_w]
                         rfl
                        refine pure_ (i := 5) (N := some 127) (v := undef) (a' := ?_) #[true, true, true, true, true, true, false, false, false, false, false, false, false, false, false, false, false, false, false, false, false, false] rfl rfl (any_of HT_.out (by kernel_rfl)) (fun _ _ _ h => h) (Or.inr ⟨by rfl, rfl⟩) ?_ ?_
                        rotate_left
                        ·
                         simp only [Act.put, List.setIfInBounds_toArray, List.set_cons_zero, List.set_cons_succ, i64_w, i32_w]
                         rfl
                        refine pure_ (i := 6) (N := some 128) (v := undef) (a' := ?_) #[true, true, true, true, true, true, true, false, false, false, false, false, false, false, false, false, false, false, false, false, false, false] rfl rfl (any_of HT_.out (by kernel_rfl)) (fun _ _ _ h => h) (Or.inr ⟨by rfl, rfl⟩) ?_ ?_
                        rotate_left
                        ·
                         simp only [Act.put, List.setIfInBounds_toArray, List.set_cons_zero, List.set_cons_succ, i64_w, i32_w]
                         rfl
                        refine pure_ (i := 7) (N := some 129) (v := undef) (a' := ?_) #[true, true, true, true, true, true, true, true, false, false, false, false, false, false, false, false, false, false, false, false, false, false] rfl rfl (any_of HT_.out (by kernel_rfl)) (fun _ _ _ h => h) (Or.inr ⟨by rfl, rfl⟩) ?_ ?_
                        rotate_left
                        ·
                         simp only [Act.put, List.setIfInBounds_toArray, List.set_cons_zero, List.set_cons_succ, i64_w, i32_w]
                         rfl
                        refine pure_ (i := 8) (N := some 130) (v := undef) (a' := ?_) #[true, true, true, true, true, true, true, true, true, false, false, false, false, false, false, false, false, false, false, false, false, false] rfl rfl (any_of HT_.out (by kernel_rfl)) (fun _ _ _ h => h) (Or.inr ⟨by rfl, rfl⟩) ?_ ?_
                        rotate_left
                        ·
                         simp only [Act.put, List.setIfInBounds_toArray, List.set_cons_zero, List.set_cons_succ, i64_w, i32_w]
                         rfl
                        refine pure_ (i := 9) (N := some 131) (v := undef) (a' := ?_) #[true, true, true, true, true, true, true, true, true, true, false, false, false, false, false, false, false, false, false, false, false, false] rfl rfl (any_of HT_.out (by kernel_rfl)) (fun _ _ _ h => h) (Or.inr ⟨by rfl, rfl⟩) ?_ ?_
                        rotate_left
                        ·
                         simp only [Act.put, List.setIfInBounds_toArray, List.set_cons_zero, List.set_cons_succ, i64_w, i32_w]
                         rfl
                        refine pure_ (i := 10) (N := some 132) (v := undef) (a' := ?_) #[true, true, true, true, true, true, true, true, true, true, true, false, false, false, false, false, false, false, false, false, false, false] rfl rfl (any_of HT_.out (by kernel_rfl)) (fun _ _ _ h => h) (Or.inr ⟨by rfl, rfl⟩) ?_ ?_
                        rotate_left
                        ·
                         simp only [Act.put, List.setIfInBounds_toArray, List.set_cons_zero, List.set_cons_succ, i64_w, i32_w]
                         rfl
                        refine pure_ (i := 11) (N := some 133) (v := undef) (a' := ?_) #[true, true, true, true, true, true, true, true, true, true, true, true, false, false, false, false, false, false, false, false, false, false] rfl rfl (any_of HT_.out (by kernel_rfl)) (fun _ _ _ h => h) (Or.inr ⟨by rfl, rfl⟩) ?_ ?_
                        rotate_left
                        ·
                         simp only [Act.put, List.setIfInBounds_toArray, List.set_cons_zero, List.set_cons_succ, i64_w, i32_w]
                         rfl
                        refine pure_ (i := 12) (N := some 134) (v := undef) (a' := ?_) #[true, true, true, true, true, true, true, true, true, true, true, true, true, false, false, false, false, false, false, false, false, false] rfl rfl (any_of HT_.out (by kernel_rfl)) (fun _ _ _ h => h) (Or.inr ⟨by rfl, rfl⟩) ?_ ?_
                        rotate_left
                        ·
                         simp only [Act.put, List.setIfInBounds_toArray, List.set_cons_zero, List.set_cons_succ, i64_w, i32_w]
                         rfl
                        refine pure_ (i := 13) (N := some 135) (v := undef) (a' := ?_) #[true, true, true, true, true, true, true, true, true, true, true, true, true, true, false, false, false, false, false, false, false, false] rfl rfl (any_of HT_.out (by kernel_rfl)) (fun _ _ _ h => h) (Or.inr ⟨by rfl, rfl⟩) ?_ ?_
                        rotate_left
                        ·
                         simp only [Act.put, List.setIfInBounds_toArray, List.set_cons_zero, List.set_cons_succ, i64_w, i32_w]
                         rfl
                        refine pure_ (i := 14) (N := some 136) (v := undef) (a' := ?_) #[true, true, true, true, true, true, true, true, true, true, true, true, true, true, true, false, false, false, false, false, false, false] rfl rfl (any_of HT_.out (by kernel_rfl)) (fun _ _ _ h => h) (Or.inr ⟨by rfl, rfl⟩) ?_ ?_
                        rotate_left
                        ·
                         simp only [Act.put, List.setIfInBounds_toArray, List.set_cons_zero, List.set_cons_succ, i64_w, i32_w]
                         rfl
                        refine pure_ (i := 15) (N := some 137) (v := undef) (a' := ?_) #[true, true, true, true, true, true, true, true, true, true, true, true, true, true, true, true, false, false, false, false, false, false] rfl rfl (any_of HT_.out (by kernel_rfl)) (fun _ _ _ h => h) (Or.inr ⟨by rfl, rfl⟩) ?_ ?_
                        rotate_left
                        ·
                         simp only [Act.put, List.setIfInBounds_toArray, List.set_cons_zero, List.set_cons_succ, i64_w, i32_w]
                         rfl
                        refine pure_ (i := 16) (N := some 138) (v := undef) (a' := ?_) #[true, true, true, true, true, true, true, true, true, true, true, true, true, true, true, true, true, false, false, false, false, false] rfl rfl (any_of HT_.out (by kernel_rfl)) (fun _ _ _ h => h) (Or.inr ⟨by rfl, rfl⟩) ?_ ?_
                        rotate_left
                        ·
                         simp only [Act.put, List.setIfInBounds_toArray, List.set_cons_zero, List.set_cons_succ, i64_w, i32_w]
                         rfl
                        refine pure_ (i := 17) (N := some 139) (v := undef) (a' := ?_) #[true, true, true, true, true, true, true, true, true, true, true, true, true, true, true, true, true, true, false, false, false, false] rfl rfl (any_of HT_.out (by kernel_rfl)) (fun _ _ _ h => h) (Or.inr ⟨by rfl, rfl⟩) ?_ ?_
                        rotate_left
                        ·
                         simp only [Act.put, List.setIfInBounds_toArray, List.set_cons_zero, List.set_cons_succ, i64_w, i32_w]
                         rfl
                        refine pure_ (i := 18) (N := some 140) (v := undef) (a' := ?_) #[true, true, true, true, true, true, true, true, true, true, true, true, true, true, true, true, true, true, true, false, false, false] rfl rfl (any_of HT_.out (by kernel_rfl)) (fun _ _ _ h => h) (Or.inr ⟨by rfl, rfl⟩) ?_ ?_
                        rotate_left
                        ·
                         simp only [Act.put, List.setIfInBounds_toArray, List.set_cons_zero, List.set_cons_succ, i64_w, i32_w]
                         rfl
                        refine pure_ (i := 19) (N := some 141) (v := undef) (a' := ?_) #[true, true, true, true, true, true, true, true, true, true, true, true, true, true, true, true, true, true, true, true, false, false] rfl rfl (any_of HT_.out (by kernel_rfl)) (fun _ _ _ h => h) (Or.inr ⟨by rfl, rfl⟩) ?_ ?_
                        rotate_left
                        ·
                         simp only [Act.put, List.setIfInBounds_toArray, List.set_cons_zero, List.set_cons_succ, i64_w, i32_w]
                         rfl
                        refine pure_ (i := 20) (N := some 142) (v := undef) (a' := ?_) #[true, true, true, true, true, true, true, true, true, true, true, true, true, true, true, true, true, true, true, true, true, false] rfl rfl (any_of HT_.out (by kernel_rfl)) (fun _ _ _ h => h) (Or.inr ⟨by rfl, rfl⟩) ?_ ?_
                        rotate_left
                        ·
                         simp only [Act.put, List.setIfInBounds_toArray, List.set_cons_zero, List.set_cons_succ, i64_w, i32_w]
                         rfl
                        refine pure_ (i := 21) (N := some 143) (v := ?_) (a' := ?_) #[true, true, true, true, true, true, true, true, true, true, true, true, true, true, true, true, true, true, true, true, true, true] rfl rfl (any_of HT_.out (by kernel_rfl)) (fun _ _ _ h => h) (Or.inl ⟨by rfl, ?_⟩) ?_ ?_
                        rotate_left
                        ·
                         intro w'
                         go_simp
                         with_reducible rfl
                        rotate_left
                        ·
                         simp only [Act.put, List.setIfInBounds_toArray, List.set_cons_zero, List.set_cons_succ, i64_w, i32_w]
                         rfl
                        refine done_ (done_of HT_.out (by kernel_rfl)) ?_
                        try go_wp2
                        go_meet
                        case rel => exact ⟨_, (false), (by first | rfl | (simp; done) | (simp [*]; done)), H', ⟨by have := HJ6.out; have := HK2.out; have := HK3.out; have := HJ26.out; have := HJ53.out; have := HJ101.out; have := HJ103.out; first | omega | exact Nat.le_refl _⟩, ⟨by (with_reducible repeat (first | refine blk_drewN ?_ _ | refine blk_drew ?_ | refine blk_alloc ?_ _)); exact BK266.out⟩, ⟨by (with_reducible repeat (first | refine blk_drewN ?_ _ | refine blk_drew ?_ | refine blk_alloc ?_ _)); exact BK268.out⟩, ⟨by (with_reducible repeat (first | refine blk_drewN ?_ _ | refine blk_drew ?_ | refine blk_alloc ?_ _)); exact BK269.out⟩, ⟨by (with_reducible repeat (first | refine blk_drewN ?_ _ | refine blk_drew ?_ | refine blk_alloc ?_ _)); exact BK273.out⟩, ⟨by (with_reducible repeat (first | refine blk_drewN ?_ _ | refine blk_drew ?_ | refine blk_alloc ?_ _)); exact BK277.out⟩, ⟨by repeat (first | (with_reducible first | exact HB.out | apply below_alloc | apply pw_below_drewN | apply below_drew1 | refine below_set ?_ GE266.out | refine below_set ?_ GE268.out | refine below_set ?_ GE269.out | refine below_set ?_ GE273.out | refine below_set ?_ GE277.out) | exact HB.out)⟩⟩
                      case rest =>
                       clear HC151
                       try clear c1
                       try clear p2
                       try clear p6
                       try clear c10
                       try clear c15
                       try clear p64
                       try clear c152
                       try clear c152b0
                       try clear c152b1
                       try clear c154
                       try clear c154b0
                       try clear c154b1
                       try clear c154b2
                       obtain ⟨kq, x143_150, rfl, HA, HJ150, BK266, BK268, BK269, BK273, BK277, HB⟩ := hcut
                       cases kq with
                       | zero => exact absurd HA.out (by simp [atlaslaw07_RightsPriv.j7])
                       | succ kj150 =>
                        have H := HA.out
                        clear HA
                        simp only [atlaslaw07_RightsPriv.j7] at H
                        by_cases c162 : x143_150 = true
                        ·
                         subst c162
                         have H1 : (some false) = some r := by rw [if_pos rfl] at H; exact H
                         clear H
                         have H := H1
                         clear H1
                         obtain rfl := Option.some.inj H
                         go_wp2
                         go_ret
                         exact ⟨by first | rfl | (simp [errW_none, errW_some] <;> rfl) | (simp only [← hji17, ← hji19]; first | rfl | (simp [errW_none, errW_some] <;> rfl)) | (simp [*, errW_none, errW_some] <;> rfl) | (simp [*, errW_none, errW_some] <;> exact isEmpty_ne _), by repeat (first | (with_reducible first | exact HB.out | apply below_alloc | apply pw_below_drewN | apply below_drew1 | refine below_set ?_ GE266.out | refine below_set ?_ GE268.out | refine below_set ?_ GE269.out | refine below_set ?_ GE273.out | refine below_set ?_ GE277.out) | exact HB.out)⟩
                        ·
                         replace c162 := Bool.eq_false_iff.mpr c162
                         subst c162
                         have H1 : (atlaslaw07_RightsPriv.l1 kj150 x2_6 a3 x10_2 (wrap64 (x12_3 + 1)) (Go.bits .and .i64 a0_0 7) (Go.bits .and .u32 a0_1 63) a0_2 a0_3 (wrap64 (1 + (Go.bits .and .i64 a1 3))) 0 0 x2_6 (Go.bits .and .i64 a0_0 7) (Go.bits .and .u32 a0_1 63) a0_2 a0_3 true false a3 0 false false 0 0 ji19 0 0 0) = some r := by rw [if_neg (show ¬ (false = true) by decide)] at H; exact H
                         clear H
                         have H := H1
                         clear H1
                         have H' := Aside0.mk H
                         clear H
                         go_wp2
                         go_roundg kj150
                         case measure => have := HJ6.out; have := HK2.out; have := HK3.out; have := HJ26.out; have := HJ53.out; have := HJ101.out; have := HJ103.out; have := HJ150.out; omega
                         case rel => exact ⟨(wrap64 (x12_3 + 1)), (by first | rfl | (simp; done) | (simp [*]; done)), H', ⟨by have := HJ6.out; have := HK2.out; have := HK3.out; have := HJ26.out; have := HJ53.out; have := HJ101.out; have := HJ103.out; have := HJ150.out; omega⟩, ⟨by (with_reducible repeat (first | refine blk_drewN ?_ _ | refine blk_drew ?_ | refine blk_alloc ?_ _)); exact BK266.out⟩, ⟨by (with_reducible repeat (first | refine blk_drewN ?_ _ | refine blk_drew ?_ | refine blk_alloc ?_ _)); exact BK268.out⟩, ⟨by (with_reducible repeat (first | refine blk_drewN ?_ _ | refine blk_drew ?_ | refine blk_alloc ?_ _)); exact BK269.out⟩, ⟨by repeat (first | (with_reducible first | exact HB.out | apply below_alloc | apply pw_below_drewN | apply below_drew1 | refine below_set ?_ GE266.out | refine below_set ?_ GE268.out | refine below_set ?_ GE269.out | refine below_set ?_ GE273.out | refine below_set ?_ GE277.out) | exact HB.out)⟩⟩
          ·
           rw [if_neg c24] at H
           have c24b0 : decide (x12_3 ≤ 3) = false := decide_eq_false c24
           clear c24
           have H' := Aside0.mk H
           clear H
           go_wp2
           go_roundg k3
           case measure => have := HJ6.out; have := HK2.out; have := HK3.out; omega
           case rel => exact ⟨((x10_2 + 1) % 4294967296), (by first | rfl | (simp; done) | (simp [*]; done)), H', ⟨by have := HJ6.out; have := HK2.out; have := HK3.out; omega⟩, ⟨by (with_reducible repeat (first | refine blk_drewN ?_ _ | refine blk_drew ?_ | refine blk_alloc ?_ _)); exact BK266.out⟩, ⟨by (with_reducible repeat (first | refine blk_drewN ?_ _ | refine blk_drew ?_ | refine blk_alloc ?_ _)); exact BK268.out⟩, ⟨by repeat (first | (with_reducible first | exact HB.out | apply below_alloc | apply pw_below_drewN | apply below_drew1 | refine below_set ?_ GE266.out | refine below_set ?_ GE268.out | refine below_set ?_ GE269.out) | exact HB.out)⟩⟩
       ·
        rw [if_neg c18] at H
        exact absurd H (by simp)
      ·
       rw [if_neg c16] at H
       have c16b0 : decide (x10_2 < 4) = false := decide_eq_false c16
       clear c16
       obtain rfl := Option.some.inj H
       go_wp2
       go_ret
       exact ⟨by first | rfl | (simp [errW_none, errW_some] <;> rfl) | (simp [*, errW_none, errW_some] <;> rfl) | (simp [*, errW_none, errW_some] <;> exact isEmpty_ne _), by repeat (first | (with_reducible first | exact HB.out | apply below_alloc | apply pw_below_drewN | apply below_drew1 | refine below_set ?_ GE266.out | refine below_set ?_ GE268.out) | exact HB.out)⟩
 ·
  replace c6 := Bool.eq_false_iff.mpr c6
  subst c6
  have H1 : (some false) = some r := by rw [if_neg (show ¬ (false = true) by decide)] at H; exact H
  clear H
  have H := H1
  clear H1
  obtain rfl := Option.some.inj H
  go_enter Tryd.func8, Tryd.ntmps8
  go_wp2_with (first | ((with_reducible refine gate_dst (N := 4) rfl ?_); refine box_event ?hg (N := 4) ?hd (cs := #[.int .i64 a0_0, .int .u32 a0_1, .bool a0_2, .bool a0_3]) (t := 24) ?hr ?_; (case hd => rfl); (case hg => rfl); (case hr => first | (go_simp; done) | (go_simp; rfl)); intro gb266 hg w163 hbox hb; have n0_ := Aside0.mk (below_step (by repeat (first | (with_reducible first | exact HB.out | apply below_alloc | apply pw_below_drewN | apply below_drew1) | exact HB.out)) hb); have n1_ := Aside0.mk (hbox); have n2_ := Aside0.mk ((by rw [hg]; exact (below_size (by repeat (first | (with_reducible first | exact HB.out | apply below_alloc | apply pw_below_drewN | apply below_drew1) | exact HB.out))) : w.heap.size ≤ gb266)); have n3_ := Aside0.mk ((by rw [hg]; exact (below_size (by repeat (first | (with_reducible first | exact HB.out | apply below_alloc | apply pw_below_drewN | apply below_drew1) | exact HB.out))) : w.heap.size ≤ gb266)); clear HB; have HB := n0_; have BK266 := n1_; have GW266 := n2_; have GE266 := n3_; clear n0_ n1_ n2_ n3_; clear hb hbox hg) | ((with_reducible refine gate_callee (f := 18) rfl ?_); refine goesL_ (some 17) rfl rfl Tryd.func18 (by kernel_rfl) rfl #[] rfl (by (try simp only [List.map_toArray, List.map_cons, List.map_nil]); first | done | rfl | (simp only [List.length_drop, List.length_take]; rfl)) ?_; (with_reducible refine (atlaslaw07_alive.calls k  false _ ?side1 ?side2 A5.out).mono ?_); (case side1 => exact ⟨G0.below hG0.out (by repeat (first | (with_reducible first | exact HB.out | apply below_alloc | apply pw_below_drewN | apply below_drew1 | refine below_set ?_ GE266.out) | exact HB.out))⟩); (case side2 => exact ⟨G1.below hG1.out (by repeat (first | (with_reducible first | exact HB.out | apply below_alloc | apply pw_below_drewN | apply below_drew1 | refine below_set ?_ GE266.out) | exact HB.out))⟩); rintro e w164 ⟨rfl, hb⟩; refine ⟨_, rfl, ?_⟩; have n0_ := Aside0.mk (blk_below (g := gb266) (o := .cells #[.int .i64 a0_0, .int .u32 a0_1, .bool a0_2, .bool a0_3] 24 (0, 0)) (by (with_reducible repeat (first | refine blk_drewN ?_ _ | refine blk_drew ?_ | refine blk_alloc ?_ _)); exact BK266.out) hb); have n1_ := Aside0.mk (below_step (by repeat (first | (with_reducible first | exact HB.out | apply below_alloc | apply pw_below_drewN | apply below_drew1 | refine below_set ?_ GE266.out) | exact HB.out)) hb); clear BK266; clear HB; have BK266 := n0_; have HB := n1_; clear n0_ n1_; (try clear hb); (try clear hb2); (try clear hk); (try clear hi)))
  go_ret
  exact ⟨by first | rfl | (simp [errW_none, errW_some] <;> rfl) | (simp [*, errW_none, errW_some] <;> rfl) | (simp [*, errW_none, errW_some] <;> exact isEmpty_ne _), by repeat (first | (with_reducible first | exact HB.out | apply below_alloc | apply pw_below_drewN | apply below_drew1 | refine below_set ?_ GE266.out) | exact HB.out)⟩

end Go.Proofs.YtglafffghbhnbaaDoor.S
