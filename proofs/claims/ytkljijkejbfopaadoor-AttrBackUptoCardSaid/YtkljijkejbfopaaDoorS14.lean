-- Written by a program of this session (wip/xprint.py), over the kit's print. Not trusted: Lean checks it.
import Derived.Test.YtkljijkejbfopaaDoorS0
import Derived.Test.YtkljijkejbfopaaDoorS1
import Derived.Test.YtkljijkejbfopaaDoorS3
import Derived.Test.YtkljijkejbfopaaDoorS7
import Derived.Test.YtkljijkejbfopaaDoorS9
import Derived.Test.YtkljijkejbfopaaDoorS11
import Derived.Test.YtkljijkejbfopaaDoorS13
namespace Go.Proofs.YtkljijkejbfopaaDoor.S
open Go.Proofs.YtkljijkejbfopaaDoorG
open Go.RowKit Go.Proofs.YtkljijkejbfopaaDoorW.PrintWords Go.Proofs.YtkljijkejbfopaaDoorW.PrintLast Go.Proofs.YtkljijkejbfopaaDoorW.PrintMore
attribute [local go_sem] max2_int min2_int max_two min_two max_three min_three max_four min_four   -- for this text's walks alone
set_option linter.unusedVariables false
set_option linter.unusedSimpArgs false

attribute [local go_sem high] eqA24
/-! ### atlaslaw06_live: function 14 -/
def atlaslaw06_live.j0 : Nat → ByteArray → Int → Bool → Int → Int → Int → Int → Int → Int → Int → Int → Int → Int → Int → Int → Option (Bool)
 | 0, _, _, _, _, _, _, _, _, _, _, _, _, _, _, _ => none
 | k + 1, x5, x9, x55, x179000, x179001, x179002, x179003, x185000, x185001, x185002, x185003, x193000, x193001, x193002, x193003 => if x55 = true then (some false) else (if (x179000 == 2 && (x179001 == 3 && (x179002 == 3 && (x179003 == 2)))) = true then (if (x185000 == 2 && (x185001 == 3 && (x185002 == 3 && (x185003 == 1)))) = true then (if x5.toList = ([110, 111, 114, 109, 97, 108, 32, 97, 108, 108, 111, 99, 32, 116, 104, 114, 111, 117, 103, 104, 32, 105, 110, 110, 101, 114] : List UInt8) then (if (x193000 == 1 && (x193001 == 0 && (x193002 == 0 && (x193003 == 0)))) = true then (some (x9 == 14)) else (some false)) else (some false)) else (some false)) else (some false))
def atlaslaw06_live.f (k : Nat)  : Option (Bool) := (attr_Of.f k false 0 0 7).bind fun bt173 => ((attr_Of.f k true 134907556 1088438496 7).bind fun bt179 => ((attr_Show.f k 2 1 2 1).bind fun bt185 => ((attr_Read.f k (⟨#[100, 101, 118, 105, 99, 101, 32, 112, 114, 105, 118, 97, 116, 101]⟩ : ByteArray)).bind fun bt187 => ((attr_Find.f k false 0 0 2 1 1 0).bind fun bt193 => ((atlaslaw06_no.f bt173.2.2.2.2).bind fun t195 => (if t195 = 0 then ((atlaslaw06_no.f bt179.2.2.2.2).bind fun t196 => (if t196 = 0 then ((atlaslaw06_no.f bt185.2).bind fun t197 => (if t197 = 0 then ((atlaslaw06_no.f bt187.2.2.2.2).bind fun t198 => (if t198 = 0 then ((atlaslaw06_no.f bt193.2).bind fun t199 => (atlaslaw06_live.j0 k bt185.1 bt193.1 (t199 != 0) bt173.1 bt173.2.1 bt173.2.2.1 bt173.2.2.2.1 bt179.1 bt179.2.1 bt179.2.2.1 bt179.2.2.2.1 bt187.1 bt187.2.1 bt187.2.2.1 bt187.2.2.2.1)) else (atlaslaw06_live.j0 k bt185.1 bt193.1 true bt173.1 bt173.2.1 bt173.2.2.1 bt173.2.2.2.1 bt179.1 bt179.2.1 bt179.2.2.1 bt179.2.2.2.1 bt187.1 bt187.2.1 bt187.2.2.1 bt187.2.2.2.1))) else (atlaslaw06_live.j0 k bt185.1 bt193.1 true bt173.1 bt173.2.1 bt173.2.2.1 bt173.2.2.2.1 bt179.1 bt179.2.1 bt179.2.2.1 bt179.2.2.2.1 bt187.1 bt187.2.1 bt187.2.2.1 bt187.2.2.2.1))) else (atlaslaw06_live.j0 k bt185.1 bt193.1 true bt173.1 bt173.2.1 bt173.2.2.1 bt173.2.2.2.1 bt179.1 bt179.2.1 bt179.2.2.1 bt179.2.2.2.1 bt187.1 bt187.2.1 bt187.2.2.1 bt187.2.2.2.1))) else (atlaslaw06_live.j0 k bt185.1 bt193.1 true bt173.1 bt173.2.1 bt173.2.2.1 bt173.2.2.2.1 bt179.1 bt179.2.1 bt179.2.2.1 bt179.2.2.2.1 bt187.1 bt187.2.1 bt187.2.2.1 bt187.2.2.2.1)))))))
theorem atlaslaw06_live.mono_l : ∀ k, (∀ y0 y1 y2 y3 y4 y5 y6 y7 y8 y9 y10 y11 y12 y13 y14, LeO (atlaslaw06_live.j0 k y0 y1 y2 y3 y4 y5 y6 y7 y8 y9 y10 y11 y12 y13 y14) (atlaslaw06_live.j0 (k + 1) y0 y1 y2 y3 y4 y5 y6 y7 y8 y9 y10 y11 y12 y13 y14))
 | 0 => fun _ _ _ _ _ _ _ _ _ _ _ _ _ _ _ r h => by simp [atlaslaw06_live.j0] at h
 | k + 1 => by
  have ih0 := atlaslaw06_live.mono_l k
  ·
   intro y0 y1 y2 y3 y4 y5 y6 y7 y8 y9 y10 y11 y12 y13 y14
   unfold atlaslaw06_live.j0
   repeat' first
   | (with_reducible exact ih0 _ _ _ _ _ _ _ _ _ _ _ _ _ _ _)
   | (with_reducible exact attr_Find.mono _ _ _ _ _ _ _ _)
   | (with_reducible exact attr_Of.mono _ _ _ _ _)
   | (with_reducible exact attr_Read.mono _ _)
   | (with_reducible exact attr_Show.mono _ _ _ _ _)
   | (with_reducible exact LeO.refl _)
   | (with_reducible exact LeO.none _)
   | (with_reducible refine LeO.ite ?_ ?_)
   | (with_reducible refine LeO.bind ?_ (fun _ => ?_))
   | exact ih0 _ _ _ _ _ _ _ _ _ _ _ _ _ _ _
   | exact attr_Find.mono _ _ _ _ _ _ _ _
   | exact attr_Of.mono _ _ _ _ _
   | exact attr_Read.mono _ _
   | exact attr_Show.mono _ _ _ _ _
   | exact LeO.none _
   | refine LeO.ite ?_ ?_
   | refine LeO.bind ?_ (fun _ => ?_)
theorem atlaslaw06_live.mono : ∀ k, LeO (atlaslaw06_live.f k ) (atlaslaw06_live.f (k + 1) ) := by
 intro  k
 have ih0 := atlaslaw06_live.mono_l k
 unfold atlaslaw06_live.f
 repeat' first
   | (with_reducible exact ih0 _ _ _ _ _ _ _ _ _ _ _ _ _ _ _)
   | (with_reducible exact attr_Find.mono _ _ _ _ _ _ _ _)
   | (with_reducible exact attr_Of.mono _ _ _ _ _)
   | (with_reducible exact attr_Read.mono _ _)
   | (with_reducible exact attr_Show.mono _ _ _ _ _)
   | (with_reducible exact LeO.refl _)
   | (with_reducible exact LeO.none _)
   | (with_reducible refine LeO.ite ?_ ?_)
   | (with_reducible refine LeO.bind ?_ (fun _ => ?_))
   | exact ih0 _ _ _ _ _ _ _ _ _ _ _ _ _ _ _
   | exact attr_Find.mono _ _ _ _ _ _ _ _
   | exact attr_Of.mono _ _ _ _ _
   | exact attr_Read.mono _ _
   | exact attr_Show.mono _ _ _ _ _
   | exact LeO.none _
   | refine LeO.ite ?_ ?_
   | refine LeO.bind ?_ (fun _ => ?_)
set_option maxHeartbeats 8000000 in
set_option maxRecDepth 100000 in
theorem atlaslaw06_live.calls (k : Nat)  (r : Bool) (w : World) (hG0 : Aside0 (G0 w)) (hG1 : Aside0 (G1 w)) (hG2 : Aside0 (G2 w)) (hG3 : Aside0 (G3 w)) (h : atlaslaw06_live.f k  = some r) :
  Calls Tryd.prog 14 #[] w fun e w' => e = .returned (.bool r) ∧ Below w.heap.size w w' := by
 have hu24 := Tryd.underlying24
 have HB := Aside0.mk (Below.refl w.heap.size w)
 have H : ((attr_Of.f k false 0 0 7).bind fun bt173 => ((attr_Of.f k true 134907556 1088438496 7).bind fun bt179 => ((attr_Show.f k 2 1 2 1).bind fun bt185 => ((attr_Read.f k (⟨#[100, 101, 118, 105, 99, 101, 32, 112, 114, 105, 118, 97, 116, 101]⟩ : ByteArray)).bind fun bt187 => ((attr_Find.f k false 0 0 2 1 1 0).bind fun bt193 => ((atlaslaw06_no.f bt173.2.2.2.2).bind fun t195 => (if t195 = 0 then ((atlaslaw06_no.f bt179.2.2.2.2).bind fun t196 => (if t196 = 0 then ((atlaslaw06_no.f bt185.2).bind fun t197 => (if t197 = 0 then ((atlaslaw06_no.f bt187.2.2.2.2).bind fun t198 => (if t198 = 0 then ((atlaslaw06_no.f bt193.2).bind fun t199 => (atlaslaw06_live.j0 k bt185.1 bt193.1 (t199 != 0) bt173.1 bt173.2.1 bt173.2.2.1 bt173.2.2.2.1 bt179.1 bt179.2.1 bt179.2.2.1 bt179.2.2.2.1 bt187.1 bt187.2.1 bt187.2.2.1 bt187.2.2.2.1)) else (atlaslaw06_live.j0 k bt185.1 bt193.1 true bt173.1 bt173.2.1 bt173.2.2.1 bt173.2.2.2.1 bt179.1 bt179.2.1 bt179.2.2.1 bt179.2.2.2.1 bt187.1 bt187.2.1 bt187.2.2.1 bt187.2.2.2.1))) else (atlaslaw06_live.j0 k bt185.1 bt193.1 true bt173.1 bt173.2.1 bt173.2.2.1 bt173.2.2.2.1 bt179.1 bt179.2.1 bt179.2.2.1 bt179.2.2.2.1 bt187.1 bt187.2.1 bt187.2.2.1 bt187.2.2.2.1))) else (atlaslaw06_live.j0 k bt185.1 bt193.1 true bt173.1 bt173.2.1 bt173.2.2.1 bt173.2.2.2.1 bt179.1 bt179.2.1 bt179.2.2.1 bt179.2.2.2.1 bt187.1 bt187.2.1 bt187.2.2.1 bt187.2.2.2.1))) else (atlaslaw06_live.j0 k bt185.1 bt193.1 true bt173.1 bt173.2.1 bt173.2.2.1 bt173.2.2.2.1 bt179.1 bt179.2.1 bt179.2.2.1 bt179.2.2.2.1 bt187.1 bt187.2.1 bt187.2.2.1 bt187.2.2.2.1)))))))) = some r := h
 clear h
 replace H := Option.bind_eq_some_iff.mp H
 obtain ⟨⟨t173, t174, t175, t176, t177⟩, A10, H⟩ := H
 replace H : ((attr_Of.f k true 134907556 1088438496 7).bind fun bt179 => ((attr_Show.f k 2 1 2 1).bind fun bt185 => ((attr_Read.f k (⟨#[100, 101, 118, 105, 99, 101, 32, 112, 114, 105, 118, 97, 116, 101]⟩ : ByteArray)).bind fun bt187 => ((attr_Find.f k false 0 0 2 1 1 0).bind fun bt193 => ((atlaslaw06_no.f t177).bind fun t195 => (if t195 = 0 then ((atlaslaw06_no.f bt179.2.2.2.2).bind fun t196 => (if t196 = 0 then ((atlaslaw06_no.f bt185.2).bind fun t197 => (if t197 = 0 then ((atlaslaw06_no.f bt187.2.2.2.2).bind fun t198 => (if t198 = 0 then ((atlaslaw06_no.f bt193.2).bind fun t199 => (atlaslaw06_live.j0 k bt185.1 bt193.1 (t199 != 0) t173 t174 t175 t176 bt179.1 bt179.2.1 bt179.2.2.1 bt179.2.2.2.1 bt187.1 bt187.2.1 bt187.2.2.1 bt187.2.2.2.1)) else (atlaslaw06_live.j0 k bt185.1 bt193.1 true t173 t174 t175 t176 bt179.1 bt179.2.1 bt179.2.2.1 bt179.2.2.2.1 bt187.1 bt187.2.1 bt187.2.2.1 bt187.2.2.2.1))) else (atlaslaw06_live.j0 k bt185.1 bt193.1 true t173 t174 t175 t176 bt179.1 bt179.2.1 bt179.2.2.1 bt179.2.2.2.1 bt187.1 bt187.2.1 bt187.2.2.1 bt187.2.2.2.1))) else (atlaslaw06_live.j0 k bt185.1 bt193.1 true t173 t174 t175 t176 bt179.1 bt179.2.1 bt179.2.2.1 bt179.2.2.2.1 bt187.1 bt187.2.1 bt187.2.2.1 bt187.2.2.2.1))) else (atlaslaw06_live.j0 k bt185.1 bt193.1 true t173 t174 t175 t176 bt179.1 bt179.2.1 bt179.2.2.1 bt179.2.2.2.1 bt187.1 bt187.2.1 bt187.2.2.1 bt187.2.2.2.1))))))) = some r := H
 have A1 := Aside0.mk A10
 clear A10
 replace H := Option.bind_eq_some_iff.mp H
 obtain ⟨⟨t179, t180, t181, t182, t183⟩, A20, H⟩ := H
 replace H : ((attr_Show.f k 2 1 2 1).bind fun bt185 => ((attr_Read.f k (⟨#[100, 101, 118, 105, 99, 101, 32, 112, 114, 105, 118, 97, 116, 101]⟩ : ByteArray)).bind fun bt187 => ((attr_Find.f k false 0 0 2 1 1 0).bind fun bt193 => ((atlaslaw06_no.f t177).bind fun t195 => (if t195 = 0 then ((atlaslaw06_no.f t183).bind fun t196 => (if t196 = 0 then ((atlaslaw06_no.f bt185.2).bind fun t197 => (if t197 = 0 then ((atlaslaw06_no.f bt187.2.2.2.2).bind fun t198 => (if t198 = 0 then ((atlaslaw06_no.f bt193.2).bind fun t199 => (atlaslaw06_live.j0 k bt185.1 bt193.1 (t199 != 0) t173 t174 t175 t176 t179 t180 t181 t182 bt187.1 bt187.2.1 bt187.2.2.1 bt187.2.2.2.1)) else (atlaslaw06_live.j0 k bt185.1 bt193.1 true t173 t174 t175 t176 t179 t180 t181 t182 bt187.1 bt187.2.1 bt187.2.2.1 bt187.2.2.2.1))) else (atlaslaw06_live.j0 k bt185.1 bt193.1 true t173 t174 t175 t176 t179 t180 t181 t182 bt187.1 bt187.2.1 bt187.2.2.1 bt187.2.2.2.1))) else (atlaslaw06_live.j0 k bt185.1 bt193.1 true t173 t174 t175 t176 t179 t180 t181 t182 bt187.1 bt187.2.1 bt187.2.2.1 bt187.2.2.2.1))) else (atlaslaw06_live.j0 k bt185.1 bt193.1 true t173 t174 t175 t176 t179 t180 t181 t182 bt187.1 bt187.2.1 bt187.2.2.1 bt187.2.2.2.1)))))) = some r := H
 have A2 := Aside0.mk A20
 clear A20
 replace H := Option.bind_eq_some_iff.mp H
 obtain ⟨⟨t185, t186⟩, A30, H⟩ := H
 replace H : ((attr_Read.f k (⟨#[100, 101, 118, 105, 99, 101, 32, 112, 114, 105, 118, 97, 116, 101]⟩ : ByteArray)).bind fun bt187 => ((attr_Find.f k false 0 0 2 1 1 0).bind fun bt193 => ((atlaslaw06_no.f t177).bind fun t195 => (if t195 = 0 then ((atlaslaw06_no.f t183).bind fun t196 => (if t196 = 0 then ((atlaslaw06_no.f t186).bind fun t197 => (if t197 = 0 then ((atlaslaw06_no.f bt187.2.2.2.2).bind fun t198 => (if t198 = 0 then ((atlaslaw06_no.f bt193.2).bind fun t199 => (atlaslaw06_live.j0 k t185 bt193.1 (t199 != 0) t173 t174 t175 t176 t179 t180 t181 t182 bt187.1 bt187.2.1 bt187.2.2.1 bt187.2.2.2.1)) else (atlaslaw06_live.j0 k t185 bt193.1 true t173 t174 t175 t176 t179 t180 t181 t182 bt187.1 bt187.2.1 bt187.2.2.1 bt187.2.2.2.1))) else (atlaslaw06_live.j0 k t185 bt193.1 true t173 t174 t175 t176 t179 t180 t181 t182 bt187.1 bt187.2.1 bt187.2.2.1 bt187.2.2.2.1))) else (atlaslaw06_live.j0 k t185 bt193.1 true t173 t174 t175 t176 t179 t180 t181 t182 bt187.1 bt187.2.1 bt187.2.2.1 bt187.2.2.2.1))) else (atlaslaw06_live.j0 k t185 bt193.1 true t173 t174 t175 t176 t179 t180 t181 t182 bt187.1 bt187.2.1 bt187.2.2.1 bt187.2.2.2.1))))) = some r := H
 have A3 := Aside0.mk A30
 clear A30
 replace H := Option.bind_eq_some_iff.mp H
 obtain ⟨⟨t187, t188, t189, t190, t191⟩, A40, H⟩ := H
 replace H : ((attr_Find.f k false 0 0 2 1 1 0).bind fun bt193 => ((atlaslaw06_no.f t177).bind fun t195 => (if t195 = 0 then ((atlaslaw06_no.f t183).bind fun t196 => (if t196 = 0 then ((atlaslaw06_no.f t186).bind fun t197 => (if t197 = 0 then ((atlaslaw06_no.f t191).bind fun t198 => (if t198 = 0 then ((atlaslaw06_no.f bt193.2).bind fun t199 => (atlaslaw06_live.j0 k t185 bt193.1 (t199 != 0) t173 t174 t175 t176 t179 t180 t181 t182 t187 t188 t189 t190)) else (atlaslaw06_live.j0 k t185 bt193.1 true t173 t174 t175 t176 t179 t180 t181 t182 t187 t188 t189 t190))) else (atlaslaw06_live.j0 k t185 bt193.1 true t173 t174 t175 t176 t179 t180 t181 t182 t187 t188 t189 t190))) else (atlaslaw06_live.j0 k t185 bt193.1 true t173 t174 t175 t176 t179 t180 t181 t182 t187 t188 t189 t190))) else (atlaslaw06_live.j0 k t185 bt193.1 true t173 t174 t175 t176 t179 t180 t181 t182 t187 t188 t189 t190)))) = some r := H
 have A4 := Aside0.mk A40
 clear A40
 replace H := Option.bind_eq_some_iff.mp H
 obtain ⟨⟨t193, t194⟩, A50, H⟩ := H
 replace H : ((atlaslaw06_no.f t177).bind fun t195 => (if t195 = 0 then ((atlaslaw06_no.f t183).bind fun t196 => (if t196 = 0 then ((atlaslaw06_no.f t186).bind fun t197 => (if t197 = 0 then ((atlaslaw06_no.f t191).bind fun t198 => (if t198 = 0 then ((atlaslaw06_no.f t194).bind fun t199 => (atlaslaw06_live.j0 k t185 t193 (t199 != 0) t173 t174 t175 t176 t179 t180 t181 t182 t187 t188 t189 t190)) else (atlaslaw06_live.j0 k t185 t193 true t173 t174 t175 t176 t179 t180 t181 t182 t187 t188 t189 t190))) else (atlaslaw06_live.j0 k t185 t193 true t173 t174 t175 t176 t179 t180 t181 t182 t187 t188 t189 t190))) else (atlaslaw06_live.j0 k t185 t193 true t173 t174 t175 t176 t179 t180 t181 t182 t187 t188 t189 t190))) else (atlaslaw06_live.j0 k t185 t193 true t173 t174 t175 t176 t179 t180 t181 t182 t187 t188 t189 t190))) = some r := H
 have A5 := Aside0.mk A50
 clear A50
 have HC6 := Aside0.mk H
 clear H
 go_enter Tryd.func14, Tryd.ntmps14
 go_upto_region 6 with (first | ((with_reducible refine gate_callee (f := 12) rfl ?_); refine goesL_ (some 12) rfl rfl Tryd.func12 (by kernel_rfl) rfl #[.bool false, .int .u32 0, .int .u32 0, .int .u32 7] rfl (by (try simp only [List.map_toArray, List.map_cons, List.map_nil]); first | done | rfl | (simp only [List.length_drop, List.length_take]; rfl)) ?_; (with_reducible refine (attr_Of.calls k false 0 0 7 t173 t174 t175 t176 t177 _ ?side1 A1.out).mono ?_); (case side1 => exact ⟨G0.below hG0.out (by repeat (first | (with_reducible first | exact HB.out | apply below_alloc | apply pw_below_drewN | apply below_drew1) | exact HB.out))⟩); rintro e w7 ⟨rfl, hb⟩; refine ⟨_, rfl, ?_⟩; have n0_ := Aside0.mk (below_step (by repeat (first | (with_reducible first | exact HB.out | apply below_alloc | apply pw_below_drewN | apply below_drew1) | exact HB.out)) hb); clear HB; have HB := n0_; clear n0_; (try clear hb); (try clear hb2); (try clear hk); (try clear hi)) | ((with_reducible refine gate_dst (N := 1) rfl ?_); refine box_event ?hg (N := 1) ?hd (cs := #[.int .i64 0, .int .i64 0, .int .i64 0, .int .i64 0]) (t := 24) ?hr ?_; (case hd => rfl); (case hg => rfl); (case hr => first | (go_simp; done) | (go_simp; rfl)); intro gb178 hg w8 hbox hb; have n0_ := Aside0.mk (below_step (by repeat (first | (with_reducible first | exact HB.out | apply below_alloc | apply pw_below_drewN | apply below_drew1) | exact HB.out)) hb); have n1_ := Aside0.mk (hbox); have n2_ := Aside0.mk ((by rw [hg]; exact (below_size (by repeat (first | (with_reducible first | exact HB.out | apply below_alloc | apply pw_below_drewN | apply below_drew1) | exact HB.out))) : w.heap.size ≤ gb178)); have n3_ := Aside0.mk ((by rw [hg]; exact (below_size (by repeat (first | (with_reducible first | exact HB.out | apply below_alloc | apply pw_below_drewN | apply below_drew1) | exact HB.out))) : w.heap.size ≤ gb178)); clear HB; have HB := n0_; have BK178 := n1_; have GW178 := n2_; have GE178 := n3_; clear n0_ n1_ n2_ n3_; clear hb hbox hg; have hcz9_0 : w8.cell? ⟨gb178, 0, none⟩ = some (.int .i64 0) := (blk_cell BK178.out 0).trans rfl; have hcz9_1 : w8.cell? ⟨gb178, 1, none⟩ = some (.int .i64 0) := (blk_cell BK178.out 1).trans rfl; have hcz9_2 : w8.cell? ⟨gb178, 2, none⟩ = some (.int .i64 0) := (blk_cell BK178.out 2).trans rfl; have hcz9_3 : w8.cell? ⟨gb178, 3, none⟩ = some (.int .i64 0) := (blk_cell BK178.out 3).trans rfl; have hfz9_0 := blk_frozen BK178.out 0; have hfz9_1 := blk_frozen BK178.out 1; have hfz9_2 := blk_frozen BK178.out 2; have hfz9_3 := blk_frozen BK178.out 3) | ((with_reducible refine gate_callee (f := 12) rfl ?_); refine goesL_ (some 16) rfl rfl Tryd.func12 (by kernel_rfl) rfl #[.bool true, .int .u32 134907556, .int .u32 1088438496, .int .u32 7] rfl (by (try simp only [List.map_toArray, List.map_cons, List.map_nil]); first | done | rfl | (simp only [List.length_drop, List.length_take]; rfl)) ?_; (with_reducible refine (attr_Of.calls k true 134907556 1088438496 7 t179 t180 t181 t182 t183 _ ?side1 A2.out).mono ?_); (case side1 => exact ⟨G0.below hG0.out (by repeat (first | (with_reducible first | exact HB.out | apply below_alloc | apply pw_below_drewN | apply below_drew1 | refine below_set ?_ GE178.out) | exact HB.out))⟩); rintro e w10 ⟨rfl, hb⟩; refine ⟨_, rfl, ?_⟩; have n0_ := Aside0.mk (blk_below (g := gb178) (o := .cells #[.int .i64 t173, .int .i64 t174, .int .i64 t175, .int .i64 t176] 24 (0, 0)) (by (with_reducible repeat (first | refine blk_drewN ?_ _ | refine blk_drew ?_ | refine blk_alloc ?_ _)); refine blk_put (cs := #[.int .i64 t173, .int .i64 t174, .int .i64 t175, .int .i64 0]) ?_ 3 _ rfl; (with_reducible repeat (first | refine blk_drewN ?_ _ | refine blk_drew ?_ | refine blk_alloc ?_ _)); refine blk_put (cs := #[.int .i64 t173, .int .i64 t174, .int .i64 0, .int .i64 0]) ?_ 2 _ rfl; (with_reducible repeat (first | refine blk_drewN ?_ _ | refine blk_drew ?_ | refine blk_alloc ?_ _)); refine blk_put (cs := #[.int .i64 t173, .int .i64 0, .int .i64 0, .int .i64 0]) ?_ 1 _ rfl; (with_reducible repeat (first | refine blk_drewN ?_ _ | refine blk_drew ?_ | refine blk_alloc ?_ _)); refine blk_put (cs := #[.int .i64 0, .int .i64 0, .int .i64 0, .int .i64 0]) ?_ 0 _ rfl; (with_reducible repeat (first | refine blk_drewN ?_ _ | refine blk_drew ?_ | refine blk_alloc ?_ _)); exact BK178.out) hb); have n1_ := Aside0.mk (below_step (by repeat (first | (with_reducible first | exact HB.out | apply below_alloc | apply pw_below_drewN | apply below_drew1 | refine below_set ?_ GE178.out) | exact HB.out)) hb); clear BK178; clear HB; have BK178 := n0_; have HB := n1_; clear n0_ n1_; (try clear hb); (try clear hb2); (try clear hk); (try clear hi)) | ((with_reducible refine gate_dst (N := 3) rfl ?_); refine box_event ?hg (N := 3) ?hd (cs := #[.int .i64 0, .int .i64 0, .int .i64 0, .int .i64 0]) (t := 24) ?hr ?_; (case hd => rfl); (case hg => rfl); (case hr => first | (go_simp; done) | (go_simp; rfl)); intro gb184 hg w11 hbox hb; have n0_ := Aside0.mk (blk_below (g := gb178) (o := .cells #[.int .i64 t173, .int .i64 t174, .int .i64 t175, .int .i64 t176] 24 (0, 0)) (by (with_reducible repeat (first | refine blk_drewN ?_ _ | refine blk_drew ?_ | refine blk_alloc ?_ _)); exact BK178.out) hb); have n1_ := Aside0.mk (below_step (by repeat (first | (with_reducible first | exact HB.out | apply below_alloc | apply pw_below_drewN | apply below_drew1 | refine below_set ?_ GE178.out) | exact HB.out)) hb); have n2_ := Aside0.mk (hbox); have n3_ := Aside0.mk ((by rw [hg]; exact (below_size (by repeat (first | (with_reducible first | exact HB.out | apply below_alloc | apply pw_below_drewN | apply below_drew1 | refine below_set ?_ GE178.out) | exact HB.out))) : w.heap.size ≤ gb184)); have n4_ := Aside0.mk ((by rw [hg]; exact (below_size (by repeat (first | (with_reducible first | exact HB.out | apply below_alloc | apply pw_below_drewN | apply below_drew1 | refine below_set ?_ GE178.out) | exact HB.out))) : w.heap.size ≤ gb184)); have n5_ := Aside0.mk ((by rw [hg]; exact Nat.ne_of_lt (blk_lt (g := gb178) (o := .cells #[.int .i64 t173, .int .i64 t174, .int .i64 t175, .int .i64 t176] 24 (0, 0)) (by (with_reducible repeat (first | refine blk_drewN ?_ _ | refine blk_drew ?_ | refine blk_alloc ?_ _)); exact BK178.out)) : gb178 ≠ gb184)); have n6_ := Aside0.mk ((by rw [hg]; exact Nat.ne_of_gt (blk_lt (g := gb178) (o := .cells #[.int .i64 t173, .int .i64 t174, .int .i64 t175, .int .i64 t176] 24 (0, 0)) (by (with_reducible repeat (first | refine blk_drewN ?_ _ | refine blk_drew ?_ | refine blk_alloc ?_ _)); exact BK178.out)) : gb184 ≠ gb178)); clear BK178; clear HB; have BK178 := n0_; have HB := n1_; have BK184 := n2_; have GW184 := n3_; have GE184 := n4_; have NB178_184 := n5_; have NB184_178 := n6_; clear n0_ n1_ n2_ n3_ n4_ n5_ n6_; clear hb hbox hg; have hnb12 := NB184_178.out; have hnc12 := NB178_184.out; have hcz13_0 : w11.cell? ⟨gb184, 0, none⟩ = some (.int .i64 0) := (blk_cell BK184.out 0).trans rfl; have hcz13_1 : w11.cell? ⟨gb184, 1, none⟩ = some (.int .i64 0) := (blk_cell BK184.out 1).trans rfl; have hcz13_2 : w11.cell? ⟨gb184, 2, none⟩ = some (.int .i64 0) := (blk_cell BK184.out 2).trans rfl; have hcz13_3 : w11.cell? ⟨gb184, 3, none⟩ = some (.int .i64 0) := (blk_cell BK184.out 3).trans rfl; have hfz13_0 := blk_frozen BK184.out 0; have hfz13_1 := blk_frozen BK184.out 1; have hfz13_2 := blk_frozen BK184.out 2; have hfz13_3 := blk_frozen BK184.out 3) | ((with_reducible refine gate_callee (f := 18) rfl ?_); refine goesL_ (some 21) rfl rfl Tryd.func18 (by kernel_rfl) rfl #[.agg #[.int .i64 2, .int .i64 1, .int .i64 2, .int .i64 1]] rfl (by (try simp only [List.map_toArray, List.map_cons, List.map_nil]); first | done | rfl | (simp only [List.length_drop, List.length_take]; rfl)) ?_; (with_reducible refine (attr_Show.calls k 2 1 2 1 t185 t186 _ ?side1 ?side2 A3.out).mono ?_); (case side1 => exact ⟨G1.below hG1.out (by repeat (first | (with_reducible first | exact HB.out | apply below_alloc | apply pw_below_drewN | apply below_drew1 | refine below_set ?_ GE178.out | refine below_set ?_ GE184.out) | exact HB.out))⟩); (case side2 => exact ⟨G2.below hG2.out (by repeat (first | (with_reducible first | exact HB.out | apply below_alloc | apply pw_below_drewN | apply below_drew1 | refine below_set ?_ GE178.out | refine below_set ?_ GE184.out) | exact HB.out))⟩); rintro e w14 ⟨rfl, hb⟩; refine ⟨_, rfl, ?_⟩; have n0_ := Aside0.mk (blk_below (g := gb178) (o := .cells #[.int .i64 t173, .int .i64 t174, .int .i64 t175, .int .i64 t176] 24 (0, 0)) (by (with_reducible repeat (first | refine blk_drewN ?_ _ | refine blk_drew ?_ | refine blk_alloc ?_ _)); refine blk_far ?_ NB178_184.out _; (with_reducible repeat (first | refine blk_drewN ?_ _ | refine blk_drew ?_ | refine blk_alloc ?_ _)); refine blk_far ?_ NB178_184.out _; (with_reducible repeat (first | refine blk_drewN ?_ _ | refine blk_drew ?_ | refine blk_alloc ?_ _)); refine blk_far ?_ NB178_184.out _; (with_reducible repeat (first | refine blk_drewN ?_ _ | refine blk_drew ?_ | refine blk_alloc ?_ _)); refine blk_far ?_ NB178_184.out _; (with_reducible repeat (first | refine blk_drewN ?_ _ | refine blk_drew ?_ | refine blk_alloc ?_ _)); exact BK178.out) hb); have n1_ := Aside0.mk (blk_below (g := gb184) (o := .cells #[.int .i64 t179, .int .i64 t180, .int .i64 t181, .int .i64 t182] 24 (0, 0)) (by (with_reducible repeat (first | refine blk_drewN ?_ _ | refine blk_drew ?_ | refine blk_alloc ?_ _)); refine blk_put (cs := #[.int .i64 t179, .int .i64 t180, .int .i64 t181, .int .i64 0]) ?_ 3 _ rfl; (with_reducible repeat (first | refine blk_drewN ?_ _ | refine blk_drew ?_ | refine blk_alloc ?_ _)); refine blk_put (cs := #[.int .i64 t179, .int .i64 t180, .int .i64 0, .int .i64 0]) ?_ 2 _ rfl; (with_reducible repeat (first | refine blk_drewN ?_ _ | refine blk_drew ?_ | refine blk_alloc ?_ _)); refine blk_put (cs := #[.int .i64 t179, .int .i64 0, .int .i64 0, .int .i64 0]) ?_ 1 _ rfl; (with_reducible repeat (first | refine blk_drewN ?_ _ | refine blk_drew ?_ | refine blk_alloc ?_ _)); refine blk_put (cs := #[.int .i64 0, .int .i64 0, .int .i64 0, .int .i64 0]) ?_ 0 _ rfl; (with_reducible repeat (first | refine blk_drewN ?_ _ | refine blk_drew ?_ | refine blk_alloc ?_ _)); exact BK184.out) hb); have n2_ := Aside0.mk (below_step (by repeat (first | (with_reducible first | exact HB.out | apply below_alloc | apply pw_below_drewN | apply below_drew1 | refine below_set ?_ GE178.out | refine below_set ?_ GE184.out) | exact HB.out)) hb); clear BK178; clear BK184; clear HB; have BK178 := n0_; have BK184 := n1_; have HB := n2_; clear n0_ n1_ n2_; (try clear hb); (try clear hb2); (try clear hk); (try clear hi)) | ((with_reducible refine gate_callee (f := 20) rfl ?_); refine goesL_ (some 25) rfl rfl Tryd.func20 (by kernel_rfl) rfl #[.string (⟨#[100, 101, 118, 105, 99, 101, 32, 112, 114, 105, 118, 97, 116, 101]⟩ : ByteArray)] rfl (by (try simp only [List.map_toArray, List.map_cons, List.map_nil]); first | done | rfl | (simp only [List.length_drop, List.length_take]; rfl)) ?_; (with_reducible refine (attr_Read.calls k (⟨#[100, 101, 118, 105, 99, 101, 32, 112, 114, 105, 118, 97, 116, 101]⟩ : ByteArray) t187 t188 t189 t190 t191 _ ?side1 ?side2 ?side3 A4.out).mono ?_); (case side1 => exact ⟨G1.below hG1.out (by repeat (first | (with_reducible first | exact HB.out | apply below_alloc | apply pw_below_drewN | apply below_drew1 | refine below_set ?_ GE178.out | refine below_set ?_ GE184.out) | exact HB.out))⟩); (case side2 => exact ⟨G2.below hG2.out (by repeat (first | (with_reducible first | exact HB.out | apply below_alloc | apply pw_below_drewN | apply below_drew1 | refine below_set ?_ GE178.out | refine below_set ?_ GE184.out) | exact HB.out))⟩); (case side3 => exact ⟨G3.below hG3.out (by repeat (first | (with_reducible first | exact HB.out | apply below_alloc | apply pw_below_drewN | apply below_drew1 | refine below_set ?_ GE178.out | refine below_set ?_ GE184.out) | exact HB.out))⟩); rintro e w15 ⟨rfl, hb⟩; refine ⟨_, rfl, ?_⟩; have n0_ := Aside0.mk (blk_below (g := gb178) (o := .cells #[.int .i64 t173, .int .i64 t174, .int .i64 t175, .int .i64 t176] 24 (0, 0)) (by (with_reducible repeat (first | refine blk_drewN ?_ _ | refine blk_drew ?_ | refine blk_alloc ?_ _)); exact BK178.out) hb); have n1_ := Aside0.mk (blk_below (g := gb184) (o := .cells #[.int .i64 t179, .int .i64 t180, .int .i64 t181, .int .i64 t182] 24 (0, 0)) (by (with_reducible repeat (first | refine blk_drewN ?_ _ | refine blk_drew ?_ | refine blk_alloc ?_ _)); exact BK184.out) hb); have n2_ := Aside0.mk (below_step (by repeat (first | (with_reducible first | exact HB.out | apply below_alloc | apply pw_below_drewN | apply below_drew1 | refine below_set ?_ GE178.out | refine below_set ?_ GE184.out) | exact HB.out)) hb); clear BK178; clear BK184; clear HB; have BK178 := n0_; have BK184 := n1_; have HB := n2_; clear n0_ n1_ n2_; (try clear hb); (try clear hb2); (try clear hk); (try clear hi)) | ((with_reducible refine gate_dst (N := 7) rfl ?_); refine box_event ?hg (N := 7) ?hd (cs := #[.int .i64 0, .int .i64 0, .int .i64 0, .int .i64 0]) (t := 24) ?hr ?_; (case hd => rfl); (case hg => rfl); (case hr => first | (go_simp; done) | (go_simp; rfl)); intro gb192 hg w16 hbox hb; have n0_ := Aside0.mk (blk_below (g := gb178) (o := .cells #[.int .i64 t173, .int .i64 t174, .int .i64 t175, .int .i64 t176] 24 (0, 0)) (by (with_reducible repeat (first | refine blk_drewN ?_ _ | refine blk_drew ?_ | refine blk_alloc ?_ _)); exact BK178.out) hb); have n1_ := Aside0.mk (blk_below (g := gb184) (o := .cells #[.int .i64 t179, .int .i64 t180, .int .i64 t181, .int .i64 t182] 24 (0, 0)) (by (with_reducible repeat (first | refine blk_drewN ?_ _ | refine blk_drew ?_ | refine blk_alloc ?_ _)); exact BK184.out) hb); have n2_ := Aside0.mk (below_step (by repeat (first | (with_reducible first | exact HB.out | apply below_alloc | apply pw_below_drewN | apply below_drew1 | refine below_set ?_ GE178.out | refine below_set ?_ GE184.out) | exact HB.out)) hb); have n3_ := Aside0.mk (hbox); have n4_ := Aside0.mk ((by rw [hg]; exact (below_size (by repeat (first | (with_reducible first | exact HB.out | apply below_alloc | apply pw_below_drewN | apply below_drew1 | refine below_set ?_ GE178.out | refine below_set ?_ GE184.out) | exact HB.out))) : w.heap.size ≤ gb192)); have n5_ := Aside0.mk ((by rw [hg]; exact (below_size (by repeat (first | (with_reducible first | exact HB.out | apply below_alloc | apply pw_below_drewN | apply below_drew1 | refine below_set ?_ GE178.out | refine below_set ?_ GE184.out) | exact HB.out))) : w.heap.size ≤ gb192)); have n6_ := Aside0.mk ((by rw [hg]; exact Nat.ne_of_lt (blk_lt (g := gb178) (o := .cells #[.int .i64 t173, .int .i64 t174, .int .i64 t175, .int .i64 t176] 24 (0, 0)) (by (with_reducible repeat (first | refine blk_drewN ?_ _ | refine blk_drew ?_ | refine blk_alloc ?_ _)); exact BK178.out)) : gb178 ≠ gb192)); have n7_ := Aside0.mk ((by rw [hg]; exact Nat.ne_of_gt (blk_lt (g := gb178) (o := .cells #[.int .i64 t173, .int .i64 t174, .int .i64 t175, .int .i64 t176] 24 (0, 0)) (by (with_reducible repeat (first | refine blk_drewN ?_ _ | refine blk_drew ?_ | refine blk_alloc ?_ _)); exact BK178.out)) : gb192 ≠ gb178)); have n8_ := Aside0.mk ((by rw [hg]; exact Nat.ne_of_lt (blk_lt (g := gb184) (o := .cells #[.int .i64 t179, .int .i64 t180, .int .i64 t181, .int .i64 t182] 24 (0, 0)) (by (with_reducible repeat (first | refine blk_drewN ?_ _ | refine blk_drew ?_ | refine blk_alloc ?_ _)); exact BK184.out)) : gb184 ≠ gb192)); have n9_ := Aside0.mk ((by rw [hg]; exact Nat.ne_of_gt (blk_lt (g := gb184) (o := .cells #[.int .i64 t179, .int .i64 t180, .int .i64 t181, .int .i64 t182] 24 (0, 0)) (by (with_reducible repeat (first | refine blk_drewN ?_ _ | refine blk_drew ?_ | refine blk_alloc ?_ _)); exact BK184.out)) : gb192 ≠ gb184)); clear BK178; clear BK184; clear HB; have BK178 := n0_; have BK184 := n1_; have HB := n2_; have BK192 := n3_; have GW192 := n4_; have GE192 := n5_; have NB178_192 := n6_; have NB192_178 := n7_; have NB184_192 := n8_; have NB192_184 := n9_; clear n0_ n1_ n2_ n3_ n4_ n5_ n6_ n7_ n8_ n9_; clear hb hbox hg; have hnb17 := NB192_178.out; have hnc17 := NB178_192.out; have hnb18 := NB192_184.out; have hnc18 := NB184_192.out; have hcz19_0 : w16.cell? ⟨gb192, 0, none⟩ = some (.int .i64 0) := (blk_cell BK192.out 0).trans rfl; have hcz19_1 : w16.cell? ⟨gb192, 1, none⟩ = some (.int .i64 0) := (blk_cell BK192.out 1).trans rfl; have hcz19_2 : w16.cell? ⟨gb192, 2, none⟩ = some (.int .i64 0) := (blk_cell BK192.out 2).trans rfl; have hcz19_3 : w16.cell? ⟨gb192, 3, none⟩ = some (.int .i64 0) := (blk_cell BK192.out 3).trans rfl; have hfz19_0 := blk_frozen BK192.out 0; have hfz19_1 := blk_frozen BK192.out 1; have hfz19_2 := blk_frozen BK192.out 2; have hfz19_3 := blk_frozen BK192.out 3) | ((with_reducible refine gate_callee (f := 16) rfl ?_); refine goesL_ (some 30) rfl rfl Tryd.func16 (by kernel_rfl) rfl #[.bool false, .int .u32 0, .int .u32 0, .agg #[.int .i64 2, .int .i64 1, .int .i64 1, .int .i64 0]] rfl (by (try simp only [List.map_toArray, List.map_cons, List.map_nil]); first | done | rfl | (simp only [List.length_drop, List.length_take]; rfl)) ?_; (with_reducible refine (attr_Find.calls k false 0 0 2 1 1 0 t193 t194 _ ?side1 A5.out).mono ?_); (case side1 => exact ⟨G0.below hG0.out (by repeat (first | (with_reducible first | exact HB.out | apply below_alloc | apply pw_below_drewN | apply below_drew1 | refine below_set ?_ GE178.out | refine below_set ?_ GE184.out | refine below_set ?_ GE192.out) | exact HB.out))⟩); rintro e w20 ⟨rfl, hb⟩; refine ⟨_, rfl, ?_⟩; have n0_ := Aside0.mk (blk_below (g := gb178) (o := .cells #[.int .i64 t173, .int .i64 t174, .int .i64 t175, .int .i64 t176] 24 (0, 0)) (by (with_reducible repeat (first | refine blk_drewN ?_ _ | refine blk_drew ?_ | refine blk_alloc ?_ _)); refine blk_far ?_ NB178_192.out _; (with_reducible repeat (first | refine blk_drewN ?_ _ | refine blk_drew ?_ | refine blk_alloc ?_ _)); refine blk_far ?_ NB178_192.out _; (with_reducible repeat (first | refine blk_drewN ?_ _ | refine blk_drew ?_ | refine blk_alloc ?_ _)); refine blk_far ?_ NB178_192.out _; (with_reducible repeat (first | refine blk_drewN ?_ _ | refine blk_drew ?_ | refine blk_alloc ?_ _)); refine blk_far ?_ NB178_192.out _; (with_reducible repeat (first | refine blk_drewN ?_ _ | refine blk_drew ?_ | refine blk_alloc ?_ _)); exact BK178.out) hb); have n1_ := Aside0.mk (blk_below (g := gb184) (o := .cells #[.int .i64 t179, .int .i64 t180, .int .i64 t181, .int .i64 t182] 24 (0, 0)) (by (with_reducible repeat (first | refine blk_drewN ?_ _ | refine blk_drew ?_ | refine blk_alloc ?_ _)); refine blk_far ?_ NB184_192.out _; (with_reducible repeat (first | refine blk_drewN ?_ _ | refine blk_drew ?_ | refine blk_alloc ?_ _)); refine blk_far ?_ NB184_192.out _; (with_reducible repeat (first | refine blk_drewN ?_ _ | refine blk_drew ?_ | refine blk_alloc ?_ _)); refine blk_far ?_ NB184_192.out _; (with_reducible repeat (first | refine blk_drewN ?_ _ | refine blk_drew ?_ | refine blk_alloc ?_ _)); refine blk_far ?_ NB184_192.out _; (with_reducible repeat (first | refine blk_drewN ?_ _ | refine blk_drew ?_ | refine blk_alloc ?_ _)); exact BK184.out) hb); have n2_ := Aside0.mk (blk_below (g := gb192) (o := .cells #[.int .i64 t187, .int .i64 t188, .int .i64 t189, .int .i64 t190] 24 (0, 0)) (by (with_reducible repeat (first | refine blk_drewN ?_ _ | refine blk_drew ?_ | refine blk_alloc ?_ _)); refine blk_put (cs := #[.int .i64 t187, .int .i64 t188, .int .i64 t189, .int .i64 0]) ?_ 3 _ rfl; (with_reducible repeat (first | refine blk_drewN ?_ _ | refine blk_drew ?_ | refine blk_alloc ?_ _)); refine blk_put (cs := #[.int .i64 t187, .int .i64 t188, .int .i64 0, .int .i64 0]) ?_ 2 _ rfl; (with_reducible repeat (first | refine blk_drewN ?_ _ | refine blk_drew ?_ | refine blk_alloc ?_ _)); refine blk_put (cs := #[.int .i64 t187, .int .i64 0, .int .i64 0, .int .i64 0]) ?_ 1 _ rfl; (with_reducible repeat (first | refine blk_drewN ?_ _ | refine blk_drew ?_ | refine blk_alloc ?_ _)); refine blk_put (cs := #[.int .i64 0, .int .i64 0, .int .i64 0, .int .i64 0]) ?_ 0 _ rfl; (with_reducible repeat (first | refine blk_drewN ?_ _ | refine blk_drew ?_ | refine blk_alloc ?_ _)); exact BK192.out) hb); have n3_ := Aside0.mk (below_step (by repeat (first | (with_reducible first | exact HB.out | apply below_alloc | apply pw_below_drewN | apply below_drew1 | refine below_set ?_ GE178.out | refine below_set ?_ GE184.out | refine below_set ?_ GE192.out) | exact HB.out)) hb); clear BK178; clear BK184; clear BK192; clear HB; have BK178 := n0_; have BK184 := n1_; have BK192 := n2_; have HB := n3_; clear n0_ n1_ n2_ n3_; (try clear hb); (try clear hb2); (try clear hk); (try clear hi)))
 (try simp only [Act.put, List.setIfInBounds_toArray, List.set_cons_zero, List.set_cons_succ])
 go_cut [55] (fun v55 wc => ∃ (kq : Nat) (x55_5 : Bool), v55 = .bool x55_5 ∧ Aside0 (atlaslaw06_live.j0 kq t185 t193 x55_5 t173 t174 t175 t176 t179 t180 t181 t182 t187 t188 t189 t190 = some r) ∧ Aside0 (kq ≤ k) ∧ Aside0 (wc.heap[gb178]? = some (.cells #[.int .i64 t173, .int .i64 t174, .int .i64 t175, .int .i64 t176] 24 (0, 0))) ∧ Aside0 (wc.heap[gb184]? = some (.cells #[.int .i64 t179, .int .i64 t180, .int .i64 t181, .int .i64 t182] 24 (0, 0))) ∧ Aside0 (wc.heap[gb192]? = some (.cells #[.int .i64 t187, .int .i64 t188, .int .i64 t189, .int .i64 t190] 24 (0, 0))) ∧ Aside0 (Below w.heap.size w wc))
 case first =>
  have H := HC6.out
  clear HC6
  replace H := Option.bind_eq_some_iff.mp H
  obtain ⟨t195, A210, H⟩ := H
  replace H : (if t195 = 0 then ((atlaslaw06_no.f t183).bind fun t196 => (if t196 = 0 then ((atlaslaw06_no.f t186).bind fun t197 => (if t197 = 0 then ((atlaslaw06_no.f t191).bind fun t198 => (if t198 = 0 then ((atlaslaw06_no.f t194).bind fun t199 => (atlaslaw06_live.j0 k t185 t193 (t199 != 0) t173 t174 t175 t176 t179 t180 t181 t182 t187 t188 t189 t190)) else (atlaslaw06_live.j0 k t185 t193 true t173 t174 t175 t176 t179 t180 t181 t182 t187 t188 t189 t190))) else (atlaslaw06_live.j0 k t185 t193 true t173 t174 t175 t176 t179 t180 t181 t182 t187 t188 t189 t190))) else (atlaslaw06_live.j0 k t185 t193 true t173 t174 t175 t176 t179 t180 t181 t182 t187 t188 t189 t190))) else (atlaslaw06_live.j0 k t185 t193 true t173 t174 t175 t176 t179 t180 t181 t182 t187 t188 t189 t190)) = some r := H
  have A21 := Aside0.mk A210
  clear A210
  by_cases c22 : t195 = 0
  ·
   rw [if_pos c22] at H
   have c22b0 : (t195 == 0) = true := beq_iff_eq.mpr c22
   have c22b1 : (t195 != 0) = false := bne_eq_false_iff_eq.mpr c22
   clear c22
   (first | rw [c22b0] | (simp only [i64_w, i32_w]; rw [c22b0]) | skip)
   replace H := Option.bind_eq_some_iff.mp H
   obtain ⟨t196, A230, H⟩ := H
   replace H : (if t196 = 0 then ((atlaslaw06_no.f t186).bind fun t197 => (if t197 = 0 then ((atlaslaw06_no.f t191).bind fun t198 => (if t198 = 0 then ((atlaslaw06_no.f t194).bind fun t199 => (atlaslaw06_live.j0 k t185 t193 (t199 != 0) t173 t174 t175 t176 t179 t180 t181 t182 t187 t188 t189 t190)) else (atlaslaw06_live.j0 k t185 t193 true t173 t174 t175 t176 t179 t180 t181 t182 t187 t188 t189 t190))) else (atlaslaw06_live.j0 k t185 t193 true t173 t174 t175 t176 t179 t180 t181 t182 t187 t188 t189 t190))) else (atlaslaw06_live.j0 k t185 t193 true t173 t174 t175 t176 t179 t180 t181 t182 t187 t188 t189 t190)) = some r := H
   have A23 := Aside0.mk A230
   clear A230
   by_cases c24 : t196 = 0
   ·
    rw [if_pos c24] at H
    have c24b0 : (t196 == 0) = true := beq_iff_eq.mpr c24
    have c24b1 : (t196 != 0) = false := bne_eq_false_iff_eq.mpr c24
    clear c24
    replace H := Option.bind_eq_some_iff.mp H
    obtain ⟨t197, A250, H⟩ := H
    replace H : (if t197 = 0 then ((atlaslaw06_no.f t191).bind fun t198 => (if t198 = 0 then ((atlaslaw06_no.f t194).bind fun t199 => (atlaslaw06_live.j0 k t185 t193 (t199 != 0) t173 t174 t175 t176 t179 t180 t181 t182 t187 t188 t189 t190)) else (atlaslaw06_live.j0 k t185 t193 true t173 t174 t175 t176 t179 t180 t181 t182 t187 t188 t189 t190))) else (atlaslaw06_live.j0 k t185 t193 true t173 t174 t175 t176 t179 t180 t181 t182 t187 t188 t189 t190)) = some r := H
    have A25 := Aside0.mk A250
    clear A250
    by_cases c26 : t197 = 0
    ·
     rw [if_pos c26] at H
     have c26b0 : (t197 == 0) = true := beq_iff_eq.mpr c26
     have c26b1 : (t197 != 0) = false := bne_eq_false_iff_eq.mpr c26
     clear c26
     replace H := Option.bind_eq_some_iff.mp H
     obtain ⟨t198, A270, H⟩ := H
     replace H : (if t198 = 0 then ((atlaslaw06_no.f t194).bind fun t199 => (atlaslaw06_live.j0 k t185 t193 (t199 != 0) t173 t174 t175 t176 t179 t180 t181 t182 t187 t188 t189 t190)) else (atlaslaw06_live.j0 k t185 t193 true t173 t174 t175 t176 t179 t180 t181 t182 t187 t188 t189 t190)) = some r := H
     have A27 := Aside0.mk A270
     clear A270
     by_cases c28 : t198 = 0
     ·
      rw [if_pos c28] at H
      have c28b0 : (t198 == 0) = true := beq_iff_eq.mpr c28
      have c28b1 : (t198 != 0) = false := bne_eq_false_iff_eq.mpr c28
      clear c28
      replace H := Option.bind_eq_some_iff.mp H
      obtain ⟨t199, A290, H⟩ := H
      replace H : (atlaslaw06_live.j0 k t185 t193 (t199 != 0) t173 t174 t175 t176 t179 t180 t181 t182 t187 t188 t189 t190) = some r := H
      have A29 := Aside0.mk A290
      clear A290
      have H' := Aside0.mk H
      clear H
      go_wp2_with (first | ((with_reducible refine gate_callee (f := 15) rfl ?_); refine goesL_ (some 34) rfl rfl Tryd.func15 (by kernel_rfl) rfl #[.int .i64 t177] rfl (by (try simp only [List.map_toArray, List.map_cons, List.map_nil]); first | done | rfl | (simp only [List.length_drop, List.length_take]; rfl)) ?_; (with_reducible refine (atlaslaw06_no.calls t177 t195 _ A21.out).mono ?_); rintro e w' ⟨rfl, ⟨nd, rfl⟩⟩; refine ⟨_, rfl, ?_⟩) | (go_at_call 15; (with_reducible refine (atlaslaw06_no.calls t183 t196 _ A23.out).mono ?_); rintro e w' ⟨rfl, ⟨nd, rfl⟩⟩) | (go_at_call 15; (with_reducible refine (atlaslaw06_no.calls t186 t197 _ A25.out).mono ?_); rintro e w' ⟨rfl, ⟨nd, rfl⟩⟩) | (go_at_call 15; (with_reducible refine (atlaslaw06_no.calls t191 t198 _ A27.out).mono ?_); rintro e w' ⟨rfl, ⟨nd, rfl⟩⟩) | (go_at_call 15; (with_reducible refine (atlaslaw06_no.calls t194 t199 _ A29.out).mono ?_); rintro e w' ⟨rfl, ⟨nd, rfl⟩⟩))
      go_meet
      case rel => exact ⟨_, ((t199 != 0)), (by first | rfl | (simp; done) | (simp [*]; done)), H', ⟨by first | omega | exact Nat.le_refl _⟩, ⟨by (with_reducible repeat (first | refine blk_drewN ?_ _ | refine blk_drew ?_ | refine blk_alloc ?_ _)); exact BK178.out⟩, ⟨by (with_reducible repeat (first | refine blk_drewN ?_ _ | refine blk_drew ?_ | refine blk_alloc ?_ _)); exact BK184.out⟩, ⟨by (with_reducible repeat (first | refine blk_drewN ?_ _ | refine blk_drew ?_ | refine blk_alloc ?_ _)); exact BK192.out⟩, ⟨by repeat (first | (with_reducible first | exact HB.out | apply below_alloc | apply pw_below_drewN | apply below_drew1 | refine below_set ?_ GE178.out | refine below_set ?_ GE184.out | refine below_set ?_ GE192.out) | exact HB.out)⟩⟩
     ·
      rw [if_neg c28] at H
      have c28b0 : (t198 == 0) = false := beq_eq_false_iff_ne.mpr c28
      have c28b1 : (t198 != 0) = true := bne_iff_ne.mpr c28
      have H' := Aside0.mk H
      clear H
      go_wp2_with (first | ((with_reducible refine gate_callee (f := 15) rfl ?_); refine goesL_ (some 34) rfl rfl Tryd.func15 (by kernel_rfl) rfl #[.int .i64 t177] rfl (by (try simp only [List.map_toArray, List.map_cons, List.map_nil]); first | done | rfl | (simp only [List.length_drop, List.length_take]; rfl)) ?_; (with_reducible refine (atlaslaw06_no.calls t177 t195 _ A21.out).mono ?_); rintro e w' ⟨rfl, ⟨nd, rfl⟩⟩; refine ⟨_, rfl, ?_⟩) | (go_at_call 15; (with_reducible refine (atlaslaw06_no.calls t183 t196 _ A23.out).mono ?_); rintro e w' ⟨rfl, ⟨nd, rfl⟩⟩) | (go_at_call 15; (with_reducible refine (atlaslaw06_no.calls t186 t197 _ A25.out).mono ?_); rintro e w' ⟨rfl, ⟨nd, rfl⟩⟩) | (go_at_call 15; (with_reducible refine (atlaslaw06_no.calls t191 t198 _ A27.out).mono ?_); rintro e w' ⟨rfl, ⟨nd, rfl⟩⟩))
      go_meet
      case rel => exact ⟨_, (true), (by first | rfl | (simp; done) | (simp [*]; done)), H', ⟨by first | omega | exact Nat.le_refl _⟩, ⟨by (with_reducible repeat (first | refine blk_drewN ?_ _ | refine blk_drew ?_ | refine blk_alloc ?_ _)); exact BK178.out⟩, ⟨by (with_reducible repeat (first | refine blk_drewN ?_ _ | refine blk_drew ?_ | refine blk_alloc ?_ _)); exact BK184.out⟩, ⟨by (with_reducible repeat (first | refine blk_drewN ?_ _ | refine blk_drew ?_ | refine blk_alloc ?_ _)); exact BK192.out⟩, ⟨by repeat (first | (with_reducible first | exact HB.out | apply below_alloc | apply pw_below_drewN | apply below_drew1 | refine below_set ?_ GE178.out | refine below_set ?_ GE184.out | refine below_set ?_ GE192.out) | exact HB.out)⟩⟩
    ·
     rw [if_neg c26] at H
     have c26b0 : (t197 == 0) = false := beq_eq_false_iff_ne.mpr c26
     have c26b1 : (t197 != 0) = true := bne_iff_ne.mpr c26
     have H' := Aside0.mk H
     clear H
     go_wp2_with (first | ((with_reducible refine gate_callee (f := 15) rfl ?_); refine goesL_ (some 34) rfl rfl Tryd.func15 (by kernel_rfl) rfl #[.int .i64 t177] rfl (by (try simp only [List.map_toArray, List.map_cons, List.map_nil]); first | done | rfl | (simp only [List.length_drop, List.length_take]; rfl)) ?_; (with_reducible refine (atlaslaw06_no.calls t177 t195 _ A21.out).mono ?_); rintro e w' ⟨rfl, ⟨nd, rfl⟩⟩; refine ⟨_, rfl, ?_⟩) | (go_at_call 15; (with_reducible refine (atlaslaw06_no.calls t183 t196 _ A23.out).mono ?_); rintro e w' ⟨rfl, ⟨nd, rfl⟩⟩) | (go_at_call 15; (with_reducible refine (atlaslaw06_no.calls t186 t197 _ A25.out).mono ?_); rintro e w' ⟨rfl, ⟨nd, rfl⟩⟩))
     go_meet
     case rel => exact ⟨_, (true), (by first | rfl | (simp; done) | (simp [*]; done)), H', ⟨by first | omega | exact Nat.le_refl _⟩, ⟨by (with_reducible repeat (first | refine blk_drewN ?_ _ | refine blk_drew ?_ | refine blk_alloc ?_ _)); exact BK178.out⟩, ⟨by (with_reducible repeat (first | refine blk_drewN ?_ _ | refine blk_drew ?_ | refine blk_alloc ?_ _)); exact BK184.out⟩, ⟨by (with_reducible repeat (first | refine blk_drewN ?_ _ | refine blk_drew ?_ | refine blk_alloc ?_ _)); exact BK192.out⟩, ⟨by repeat (first | (with_reducible first | exact HB.out | apply below_alloc | apply pw_below_drewN | apply below_drew1 | refine below_set ?_ GE178.out | refine below_set ?_ GE184.out | refine below_set ?_ GE192.out) | exact HB.out)⟩⟩
   ·
    rw [if_neg c24] at H
    have c24b0 : (t196 == 0) = false := beq_eq_false_iff_ne.mpr c24
    have c24b1 : (t196 != 0) = true := bne_iff_ne.mpr c24
    have H' := Aside0.mk H
    clear H
    go_wp2_with (first | ((with_reducible refine gate_callee (f := 15) rfl ?_); refine goesL_ (some 34) rfl rfl Tryd.func15 (by kernel_rfl) rfl #[.int .i64 t177] rfl (by (try simp only [List.map_toArray, List.map_cons, List.map_nil]); first | done | rfl | (simp only [List.length_drop, List.length_take]; rfl)) ?_; (with_reducible refine (atlaslaw06_no.calls t177 t195 _ A21.out).mono ?_); rintro e w' ⟨rfl, ⟨nd, rfl⟩⟩; refine ⟨_, rfl, ?_⟩) | (go_at_call 15; (with_reducible refine (atlaslaw06_no.calls t183 t196 _ A23.out).mono ?_); rintro e w' ⟨rfl, ⟨nd, rfl⟩⟩))
    go_meet
    case rel => exact ⟨_, (true), (by first | rfl | (simp; done) | (simp [*]; done)), H', ⟨by first | omega | exact Nat.le_refl _⟩, ⟨by (with_reducible repeat (first | refine blk_drewN ?_ _ | refine blk_drew ?_ | refine blk_alloc ?_ _)); exact BK178.out⟩, ⟨by (with_reducible repeat (first | refine blk_drewN ?_ _ | refine blk_drew ?_ | refine blk_alloc ?_ _)); exact BK184.out⟩, ⟨by (with_reducible repeat (first | refine blk_drewN ?_ _ | refine blk_drew ?_ | refine blk_alloc ?_ _)); exact BK192.out⟩, ⟨by repeat (first | (with_reducible first | exact HB.out | apply below_alloc | apply pw_below_drewN | apply below_drew1 | refine below_set ?_ GE178.out | refine below_set ?_ GE184.out | refine below_set ?_ GE192.out) | exact HB.out)⟩⟩
  ·
   rw [if_neg c22] at H
   have c22b0 : (t195 == 0) = false := beq_eq_false_iff_ne.mpr c22
   have c22b1 : (t195 != 0) = true := bne_iff_ne.mpr c22
   (first | rw [c22b0] | (simp only [i64_w, i32_w]; rw [c22b0]) | skip)
   have H' := Aside0.mk H
   clear H
   go_wp2_with (first | ((with_reducible refine gate_callee (f := 15) rfl ?_); refine goesL_ (some 34) rfl rfl Tryd.func15 (by kernel_rfl) rfl #[.int .i64 t177] rfl (by (try simp only [List.map_toArray, List.map_cons, List.map_nil]); first | done | rfl | (simp only [List.length_drop, List.length_take]; rfl)) ?_; (with_reducible refine (atlaslaw06_no.calls t177 t195 _ A21.out).mono ?_); rintro e w' ⟨rfl, ⟨nd, rfl⟩⟩; refine ⟨_, rfl, ?_⟩))
   go_meet
   case rel => exact ⟨_, (true), (by first | rfl | (simp; done) | (simp [*]; done)), H', ⟨by first | omega | exact Nat.le_refl _⟩, ⟨by (with_reducible repeat (first | refine blk_drewN ?_ _ | refine blk_drew ?_ | refine blk_alloc ?_ _)); exact BK178.out⟩, ⟨by (with_reducible repeat (first | refine blk_drewN ?_ _ | refine blk_drew ?_ | refine blk_alloc ?_ _)); exact BK184.out⟩, ⟨by (with_reducible repeat (first | refine blk_drewN ?_ _ | refine blk_drew ?_ | refine blk_alloc ?_ _)); exact BK192.out⟩, ⟨by repeat (first | (with_reducible first | exact HB.out | apply below_alloc | apply pw_below_drewN | apply below_drew1 | refine below_set ?_ GE178.out | refine below_set ?_ GE184.out | refine below_set ?_ GE192.out) | exact HB.out)⟩⟩
 case rest =>
  clear HC6
  try clear c1
  try clear c2
  try clear p2
  try clear c12
  try clear c14
  try clear c15
  try clear c16
  try clear c17
  try clear c18
  try clear c20
  try clear c22
  try clear c22b0
  try clear c22b1
  try clear c24
  try clear c24b0
  try clear c24b1
  try clear c26
  try clear c26b0
  try clear c26b1
  try clear c28
  try clear c28b0
  try clear c28b1
  try clear hcz13_0
  try clear hcz13_1
  try clear hcz13_2
  try clear hcz13_3
  try clear hcz19_0
  try clear hcz19_1
  try clear hcz19_2
  try clear hcz19_3
  try clear hcz9_0
  try clear hcz9_1
  try clear hcz9_2
  try clear hcz9_3
  try clear hfz13_0
  try clear hfz13_1
  try clear hfz13_2
  try clear hfz13_3
  try clear hfz19_0
  try clear hfz19_1
  try clear hfz19_2
  try clear hfz19_3
  try clear hfz9_0
  try clear hfz9_1
  try clear hfz9_2
  try clear hfz9_3
  obtain ⟨kq, x55_5, rfl, HA, HJ5, BK178, BK184, BK192, HB⟩ := hcut
  cases kq with
  | zero => exact absurd HA.out (by simp [atlaslaw06_live.j0])
  | succ kj5 =>
   have H := HA.out
   clear HA
   simp only [atlaslaw06_live.j0] at H
   by_cases c30 : x55_5 = true
   ·
    subst c30
    have H1 : (some false) = some r := by rw [if_pos rfl] at H; exact H
    clear H
    have H := H1
    clear H1
    obtain rfl := Option.some.inj H
    go_wp2
    go_ret
    exact ⟨by first | rfl | (simp [errW_none, errW_some] <;> rfl) | (simp [*, errW_none, errW_some] <;> rfl) | (simp [*, errW_none, errW_some] <;> exact isEmpty_ne _), by repeat (first | (with_reducible first | exact HB.out | apply below_alloc | apply pw_below_drewN | apply below_drew1 | refine below_set ?_ GE178.out | refine below_set ?_ GE184.out | refine below_set ?_ GE192.out) | exact HB.out)⟩
   ·
    replace c30 := Bool.eq_false_iff.mpr c30
    subst c30
    have H1 : (if (t173 == 2 && (t174 == 3 && (t175 == 3 && (t176 == 2)))) = true then (if (t179 == 2 && (t180 == 3 && (t181 == 3 && (t182 == 1)))) = true then (if t185.toList = ([110, 111, 114, 109, 97, 108, 32, 97, 108, 108, 111, 99, 32, 116, 104, 114, 111, 117, 103, 104, 32, 105, 110, 110, 101, 114] : List UInt8) then (if (t187 == 1 && (t188 == 0 && (t189 == 0 && (t190 == 0)))) = true then (some (t193 == 14)) else (some false)) else (some false)) else (some false)) else (some false)) = some r := by rw [if_neg (show ¬ (false = true) by decide)] at H; exact H
    clear H
    have H := H1
    clear H1
    by_cases c31 : (t173 == 2 && (t174 == 3 && (t175 == 3 && (t176 == 2)))) = true
    ·
     rw [if_pos c31] at H
     have c31b0 : (t173 == 2 && (t174 == 3 && (t175 == 3 && (t176 == 2)))) = true := c31
     (try (have c31b1 : decide (t173 = 2 && (t174 == 3 && (t175 == 3 && (t176 == 2)))) = true := by simpa using c31))
     (try (have c31b2 : (t173 == 2 && (t174 == 3 && (t175 == 3 && (t176 == 2)))) = true := by simpa using c31))
     clear c31
     by_cases c32 : (t179 == 2 && (t180 == 3 && (t181 == 3 && (t182 == 1)))) = true
     ·
      rw [if_pos c32] at H
      have c32b0 : (t179 == 2 && (t180 == 3 && (t181 == 3 && (t182 == 1)))) = true := c32
      (try (have c32b1 : decide (t179 = 2 && (t180 == 3 && (t181 == 3 && (t182 == 1)))) = true := by simpa using c32))
      (try (have c32b2 : (t179 == 2 && (t180 == 3 && (t181 == 3 && (t182 == 1)))) = true := by simpa using c32))
      clear c32
      by_cases c33 : t185.toList = ([110, 111, 114, 109, 97, 108, 32, 97, 108, 108, 111, 99, 32, 116, 104, 114, 111, 117, 103, 104, 32, 105, 110, 110, 101, 114] : List UInt8)
      ·
       rw [if_pos c33] at H
       have c33b0 : (t185.toList == ([110, 111, 114, 109, 97, 108, 32, 97, 108, 108, 111, 99, 32, 116, 104, 114, 111, 117, 103, 104, 32, 105, 110, 110, 101, 114] : List UInt8)) = true := beq_iff_eq.mpr c33
       have c33b1 : (t185.toList != ([110, 111, 114, 109, 97, 108, 32, 97, 108, 108, 111, 99, 32, 116, 104, 114, 111, 117, 103, 104, 32, 105, 110, 110, 101, 114] : List UInt8)) = false := bne_eq_false_iff_eq.mpr c33
       clear c33
       by_cases c34 : (t187 == 1 && (t188 == 0 && (t189 == 0 && (t190 == 0)))) = true
       ·
        rw [if_pos c34] at H
        have c34b0 : (t187 == 1 && (t188 == 0 && (t189 == 0 && (t190 == 0)))) = true := c34
        (try (have c34b1 : decide (t187 = 1 && (t188 == 0 && (t189 == 0 && (t190 == 0)))) = true := by simpa using c34))
        (try (have c34b2 : (t187 == 1 && (t188 == 0 && (t189 == 0 && (t190 == 0)))) = true := by simpa using c34))
        clear c34
        obtain rfl := Option.some.inj H
        have hnb35 := NB178_184.out
        have hnc35 := NB184_178.out
        have hnb36 := NB178_192.out
        have hnc36 := NB192_178.out
        have hcz37_0 : wc.cell? ⟨gb178, 0, none⟩ = some (.int .i64 t173) := (blk_cell BK178.out 0).trans rfl
        have hcz37_1 : wc.cell? ⟨gb178, 1, none⟩ = some (.int .i64 t174) := (blk_cell BK178.out 1).trans rfl
        have hcz37_2 : wc.cell? ⟨gb178, 2, none⟩ = some (.int .i64 t175) := (blk_cell BK178.out 2).trans rfl
        have hcz37_3 : wc.cell? ⟨gb178, 3, none⟩ = some (.int .i64 t176) := (blk_cell BK178.out 3).trans rfl
        have hfz37_0 := blk_frozen BK178.out 0
        have hfz37_1 := blk_frozen BK178.out 1
        have hfz37_2 := blk_frozen BK178.out 2
        have hfz37_3 := blk_frozen BK178.out 3
        have hnb38 := NB184_192.out
        have hnc38 := NB192_184.out
        have hcz39_0 : wc.cell? ⟨gb184, 0, none⟩ = some (.int .i64 t179) := (blk_cell BK184.out 0).trans rfl
        have hcz39_1 : wc.cell? ⟨gb184, 1, none⟩ = some (.int .i64 t180) := (blk_cell BK184.out 1).trans rfl
        have hcz39_2 : wc.cell? ⟨gb184, 2, none⟩ = some (.int .i64 t181) := (blk_cell BK184.out 2).trans rfl
        have hcz39_3 : wc.cell? ⟨gb184, 3, none⟩ = some (.int .i64 t182) := (blk_cell BK184.out 3).trans rfl
        have hfz39_0 := blk_frozen BK184.out 0
        have hfz39_1 := blk_frozen BK184.out 1
        have hfz39_2 := blk_frozen BK184.out 2
        have hfz39_3 := blk_frozen BK184.out 3
        have hcz40_0 : wc.cell? ⟨gb192, 0, none⟩ = some (.int .i64 t187) := (blk_cell BK192.out 0).trans rfl
        have hcz40_1 : wc.cell? ⟨gb192, 1, none⟩ = some (.int .i64 t188) := (blk_cell BK192.out 1).trans rfl
        have hcz40_2 : wc.cell? ⟨gb192, 2, none⟩ = some (.int .i64 t189) := (blk_cell BK192.out 2).trans rfl
        have hcz40_3 : wc.cell? ⟨gb192, 3, none⟩ = some (.int .i64 t190) := (blk_cell BK192.out 3).trans rfl
        have hfz40_0 := blk_frozen BK192.out 0
        have hfz40_1 := blk_frozen BK192.out 1
        have hfz40_2 := blk_frozen BK192.out 2
        have hfz40_3 := blk_frozen BK192.out 3
        go_wp2
        go_ret
        exact ⟨by first | rfl | (simp [errW_none, errW_some] <;> rfl) | (simp [*, errW_none, errW_some] <;> rfl) | (simp [*, errW_none, errW_some] <;> exact isEmpty_ne _), by repeat (first | (with_reducible first | exact HB.out | apply below_alloc | apply pw_below_drewN | apply below_drew1 | refine below_set ?_ GE178.out | refine below_set ?_ GE184.out | refine below_set ?_ GE192.out) | exact HB.out)⟩
       ·
        rw [if_neg c34] at H
        have c34b0 : (t187 == 1 && (t188 == 0 && (t189 == 0 && (t190 == 0)))) = false := by simpa using c34
        (try (have c34b1 : decide (t187 = 1 && (t188 == 0 && (t189 == 0 && (t190 == 0)))) = false := by simpa using c34))
        (try (have c34b2 : (t187 == 1 && (t188 == 0 && (t189 == 0 && (t190 == 0)))) = false := by simpa using c34))
        (try (have c34b3 : ¬ (t187 = 1 && (t188 == 0 && (t189 == 0 && (t190 == 0)))) := by simpa using c34))
        clear c34
        obtain rfl := Option.some.inj H
        have hnb41 := NB178_184.out
        have hnc41 := NB184_178.out
        have hnb42 := NB178_192.out
        have hnc42 := NB192_178.out
        have hcz43_0 : wc.cell? ⟨gb178, 0, none⟩ = some (.int .i64 t173) := (blk_cell BK178.out 0).trans rfl
        have hcz43_1 : wc.cell? ⟨gb178, 1, none⟩ = some (.int .i64 t174) := (blk_cell BK178.out 1).trans rfl
        have hcz43_2 : wc.cell? ⟨gb178, 2, none⟩ = some (.int .i64 t175) := (blk_cell BK178.out 2).trans rfl
        have hcz43_3 : wc.cell? ⟨gb178, 3, none⟩ = some (.int .i64 t176) := (blk_cell BK178.out 3).trans rfl
        have hfz43_0 := blk_frozen BK178.out 0
        have hfz43_1 := blk_frozen BK178.out 1
        have hfz43_2 := blk_frozen BK178.out 2
        have hfz43_3 := blk_frozen BK178.out 3
        have hnb44 := NB184_192.out
        have hnc44 := NB192_184.out
        have hcz45_0 : wc.cell? ⟨gb184, 0, none⟩ = some (.int .i64 t179) := (blk_cell BK184.out 0).trans rfl
        have hcz45_1 : wc.cell? ⟨gb184, 1, none⟩ = some (.int .i64 t180) := (blk_cell BK184.out 1).trans rfl
        have hcz45_2 : wc.cell? ⟨gb184, 2, none⟩ = some (.int .i64 t181) := (blk_cell BK184.out 2).trans rfl
        have hcz45_3 : wc.cell? ⟨gb184, 3, none⟩ = some (.int .i64 t182) := (blk_cell BK184.out 3).trans rfl
        have hfz45_0 := blk_frozen BK184.out 0
        have hfz45_1 := blk_frozen BK184.out 1
        have hfz45_2 := blk_frozen BK184.out 2
        have hfz45_3 := blk_frozen BK184.out 3
        have hcz46_0 : wc.cell? ⟨gb192, 0, none⟩ = some (.int .i64 t187) := (blk_cell BK192.out 0).trans rfl
        have hcz46_1 : wc.cell? ⟨gb192, 1, none⟩ = some (.int .i64 t188) := (blk_cell BK192.out 1).trans rfl
        have hcz46_2 : wc.cell? ⟨gb192, 2, none⟩ = some (.int .i64 t189) := (blk_cell BK192.out 2).trans rfl
        have hcz46_3 : wc.cell? ⟨gb192, 3, none⟩ = some (.int .i64 t190) := (blk_cell BK192.out 3).trans rfl
        have hfz46_0 := blk_frozen BK192.out 0
        have hfz46_1 := blk_frozen BK192.out 1
        have hfz46_2 := blk_frozen BK192.out 2
        have hfz46_3 := blk_frozen BK192.out 3
        go_wp2
        go_ret
        exact ⟨by first | rfl | (simp [errW_none, errW_some] <;> rfl) | (simp [*, errW_none, errW_some] <;> rfl) | (simp [*, errW_none, errW_some] <;> exact isEmpty_ne _), by repeat (first | (with_reducible first | exact HB.out | apply below_alloc | apply pw_below_drewN | apply below_drew1 | refine below_set ?_ GE178.out | refine below_set ?_ GE184.out | refine below_set ?_ GE192.out) | exact HB.out)⟩
      ·
       rw [if_neg c33] at H
       have c33b0 : (t185.toList == ([110, 111, 114, 109, 97, 108, 32, 97, 108, 108, 111, 99, 32, 116, 104, 114, 111, 117, 103, 104, 32, 105, 110, 110, 101, 114] : List UInt8)) = false := beq_eq_false_iff_ne.mpr c33
       have c33b1 : (t185.toList != ([110, 111, 114, 109, 97, 108, 32, 97, 108, 108, 111, 99, 32, 116, 104, 114, 111, 117, 103, 104, 32, 105, 110, 110, 101, 114] : List UInt8)) = true := bne_iff_ne.mpr c33
       obtain rfl := Option.some.inj H
       have hnb47 := NB178_184.out
       have hnc47 := NB184_178.out
       have hnb48 := NB178_192.out
       have hnc48 := NB192_178.out
       have hcz49_0 : wc.cell? ⟨gb178, 0, none⟩ = some (.int .i64 t173) := (blk_cell BK178.out 0).trans rfl
       have hcz49_1 : wc.cell? ⟨gb178, 1, none⟩ = some (.int .i64 t174) := (blk_cell BK178.out 1).trans rfl
       have hcz49_2 : wc.cell? ⟨gb178, 2, none⟩ = some (.int .i64 t175) := (blk_cell BK178.out 2).trans rfl
       have hcz49_3 : wc.cell? ⟨gb178, 3, none⟩ = some (.int .i64 t176) := (blk_cell BK178.out 3).trans rfl
       have hfz49_0 := blk_frozen BK178.out 0
       have hfz49_1 := blk_frozen BK178.out 1
       have hfz49_2 := blk_frozen BK178.out 2
       have hfz49_3 := blk_frozen BK178.out 3
       have hnb50 := NB184_192.out
       have hnc50 := NB192_184.out
       have hcz51_0 : wc.cell? ⟨gb184, 0, none⟩ = some (.int .i64 t179) := (blk_cell BK184.out 0).trans rfl
       have hcz51_1 : wc.cell? ⟨gb184, 1, none⟩ = some (.int .i64 t180) := (blk_cell BK184.out 1).trans rfl
       have hcz51_2 : wc.cell? ⟨gb184, 2, none⟩ = some (.int .i64 t181) := (blk_cell BK184.out 2).trans rfl
       have hcz51_3 : wc.cell? ⟨gb184, 3, none⟩ = some (.int .i64 t182) := (blk_cell BK184.out 3).trans rfl
       have hfz51_0 := blk_frozen BK184.out 0
       have hfz51_1 := blk_frozen BK184.out 1
       have hfz51_2 := blk_frozen BK184.out 2
       have hfz51_3 := blk_frozen BK184.out 3
       go_wp2
       go_ret
       exact ⟨by first | rfl | (simp [errW_none, errW_some] <;> rfl) | (simp [*, errW_none, errW_some] <;> rfl) | (simp [*, errW_none, errW_some] <;> exact isEmpty_ne _), by repeat (first | (with_reducible first | exact HB.out | apply below_alloc | apply pw_below_drewN | apply below_drew1 | refine below_set ?_ GE178.out | refine below_set ?_ GE184.out | refine below_set ?_ GE192.out) | exact HB.out)⟩
     ·
      rw [if_neg c32] at H
      have c32b0 : (t179 == 2 && (t180 == 3 && (t181 == 3 && (t182 == 1)))) = false := by simpa using c32
      (try (have c32b1 : decide (t179 = 2 && (t180 == 3 && (t181 == 3 && (t182 == 1)))) = false := by simpa using c32))
      (try (have c32b2 : (t179 == 2 && (t180 == 3 && (t181 == 3 && (t182 == 1)))) = false := by simpa using c32))
      (try (have c32b3 : ¬ (t179 = 2 && (t180 == 3 && (t181 == 3 && (t182 == 1)))) := by simpa using c32))
      clear c32
      obtain rfl := Option.some.inj H
      have hnb52 := NB178_184.out
      have hnc52 := NB184_178.out
      have hnb53 := NB178_192.out
      have hnc53 := NB192_178.out
      have hcz54_0 : wc.cell? ⟨gb178, 0, none⟩ = some (.int .i64 t173) := (blk_cell BK178.out 0).trans rfl
      have hcz54_1 : wc.cell? ⟨gb178, 1, none⟩ = some (.int .i64 t174) := (blk_cell BK178.out 1).trans rfl
      have hcz54_2 : wc.cell? ⟨gb178, 2, none⟩ = some (.int .i64 t175) := (blk_cell BK178.out 2).trans rfl
      have hcz54_3 : wc.cell? ⟨gb178, 3, none⟩ = some (.int .i64 t176) := (blk_cell BK178.out 3).trans rfl
      have hfz54_0 := blk_frozen BK178.out 0
      have hfz54_1 := blk_frozen BK178.out 1
      have hfz54_2 := blk_frozen BK178.out 2
      have hfz54_3 := blk_frozen BK178.out 3
      have hnb55 := NB184_192.out
      have hnc55 := NB192_184.out
      have hcz56_0 : wc.cell? ⟨gb184, 0, none⟩ = some (.int .i64 t179) := (blk_cell BK184.out 0).trans rfl
      have hcz56_1 : wc.cell? ⟨gb184, 1, none⟩ = some (.int .i64 t180) := (blk_cell BK184.out 1).trans rfl
      have hcz56_2 : wc.cell? ⟨gb184, 2, none⟩ = some (.int .i64 t181) := (blk_cell BK184.out 2).trans rfl
      have hcz56_3 : wc.cell? ⟨gb184, 3, none⟩ = some (.int .i64 t182) := (blk_cell BK184.out 3).trans rfl
      have hfz56_0 := blk_frozen BK184.out 0
      have hfz56_1 := blk_frozen BK184.out 1
      have hfz56_2 := blk_frozen BK184.out 2
      have hfz56_3 := blk_frozen BK184.out 3
      go_wp2
      go_ret
      exact ⟨by first | rfl | (simp [errW_none, errW_some] <;> rfl) | (simp [*, errW_none, errW_some] <;> rfl) | (simp [*, errW_none, errW_some] <;> exact isEmpty_ne _), by repeat (first | (with_reducible first | exact HB.out | apply below_alloc | apply pw_below_drewN | apply below_drew1 | refine below_set ?_ GE178.out | refine below_set ?_ GE184.out | refine below_set ?_ GE192.out) | exact HB.out)⟩
    ·
     rw [if_neg c31] at H
     have c31b0 : (t173 == 2 && (t174 == 3 && (t175 == 3 && (t176 == 2)))) = false := by simpa using c31
     (try (have c31b1 : decide (t173 = 2 && (t174 == 3 && (t175 == 3 && (t176 == 2)))) = false := by simpa using c31))
     (try (have c31b2 : (t173 == 2 && (t174 == 3 && (t175 == 3 && (t176 == 2)))) = false := by simpa using c31))
     (try (have c31b3 : ¬ (t173 = 2 && (t174 == 3 && (t175 == 3 && (t176 == 2)))) := by simpa using c31))
     clear c31
     obtain rfl := Option.some.inj H
     have hnb57 := NB178_184.out
     have hnc57 := NB184_178.out
     have hnb58 := NB178_192.out
     have hnc58 := NB192_178.out
     have hcz59_0 : wc.cell? ⟨gb178, 0, none⟩ = some (.int .i64 t173) := (blk_cell BK178.out 0).trans rfl
     have hcz59_1 : wc.cell? ⟨gb178, 1, none⟩ = some (.int .i64 t174) := (blk_cell BK178.out 1).trans rfl
     have hcz59_2 : wc.cell? ⟨gb178, 2, none⟩ = some (.int .i64 t175) := (blk_cell BK178.out 2).trans rfl
     have hcz59_3 : wc.cell? ⟨gb178, 3, none⟩ = some (.int .i64 t176) := (blk_cell BK178.out 3).trans rfl
     have hfz59_0 := blk_frozen BK178.out 0
     have hfz59_1 := blk_frozen BK178.out 1
     have hfz59_2 := blk_frozen BK178.out 2
     have hfz59_3 := blk_frozen BK178.out 3
     go_wp2
     go_ret
     exact ⟨by first | rfl | (simp [errW_none, errW_some] <;> rfl) | (simp [*, errW_none, errW_some] <;> rfl) | (simp [*, errW_none, errW_some] <;> exact isEmpty_ne _), by repeat (first | (with_reducible first | exact HB.out | apply below_alloc | apply pw_below_drewN | apply below_drew1 | refine below_set ?_ GE178.out | refine below_set ?_ GE184.out | refine below_set ?_ GE192.out) | exact HB.out)⟩

end Go.Proofs.YtkljijkejbfopaaDoor.S
