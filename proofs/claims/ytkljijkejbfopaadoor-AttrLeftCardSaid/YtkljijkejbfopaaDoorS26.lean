-- Written by a program of this session (wip/xprint.py), over the kit's print. Not trusted: Lean checks it.
import Derived.Test.YtkljijkejbfopaaDoorS0
import Derived.Test.YtkljijkejbfopaaDoorS1
import Derived.Test.YtkljijkejbfopaaDoorS3
import Derived.Test.YtkljijkejbfopaaDoorS7
import Derived.Test.YtkljijkejbfopaaDoorS14
namespace Go.Proofs.YtkljijkejbfopaaDoor.S
open Go.Proofs.YtkljijkejbfopaaDoorG
open Go.RowKit Go.Proofs.YtkljijkejbfopaaDoorW.PrintWords Go.Proofs.YtkljijkejbfopaaDoorW.PrintLast Go.Proofs.YtkljijkejbfopaaDoorW.PrintMore
attribute [local go_sem] max2_int min2_int max_two min_two max_three min_three max_four min_four   -- for this text's walks alone
set_option linter.unusedVariables false
set_option linter.unusedSimpArgs false

attribute [local go_sem high] eqA24
/-! ### atlaslaw06_AttrLeft: function 10 -/
mutual
def atlaslaw06_AttrLeft.j0 : Nat → Int → Int → Int → Int → Bool → Option (Bool)
 | 0, _, _, _, _, _ => none
 | k + 1, x0, x1, x3, x4, x44 => if x44 = true then (some false) else ((attr_Of.f k true x0 x1 x4).bind fun bt367 => ((attr_Of.f k true x0 x1 (Go.bits .and .u32 x4 15)).bind fun bt372 => (if (!(bt367.1 == bt372.1) || (!(bt367.2.1 == bt372.2.1) || (!(bt367.2.2.1 == bt372.2.2.1) || (!(bt367.2.2.2.1 == bt372.2.2.2.1))))) = true then (atlaslaw06_AttrLeft.j1 k x0 x3 x4 bt367.2.2.2.2 true bt367.1 bt367.2.1 bt367.2.2.1 bt367.2.2.2.1) else ((atlaslaw06_no.f bt367.2.2.2.2).bind fun t377 => ((atlaslaw06_no.f bt372.2.2.2.2).bind fun t378 => (atlaslaw06_AttrLeft.j1 k x0 x3 x4 bt367.2.2.2.2 (t377 != t378) bt367.1 bt367.2.1 bt367.2.2.1 bt367.2.2.2.1))))))
def atlaslaw06_AttrLeft.j1 : Nat → Int → Int → Int → Int → Bool → Int → Int → Int → Int → Option (Bool)
 | 0, _, _, _, _, _, _, _, _, _ => none
 | k + 1, x0, x3, x4, x12, x69, x358000, x358001, x358002, x358003 => if x69 = true then (some false) else ((attr_Of.f k true x0 x3 x4).bind fun bt379 => ((atlaslaw06_no.f x12).bind fun t384 => ((atlaslaw06_no.f bt379.2.2.2.2).bind fun t385 => (if t384 = t385 then (if x358000 = bt379.1 then (if x358003 = bt379.2.2.2.1 then (if x358000 = 2 then (some true) else (some (x358000 == bt379.1 && (x358001 == bt379.2.1 && (x358002 == bt379.2.2.1 && (x358003 == bt379.2.2.2.1)))))) else (some false)) else (some false)) else (some false)))))
end
def atlaslaw06_AttrLeft.f (k : Nat) (a0 : Int) (a1 : Int) (a2 : Int) (a3 : Int) (a4 : Int) : Option (Bool) := (attr_Of.f k false a0 a1 (Go.bits .and .u32 a4 63)).bind fun bt352 => ((attr_Of.f k false a2 a3 (Go.bits .and .u32 a4 63)).bind fun bt358 => ((atlaslaw06_live.f k).bind fun t364 => (if t364 = true then (if (!(bt352.1 == bt358.1) || (!(bt352.2.1 == bt358.2.1) || (!(bt352.2.2.1 == bt358.2.2.1) || (!(bt352.2.2.2.1 == bt358.2.2.2.1))))) = true then (atlaslaw06_AttrLeft.j0 k a0 a1 a3 (Go.bits .and .u32 a4 63) true) else ((atlaslaw06_no.f bt352.2.2.2.2).bind fun t365 => ((atlaslaw06_no.f bt358.2.2.2.2).bind fun t366 => (atlaslaw06_AttrLeft.j0 k a0 a1 a3 (Go.bits .and .u32 a4 63) (t365 != t366))))) else (atlaslaw06_AttrLeft.j0 k a0 a1 a3 (Go.bits .and .u32 a4 63) true))))
theorem atlaslaw06_AttrLeft.mono_l : ∀ k, (∀ y0 y1 y2 y3 y4, LeO (atlaslaw06_AttrLeft.j0 k y0 y1 y2 y3 y4) (atlaslaw06_AttrLeft.j0 (k + 1) y0 y1 y2 y3 y4)) ∧ (∀ y0 y1 y2 y3 y4 y5 y6 y7 y8, LeO (atlaslaw06_AttrLeft.j1 k y0 y1 y2 y3 y4 y5 y6 y7 y8) (atlaslaw06_AttrLeft.j1 (k + 1) y0 y1 y2 y3 y4 y5 y6 y7 y8))
 | 0 => ⟨fun _ _ _ _ _ r h => by simp [atlaslaw06_AttrLeft.j0] at h, fun _ _ _ _ _ _ _ _ _ r h => by simp [atlaslaw06_AttrLeft.j1] at h⟩
 | k + 1 => by
  obtain ⟨ih0, ih1⟩ := atlaslaw06_AttrLeft.mono_l k
  refine ⟨?_, ?_⟩
  ·
   intro y0 y1 y2 y3 y4
   unfold atlaslaw06_AttrLeft.j0
   repeat' first
   | (with_reducible exact ih0 _ _ _ _ _)
   | (with_reducible exact ih1 _ _ _ _ _ _ _ _ _)
   | (with_reducible exact atlaslaw06_live.mono _)
   | (with_reducible exact attr_Of.mono _ _ _ _ _)
   | (with_reducible exact LeO.refl _)
   | (with_reducible exact LeO.none _)
   | (with_reducible refine LeO.ite ?_ ?_)
   | (with_reducible refine LeO.bind ?_ (fun _ => ?_))
   | exact ih0 _ _ _ _ _
   | exact ih1 _ _ _ _ _ _ _ _ _
   | exact atlaslaw06_live.mono _
   | exact attr_Of.mono _ _ _ _ _
   | exact LeO.none _
   | refine LeO.ite ?_ ?_
   | refine LeO.bind ?_ (fun _ => ?_)
  ·
   intro y0 y1 y2 y3 y4 y5 y6 y7 y8
   unfold atlaslaw06_AttrLeft.j1
   repeat' first
   | (with_reducible exact ih0 _ _ _ _ _)
   | (with_reducible exact ih1 _ _ _ _ _ _ _ _ _)
   | (with_reducible exact atlaslaw06_live.mono _)
   | (with_reducible exact attr_Of.mono _ _ _ _ _)
   | (with_reducible exact LeO.refl _)
   | (with_reducible exact LeO.none _)
   | (with_reducible refine LeO.ite ?_ ?_)
   | (with_reducible refine LeO.bind ?_ (fun _ => ?_))
   | exact ih0 _ _ _ _ _
   | exact ih1 _ _ _ _ _ _ _ _ _
   | exact atlaslaw06_live.mono _
   | exact attr_Of.mono _ _ _ _ _
   | exact LeO.none _
   | refine LeO.ite ?_ ?_
   | refine LeO.bind ?_ (fun _ => ?_)
theorem atlaslaw06_AttrLeft.mono : ∀ a0 a1 a2 a3 a4 k, LeO (atlaslaw06_AttrLeft.f k a0 a1 a2 a3 a4) (atlaslaw06_AttrLeft.f (k + 1) a0 a1 a2 a3 a4) := by
 intro a0 a1 a2 a3 a4 k
 obtain ⟨ih0, ih1⟩ := atlaslaw06_AttrLeft.mono_l k
 unfold atlaslaw06_AttrLeft.f
 repeat' first
   | (with_reducible exact ih0 _ _ _ _ _)
   | (with_reducible exact ih1 _ _ _ _ _ _ _ _ _)
   | (with_reducible exact atlaslaw06_live.mono _)
   | (with_reducible exact attr_Of.mono _ _ _ _ _)
   | (with_reducible exact LeO.refl _)
   | (with_reducible exact LeO.none _)
   | (with_reducible refine LeO.ite ?_ ?_)
   | (with_reducible refine LeO.bind ?_ (fun _ => ?_))
   | exact ih0 _ _ _ _ _
   | exact ih1 _ _ _ _ _ _ _ _ _
   | exact atlaslaw06_live.mono _
   | exact attr_Of.mono _ _ _ _ _
   | exact LeO.none _
   | refine LeO.ite ?_ ?_
   | refine LeO.bind ?_ (fun _ => ?_)
set_option maxHeartbeats 8000000 in
set_option maxRecDepth 100000 in
theorem atlaslaw06_AttrLeft.calls (k : Nat) (a0 : Int) (a1 : Int) (a2 : Int) (a3 : Int) (a4 : Int) (r : Bool) (w : World) (hG0 : Aside0 (G0 w)) (hG1 : Aside0 (G1 w)) (hG2 : Aside0 (G2 w)) (hG3 : Aside0 (G3 w)) (h : atlaslaw06_AttrLeft.f k a0 a1 a2 a3 a4 = some r) :
  Calls Tryd.prog 10 #[.int .u32 a0, .int .u32 a1, .int .u32 a2, .int .u32 a3, .int .u32 a4] w fun e w' => e = .returned (.bool r) ∧ Below w.heap.size w w' := by
 have hu24 := Tryd.underlying24
 have HB := Aside0.mk (Below.refl w.heap.size w)
 have H : ((attr_Of.f k false a0 a1 (Go.bits .and .u32 a4 63)).bind fun bt352 => ((attr_Of.f k false a2 a3 (Go.bits .and .u32 a4 63)).bind fun bt358 => ((atlaslaw06_live.f k).bind fun t364 => (if t364 = true then (if (!(bt352.1 == bt358.1) || (!(bt352.2.1 == bt358.2.1) || (!(bt352.2.2.1 == bt358.2.2.1) || (!(bt352.2.2.2.1 == bt358.2.2.2.1))))) = true then (atlaslaw06_AttrLeft.j0 k a0 a1 a3 (Go.bits .and .u32 a4 63) true) else ((atlaslaw06_no.f bt352.2.2.2.2).bind fun t365 => ((atlaslaw06_no.f bt358.2.2.2.2).bind fun t366 => (atlaslaw06_AttrLeft.j0 k a0 a1 a3 (Go.bits .and .u32 a4 63) (t365 != t366))))) else (atlaslaw06_AttrLeft.j0 k a0 a1 a3 (Go.bits .and .u32 a4 63) true))))) = some r := h
 clear h
 replace H := Option.bind_eq_some_iff.mp H
 obtain ⟨⟨t352, t353, t354, t355, t356⟩, A60, H⟩ := H
 replace H : ((attr_Of.f k false a2 a3 (Go.bits .and .u32 a4 63)).bind fun bt358 => ((atlaslaw06_live.f k).bind fun t364 => (if t364 = true then (if (!(t352 == bt358.1) || (!(t353 == bt358.2.1) || (!(t354 == bt358.2.2.1) || (!(t355 == bt358.2.2.2.1))))) = true then (atlaslaw06_AttrLeft.j0 k a0 a1 a3 (Go.bits .and .u32 a4 63) true) else ((atlaslaw06_no.f t356).bind fun t365 => ((atlaslaw06_no.f bt358.2.2.2.2).bind fun t366 => (atlaslaw06_AttrLeft.j0 k a0 a1 a3 (Go.bits .and .u32 a4 63) (t365 != t366))))) else (atlaslaw06_AttrLeft.j0 k a0 a1 a3 (Go.bits .and .u32 a4 63) true)))) = some r := H
 have A6 := Aside0.mk A60
 clear A60
 replace H := Option.bind_eq_some_iff.mp H
 obtain ⟨⟨t358, t359, t360, t361, t362⟩, A70, H⟩ := H
 replace H : ((atlaslaw06_live.f k).bind fun t364 => (if t364 = true then (if (!(t352 == t358) || (!(t353 == t359) || (!(t354 == t360) || (!(t355 == t361))))) = true then (atlaslaw06_AttrLeft.j0 k a0 a1 a3 (Go.bits .and .u32 a4 63) true) else ((atlaslaw06_no.f t356).bind fun t365 => ((atlaslaw06_no.f t362).bind fun t366 => (atlaslaw06_AttrLeft.j0 k a0 a1 a3 (Go.bits .and .u32 a4 63) (t365 != t366))))) else (atlaslaw06_AttrLeft.j0 k a0 a1 a3 (Go.bits .and .u32 a4 63) true))) = some r := H
 have A7 := Aside0.mk A70
 clear A70
 have HC8 := Aside0.mk H
 clear H
 go_enter Tryd.func10, Tryd.ntmps10
 go_upto_region 4 with (first | ((with_reducible refine gate_callee (f := 12) rfl ?_); refine goesL_ (some 21) rfl rfl Tryd.func12 (by kernel_rfl) rfl #[.bool false, .int .u32 a0, .int .u32 a1, .int .u32 (Go.bits .and .u32 a4 63)] rfl (by (try simp only [List.map_toArray, List.map_cons, List.map_nil]); first | done | rfl | (simp only [List.length_drop, List.length_take]; rfl)) ?_; (with_reducible refine (attr_Of.calls k false a0 a1 (Go.bits .and .u32 a4 63) t352 t353 t354 t355 t356 _ ?side1 A6.out).mono ?_); (case side1 => exact ⟨G0.below hG0.out (by repeat (first | (with_reducible first | exact HB.out | apply below_alloc | apply pw_below_drewN | apply below_drew1) | exact HB.out))⟩); rintro e w9 ⟨rfl, hb⟩; refine ⟨_, rfl, ?_⟩; have n0_ := Aside0.mk (below_step (by repeat (first | (with_reducible first | exact HB.out | apply below_alloc | apply pw_below_drewN | apply below_drew1) | exact HB.out)) hb); clear HB; have HB := n0_; clear n0_; (try clear hb); (try clear hb2); (try clear hk); (try clear hi)) | ((with_reducible refine gate_dst (N := 11) rfl ?_); refine box_event ?hg (N := 11) ?hd (cs := #[.int .i64 0, .int .i64 0, .int .i64 0, .int .i64 0]) (t := 24) ?hr ?_; (case hd => rfl); (case hg => rfl); (case hr => first | (go_simp; done) | (go_simp; rfl)); intro gb357 hg w10 hbox hb; have n0_ := Aside0.mk (below_step (by repeat (first | (with_reducible first | exact HB.out | apply below_alloc | apply pw_below_drewN | apply below_drew1) | exact HB.out)) hb); have n1_ := Aside0.mk (hbox); have n2_ := Aside0.mk ((by rw [hg]; exact (below_size (by repeat (first | (with_reducible first | exact HB.out | apply below_alloc | apply pw_below_drewN | apply below_drew1) | exact HB.out))) : w.heap.size ≤ gb357)); have n3_ := Aside0.mk ((by rw [hg]; exact (below_size (by repeat (first | (with_reducible first | exact HB.out | apply below_alloc | apply pw_below_drewN | apply below_drew1) | exact HB.out))) : w.heap.size ≤ gb357)); clear HB; have HB := n0_; have BK357 := n1_; have GW357 := n2_; have GE357 := n3_; clear n0_ n1_ n2_ n3_; clear hb hbox hg; have hcz11_0 : w10.cell? ⟨gb357, 0, none⟩ = some (.int .i64 0) := (blk_cell BK357.out 0).trans rfl; have hcz11_1 : w10.cell? ⟨gb357, 1, none⟩ = some (.int .i64 0) := (blk_cell BK357.out 1).trans rfl; have hcz11_2 : w10.cell? ⟨gb357, 2, none⟩ = some (.int .i64 0) := (blk_cell BK357.out 2).trans rfl; have hcz11_3 : w10.cell? ⟨gb357, 3, none⟩ = some (.int .i64 0) := (blk_cell BK357.out 3).trans rfl; have hfz11_0 := blk_frozen BK357.out 0; have hfz11_1 := blk_frozen BK357.out 1; have hfz11_2 := blk_frozen BK357.out 2; have hfz11_3 := blk_frozen BK357.out 3) | ((with_reducible refine gate_callee (f := 12) rfl ?_); refine goesL_ (some 28) rfl rfl Tryd.func12 (by kernel_rfl) rfl #[.bool false, .int .u32 a2, .int .u32 a3, .int .u32 (Go.bits .and .u32 a4 63)] rfl (by (try simp only [List.map_toArray, List.map_cons, List.map_nil]); first | done | rfl | (simp only [List.length_drop, List.length_take]; rfl)) ?_; (with_reducible refine (attr_Of.calls k false a2 a3 (Go.bits .and .u32 a4 63) t358 t359 t360 t361 t362 _ ?side1 A7.out).mono ?_); (case side1 => exact ⟨G0.below hG0.out (by repeat (first | (with_reducible first | exact HB.out | apply below_alloc | apply pw_below_drewN | apply below_drew1 | refine below_set ?_ GE357.out) | exact HB.out))⟩); rintro e w12 ⟨rfl, hb⟩; refine ⟨_, rfl, ?_⟩; have n0_ := Aside0.mk (blk_below (g := gb357) (o := .cells #[.int .i64 t352, .int .i64 t353, .int .i64 t354, .int .i64 t355] 24 (0, 0)) (by (with_reducible repeat (first | refine blk_drewN ?_ _ | refine blk_drew ?_ | refine blk_alloc ?_ _)); refine blk_put (cs := #[.int .i64 t352, .int .i64 t353, .int .i64 t354, .int .i64 0]) ?_ 3 _ rfl; (with_reducible repeat (first | refine blk_drewN ?_ _ | refine blk_drew ?_ | refine blk_alloc ?_ _)); refine blk_put (cs := #[.int .i64 t352, .int .i64 t353, .int .i64 0, .int .i64 0]) ?_ 2 _ rfl; (with_reducible repeat (first | refine blk_drewN ?_ _ | refine blk_drew ?_ | refine blk_alloc ?_ _)); refine blk_put (cs := #[.int .i64 t352, .int .i64 0, .int .i64 0, .int .i64 0]) ?_ 1 _ rfl; (with_reducible repeat (first | refine blk_drewN ?_ _ | refine blk_drew ?_ | refine blk_alloc ?_ _)); refine blk_put (cs := #[.int .i64 0, .int .i64 0, .int .i64 0, .int .i64 0]) ?_ 0 _ rfl; (with_reducible repeat (first | refine blk_drewN ?_ _ | refine blk_drew ?_ | refine blk_alloc ?_ _)); exact BK357.out) hb); have n1_ := Aside0.mk (below_step (by repeat (first | (with_reducible first | exact HB.out | apply below_alloc | apply pw_below_drewN | apply below_drew1 | refine below_set ?_ GE357.out) | exact HB.out)) hb); clear BK357; clear HB; have BK357 := n0_; have HB := n1_; clear n0_ n1_; (try clear hb); (try clear hb2); (try clear hk); (try clear hi)) | ((with_reducible refine gate_dst (N := 13) rfl ?_); refine box_event ?hg (N := 13) ?hd (cs := #[.int .i64 0, .int .i64 0, .int .i64 0, .int .i64 0]) (t := 24) ?hr ?_; (case hd => rfl); (case hg => rfl); (case hr => first | (go_simp; done) | (go_simp; rfl)); intro gb363 hg w13 hbox hb; have n0_ := Aside0.mk (blk_below (g := gb357) (o := .cells #[.int .i64 t352, .int .i64 t353, .int .i64 t354, .int .i64 t355] 24 (0, 0)) (by (with_reducible repeat (first | refine blk_drewN ?_ _ | refine blk_drew ?_ | refine blk_alloc ?_ _)); exact BK357.out) hb); have n1_ := Aside0.mk (below_step (by repeat (first | (with_reducible first | exact HB.out | apply below_alloc | apply pw_below_drewN | apply below_drew1 | refine below_set ?_ GE357.out) | exact HB.out)) hb); have n2_ := Aside0.mk (hbox); have n3_ := Aside0.mk ((by rw [hg]; exact (below_size (by repeat (first | (with_reducible first | exact HB.out | apply below_alloc | apply pw_below_drewN | apply below_drew1 | refine below_set ?_ GE357.out) | exact HB.out))) : w.heap.size ≤ gb363)); have n4_ := Aside0.mk ((by rw [hg]; exact (below_size (by repeat (first | (with_reducible first | exact HB.out | apply below_alloc | apply pw_below_drewN | apply below_drew1 | refine below_set ?_ GE357.out) | exact HB.out))) : w.heap.size ≤ gb363)); have n5_ := Aside0.mk ((by rw [hg]; exact Nat.ne_of_lt (blk_lt (g := gb357) (o := .cells #[.int .i64 t352, .int .i64 t353, .int .i64 t354, .int .i64 t355] 24 (0, 0)) (by (with_reducible repeat (first | refine blk_drewN ?_ _ | refine blk_drew ?_ | refine blk_alloc ?_ _)); exact BK357.out)) : gb357 ≠ gb363)); have n6_ := Aside0.mk ((by rw [hg]; exact Nat.ne_of_gt (blk_lt (g := gb357) (o := .cells #[.int .i64 t352, .int .i64 t353, .int .i64 t354, .int .i64 t355] 24 (0, 0)) (by (with_reducible repeat (first | refine blk_drewN ?_ _ | refine blk_drew ?_ | refine blk_alloc ?_ _)); exact BK357.out)) : gb363 ≠ gb357)); clear BK357; clear HB; have BK357 := n0_; have HB := n1_; have BK363 := n2_; have GW363 := n3_; have GE363 := n4_; have NB357_363 := n5_; have NB363_357 := n6_; clear n0_ n1_ n2_ n3_ n4_ n5_ n6_; clear hb hbox hg; have hnb14 := NB363_357.out; have hnc14 := NB357_363.out; have hcz15_0 : w13.cell? ⟨gb363, 0, none⟩ = some (.int .i64 0) := (blk_cell BK363.out 0).trans rfl; have hcz15_1 : w13.cell? ⟨gb363, 1, none⟩ = some (.int .i64 0) := (blk_cell BK363.out 1).trans rfl; have hcz15_2 : w13.cell? ⟨gb363, 2, none⟩ = some (.int .i64 0) := (blk_cell BK363.out 2).trans rfl; have hcz15_3 : w13.cell? ⟨gb363, 3, none⟩ = some (.int .i64 0) := (blk_cell BK363.out 3).trans rfl; have hfz15_0 := blk_frozen BK363.out 0; have hfz15_1 := blk_frozen BK363.out 1; have hfz15_2 := blk_frozen BK363.out 2; have hfz15_3 := blk_frozen BK363.out 3))
 (try simp only [Act.put, List.setIfInBounds_toArray, List.set_cons_zero, List.set_cons_succ])
 go_cut [44] (fun v44 wc => ∃ (kq : Nat) (x44_7 : Bool), v44 = .bool x44_7 ∧ Aside0 (atlaslaw06_AttrLeft.j0 kq a0 a1 a3 (Go.bits .and .u32 a4 63) x44_7 = some r) ∧ Aside0 (kq ≤ k) ∧ Aside0 (wc.heap[gb357]? = some (.cells #[.int .i64 t352, .int .i64 t353, .int .i64 t354, .int .i64 t355] 24 (0, 0))) ∧ Aside0 (wc.heap[gb363]? = some (.cells #[.int .i64 t358, .int .i64 t359, .int .i64 t360, .int .i64 t361] 24 (0, 0))) ∧ Aside0 (Below w.heap.size w wc))
 case first =>
  have H := HC8.out
  clear HC8
  replace H := Option.bind_eq_some_iff.mp H
  obtain ⟨t364, A160, H⟩ := H
  replace H : (if t364 = true then (if (!(t352 == t358) || (!(t353 == t359) || (!(t354 == t360) || (!(t355 == t361))))) = true then (atlaslaw06_AttrLeft.j0 k a0 a1 a3 (Go.bits .and .u32 a4 63) true) else ((atlaslaw06_no.f t356).bind fun t365 => ((atlaslaw06_no.f t362).bind fun t366 => (atlaslaw06_AttrLeft.j0 k a0 a1 a3 (Go.bits .and .u32 a4 63) (t365 != t366))))) else (atlaslaw06_AttrLeft.j0 k a0 a1 a3 (Go.bits .and .u32 a4 63) true)) = some r := H
  have A16 := Aside0.mk A160
  clear A160
  by_cases c17 : t364 = true
  ·
   subst c17
   have H1 : (if (!(t352 == t358) || (!(t353 == t359) || (!(t354 == t360) || (!(t355 == t361))))) = true then (atlaslaw06_AttrLeft.j0 k a0 a1 a3 (Go.bits .and .u32 a4 63) true) else ((atlaslaw06_no.f t356).bind fun t365 => ((atlaslaw06_no.f t362).bind fun t366 => (atlaslaw06_AttrLeft.j0 k a0 a1 a3 (Go.bits .and .u32 a4 63) (t365 != t366))))) = some r := by rw [if_pos rfl] at H; exact H
   clear H
   have H := H1
   clear H1
   by_cases c18 : (!(t352 == t358) || (!(t353 == t359) || (!(t354 == t360) || (!(t355 == t361))))) = true
   ·
    rw [if_pos c18] at H
    have c18b0 : (!(t352 == t358) || (!(t353 == t359) || (!(t354 == t360) || (!(t355 == t361))))) = true := c18
    clear c18
    (first | rw [c18b0] | (simp only [i64_w, i32_w]; rw [c18b0]) | skip)
    have H' := Aside0.mk H
    clear H
    go_wp2_with (first | ((with_reducible refine gate_callee (f := 14) rfl ?_); refine goesL_ (some 31) rfl rfl Tryd.func14 (by kernel_rfl) rfl #[] rfl (by (try simp only [List.map_toArray, List.map_cons, List.map_nil]); first | done | rfl | (simp only [List.length_drop, List.length_take]; rfl)) ?_; (with_reducible refine (atlaslaw06_live.calls k  true _ ?side1 ?side2 ?side3 ?side4 A16.out).mono ?_); (case side1 => exact ⟨G0.below hG0.out (by repeat (first | (with_reducible first | exact HB.out | apply below_alloc | apply pw_below_drewN | apply below_drew1 | refine below_set ?_ GE357.out | refine below_set ?_ GE363.out) | exact HB.out))⟩); (case side2 => exact ⟨G1.below hG1.out (by repeat (first | (with_reducible first | exact HB.out | apply below_alloc | apply pw_below_drewN | apply below_drew1 | refine below_set ?_ GE357.out | refine below_set ?_ GE363.out) | exact HB.out))⟩); (case side3 => exact ⟨G2.below hG2.out (by repeat (first | (with_reducible first | exact HB.out | apply below_alloc | apply pw_below_drewN | apply below_drew1 | refine below_set ?_ GE357.out | refine below_set ?_ GE363.out) | exact HB.out))⟩); (case side4 => exact ⟨G3.below hG3.out (by repeat (first | (with_reducible first | exact HB.out | apply below_alloc | apply pw_below_drewN | apply below_drew1 | refine below_set ?_ GE357.out | refine below_set ?_ GE363.out) | exact HB.out))⟩); rintro e w19 ⟨rfl, hb⟩; refine ⟨_, rfl, ?_⟩; have n0_ := Aside0.mk (blk_below (g := gb357) (o := .cells #[.int .i64 t352, .int .i64 t353, .int .i64 t354, .int .i64 t355] 24 (0, 0)) (by (with_reducible repeat (first | refine blk_drewN ?_ _ | refine blk_drew ?_ | refine blk_alloc ?_ _)); refine blk_far ?_ NB357_363.out _; (with_reducible repeat (first | refine blk_drewN ?_ _ | refine blk_drew ?_ | refine blk_alloc ?_ _)); refine blk_far ?_ NB357_363.out _; (with_reducible repeat (first | refine blk_drewN ?_ _ | refine blk_drew ?_ | refine blk_alloc ?_ _)); refine blk_far ?_ NB357_363.out _; (with_reducible repeat (first | refine blk_drewN ?_ _ | refine blk_drew ?_ | refine blk_alloc ?_ _)); refine blk_far ?_ NB357_363.out _; (with_reducible repeat (first | refine blk_drewN ?_ _ | refine blk_drew ?_ | refine blk_alloc ?_ _)); exact BK357.out) hb); have n1_ := Aside0.mk (blk_below (g := gb363) (o := .cells #[.int .i64 t358, .int .i64 t359, .int .i64 t360, .int .i64 t361] 24 (0, 0)) (by (with_reducible repeat (first | refine blk_drewN ?_ _ | refine blk_drew ?_ | refine blk_alloc ?_ _)); refine blk_put (cs := #[.int .i64 t358, .int .i64 t359, .int .i64 t360, .int .i64 0]) ?_ 3 _ rfl; (with_reducible repeat (first | refine blk_drewN ?_ _ | refine blk_drew ?_ | refine blk_alloc ?_ _)); refine blk_put (cs := #[.int .i64 t358, .int .i64 t359, .int .i64 0, .int .i64 0]) ?_ 2 _ rfl; (with_reducible repeat (first | refine blk_drewN ?_ _ | refine blk_drew ?_ | refine blk_alloc ?_ _)); refine blk_put (cs := #[.int .i64 t358, .int .i64 0, .int .i64 0, .int .i64 0]) ?_ 1 _ rfl; (with_reducible repeat (first | refine blk_drewN ?_ _ | refine blk_drew ?_ | refine blk_alloc ?_ _)); refine blk_put (cs := #[.int .i64 0, .int .i64 0, .int .i64 0, .int .i64 0]) ?_ 0 _ rfl; (with_reducible repeat (first | refine blk_drewN ?_ _ | refine blk_drew ?_ | refine blk_alloc ?_ _)); exact BK363.out) hb); have n2_ := Aside0.mk (below_step (by repeat (first | (with_reducible first | exact HB.out | apply below_alloc | apply pw_below_drewN | apply below_drew1 | refine below_set ?_ GE357.out | refine below_set ?_ GE363.out) | exact HB.out)) hb); clear BK357; clear BK363; clear HB; have BK357 := n0_; have BK363 := n1_; have HB := n2_; clear n0_ n1_ n2_; (try clear hb); (try clear hb2); (try clear hk); (try clear hi); have hnb20 := NB357_363.out; have hnc20 := NB363_357.out; have hcz21_0 : w19.cell? ⟨gb357, 0, none⟩ = some (.int .i64 t352) := (blk_cell BK357.out 0).trans rfl; have hcz21_1 : w19.cell? ⟨gb357, 1, none⟩ = some (.int .i64 t353) := (blk_cell BK357.out 1).trans rfl; have hcz21_2 : w19.cell? ⟨gb357, 2, none⟩ = some (.int .i64 t354) := (blk_cell BK357.out 2).trans rfl; have hcz21_3 : w19.cell? ⟨gb357, 3, none⟩ = some (.int .i64 t355) := (blk_cell BK357.out 3).trans rfl; have hfz21_0 := blk_frozen BK357.out 0; have hfz21_1 := blk_frozen BK357.out 1; have hfz21_2 := blk_frozen BK357.out 2; have hfz21_3 := blk_frozen BK357.out 3; have hcz22_0 : w19.cell? ⟨gb363, 0, none⟩ = some (.int .i64 t358) := (blk_cell BK363.out 0).trans rfl; have hcz22_1 : w19.cell? ⟨gb363, 1, none⟩ = some (.int .i64 t359) := (blk_cell BK363.out 1).trans rfl; have hcz22_2 : w19.cell? ⟨gb363, 2, none⟩ = some (.int .i64 t360) := (blk_cell BK363.out 2).trans rfl; have hcz22_3 : w19.cell? ⟨gb363, 3, none⟩ = some (.int .i64 t361) := (blk_cell BK363.out 3).trans rfl; have hfz22_0 := blk_frozen BK363.out 0; have hfz22_1 := blk_frozen BK363.out 1; have hfz22_2 := blk_frozen BK363.out 2; have hfz22_3 := blk_frozen BK363.out 3))
    go_meet
    case rel => exact ⟨_, (true), (by first | rfl | (simp; done) | (simp [*]; done)), H', ⟨by first | omega | exact Nat.le_refl _⟩, ⟨by (with_reducible repeat (first | refine blk_drewN ?_ _ | refine blk_drew ?_ | refine blk_alloc ?_ _)); exact BK357.out⟩, ⟨by (with_reducible repeat (first | refine blk_drewN ?_ _ | refine blk_drew ?_ | refine blk_alloc ?_ _)); exact BK363.out⟩, ⟨by repeat (first | (with_reducible first | exact HB.out | apply below_alloc | apply pw_below_drewN | apply below_drew1 | refine below_set ?_ GE357.out | refine below_set ?_ GE363.out) | exact HB.out)⟩⟩
   ·
    rw [if_neg c18] at H
    have c18b0 : (!(t352 == t358) || (!(t353 == t359) || (!(t354 == t360) || (!(t355 == t361))))) = false := by simpa using c18
    clear c18
    (first | rw [c18b0] | (simp only [i64_w, i32_w]; rw [c18b0]) | skip)
    replace H := Option.bind_eq_some_iff.mp H
    obtain ⟨t365, A230, H⟩ := H
    replace H : ((atlaslaw06_no.f t362).bind fun t366 => (atlaslaw06_AttrLeft.j0 k a0 a1 a3 (Go.bits .and .u32 a4 63) (t365 != t366))) = some r := H
    have A23 := Aside0.mk A230
    clear A230
    replace H := Option.bind_eq_some_iff.mp H
    obtain ⟨t366, A240, H⟩ := H
    replace H : (atlaslaw06_AttrLeft.j0 k a0 a1 a3 (Go.bits .and .u32 a4 63) (t365 != t366)) = some r := H
    have A24 := Aside0.mk A240
    clear A240
    have H' := Aside0.mk H
    clear H
    go_wp2_with (first | ((with_reducible refine gate_callee (f := 14) rfl ?_); refine goesL_ (some 31) rfl rfl Tryd.func14 (by kernel_rfl) rfl #[] rfl (by (try simp only [List.map_toArray, List.map_cons, List.map_nil]); first | done | rfl | (simp only [List.length_drop, List.length_take]; rfl)) ?_; (with_reducible refine (atlaslaw06_live.calls k  true _ ?side1 ?side2 ?side3 ?side4 A16.out).mono ?_); (case side1 => exact ⟨G0.below hG0.out (by repeat (first | (with_reducible first | exact HB.out | apply below_alloc | apply pw_below_drewN | apply below_drew1 | refine below_set ?_ GE357.out | refine below_set ?_ GE363.out) | exact HB.out))⟩); (case side2 => exact ⟨G1.below hG1.out (by repeat (first | (with_reducible first | exact HB.out | apply below_alloc | apply pw_below_drewN | apply below_drew1 | refine below_set ?_ GE357.out | refine below_set ?_ GE363.out) | exact HB.out))⟩); (case side3 => exact ⟨G2.below hG2.out (by repeat (first | (with_reducible first | exact HB.out | apply below_alloc | apply pw_below_drewN | apply below_drew1 | refine below_set ?_ GE357.out | refine below_set ?_ GE363.out) | exact HB.out))⟩); (case side4 => exact ⟨G3.below hG3.out (by repeat (first | (with_reducible first | exact HB.out | apply below_alloc | apply pw_below_drewN | apply below_drew1 | refine below_set ?_ GE357.out | refine below_set ?_ GE363.out) | exact HB.out))⟩); rintro e w25 ⟨rfl, hb⟩; refine ⟨_, rfl, ?_⟩; have n0_ := Aside0.mk (blk_below (g := gb357) (o := .cells #[.int .i64 t352, .int .i64 t353, .int .i64 t354, .int .i64 t355] 24 (0, 0)) (by (with_reducible repeat (first | refine blk_drewN ?_ _ | refine blk_drew ?_ | refine blk_alloc ?_ _)); refine blk_far ?_ NB357_363.out _; (with_reducible repeat (first | refine blk_drewN ?_ _ | refine blk_drew ?_ | refine blk_alloc ?_ _)); refine blk_far ?_ NB357_363.out _; (with_reducible repeat (first | refine blk_drewN ?_ _ | refine blk_drew ?_ | refine blk_alloc ?_ _)); refine blk_far ?_ NB357_363.out _; (with_reducible repeat (first | refine blk_drewN ?_ _ | refine blk_drew ?_ | refine blk_alloc ?_ _)); refine blk_far ?_ NB357_363.out _; (with_reducible repeat (first | refine blk_drewN ?_ _ | refine blk_drew ?_ | refine blk_alloc ?_ _)); exact BK357.out) hb); have n1_ := Aside0.mk (blk_below (g := gb363) (o := .cells #[.int .i64 t358, .int .i64 t359, .int .i64 t360, .int .i64 t361] 24 (0, 0)) (by (with_reducible repeat (first | refine blk_drewN ?_ _ | refine blk_drew ?_ | refine blk_alloc ?_ _)); refine blk_put (cs := #[.int .i64 t358, .int .i64 t359, .int .i64 t360, .int .i64 0]) ?_ 3 _ rfl; (with_reducible repeat (first | refine blk_drewN ?_ _ | refine blk_drew ?_ | refine blk_alloc ?_ _)); refine blk_put (cs := #[.int .i64 t358, .int .i64 t359, .int .i64 0, .int .i64 0]) ?_ 2 _ rfl; (with_reducible repeat (first | refine blk_drewN ?_ _ | refine blk_drew ?_ | refine blk_alloc ?_ _)); refine blk_put (cs := #[.int .i64 t358, .int .i64 0, .int .i64 0, .int .i64 0]) ?_ 1 _ rfl; (with_reducible repeat (first | refine blk_drewN ?_ _ | refine blk_drew ?_ | refine blk_alloc ?_ _)); refine blk_put (cs := #[.int .i64 0, .int .i64 0, .int .i64 0, .int .i64 0]) ?_ 0 _ rfl; (with_reducible repeat (first | refine blk_drewN ?_ _ | refine blk_drew ?_ | refine blk_alloc ?_ _)); exact BK363.out) hb); have n2_ := Aside0.mk (below_step (by repeat (first | (with_reducible first | exact HB.out | apply below_alloc | apply pw_below_drewN | apply below_drew1 | refine below_set ?_ GE357.out | refine below_set ?_ GE363.out) | exact HB.out)) hb); clear BK357; clear BK363; clear HB; have BK357 := n0_; have BK363 := n1_; have HB := n2_; clear n0_ n1_ n2_; (try clear hb); (try clear hb2); (try clear hk); (try clear hi); have hnb26 := NB357_363.out; have hnc26 := NB363_357.out; have hcz27_0 : w25.cell? ⟨gb357, 0, none⟩ = some (.int .i64 t352) := (blk_cell BK357.out 0).trans rfl; have hcz27_1 : w25.cell? ⟨gb357, 1, none⟩ = some (.int .i64 t353) := (blk_cell BK357.out 1).trans rfl; have hcz27_2 : w25.cell? ⟨gb357, 2, none⟩ = some (.int .i64 t354) := (blk_cell BK357.out 2).trans rfl; have hcz27_3 : w25.cell? ⟨gb357, 3, none⟩ = some (.int .i64 t355) := (blk_cell BK357.out 3).trans rfl; have hfz27_0 := blk_frozen BK357.out 0; have hfz27_1 := blk_frozen BK357.out 1; have hfz27_2 := blk_frozen BK357.out 2; have hfz27_3 := blk_frozen BK357.out 3; have hcz28_0 : w25.cell? ⟨gb363, 0, none⟩ = some (.int .i64 t358) := (blk_cell BK363.out 0).trans rfl; have hcz28_1 : w25.cell? ⟨gb363, 1, none⟩ = some (.int .i64 t359) := (blk_cell BK363.out 1).trans rfl; have hcz28_2 : w25.cell? ⟨gb363, 2, none⟩ = some (.int .i64 t360) := (blk_cell BK363.out 2).trans rfl; have hcz28_3 : w25.cell? ⟨gb363, 3, none⟩ = some (.int .i64 t361) := (blk_cell BK363.out 3).trans rfl; have hfz28_0 := blk_frozen BK363.out 0; have hfz28_1 := blk_frozen BK363.out 1; have hfz28_2 := blk_frozen BK363.out 2; have hfz28_3 := blk_frozen BK363.out 3) | (go_at_call 15; (with_reducible refine (atlaslaw06_no.calls t356 t365 _ A23.out).mono ?_); rintro e w' ⟨rfl, ⟨nd, rfl⟩⟩) | (go_at_call 15; (with_reducible refine (atlaslaw06_no.calls t362 t366 _ A24.out).mono ?_); rintro e w' ⟨rfl, ⟨nd, rfl⟩⟩))
    go_meet
    case rel => exact ⟨_, ((t365 != t366)), (by first | rfl | (simp; done) | (simp [*]; done)), H', ⟨by first | omega | exact Nat.le_refl _⟩, ⟨by (with_reducible repeat (first | refine blk_drewN ?_ _ | refine blk_drew ?_ | refine blk_alloc ?_ _)); exact BK357.out⟩, ⟨by (with_reducible repeat (first | refine blk_drewN ?_ _ | refine blk_drew ?_ | refine blk_alloc ?_ _)); exact BK363.out⟩, ⟨by repeat (first | (with_reducible first | exact HB.out | apply below_alloc | apply pw_below_drewN | apply below_drew1 | refine below_set ?_ GE357.out | refine below_set ?_ GE363.out) | exact HB.out)⟩⟩
  ·
   replace c17 := Bool.eq_false_iff.mpr c17
   subst c17
   have H1 : (atlaslaw06_AttrLeft.j0 k a0 a1 a3 (Go.bits .and .u32 a4 63) true) = some r := by rw [if_neg (show ¬ (false = true) by decide)] at H; exact H
   clear H
   have H := H1
   clear H1
   have H' := Aside0.mk H
   clear H
   go_wp2_with (first | ((with_reducible refine gate_callee (f := 14) rfl ?_); refine goesL_ (some 31) rfl rfl Tryd.func14 (by kernel_rfl) rfl #[] rfl (by (try simp only [List.map_toArray, List.map_cons, List.map_nil]); first | done | rfl | (simp only [List.length_drop, List.length_take]; rfl)) ?_; (with_reducible refine (atlaslaw06_live.calls k  false _ ?side1 ?side2 ?side3 ?side4 A16.out).mono ?_); (case side1 => exact ⟨G0.below hG0.out (by repeat (first | (with_reducible first | exact HB.out | apply below_alloc | apply pw_below_drewN | apply below_drew1 | refine below_set ?_ GE357.out | refine below_set ?_ GE363.out) | exact HB.out))⟩); (case side2 => exact ⟨G1.below hG1.out (by repeat (first | (with_reducible first | exact HB.out | apply below_alloc | apply pw_below_drewN | apply below_drew1 | refine below_set ?_ GE357.out | refine below_set ?_ GE363.out) | exact HB.out))⟩); (case side3 => exact ⟨G2.below hG2.out (by repeat (first | (with_reducible first | exact HB.out | apply below_alloc | apply pw_below_drewN | apply below_drew1 | refine below_set ?_ GE357.out | refine below_set ?_ GE363.out) | exact HB.out))⟩); (case side4 => exact ⟨G3.below hG3.out (by repeat (first | (with_reducible first | exact HB.out | apply below_alloc | apply pw_below_drewN | apply below_drew1 | refine below_set ?_ GE357.out | refine below_set ?_ GE363.out) | exact HB.out))⟩); rintro e w29 ⟨rfl, hb⟩; refine ⟨_, rfl, ?_⟩; have n0_ := Aside0.mk (blk_below (g := gb357) (o := .cells #[.int .i64 t352, .int .i64 t353, .int .i64 t354, .int .i64 t355] 24 (0, 0)) (by (with_reducible repeat (first | refine blk_drewN ?_ _ | refine blk_drew ?_ | refine blk_alloc ?_ _)); refine blk_far ?_ NB357_363.out _; (with_reducible repeat (first | refine blk_drewN ?_ _ | refine blk_drew ?_ | refine blk_alloc ?_ _)); refine blk_far ?_ NB357_363.out _; (with_reducible repeat (first | refine blk_drewN ?_ _ | refine blk_drew ?_ | refine blk_alloc ?_ _)); refine blk_far ?_ NB357_363.out _; (with_reducible repeat (first | refine blk_drewN ?_ _ | refine blk_drew ?_ | refine blk_alloc ?_ _)); refine blk_far ?_ NB357_363.out _; (with_reducible repeat (first | refine blk_drewN ?_ _ | refine blk_drew ?_ | refine blk_alloc ?_ _)); exact BK357.out) hb); have n1_ := Aside0.mk (blk_below (g := gb363) (o := .cells #[.int .i64 t358, .int .i64 t359, .int .i64 t360, .int .i64 t361] 24 (0, 0)) (by (with_reducible repeat (first | refine blk_drewN ?_ _ | refine blk_drew ?_ | refine blk_alloc ?_ _)); refine blk_put (cs := #[.int .i64 t358, .int .i64 t359, .int .i64 t360, .int .i64 0]) ?_ 3 _ rfl; (with_reducible repeat (first | refine blk_drewN ?_ _ | refine blk_drew ?_ | refine blk_alloc ?_ _)); refine blk_put (cs := #[.int .i64 t358, .int .i64 t359, .int .i64 0, .int .i64 0]) ?_ 2 _ rfl; (with_reducible repeat (first | refine blk_drewN ?_ _ | refine blk_drew ?_ | refine blk_alloc ?_ _)); refine blk_put (cs := #[.int .i64 t358, .int .i64 0, .int .i64 0, .int .i64 0]) ?_ 1 _ rfl; (with_reducible repeat (first | refine blk_drewN ?_ _ | refine blk_drew ?_ | refine blk_alloc ?_ _)); refine blk_put (cs := #[.int .i64 0, .int .i64 0, .int .i64 0, .int .i64 0]) ?_ 0 _ rfl; (with_reducible repeat (first | refine blk_drewN ?_ _ | refine blk_drew ?_ | refine blk_alloc ?_ _)); exact BK363.out) hb); have n2_ := Aside0.mk (below_step (by repeat (first | (with_reducible first | exact HB.out | apply below_alloc | apply pw_below_drewN | apply below_drew1 | refine below_set ?_ GE357.out | refine below_set ?_ GE363.out) | exact HB.out)) hb); clear BK357; clear BK363; clear HB; have BK357 := n0_; have BK363 := n1_; have HB := n2_; clear n0_ n1_ n2_; (try clear hb); (try clear hb2); (try clear hk); (try clear hi)))
   go_meet
   case rel => exact ⟨_, (true), (by first | rfl | (simp; done) | (simp [*]; done)), H', ⟨by first | omega | exact Nat.le_refl _⟩, ⟨by (with_reducible repeat (first | refine blk_drewN ?_ _ | refine blk_drew ?_ | refine blk_alloc ?_ _)); exact BK357.out⟩, ⟨by (with_reducible repeat (first | refine blk_drewN ?_ _ | refine blk_drew ?_ | refine blk_alloc ?_ _)); exact BK363.out⟩, ⟨by repeat (first | (with_reducible first | exact HB.out | apply below_alloc | apply pw_below_drewN | apply below_drew1 | refine below_set ?_ GE357.out | refine below_set ?_ GE363.out) | exact HB.out)⟩⟩
 case rest =>
  clear HC8
  try clear c1
  try clear c2
  try clear p2
  try clear c10
  try clear c12
  try clear c14
  try clear c17
  try clear c18
  try clear c18b0
  try clear c20
  try clear c26
  try clear hcz11_0
  try clear hcz11_1
  try clear hcz11_2
  try clear hcz11_3
  try clear hcz15_0
  try clear hcz15_1
  try clear hcz15_2
  try clear hcz15_3
  try clear hcz21_0
  try clear hcz21_1
  try clear hcz21_2
  try clear hcz21_3
  try clear hcz22_0
  try clear hcz22_1
  try clear hcz22_2
  try clear hcz22_3
  try clear hcz27_0
  try clear hcz27_1
  try clear hcz27_2
  try clear hcz27_3
  try clear hcz28_0
  try clear hcz28_1
  try clear hcz28_2
  try clear hcz28_3
  try clear hfz11_0
  try clear hfz11_1
  try clear hfz11_2
  try clear hfz11_3
  try clear hfz15_0
  try clear hfz15_1
  try clear hfz15_2
  try clear hfz15_3
  try clear hfz21_0
  try clear hfz21_1
  try clear hfz21_2
  try clear hfz21_3
  try clear hfz22_0
  try clear hfz22_1
  try clear hfz22_2
  try clear hfz22_3
  try clear hfz27_0
  try clear hfz27_1
  try clear hfz27_2
  try clear hfz27_3
  try clear hfz28_0
  try clear hfz28_1
  try clear hfz28_2
  try clear hfz28_3
  obtain ⟨kq, x44_7, rfl, HA, HJ7, BK357, BK363, HB⟩ := hcut
  cases kq with
  | zero => exact absurd HA.out (by simp [atlaslaw06_AttrLeft.j0])
  | succ kj7 =>
   have H := HA.out
   clear HA
   simp only [atlaslaw06_AttrLeft.j0] at H
   by_cases c30 : x44_7 = true
   ·
    subst c30
    have H1 : (some false) = some r := by rw [if_pos rfl] at H; exact H
    clear H
    have H := H1
    clear H1
    obtain rfl := Option.some.inj H
    go_wp2
    go_ret
    exact ⟨by first | rfl | (simp [errW_none, errW_some] <;> rfl) | (simp [*, errW_none, errW_some] <;> rfl) | (simp [*, errW_none, errW_some] <;> exact isEmpty_ne _), by repeat (first | (with_reducible first | exact HB.out | apply below_alloc | apply pw_below_drewN | apply below_drew1 | refine below_set ?_ GE357.out | refine below_set ?_ GE363.out) | exact HB.out)⟩
   ·
    replace c30 := Bool.eq_false_iff.mpr c30
    subst c30
    have H1 : ((attr_Of.f kj7 true a0 a1 (Go.bits .and .u32 a4 63)).bind fun bt367 => ((attr_Of.f kj7 true a0 a1 (Go.bits .and .u32 (Go.bits .and .u32 a4 63) 15)).bind fun bt372 => (if (!(bt367.1 == bt372.1) || (!(bt367.2.1 == bt372.2.1) || (!(bt367.2.2.1 == bt372.2.2.1) || (!(bt367.2.2.2.1 == bt372.2.2.2.1))))) = true then (atlaslaw06_AttrLeft.j1 kj7 a0 a3 (Go.bits .and .u32 a4 63) bt367.2.2.2.2 true bt367.1 bt367.2.1 bt367.2.2.1 bt367.2.2.2.1) else ((atlaslaw06_no.f bt367.2.2.2.2).bind fun t377 => ((atlaslaw06_no.f bt372.2.2.2.2).bind fun t378 => (atlaslaw06_AttrLeft.j1 kj7 a0 a3 (Go.bits .and .u32 a4 63) bt367.2.2.2.2 (t377 != t378) bt367.1 bt367.2.1 bt367.2.2.1 bt367.2.2.2.1)))))) = some r := by rw [if_neg (show ¬ (false = true) by decide)] at H; exact H
    clear H
    have H := H1
    clear H1
    replace H := Option.bind_eq_some_iff.mp H
    obtain ⟨⟨t367, t368, t369, t370, t371⟩, A310, H⟩ := H
    replace H : ((attr_Of.f kj7 true a0 a1 (Go.bits .and .u32 (Go.bits .and .u32 a4 63) 15)).bind fun bt372 => (if (!(t367 == bt372.1) || (!(t368 == bt372.2.1) || (!(t369 == bt372.2.2.1) || (!(t370 == bt372.2.2.2.1))))) = true then (atlaslaw06_AttrLeft.j1 kj7 a0 a3 (Go.bits .and .u32 a4 63) t371 true t367 t368 t369 t370) else ((atlaslaw06_no.f t371).bind fun t377 => ((atlaslaw06_no.f bt372.2.2.2.2).bind fun t378 => (atlaslaw06_AttrLeft.j1 kj7 a0 a3 (Go.bits .and .u32 a4 63) t371 (t377 != t378) t367 t368 t369 t370))))) = some r := H
    have A31 := Aside0.mk A310
    clear A310
    replace H := Option.bind_eq_some_iff.mp H
    obtain ⟨⟨t372, t373, t374, t375, t376⟩, A320, H⟩ := H
    replace H : (if (!(t367 == t372) || (!(t368 == t373) || (!(t369 == t374) || (!(t370 == t375))))) = true then (atlaslaw06_AttrLeft.j1 kj7 a0 a3 (Go.bits .and .u32 a4 63) t371 true t367 t368 t369 t370) else ((atlaslaw06_no.f t371).bind fun t377 => ((atlaslaw06_no.f t376).bind fun t378 => (atlaslaw06_AttrLeft.j1 kj7 a0 a3 (Go.bits .and .u32 a4 63) t371 (t377 != t378) t367 t368 t369 t370)))) = some r := H
    have A32 := Aside0.mk A320
    clear A320
    have HC33 := Aside0.mk H
    clear H
    go_upto_region 8 with (first | ((with_reducible refine gate_callee (f := 12) rfl ?_); refine goesL_ (some 49) rfl rfl Tryd.func12 (by kernel_rfl) rfl #[.bool true, .int .u32 a0, .int .u32 a1, .int .u32 (Go.bits .and .u32 a4 63)] rfl (by (try simp only [List.map_toArray, List.map_cons, List.map_nil]); first | done | rfl | (simp only [List.length_drop, List.length_take]; rfl)) ?_; (with_reducible refine (attr_Of.calls kj7 true a0 a1 (Go.bits .and .u32 a4 63) t367 t368 t369 t370 t371 _ ?side1 A31.out).mono ?_); (case side1 => exact ⟨G0.below hG0.out (by repeat (first | (with_reducible first | exact HB.out | apply below_alloc | apply pw_below_drewN | apply below_drew1 | refine below_set ?_ GE357.out | refine below_set ?_ GE363.out) | exact HB.out))⟩); rintro e w34 ⟨rfl, hb⟩; refine ⟨_, rfl, ?_⟩; have n0_ := Aside0.mk (blk_below (g := gb357) (o := .cells #[.int .i64 t352, .int .i64 t353, .int .i64 t354, .int .i64 t355] 24 (0, 0)) (by (with_reducible repeat (first | refine blk_drewN ?_ _ | refine blk_drew ?_ | refine blk_alloc ?_ _)); exact BK357.out) hb); have n1_ := Aside0.mk (blk_below (g := gb363) (o := .cells #[.int .i64 t358, .int .i64 t359, .int .i64 t360, .int .i64 t361] 24 (0, 0)) (by (with_reducible repeat (first | refine blk_drewN ?_ _ | refine blk_drew ?_ | refine blk_alloc ?_ _)); exact BK363.out) hb); have n2_ := Aside0.mk (below_step (by repeat (first | (with_reducible first | exact HB.out | apply below_alloc | apply pw_below_drewN | apply below_drew1 | refine below_set ?_ GE357.out | refine below_set ?_ GE363.out) | exact HB.out)) hb); clear BK357; clear BK363; clear HB; have BK357 := n0_; have BK363 := n1_; have HB := n2_; clear n0_ n1_ n2_; (try clear hb); (try clear hb2); (try clear hk); (try clear hi); have hnb35 := NB357_363.out; have hnc35 := NB363_357.out; have hcz36_0 : w34.cell? ⟨gb357, 0, none⟩ = some (.int .i64 t352) := (blk_cell BK357.out 0).trans rfl; have hcz36_1 : w34.cell? ⟨gb357, 1, none⟩ = some (.int .i64 t353) := (blk_cell BK357.out 1).trans rfl; have hcz36_2 : w34.cell? ⟨gb357, 2, none⟩ = some (.int .i64 t354) := (blk_cell BK357.out 2).trans rfl; have hcz36_3 : w34.cell? ⟨gb357, 3, none⟩ = some (.int .i64 t355) := (blk_cell BK357.out 3).trans rfl; have hfz36_0 := blk_frozen BK357.out 0; have hfz36_1 := blk_frozen BK357.out 1; have hfz36_2 := blk_frozen BK357.out 2; have hfz36_3 := blk_frozen BK357.out 3) | ((with_reducible refine gate_callee (f := 12) rfl ?_); refine goesL_ (some 57) rfl rfl Tryd.func12 (by kernel_rfl) rfl #[.bool true, .int .u32 a0, .int .u32 a1, .int .u32 (Go.bits .and .u32 (Go.bits .and .u32 a4 63) 15)] rfl (by (try simp only [List.map_toArray, List.map_cons, List.map_nil]); first | done | rfl | (simp only [List.length_drop, List.length_take]; rfl)) ?_; (with_reducible refine (attr_Of.calls kj7 true a0 a1 (Go.bits .and .u32 (Go.bits .and .u32 a4 63) 15) t372 t373 t374 t375 t376 _ ?side1 A32.out).mono ?_); (case side1 => exact ⟨G0.below hG0.out (by repeat (first | (with_reducible first | exact HB.out | apply below_alloc | apply pw_below_drewN | apply below_drew1 | refine below_set ?_ GE357.out | refine below_set ?_ GE363.out) | exact HB.out))⟩); rintro e w37 ⟨rfl, hb⟩; refine ⟨_, rfl, ?_⟩; have n0_ := Aside0.mk (blk_below (g := gb357) (o := .cells #[.int .i64 t367, .int .i64 t368, .int .i64 t369, .int .i64 t370] 24 (0, 0)) (by (with_reducible repeat (first | refine blk_drewN ?_ _ | refine blk_drew ?_ | refine blk_alloc ?_ _)); refine blk_put (cs := #[.int .i64 t367, .int .i64 t368, .int .i64 t369, .int .i64 t355]) ?_ 3 _ rfl; (with_reducible repeat (first | refine blk_drewN ?_ _ | refine blk_drew ?_ | refine blk_alloc ?_ _)); refine blk_put (cs := #[.int .i64 t367, .int .i64 t368, .int .i64 t354, .int .i64 t355]) ?_ 2 _ rfl; (with_reducible repeat (first | refine blk_drewN ?_ _ | refine blk_drew ?_ | refine blk_alloc ?_ _)); refine blk_put (cs := #[.int .i64 t367, .int .i64 t353, .int .i64 t354, .int .i64 t355]) ?_ 1 _ rfl; (with_reducible repeat (first | refine blk_drewN ?_ _ | refine blk_drew ?_ | refine blk_alloc ?_ _)); refine blk_put (cs := #[.int .i64 t352, .int .i64 t353, .int .i64 t354, .int .i64 t355]) ?_ 0 _ rfl; (with_reducible repeat (first | refine blk_drewN ?_ _ | refine blk_drew ?_ | refine blk_alloc ?_ _)); exact BK357.out) hb); have n1_ := Aside0.mk (blk_below (g := gb363) (o := .cells #[.int .i64 t358, .int .i64 t359, .int .i64 t360, .int .i64 t361] 24 (0, 0)) (by (with_reducible repeat (first | refine blk_drewN ?_ _ | refine blk_drew ?_ | refine blk_alloc ?_ _)); refine blk_far ?_ NB363_357.out _; (with_reducible repeat (first | refine blk_drewN ?_ _ | refine blk_drew ?_ | refine blk_alloc ?_ _)); refine blk_far ?_ NB363_357.out _; (with_reducible repeat (first | refine blk_drewN ?_ _ | refine blk_drew ?_ | refine blk_alloc ?_ _)); refine blk_far ?_ NB363_357.out _; (with_reducible repeat (first | refine blk_drewN ?_ _ | refine blk_drew ?_ | refine blk_alloc ?_ _)); refine blk_far ?_ NB363_357.out _; (with_reducible repeat (first | refine blk_drewN ?_ _ | refine blk_drew ?_ | refine blk_alloc ?_ _)); exact BK363.out) hb); have n2_ := Aside0.mk (below_step (by repeat (first | (with_reducible first | exact HB.out | apply below_alloc | apply pw_below_drewN | apply below_drew1 | refine below_set ?_ GE357.out | refine below_set ?_ GE363.out) | exact HB.out)) hb); clear BK357; clear BK363; clear HB; have BK357 := n0_; have BK363 := n1_; have HB := n2_; clear n0_ n1_ n2_; (try clear hb); (try clear hb2); (try clear hk); (try clear hi); have hcz38_0 : w37.cell? ⟨gb363, 0, none⟩ = some (.int .i64 t358) := (blk_cell BK363.out 0).trans rfl; have hcz38_1 : w37.cell? ⟨gb363, 1, none⟩ = some (.int .i64 t359) := (blk_cell BK363.out 1).trans rfl; have hcz38_2 : w37.cell? ⟨gb363, 2, none⟩ = some (.int .i64 t360) := (blk_cell BK363.out 2).trans rfl; have hcz38_3 : w37.cell? ⟨gb363, 3, none⟩ = some (.int .i64 t361) := (blk_cell BK363.out 3).trans rfl; have hfz38_0 := blk_frozen BK363.out 0; have hfz38_1 := blk_frozen BK363.out 1; have hfz38_2 := blk_frozen BK363.out 2; have hfz38_3 := blk_frozen BK363.out 3))
    (try simp only [Act.put, List.setIfInBounds_toArray, List.set_cons_zero, List.set_cons_succ])
    go_cut [69] (fun v69 wc => ∃ (kq : Nat) (x69_32 : Bool), v69 = .bool x69_32 ∧ Aside0 (atlaslaw06_AttrLeft.j1 kq a0 a3 (Go.bits .and .u32 a4 63) t371 x69_32 t367 t368 t369 t370 = some r) ∧ Aside0 (kq ≤ kj7) ∧ Aside0 (wc.heap[gb357]? = some (.cells #[.int .i64 t367, .int .i64 t368, .int .i64 t369, .int .i64 t370] 24 (0, 0))) ∧ Aside0 (wc.heap[gb363]? = some (.cells #[.int .i64 t372, .int .i64 t373, .int .i64 t374, .int .i64 t375] 24 (0, 0))) ∧ Aside0 (Below w.heap.size w wc))
    case first =>
     have H := HC33.out
     clear HC33
     by_cases c39 : (!(t367 == t372) || (!(t368 == t373) || (!(t369 == t374) || (!(t370 == t375))))) = true
     ·
      rw [if_pos c39] at H
      have c39b0 : (!(t367 == t372) || (!(t368 == t373) || (!(t369 == t374) || (!(t370 == t375))))) = true := c39
      clear c39
      (first | rw [c39b0] | (simp only [i64_w, i32_w]; rw [c39b0]) | skip)
      have H' := Aside0.mk H
      clear H
      have hnb40 := NB357_363.out
      have hnc40 := NB363_357.out
      have hcz41_0 : w37.cell? ⟨gb357, 0, none⟩ = some (.int .i64 t367) := (blk_cell BK357.out 0).trans rfl
      have hcz41_1 : w37.cell? ⟨gb357, 1, none⟩ = some (.int .i64 t368) := (blk_cell BK357.out 1).trans rfl
      have hcz41_2 : w37.cell? ⟨gb357, 2, none⟩ = some (.int .i64 t369) := (blk_cell BK357.out 2).trans rfl
      have hcz41_3 : w37.cell? ⟨gb357, 3, none⟩ = some (.int .i64 t370) := (blk_cell BK357.out 3).trans rfl
      have hfz41_0 := blk_frozen BK357.out 0
      have hfz41_1 := blk_frozen BK357.out 1
      have hfz41_2 := blk_frozen BK357.out 2
      have hfz41_3 := blk_frozen BK357.out 3
      have hcz42_0 : w37.cell? ⟨gb363, 0, none⟩ = some (.int .i64 t358) := (blk_cell BK363.out 0).trans rfl
      have hcz42_1 : w37.cell? ⟨gb363, 1, none⟩ = some (.int .i64 t359) := (blk_cell BK363.out 1).trans rfl
      have hcz42_2 : w37.cell? ⟨gb363, 2, none⟩ = some (.int .i64 t360) := (blk_cell BK363.out 2).trans rfl
      have hcz42_3 : w37.cell? ⟨gb363, 3, none⟩ = some (.int .i64 t361) := (blk_cell BK363.out 3).trans rfl
      have hfz42_0 := blk_frozen BK363.out 0
      have hfz42_1 := blk_frozen BK363.out 1
      have hfz42_2 := blk_frozen BK363.out 2
      have hfz42_3 := blk_frozen BK363.out 3
      go_wp2
      go_meet
      case rel => exact ⟨_, (true), (by first | rfl | (simp; done) | (simp [*]; done)), H', ⟨by have := HJ7.out; first | omega | exact Nat.le_refl _⟩, ⟨by (with_reducible repeat (first | refine blk_drewN ?_ _ | refine blk_drew ?_ | refine blk_alloc ?_ _)); refine blk_far ?_ NB357_363.out _; (with_reducible repeat (first | refine blk_drewN ?_ _ | refine blk_drew ?_ | refine blk_alloc ?_ _)); refine blk_far ?_ NB357_363.out _; (with_reducible repeat (first | refine blk_drewN ?_ _ | refine blk_drew ?_ | refine blk_alloc ?_ _)); refine blk_far ?_ NB357_363.out _; (with_reducible repeat (first | refine blk_drewN ?_ _ | refine blk_drew ?_ | refine blk_alloc ?_ _)); refine blk_far ?_ NB357_363.out _; (with_reducible repeat (first | refine blk_drewN ?_ _ | refine blk_drew ?_ | refine blk_alloc ?_ _)); exact BK357.out⟩, ⟨by (with_reducible repeat (first | refine blk_drewN ?_ _ | refine blk_drew ?_ | refine blk_alloc ?_ _)); refine blk_put (cs := #[.int .i64 t372, .int .i64 t373, .int .i64 t374, .int .i64 t361]) ?_ 3 _ rfl; (with_reducible repeat (first | refine blk_drewN ?_ _ | refine blk_drew ?_ | refine blk_alloc ?_ _)); refine blk_put (cs := #[.int .i64 t372, .int .i64 t373, .int .i64 t360, .int .i64 t361]) ?_ 2 _ rfl; (with_reducible repeat (first | refine blk_drewN ?_ _ | refine blk_drew ?_ | refine blk_alloc ?_ _)); refine blk_put (cs := #[.int .i64 t372, .int .i64 t359, .int .i64 t360, .int .i64 t361]) ?_ 1 _ rfl; (with_reducible repeat (first | refine blk_drewN ?_ _ | refine blk_drew ?_ | refine blk_alloc ?_ _)); refine blk_put (cs := #[.int .i64 t358, .int .i64 t359, .int .i64 t360, .int .i64 t361]) ?_ 0 _ rfl; (with_reducible repeat (first | refine blk_drewN ?_ _ | refine blk_drew ?_ | refine blk_alloc ?_ _)); exact BK363.out⟩, ⟨by repeat (first | (with_reducible first | exact HB.out | apply below_alloc | apply pw_below_drewN | apply below_drew1 | refine below_set ?_ GE357.out | refine below_set ?_ GE363.out) | exact HB.out)⟩⟩
     ·
      rw [if_neg c39] at H
      have c39b0 : (!(t367 == t372) || (!(t368 == t373) || (!(t369 == t374) || (!(t370 == t375))))) = false := by simpa using c39
      clear c39
      (first | rw [c39b0] | (simp only [i64_w, i32_w]; rw [c39b0]) | skip)
      replace H := Option.bind_eq_some_iff.mp H
      obtain ⟨t377, A430, H⟩ := H
      replace H : ((atlaslaw06_no.f t376).bind fun t378 => (atlaslaw06_AttrLeft.j1 kj7 a0 a3 (Go.bits .and .u32 a4 63) t371 (t377 != t378) t367 t368 t369 t370)) = some r := H
      have A43 := Aside0.mk A430
      clear A430
      replace H := Option.bind_eq_some_iff.mp H
      obtain ⟨t378, A440, H⟩ := H
      replace H : (atlaslaw06_AttrLeft.j1 kj7 a0 a3 (Go.bits .and .u32 a4 63) t371 (t377 != t378) t367 t368 t369 t370) = some r := H
      have A44 := Aside0.mk A440
      clear A440
      have H' := Aside0.mk H
      clear H
      have hnb45 := NB357_363.out
      have hnc45 := NB363_357.out
      have hcz46_0 : w37.cell? ⟨gb357, 0, none⟩ = some (.int .i64 t367) := (blk_cell BK357.out 0).trans rfl
      have hcz46_1 : w37.cell? ⟨gb357, 1, none⟩ = some (.int .i64 t368) := (blk_cell BK357.out 1).trans rfl
      have hcz46_2 : w37.cell? ⟨gb357, 2, none⟩ = some (.int .i64 t369) := (blk_cell BK357.out 2).trans rfl
      have hcz46_3 : w37.cell? ⟨gb357, 3, none⟩ = some (.int .i64 t370) := (blk_cell BK357.out 3).trans rfl
      have hfz46_0 := blk_frozen BK357.out 0
      have hfz46_1 := blk_frozen BK357.out 1
      have hfz46_2 := blk_frozen BK357.out 2
      have hfz46_3 := blk_frozen BK357.out 3
      have hcz47_0 : w37.cell? ⟨gb363, 0, none⟩ = some (.int .i64 t358) := (blk_cell BK363.out 0).trans rfl
      have hcz47_1 : w37.cell? ⟨gb363, 1, none⟩ = some (.int .i64 t359) := (blk_cell BK363.out 1).trans rfl
      have hcz47_2 : w37.cell? ⟨gb363, 2, none⟩ = some (.int .i64 t360) := (blk_cell BK363.out 2).trans rfl
      have hcz47_3 : w37.cell? ⟨gb363, 3, none⟩ = some (.int .i64 t361) := (blk_cell BK363.out 3).trans rfl
      have hfz47_0 := blk_frozen BK363.out 0
      have hfz47_1 := blk_frozen BK363.out 1
      have hfz47_2 := blk_frozen BK363.out 2
      have hfz47_3 := blk_frozen BK363.out 3
      go_wp2_with (first | (go_at_call 15; (with_reducible refine (atlaslaw06_no.calls t371 t377 _ A43.out).mono ?_); rintro e w' ⟨rfl, ⟨nd, rfl⟩⟩) | (go_at_call 15; (with_reducible refine (atlaslaw06_no.calls t376 t378 _ A44.out).mono ?_); rintro e w' ⟨rfl, ⟨nd, rfl⟩⟩))
      go_meet
      case rel => exact ⟨_, ((t377 != t378)), (by first | rfl | (simp; done) | (simp [*]; done)), H', ⟨by have := HJ7.out; first | omega | exact Nat.le_refl _⟩, ⟨by (with_reducible repeat (first | refine blk_drewN ?_ _ | refine blk_drew ?_ | refine blk_alloc ?_ _)); refine blk_far ?_ NB357_363.out _; (with_reducible repeat (first | refine blk_drewN ?_ _ | refine blk_drew ?_ | refine blk_alloc ?_ _)); refine blk_far ?_ NB357_363.out _; (with_reducible repeat (first | refine blk_drewN ?_ _ | refine blk_drew ?_ | refine blk_alloc ?_ _)); refine blk_far ?_ NB357_363.out _; (with_reducible repeat (first | refine blk_drewN ?_ _ | refine blk_drew ?_ | refine blk_alloc ?_ _)); refine blk_far ?_ NB357_363.out _; (with_reducible repeat (first | refine blk_drewN ?_ _ | refine blk_drew ?_ | refine blk_alloc ?_ _)); exact BK357.out⟩, ⟨by (with_reducible repeat (first | refine blk_drewN ?_ _ | refine blk_drew ?_ | refine blk_alloc ?_ _)); refine blk_put (cs := #[.int .i64 t372, .int .i64 t373, .int .i64 t374, .int .i64 t361]) ?_ 3 _ rfl; (with_reducible repeat (first | refine blk_drewN ?_ _ | refine blk_drew ?_ | refine blk_alloc ?_ _)); refine blk_put (cs := #[.int .i64 t372, .int .i64 t373, .int .i64 t360, .int .i64 t361]) ?_ 2 _ rfl; (with_reducible repeat (first | refine blk_drewN ?_ _ | refine blk_drew ?_ | refine blk_alloc ?_ _)); refine blk_put (cs := #[.int .i64 t372, .int .i64 t359, .int .i64 t360, .int .i64 t361]) ?_ 1 _ rfl; (with_reducible repeat (first | refine blk_drewN ?_ _ | refine blk_drew ?_ | refine blk_alloc ?_ _)); refine blk_put (cs := #[.int .i64 t358, .int .i64 t359, .int .i64 t360, .int .i64 t361]) ?_ 0 _ rfl; (with_reducible repeat (first | refine blk_drewN ?_ _ | refine blk_drew ?_ | refine blk_alloc ?_ _)); exact BK363.out⟩, ⟨by repeat (first | (with_reducible first | exact HB.out | apply below_alloc | apply pw_below_drewN | apply below_drew1 | refine below_set ?_ GE357.out | refine below_set ?_ GE363.out) | exact HB.out)⟩⟩
    case rest =>
     clear HC33
     try clear c1
     try clear c2
     try clear p2
     try clear c3
     try clear c4
     try clear c10
     try clear c12
     try clear c14
     try clear c17
     try clear c18
     try clear c18b0
     try clear c20
     try clear c26
     try clear c30
     try clear c35
     try clear c39
     try clear c39b0
     try clear c40
     try clear c45
     try clear hcz11_0
     try clear hcz11_1
     try clear hcz11_2
     try clear hcz11_3
     try clear hcz15_0
     try clear hcz15_1
     try clear hcz15_2
     try clear hcz15_3
     try clear hcz21_0
     try clear hcz21_1
     try clear hcz21_2
     try clear hcz21_3
     try clear hcz22_0
     try clear hcz22_1
     try clear hcz22_2
     try clear hcz22_3
     try clear hcz27_0
     try clear hcz27_1
     try clear hcz27_2
     try clear hcz27_3
     try clear hcz28_0
     try clear hcz28_1
     try clear hcz28_2
     try clear hcz28_3
     try clear hcz36_0
     try clear hcz36_1
     try clear hcz36_2
     try clear hcz36_3
     try clear hcz38_0
     try clear hcz38_1
     try clear hcz38_2
     try clear hcz38_3
     try clear hcz41_0
     try clear hcz41_1
     try clear hcz41_2
     try clear hcz41_3
     try clear hcz42_0
     try clear hcz42_1
     try clear hcz42_2
     try clear hcz42_3
     try clear hcz46_0
     try clear hcz46_1
     try clear hcz46_2
     try clear hcz46_3
     try clear hcz47_0
     try clear hcz47_1
     try clear hcz47_2
     try clear hcz47_3
     try clear hfz11_0
     try clear hfz11_1
     try clear hfz11_2
     try clear hfz11_3
     try clear hfz15_0
     try clear hfz15_1
     try clear hfz15_2
     try clear hfz15_3
     try clear hfz21_0
     try clear hfz21_1
     try clear hfz21_2
     try clear hfz21_3
     try clear hfz22_0
     try clear hfz22_1
     try clear hfz22_2
     try clear hfz22_3
     try clear hfz27_0
     try clear hfz27_1
     try clear hfz27_2
     try clear hfz27_3
     try clear hfz28_0
     try clear hfz28_1
     try clear hfz28_2
     try clear hfz28_3
     try clear hfz36_0
     try clear hfz36_1
     try clear hfz36_2
     try clear hfz36_3
     try clear hfz38_0
     try clear hfz38_1
     try clear hfz38_2
     try clear hfz38_3
     try clear hfz41_0
     try clear hfz41_1
     try clear hfz41_2
     try clear hfz41_3
     try clear hfz42_0
     try clear hfz42_1
     try clear hfz42_2
     try clear hfz42_3
     try clear hfz46_0
     try clear hfz46_1
     try clear hfz46_2
     try clear hfz46_3
     try clear hfz47_0
     try clear hfz47_1
     try clear hfz47_2
     try clear hfz47_3
     try clear p2
     obtain ⟨kq, x69_32, rfl, HA, HJ32, BK357, BK363, HB⟩ := hcut
     cases kq with
     | zero => exact absurd HA.out (by simp [atlaslaw06_AttrLeft.j1])
     | succ kj32 =>
      have H := HA.out
      clear HA
      simp only [atlaslaw06_AttrLeft.j1] at H
      by_cases c48 : x69_32 = true
      ·
       subst c48
       have H1 : (some false) = some r := by rw [if_pos rfl] at H; exact H
       clear H
       have H := H1
       clear H1
       obtain rfl := Option.some.inj H
       go_wp2
       go_ret
       exact ⟨by first | rfl | (simp [errW_none, errW_some] <;> rfl) | (simp [*, errW_none, errW_some] <;> rfl) | (simp [*, errW_none, errW_some] <;> exact isEmpty_ne _), by repeat (first | (with_reducible first | exact HB.out | apply below_alloc | apply pw_below_drewN | apply below_drew1 | refine below_set ?_ GE357.out | refine below_set ?_ GE363.out) | exact HB.out)⟩
      ·
       replace c48 := Bool.eq_false_iff.mpr c48
       subst c48
       have H1 : ((attr_Of.f kj32 true a0 a3 (Go.bits .and .u32 a4 63)).bind fun bt379 => ((atlaslaw06_no.f t371).bind fun t384 => ((atlaslaw06_no.f bt379.2.2.2.2).bind fun t385 => (if t384 = t385 then (if t367 = bt379.1 then (if t370 = bt379.2.2.2.1 then (if t367 = 2 then (some true) else (some (t367 == bt379.1 && (t368 == bt379.2.1 && (t369 == bt379.2.2.1 && (t370 == bt379.2.2.2.1)))))) else (some false)) else (some false)) else (some false))))) = some r := by rw [if_neg (show ¬ (false = true) by decide)] at H; exact H
       clear H
       have H := H1
       clear H1
       replace H := Option.bind_eq_some_iff.mp H
       obtain ⟨⟨t379, t380, t381, t382, t383⟩, A490, H⟩ := H
       replace H : ((atlaslaw06_no.f t371).bind fun t384 => ((atlaslaw06_no.f t383).bind fun t385 => (if t384 = t385 then (if t367 = t379 then (if t370 = t382 then (if t367 = 2 then (some true) else (some (t367 == t379 && (t368 == t380 && (t369 == t381 && (t370 == t382)))))) else (some false)) else (some false)) else (some false)))) = some r := H
       have A49 := Aside0.mk A490
       clear A490
       replace H := Option.bind_eq_some_iff.mp H
       obtain ⟨t384, A500, H⟩ := H
       replace H : ((atlaslaw06_no.f t383).bind fun t385 => (if t384 = t385 then (if t367 = t379 then (if t370 = t382 then (if t367 = 2 then (some true) else (some (t367 == t379 && (t368 == t380 && (t369 == t381 && (t370 == t382)))))) else (some false)) else (some false)) else (some false))) = some r := H
       have A50 := Aside0.mk A500
       clear A500
       replace H := Option.bind_eq_some_iff.mp H
       obtain ⟨t385, A510, H⟩ := H
       replace H : (if t384 = t385 then (if t367 = t379 then (if t370 = t382 then (if t367 = 2 then (some true) else (some (t367 == t379 && (t368 == t380 && (t369 == t381 && (t370 == t382)))))) else (some false)) else (some false)) else (some false)) = some r := H
       have A51 := Aside0.mk A510
       clear A510
       by_cases c52 : t384 = t385
       ·
        rw [if_pos c52] at H
        have c52b0 : (t384 == t385) = true := beq_iff_eq.mpr c52
        have c52b1 : (t384 != t385) = false := bne_eq_false_iff_eq.mpr c52
        clear c52
        by_cases c53 : t367 = t379
        ·
         rw [if_pos c53] at H
         have c53b0 : (t367 == t379) = true := beq_iff_eq.mpr c53
         have c53b1 : (t367 != t379) = false := bne_eq_false_iff_eq.mpr c53
         clear c53
         by_cases c54 : t370 = t382
         ·
          rw [if_pos c54] at H
          have c54b0 : (t370 == t382) = true := beq_iff_eq.mpr c54
          have c54b1 : (t370 != t382) = false := bne_eq_false_iff_eq.mpr c54
          clear c54
          by_cases c55 : t367 = 2
          ·
           rw [if_pos c55] at H
           have c55b0 : (t367 == 2) = true := beq_iff_eq.mpr c55
           have c55b1 : (t367 != 2) = false := bne_eq_false_iff_eq.mpr c55
           clear c55
           obtain rfl := Option.some.inj H
           go_wp2_with (first | ((with_reducible refine gate_callee (f := 12) rfl ?_); refine goesL_ (some 74) rfl rfl Tryd.func12 (by kernel_rfl) rfl #[.bool true, .int .u32 a0, .int .u32 a3, .int .u32 (Go.bits .and .u32 a4 63)] rfl (by (try simp only [List.map_toArray, List.map_cons, List.map_nil]); first | done | rfl | (simp only [List.length_drop, List.length_take]; rfl)) ?_; (with_reducible refine (attr_Of.calls kj32 true a0 a3 (Go.bits .and .u32 a4 63) t379 t380 t381 t382 t383 _ ?side1 A49.out).mono ?_); (case side1 => exact ⟨G0.below hG0.out (by repeat (first | (with_reducible first | exact HB.out | apply below_alloc | apply pw_below_drewN | apply below_drew1 | refine below_set ?_ GE357.out | refine below_set ?_ GE363.out) | exact HB.out))⟩); rintro e w56 ⟨rfl, hb⟩; refine ⟨_, rfl, ?_⟩; have n0_ := Aside0.mk (blk_below (g := gb357) (o := .cells #[.int .i64 t367, .int .i64 t368, .int .i64 t369, .int .i64 t370] 24 (0, 0)) (by (with_reducible repeat (first | refine blk_drewN ?_ _ | refine blk_drew ?_ | refine blk_alloc ?_ _)); exact BK357.out) hb); have n1_ := Aside0.mk (blk_below (g := gb363) (o := .cells #[.int .i64 t372, .int .i64 t373, .int .i64 t374, .int .i64 t375] 24 (0, 0)) (by (with_reducible repeat (first | refine blk_drewN ?_ _ | refine blk_drew ?_ | refine blk_alloc ?_ _)); exact BK363.out) hb); have n2_ := Aside0.mk (below_step (by repeat (first | (with_reducible first | exact HB.out | apply below_alloc | apply pw_below_drewN | apply below_drew1 | refine below_set ?_ GE357.out | refine below_set ?_ GE363.out) | exact HB.out)) hb); clear BK357; clear BK363; clear HB; have BK357 := n0_; have BK363 := n1_; have HB := n2_; clear n0_ n1_ n2_; (try clear hb); (try clear hb2); (try clear hk); (try clear hi); have hnb57 := NB363_357.out; have hnc57 := NB357_363.out; have hcz58_0 : w56.cell? ⟨gb363, 0, none⟩ = some (.int .i64 t372) := (blk_cell BK363.out 0).trans rfl; have hcz58_1 : w56.cell? ⟨gb363, 1, none⟩ = some (.int .i64 t373) := (blk_cell BK363.out 1).trans rfl; have hcz58_2 : w56.cell? ⟨gb363, 2, none⟩ = some (.int .i64 t374) := (blk_cell BK363.out 2).trans rfl; have hcz58_3 : w56.cell? ⟨gb363, 3, none⟩ = some (.int .i64 t375) := (blk_cell BK363.out 3).trans rfl; have hfz58_0 := blk_frozen BK363.out 0; have hfz58_1 := blk_frozen BK363.out 1; have hfz58_2 := blk_frozen BK363.out 2; have hfz58_3 := blk_frozen BK363.out 3) | ((with_reducible refine gate_callee (f := 15) rfl ?_); refine goesL_ (some 78) rfl rfl Tryd.func15 (by kernel_rfl) rfl #[.int .i64 t371] rfl (by (try simp only [List.map_toArray, List.map_cons, List.map_nil]); first | done | rfl | (simp only [List.length_drop, List.length_take]; rfl)) ?_; (with_reducible refine (atlaslaw06_no.calls t371 t384 _ A50.out).mono ?_); rintro e w' ⟨rfl, ⟨nd, rfl⟩⟩; refine ⟨_, rfl, ?_⟩) | ((with_reducible refine gate_callee (f := 15) rfl ?_); refine goesL_ (some 80) rfl rfl Tryd.func15 (by kernel_rfl) rfl #[.int .i64 t383] rfl (by (try simp only [List.map_toArray, List.map_cons, List.map_nil]); first | done | rfl | (simp only [List.length_drop, List.length_take]; rfl)) ?_; (with_reducible refine (atlaslaw06_no.calls t383 t385 _ A51.out).mono ?_); rintro e w' ⟨rfl, ⟨nd, rfl⟩⟩; refine ⟨_, rfl, ?_⟩; have hcz59_0 : w56.cell? ⟨gb357, 0, none⟩ = some (.int .i64 t367) := (blk_cell BK357.out 0).trans rfl; have hcz59_1 : w56.cell? ⟨gb357, 1, none⟩ = some (.int .i64 t368) := (blk_cell BK357.out 1).trans rfl; have hcz59_2 : w56.cell? ⟨gb357, 2, none⟩ = some (.int .i64 t369) := (blk_cell BK357.out 2).trans rfl; have hcz59_3 : w56.cell? ⟨gb357, 3, none⟩ = some (.int .i64 t370) := (blk_cell BK357.out 3).trans rfl; have hfz59_0 := blk_frozen BK357.out 0; have hfz59_1 := blk_frozen BK357.out 1; have hfz59_2 := blk_frozen BK357.out 2; have hfz59_3 := blk_frozen BK357.out 3))
           go_ret
           exact ⟨by first | rfl | (simp [errW_none, errW_some] <;> rfl) | (simp [*, errW_none, errW_some] <;> rfl) | (simp [*, errW_none, errW_some] <;> exact isEmpty_ne _), by repeat (first | (with_reducible first | exact HB.out | apply below_alloc | apply pw_below_drewN | apply below_drew1 | refine below_set ?_ GE357.out | refine below_set ?_ GE363.out) | exact HB.out)⟩
          ·
           rw [if_neg c55] at H
           have c55b0 : (t367 == 2) = false := beq_eq_false_iff_ne.mpr c55
           have c55b1 : (t367 != 2) = true := bne_iff_ne.mpr c55
           obtain rfl := Option.some.inj H
           go_wp2_with (first | ((with_reducible refine gate_callee (f := 12) rfl ?_); refine goesL_ (some 74) rfl rfl Tryd.func12 (by kernel_rfl) rfl #[.bool true, .int .u32 a0, .int .u32 a3, .int .u32 (Go.bits .and .u32 a4 63)] rfl (by (try simp only [List.map_toArray, List.map_cons, List.map_nil]); first | done | rfl | (simp only [List.length_drop, List.length_take]; rfl)) ?_; (with_reducible refine (attr_Of.calls kj32 true a0 a3 (Go.bits .and .u32 a4 63) t379 t380 t381 t382 t383 _ ?side1 A49.out).mono ?_); (case side1 => exact ⟨G0.below hG0.out (by repeat (first | (with_reducible first | exact HB.out | apply below_alloc | apply pw_below_drewN | apply below_drew1 | refine below_set ?_ GE357.out | refine below_set ?_ GE363.out) | exact HB.out))⟩); rintro e w60 ⟨rfl, hb⟩; refine ⟨_, rfl, ?_⟩; have n0_ := Aside0.mk (blk_below (g := gb357) (o := .cells #[.int .i64 t367, .int .i64 t368, .int .i64 t369, .int .i64 t370] 24 (0, 0)) (by (with_reducible repeat (first | refine blk_drewN ?_ _ | refine blk_drew ?_ | refine blk_alloc ?_ _)); exact BK357.out) hb); have n1_ := Aside0.mk (blk_below (g := gb363) (o := .cells #[.int .i64 t372, .int .i64 t373, .int .i64 t374, .int .i64 t375] 24 (0, 0)) (by (with_reducible repeat (first | refine blk_drewN ?_ _ | refine blk_drew ?_ | refine blk_alloc ?_ _)); exact BK363.out) hb); have n2_ := Aside0.mk (below_step (by repeat (first | (with_reducible first | exact HB.out | apply below_alloc | apply pw_below_drewN | apply below_drew1 | refine below_set ?_ GE357.out | refine below_set ?_ GE363.out) | exact HB.out)) hb); clear BK357; clear BK363; clear HB; have BK357 := n0_; have BK363 := n1_; have HB := n2_; clear n0_ n1_ n2_; (try clear hb); (try clear hb2); (try clear hk); (try clear hi); have hnb61 := NB363_357.out; have hnc61 := NB357_363.out; have hcz62_0 : w60.cell? ⟨gb363, 0, none⟩ = some (.int .i64 t372) := (blk_cell BK363.out 0).trans rfl; have hcz62_1 : w60.cell? ⟨gb363, 1, none⟩ = some (.int .i64 t373) := (blk_cell BK363.out 1).trans rfl; have hcz62_2 : w60.cell? ⟨gb363, 2, none⟩ = some (.int .i64 t374) := (blk_cell BK363.out 2).trans rfl; have hcz62_3 : w60.cell? ⟨gb363, 3, none⟩ = some (.int .i64 t375) := (blk_cell BK363.out 3).trans rfl; have hfz62_0 := blk_frozen BK363.out 0; have hfz62_1 := blk_frozen BK363.out 1; have hfz62_2 := blk_frozen BK363.out 2; have hfz62_3 := blk_frozen BK363.out 3) | ((with_reducible refine gate_callee (f := 15) rfl ?_); refine goesL_ (some 78) rfl rfl Tryd.func15 (by kernel_rfl) rfl #[.int .i64 t371] rfl (by (try simp only [List.map_toArray, List.map_cons, List.map_nil]); first | done | rfl | (simp only [List.length_drop, List.length_take]; rfl)) ?_; (with_reducible refine (atlaslaw06_no.calls t371 t384 _ A50.out).mono ?_); rintro e w' ⟨rfl, ⟨nd, rfl⟩⟩; refine ⟨_, rfl, ?_⟩) | ((with_reducible refine gate_callee (f := 15) rfl ?_); refine goesL_ (some 80) rfl rfl Tryd.func15 (by kernel_rfl) rfl #[.int .i64 t383] rfl (by (try simp only [List.map_toArray, List.map_cons, List.map_nil]); first | done | rfl | (simp only [List.length_drop, List.length_take]; rfl)) ?_; (with_reducible refine (atlaslaw06_no.calls t383 t385 _ A51.out).mono ?_); rintro e w' ⟨rfl, ⟨nd, rfl⟩⟩; refine ⟨_, rfl, ?_⟩; have hcz63_0 : w60.cell? ⟨gb357, 0, none⟩ = some (.int .i64 t367) := (blk_cell BK357.out 0).trans rfl; have hcz63_1 : w60.cell? ⟨gb357, 1, none⟩ = some (.int .i64 t368) := (blk_cell BK357.out 1).trans rfl; have hcz63_2 : w60.cell? ⟨gb357, 2, none⟩ = some (.int .i64 t369) := (blk_cell BK357.out 2).trans rfl; have hcz63_3 : w60.cell? ⟨gb357, 3, none⟩ = some (.int .i64 t370) := (blk_cell BK357.out 3).trans rfl; have hfz63_0 := blk_frozen BK357.out 0; have hfz63_1 := blk_frozen BK357.out 1; have hfz63_2 := blk_frozen BK357.out 2; have hfz63_3 := blk_frozen BK357.out 3))
           go_ret
           exact ⟨by first | rfl | (simp [errW_none, errW_some] <;> rfl) | (simp [*, errW_none, errW_some] <;> rfl) | (simp [*, errW_none, errW_some] <;> exact isEmpty_ne _), by repeat (first | (with_reducible first | exact HB.out | apply below_alloc | apply pw_below_drewN | apply below_drew1 | refine below_set ?_ GE357.out | refine below_set ?_ GE363.out) | exact HB.out)⟩
         ·
          rw [if_neg c54] at H
          have c54b0 : (t370 == t382) = false := beq_eq_false_iff_ne.mpr c54
          have c54b1 : (t370 != t382) = true := bne_iff_ne.mpr c54
          obtain rfl := Option.some.inj H
          go_wp2_with (first | ((with_reducible refine gate_callee (f := 12) rfl ?_); refine goesL_ (some 74) rfl rfl Tryd.func12 (by kernel_rfl) rfl #[.bool true, .int .u32 a0, .int .u32 a3, .int .u32 (Go.bits .and .u32 a4 63)] rfl (by (try simp only [List.map_toArray, List.map_cons, List.map_nil]); first | done | rfl | (simp only [List.length_drop, List.length_take]; rfl)) ?_; (with_reducible refine (attr_Of.calls kj32 true a0 a3 (Go.bits .and .u32 a4 63) t379 t380 t381 t382 t383 _ ?side1 A49.out).mono ?_); (case side1 => exact ⟨G0.below hG0.out (by repeat (first | (with_reducible first | exact HB.out | apply below_alloc | apply pw_below_drewN | apply below_drew1 | refine below_set ?_ GE357.out | refine below_set ?_ GE363.out) | exact HB.out))⟩); rintro e w64 ⟨rfl, hb⟩; refine ⟨_, rfl, ?_⟩; have n0_ := Aside0.mk (blk_below (g := gb357) (o := .cells #[.int .i64 t367, .int .i64 t368, .int .i64 t369, .int .i64 t370] 24 (0, 0)) (by (with_reducible repeat (first | refine blk_drewN ?_ _ | refine blk_drew ?_ | refine blk_alloc ?_ _)); exact BK357.out) hb); have n1_ := Aside0.mk (blk_below (g := gb363) (o := .cells #[.int .i64 t372, .int .i64 t373, .int .i64 t374, .int .i64 t375] 24 (0, 0)) (by (with_reducible repeat (first | refine blk_drewN ?_ _ | refine blk_drew ?_ | refine blk_alloc ?_ _)); exact BK363.out) hb); have n2_ := Aside0.mk (below_step (by repeat (first | (with_reducible first | exact HB.out | apply below_alloc | apply pw_below_drewN | apply below_drew1 | refine below_set ?_ GE357.out | refine below_set ?_ GE363.out) | exact HB.out)) hb); clear BK357; clear BK363; clear HB; have BK357 := n0_; have BK363 := n1_; have HB := n2_; clear n0_ n1_ n2_; (try clear hb); (try clear hb2); (try clear hk); (try clear hi); have hnb65 := NB363_357.out; have hnc65 := NB357_363.out; have hcz66_0 : w64.cell? ⟨gb363, 0, none⟩ = some (.int .i64 t372) := (blk_cell BK363.out 0).trans rfl; have hcz66_1 : w64.cell? ⟨gb363, 1, none⟩ = some (.int .i64 t373) := (blk_cell BK363.out 1).trans rfl; have hcz66_2 : w64.cell? ⟨gb363, 2, none⟩ = some (.int .i64 t374) := (blk_cell BK363.out 2).trans rfl; have hcz66_3 : w64.cell? ⟨gb363, 3, none⟩ = some (.int .i64 t375) := (blk_cell BK363.out 3).trans rfl; have hfz66_0 := blk_frozen BK363.out 0; have hfz66_1 := blk_frozen BK363.out 1; have hfz66_2 := blk_frozen BK363.out 2; have hfz66_3 := blk_frozen BK363.out 3) | ((with_reducible refine gate_callee (f := 15) rfl ?_); refine goesL_ (some 78) rfl rfl Tryd.func15 (by kernel_rfl) rfl #[.int .i64 t371] rfl (by (try simp only [List.map_toArray, List.map_cons, List.map_nil]); first | done | rfl | (simp only [List.length_drop, List.length_take]; rfl)) ?_; (with_reducible refine (atlaslaw06_no.calls t371 t384 _ A50.out).mono ?_); rintro e w' ⟨rfl, ⟨nd, rfl⟩⟩; refine ⟨_, rfl, ?_⟩) | ((with_reducible refine gate_callee (f := 15) rfl ?_); refine goesL_ (some 80) rfl rfl Tryd.func15 (by kernel_rfl) rfl #[.int .i64 t383] rfl (by (try simp only [List.map_toArray, List.map_cons, List.map_nil]); first | done | rfl | (simp only [List.length_drop, List.length_take]; rfl)) ?_; (with_reducible refine (atlaslaw06_no.calls t383 t385 _ A51.out).mono ?_); rintro e w' ⟨rfl, ⟨nd, rfl⟩⟩; refine ⟨_, rfl, ?_⟩; have hcz67_0 : w64.cell? ⟨gb357, 0, none⟩ = some (.int .i64 t367) := (blk_cell BK357.out 0).trans rfl; have hcz67_1 : w64.cell? ⟨gb357, 1, none⟩ = some (.int .i64 t368) := (blk_cell BK357.out 1).trans rfl; have hcz67_2 : w64.cell? ⟨gb357, 2, none⟩ = some (.int .i64 t369) := (blk_cell BK357.out 2).trans rfl; have hcz67_3 : w64.cell? ⟨gb357, 3, none⟩ = some (.int .i64 t370) := (blk_cell BK357.out 3).trans rfl; have hfz67_0 := blk_frozen BK357.out 0; have hfz67_1 := blk_frozen BK357.out 1; have hfz67_2 := blk_frozen BK357.out 2; have hfz67_3 := blk_frozen BK357.out 3))
          go_ret
          exact ⟨by first | rfl | (simp [errW_none, errW_some] <;> rfl) | (simp [*, errW_none, errW_some] <;> rfl) | (simp [*, errW_none, errW_some] <;> exact isEmpty_ne _), by repeat (first | (with_reducible first | exact HB.out | apply below_alloc | apply pw_below_drewN | apply below_drew1 | refine below_set ?_ GE357.out | refine below_set ?_ GE363.out) | exact HB.out)⟩
        ·
         rw [if_neg c53] at H
         have c53b0 : (t367 == t379) = false := beq_eq_false_iff_ne.mpr c53
         have c53b1 : (t367 != t379) = true := bne_iff_ne.mpr c53
         obtain rfl := Option.some.inj H
         go_wp2_with (first | ((with_reducible refine gate_callee (f := 12) rfl ?_); refine goesL_ (some 74) rfl rfl Tryd.func12 (by kernel_rfl) rfl #[.bool true, .int .u32 a0, .int .u32 a3, .int .u32 (Go.bits .and .u32 a4 63)] rfl (by (try simp only [List.map_toArray, List.map_cons, List.map_nil]); first | done | rfl | (simp only [List.length_drop, List.length_take]; rfl)) ?_; (with_reducible refine (attr_Of.calls kj32 true a0 a3 (Go.bits .and .u32 a4 63) t379 t380 t381 t382 t383 _ ?side1 A49.out).mono ?_); (case side1 => exact ⟨G0.below hG0.out (by repeat (first | (with_reducible first | exact HB.out | apply below_alloc | apply pw_below_drewN | apply below_drew1 | refine below_set ?_ GE357.out | refine below_set ?_ GE363.out) | exact HB.out))⟩); rintro e w68 ⟨rfl, hb⟩; refine ⟨_, rfl, ?_⟩; have n0_ := Aside0.mk (blk_below (g := gb357) (o := .cells #[.int .i64 t367, .int .i64 t368, .int .i64 t369, .int .i64 t370] 24 (0, 0)) (by (with_reducible repeat (first | refine blk_drewN ?_ _ | refine blk_drew ?_ | refine blk_alloc ?_ _)); exact BK357.out) hb); have n1_ := Aside0.mk (blk_below (g := gb363) (o := .cells #[.int .i64 t372, .int .i64 t373, .int .i64 t374, .int .i64 t375] 24 (0, 0)) (by (with_reducible repeat (first | refine blk_drewN ?_ _ | refine blk_drew ?_ | refine blk_alloc ?_ _)); exact BK363.out) hb); have n2_ := Aside0.mk (below_step (by repeat (first | (with_reducible first | exact HB.out | apply below_alloc | apply pw_below_drewN | apply below_drew1 | refine below_set ?_ GE357.out | refine below_set ?_ GE363.out) | exact HB.out)) hb); clear BK357; clear BK363; clear HB; have BK357 := n0_; have BK363 := n1_; have HB := n2_; clear n0_ n1_ n2_; (try clear hb); (try clear hb2); (try clear hk); (try clear hi); have hnb69 := NB363_357.out; have hnc69 := NB357_363.out; have hcz70_0 : w68.cell? ⟨gb363, 0, none⟩ = some (.int .i64 t372) := (blk_cell BK363.out 0).trans rfl; have hcz70_1 : w68.cell? ⟨gb363, 1, none⟩ = some (.int .i64 t373) := (blk_cell BK363.out 1).trans rfl; have hcz70_2 : w68.cell? ⟨gb363, 2, none⟩ = some (.int .i64 t374) := (blk_cell BK363.out 2).trans rfl; have hcz70_3 : w68.cell? ⟨gb363, 3, none⟩ = some (.int .i64 t375) := (blk_cell BK363.out 3).trans rfl; have hfz70_0 := blk_frozen BK363.out 0; have hfz70_1 := blk_frozen BK363.out 1; have hfz70_2 := blk_frozen BK363.out 2; have hfz70_3 := blk_frozen BK363.out 3) | ((with_reducible refine gate_callee (f := 15) rfl ?_); refine goesL_ (some 78) rfl rfl Tryd.func15 (by kernel_rfl) rfl #[.int .i64 t371] rfl (by (try simp only [List.map_toArray, List.map_cons, List.map_nil]); first | done | rfl | (simp only [List.length_drop, List.length_take]; rfl)) ?_; (with_reducible refine (atlaslaw06_no.calls t371 t384 _ A50.out).mono ?_); rintro e w' ⟨rfl, ⟨nd, rfl⟩⟩; refine ⟨_, rfl, ?_⟩) | ((with_reducible refine gate_callee (f := 15) rfl ?_); refine goesL_ (some 80) rfl rfl Tryd.func15 (by kernel_rfl) rfl #[.int .i64 t383] rfl (by (try simp only [List.map_toArray, List.map_cons, List.map_nil]); first | done | rfl | (simp only [List.length_drop, List.length_take]; rfl)) ?_; (with_reducible refine (atlaslaw06_no.calls t383 t385 _ A51.out).mono ?_); rintro e w' ⟨rfl, ⟨nd, rfl⟩⟩; refine ⟨_, rfl, ?_⟩; have hcz71_0 : w68.cell? ⟨gb357, 0, none⟩ = some (.int .i64 t367) := (blk_cell BK357.out 0).trans rfl; have hcz71_1 : w68.cell? ⟨gb357, 1, none⟩ = some (.int .i64 t368) := (blk_cell BK357.out 1).trans rfl; have hcz71_2 : w68.cell? ⟨gb357, 2, none⟩ = some (.int .i64 t369) := (blk_cell BK357.out 2).trans rfl; have hcz71_3 : w68.cell? ⟨gb357, 3, none⟩ = some (.int .i64 t370) := (blk_cell BK357.out 3).trans rfl; have hfz71_0 := blk_frozen BK357.out 0; have hfz71_1 := blk_frozen BK357.out 1; have hfz71_2 := blk_frozen BK357.out 2; have hfz71_3 := blk_frozen BK357.out 3))
         go_ret
         exact ⟨by first | rfl | (simp [errW_none, errW_some] <;> rfl) | (simp [*, errW_none, errW_some] <;> rfl) | (simp [*, errW_none, errW_some] <;> exact isEmpty_ne _), by repeat (first | (with_reducible first | exact HB.out | apply below_alloc | apply pw_below_drewN | apply below_drew1 | refine below_set ?_ GE357.out | refine below_set ?_ GE363.out) | exact HB.out)⟩
       ·
        rw [if_neg c52] at H
        have c52b0 : (t384 == t385) = false := beq_eq_false_iff_ne.mpr c52
        have c52b1 : (t384 != t385) = true := bne_iff_ne.mpr c52
        obtain rfl := Option.some.inj H
        go_wp2_with (first | ((with_reducible refine gate_callee (f := 12) rfl ?_); refine goesL_ (some 74) rfl rfl Tryd.func12 (by kernel_rfl) rfl #[.bool true, .int .u32 a0, .int .u32 a3, .int .u32 (Go.bits .and .u32 a4 63)] rfl (by (try simp only [List.map_toArray, List.map_cons, List.map_nil]); first | done | rfl | (simp only [List.length_drop, List.length_take]; rfl)) ?_; (with_reducible refine (attr_Of.calls kj32 true a0 a3 (Go.bits .and .u32 a4 63) t379 t380 t381 t382 t383 _ ?side1 A49.out).mono ?_); (case side1 => exact ⟨G0.below hG0.out (by repeat (first | (with_reducible first | exact HB.out | apply below_alloc | apply pw_below_drewN | apply below_drew1 | refine below_set ?_ GE357.out | refine below_set ?_ GE363.out) | exact HB.out))⟩); rintro e w72 ⟨rfl, hb⟩; refine ⟨_, rfl, ?_⟩; have n0_ := Aside0.mk (blk_below (g := gb357) (o := .cells #[.int .i64 t367, .int .i64 t368, .int .i64 t369, .int .i64 t370] 24 (0, 0)) (by (with_reducible repeat (first | refine blk_drewN ?_ _ | refine blk_drew ?_ | refine blk_alloc ?_ _)); exact BK357.out) hb); have n1_ := Aside0.mk (blk_below (g := gb363) (o := .cells #[.int .i64 t372, .int .i64 t373, .int .i64 t374, .int .i64 t375] 24 (0, 0)) (by (with_reducible repeat (first | refine blk_drewN ?_ _ | refine blk_drew ?_ | refine blk_alloc ?_ _)); exact BK363.out) hb); have n2_ := Aside0.mk (below_step (by repeat (first | (with_reducible first | exact HB.out | apply below_alloc | apply pw_below_drewN | apply below_drew1 | refine below_set ?_ GE357.out | refine below_set ?_ GE363.out) | exact HB.out)) hb); clear BK357; clear BK363; clear HB; have BK357 := n0_; have BK363 := n1_; have HB := n2_; clear n0_ n1_ n2_; (try clear hb); (try clear hb2); (try clear hk); (try clear hi); have hnb73 := NB363_357.out; have hnc73 := NB357_363.out; have hcz74_0 : w72.cell? ⟨gb363, 0, none⟩ = some (.int .i64 t372) := (blk_cell BK363.out 0).trans rfl; have hcz74_1 : w72.cell? ⟨gb363, 1, none⟩ = some (.int .i64 t373) := (blk_cell BK363.out 1).trans rfl; have hcz74_2 : w72.cell? ⟨gb363, 2, none⟩ = some (.int .i64 t374) := (blk_cell BK363.out 2).trans rfl; have hcz74_3 : w72.cell? ⟨gb363, 3, none⟩ = some (.int .i64 t375) := (blk_cell BK363.out 3).trans rfl; have hfz74_0 := blk_frozen BK363.out 0; have hfz74_1 := blk_frozen BK363.out 1; have hfz74_2 := blk_frozen BK363.out 2; have hfz74_3 := blk_frozen BK363.out 3) | ((with_reducible refine gate_callee (f := 15) rfl ?_); refine goesL_ (some 78) rfl rfl Tryd.func15 (by kernel_rfl) rfl #[.int .i64 t371] rfl (by (try simp only [List.map_toArray, List.map_cons, List.map_nil]); first | done | rfl | (simp only [List.length_drop, List.length_take]; rfl)) ?_; (with_reducible refine (atlaslaw06_no.calls t371 t384 _ A50.out).mono ?_); rintro e w' ⟨rfl, ⟨nd, rfl⟩⟩; refine ⟨_, rfl, ?_⟩) | ((with_reducible refine gate_callee (f := 15) rfl ?_); refine goesL_ (some 80) rfl rfl Tryd.func15 (by kernel_rfl) rfl #[.int .i64 t383] rfl (by (try simp only [List.map_toArray, List.map_cons, List.map_nil]); first | done | rfl | (simp only [List.length_drop, List.length_take]; rfl)) ?_; (with_reducible refine (atlaslaw06_no.calls t383 t385 _ A51.out).mono ?_); rintro e w' ⟨rfl, ⟨nd, rfl⟩⟩; refine ⟨_, rfl, ?_⟩))
        go_ret
        exact ⟨by first | rfl | (simp [errW_none, errW_some] <;> rfl) | (simp [*, errW_none, errW_some] <;> rfl) | (simp [*, errW_none, errW_some] <;> exact isEmpty_ne _), by repeat (first | (with_reducible first | exact HB.out | apply below_alloc | apply pw_below_drewN | apply below_drew1 | refine below_set ?_ GE357.out | refine below_set ?_ GE363.out) | exact HB.out)⟩

end Go.Proofs.YtkljijkejbfopaaDoor.S
