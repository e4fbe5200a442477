-- Written by a program of this session (wip/xprint.py), over the kit's print. Not trusted: Lean checks it.
import Derived.Test.YtkljijkejbfopaaDoorS0
import Derived.Test.YtkljijkejbfopaaDoorS4
namespace Go.Proofs.YtkljijkejbfopaaDoor.S
open Go.Proofs.YtkljijkejbfopaaDoorG
open Go.RowKit Go.Proofs.YtkljijkejbfopaaDoorW.PrintWords Go.Proofs.YtkljijkejbfopaaDoorW.PrintLast Go.Proofs.YtkljijkejbfopaaDoorW.PrintMore
attribute [local go_sem] max2_int min2_int max_two min_two max_three min_three max_four min_four   -- for this text's walks alone
set_option linter.unusedVariables false
set_option linter.unusedSimpArgs false

/-! ### atlasref06_mapped: function 23 -/
mutual
def atlasref06_mapped.j0 : Nat → Int → Int → Int → Int → Bool → Int → Int → Int → Int → Option (Int × Int × Int × Int × Int)
 | 0, _, _, _, _, _, _, _, _, _ => none
 | k + 1, x0, x1, x2, x8, x32, x114000, x114001, x114002, x114003 => if x32 = true then (some (0, 0, 0, 0, 61)) else (if x114000 = 0 then (some (0, 0, 0, 2, 0)) else (if x114000 = 1 then (atlasref06_mapped.j1 k x0 x8 (wrap64 (16 + (wrap64 (Go.bits .and .u32 x2 1)))) x114000 x114001 x114002 x114003) else (if x114000 = 2 then ((atlasref06_field.f x1 (wrap64 (2 * x8))).bind fun t114 => ((atlasref06_field.f x1 (wrap64 ((wrap64 (2 * x8)) + 16))).bind fun t115 => (atlasref06_mapped.j1 k x0 x8 (wrap64 (18 + (wrap64 (Go.bits .and .u32 x2 1)))) x114000 t114 t115 x114003))) else (atlasref06_mapped.j1 k x0 x8 0 x114000 x114001 x114002 x114003))))
def atlasref06_mapped.j1 : Nat → Int → Int → Int → Int → Int → Int → Int → Option (Int × Int × Int × Int × Int)
 | 0, _, _, _, _, _, _, _ => none
 | k + 1, x0, x8, x10, x114000, x114001, x114002, x114003 => (atlasref06_set.f x0 x10).bind fun t116 => (if t116 = true then ((atlasref06_set.f x0 (wrap64 (24 + x8))).bind fun t117 => (atlasref06_mapped.j2 k x0 x10 t117 x114000 x114001 x114002 x114003)) else (atlasref06_mapped.j2 k x0 x10 false x114000 x114001 x114002 x114003))
def atlasref06_mapped.j2 : Nat → Int → Int → Bool → Int → Int → Int → Int → Option (Int × Int × Int × Int × Int)
 | 0, _, _, _, _, _, _, _ => none
 | k + 1, x0, x10, x70, x114000, x114001, x114002, x114003 => if x70 = true then (some (x114000, x114001, x114002, 1, 0)) else ((atlasref06_set.f x0 x10).bind fun t118 => (if t118 = true then (some (x114000, x114001, x114002, 2, 0)) else (some (x114000, x114001, x114002, x114003, 0))))
end
def atlasref06_mapped.f (k : Nat) (a0 : Int) (a1 : Int) (a2 : Int) : Option (Int × Int × Int × Int × Int) := (atlasref06_field.f a0 (wrap64 (2 * (wrap64 ((wrap64 (4 * (wrap64 (Go.bits .and .u32 (a2 / 8) 1)))) + (wrap64 (Go.bits .and .u32 (a2 / 2) 3))))))).bind fun t112 => (if (wrap64 ((wrap64 (4 * (wrap64 (Go.bits .and .u32 (a2 / 8) 1)))) + (wrap64 (Go.bits .and .u32 (a2 / 2) 3)))) = 6 then (atlasref06_mapped.j0 k a0 a1 a2 (wrap64 ((wrap64 (4 * (wrap64 (Go.bits .and .u32 (a2 / 8) 1)))) + (wrap64 (Go.bits .and .u32 (a2 / 2) 3)))) true t112 0 0 0) else (atlasref06_mapped.j0 k a0 a1 a2 (wrap64 ((wrap64 (4 * (wrap64 (Go.bits .and .u32 (a2 / 8) 1)))) + (wrap64 (Go.bits .and .u32 (a2 / 2) 3)))) (t112 == 3) t112 0 0 0))
theorem atlasref06_mapped.mono_l : ∀ k, (∀ y0 y1 y2 y3 y4 y5 y6 y7 y8, LeO (atlasref06_mapped.j0 k y0 y1 y2 y3 y4 y5 y6 y7 y8) (atlasref06_mapped.j0 (k + 1) y0 y1 y2 y3 y4 y5 y6 y7 y8)) ∧ (∀ y0 y1 y2 y3 y4 y5 y6, LeO (atlasref06_mapped.j1 k y0 y1 y2 y3 y4 y5 y6) (atlasref06_mapped.j1 (k + 1) y0 y1 y2 y3 y4 y5 y6)) ∧ (∀ y0 y1 y2 y3 y4 y5 y6, LeO (atlasref06_mapped.j2 k y0 y1 y2 y3 y4 y5 y6) (atlasref06_mapped.j2 (k + 1) y0 y1 y2 y3 y4 y5 y6))
 | 0 => ⟨fun _ _ _ _ _ _ _ _ _ r h => by simp [atlasref06_mapped.j0] at h, fun _ _ _ _ _ _ _ r h => by simp [atlasref06_mapped.j1] at h, fun _ _ _ _ _ _ _ r h => by simp [atlasref06_mapped.j2] at h⟩
 | k + 1 => by
  obtain ⟨ih0, ih1, ih2⟩ := atlasref06_mapped.mono_l k
  refine ⟨?_, ?_, ?_⟩
  ·
   intro y0 y1 y2 y3 y4 y5 y6 y7 y8
   unfold atlasref06_mapped.j0
   repeat' first
   | (with_reducible exact ih0 _ _ _ _ _ _ _ _ _)
   | (with_reducible exact ih1 _ _ _ _ _ _ _)
   | (with_reducible exact ih2 _ _ _ _ _ _ _)
   | (with_reducible exact LeO.refl _)
   | (with_reducible exact LeO.none _)
   | (with_reducible refine LeO.ite ?_ ?_)
   | (with_reducible refine LeO.bind ?_ (fun _ => ?_))
   | exact ih0 _ _ _ _ _ _ _ _ _
   | exact ih1 _ _ _ _ _ _ _
   | exact ih2 _ _ _ _ _ _ _
   | exact LeO.none _
   | refine LeO.ite ?_ ?_
   | refine LeO.bind ?_ (fun _ => ?_)
  ·
   intro y0 y1 y2 y3 y4 y5 y6
   unfold atlasref06_mapped.j1
   repeat' first
   | (with_reducible exact ih0 _ _ _ _ _ _ _ _ _)
   | (with_reducible exact ih1 _ _ _ _ _ _ _)
   | (with_reducible exact ih2 _ _ _ _ _ _ _)
   | (with_reducible exact LeO.refl _)
   | (with_reducible exact LeO.none _)
   | (with_reducible refine LeO.ite ?_ ?_)
   | (with_reducible refine LeO.bind ?_ (fun _ => ?_))
   | exact ih0 _ _ _ _ _ _ _ _ _
   | exact ih1 _ _ _ _ _ _ _
   | exact ih2 _ _ _ _ _ _ _
   | exact LeO.none _
   | refine LeO.ite ?_ ?_
   | refine LeO.bind ?_ (fun _ => ?_)
  ·
   intro y0 y1 y2 y3 y4 y5 y6
   unfold atlasref06_mapped.j2
   repeat' first
   | (with_reducible exact ih0 _ _ _ _ _ _ _ _ _)
   | (with_reducible exact ih1 _ _ _ _ _ _ _)
   | (with_reducible exact ih2 _ _ _ _ _ _ _)
   | (with_reducible exact LeO.refl _)
   | (with_reducible exact LeO.none _)
   | (with_reducible refine LeO.ite ?_ ?_)
   | (with_reducible refine LeO.bind ?_ (fun _ => ?_))
   | exact ih0 _ _ _ _ _ _ _ _ _
   | exact ih1 _ _ _ _ _ _ _
   | exact ih2 _ _ _ _ _ _ _
   | exact LeO.none _
   | refine LeO.ite ?_ ?_
   | refine LeO.bind ?_ (fun _ => ?_)
theorem atlasref06_mapped.mono : ∀ a0 a1 a2 k, LeO (atlasref06_mapped.f k a0 a1 a2) (atlasref06_mapped.f (k + 1) a0 a1 a2) := by
 intro a0 a1 a2 k
 obtain ⟨ih0, ih1, ih2⟩ := atlasref06_mapped.mono_l k
 unfold atlasref06_mapped.f
 repeat' first
   | (with_reducible exact ih0 _ _ _ _ _ _ _ _ _)
   | (with_reducible exact ih1 _ _ _ _ _ _ _)
   | (with_reducible exact ih2 _ _ _ _ _ _ _)
   | (with_reducible exact LeO.refl _)
   | (with_reducible exact LeO.none _)
   | (with_reducible refine LeO.ite ?_ ?_)
   | (with_reducible refine LeO.bind ?_ (fun _ => ?_))
   | exact ih0 _ _ _ _ _ _ _ _ _
   | exact ih1 _ _ _ _ _ _ _
   | exact ih2 _ _ _ _ _ _ _
   | exact LeO.none _
   | refine LeO.ite ?_ ?_
   | refine LeO.bind ?_ (fun _ => ?_)
set_option maxHeartbeats 8000000 in
set_option maxRecDepth 100000 in
theorem atlasref06_mapped.calls (k : Nat) (a0 : Int) (a1 : Int) (a2 : Int) (r1 : Int) (r2 : Int) (r3 : Int) (r4 : Int) (r5 : Int) (w : World) (h : atlasref06_mapped.f k a0 a1 a2 = some (r1, r2, r3, r4, r5)) :
  Calls Tryd.prog 23 #[.int .u32 a0, .int .u32 a1, .int .u32 a2] w fun e w' => e = .returned (.tuple #[.agg #[.int .i64 r1, .int .i64 r2, .int .i64 r3, .int .i64 r4], .int .i64 r5]) ∧ Below w.heap.size w w' := by
 have hu24 := Tryd.underlying24
 have HB := Aside0.mk (Below.refl w.heap.size w)
 have H : ((atlasref06_field.f a0 (wrap64 (2 * (wrap64 ((wrap64 (4 * (wrap64 (Go.bits .and .u32 (a2 / 8) 1)))) + (wrap64 (Go.bits .and .u32 (a2 / 2) 3))))))).bind fun t112 => (if (wrap64 ((wrap64 (4 * (wrap64 (Go.bits .and .u32 (a2 / 8) 1)))) + (wrap64 (Go.bits .and .u32 (a2 / 2) 3)))) = 6 then (atlasref06_mapped.j0 k a0 a1 a2 (wrap64 ((wrap64 (4 * (wrap64 (Go.bits .and .u32 (a2 / 8) 1)))) + (wrap64 (Go.bits .and .u32 (a2 / 2) 3)))) true t112 0 0 0) else (atlasref06_mapped.j0 k a0 a1 a2 (wrap64 ((wrap64 (4 * (wrap64 (Go.bits .and .u32 (a2 / 8) 1)))) + (wrap64 (Go.bits .and .u32 (a2 / 2) 3)))) (t112 == 3) t112 0 0 0))) = some (r1, r2, r3, r4, r5) := h
 clear h
 replace H := Option.bind_eq_some_iff.mp H
 obtain ⟨t112, A40, H⟩ := H
 replace H : (if (wrap64 ((wrap64 (4 * (wrap64 (Go.bits .and .u32 (a2 / 8) 1)))) + (wrap64 (Go.bits .and .u32 (a2 / 2) 3)))) = 6 then (atlasref06_mapped.j0 k a0 a1 a2 (wrap64 ((wrap64 (4 * (wrap64 (Go.bits .and .u32 (a2 / 8) 1)))) + (wrap64 (Go.bits .and .u32 (a2 / 2) 3)))) true t112 0 0 0) else (atlasref06_mapped.j0 k a0 a1 a2 (wrap64 ((wrap64 (4 * (wrap64 (Go.bits .and .u32 (a2 / 8) 1)))) + (wrap64 (Go.bits .and .u32 (a2 / 2) 3)))) (t112 == 3) t112 0 0 0)) = some (r1, r2, r3, r4, r5) := H
 have A4 := Aside0.mk A40
 clear A40
 have HC5 := Aside0.mk H
 clear H
 go_enter Tryd.func23, Tryd.ntmps23
 go_upto_region 3 with (first | ((with_reducible refine gate_dst (N := 6) rfl ?_); refine box_event ?hg (N := 6) ?hd (cs := #[.int .i64 0, .int .i64 0, .int .i64 0, .int .i64 0]) (t := 24) ?hr ?_; (case hd => rfl); (case hg => rfl); (case hr => first | (go_simp; done) | (go_simp; rfl)); intro gb111 hg w6 hbox hb; have n0_ := Aside0.mk (below_step (by repeat (first | (with_reducible first | exact HB.out | apply below_alloc | apply pw_below_drewN | apply below_drew1) | exact HB.out)) hb); have n1_ := Aside0.mk (hbox); have n2_ := Aside0.mk ((by rw [hg]; exact (below_size (by repeat (first | (with_reducible first | exact HB.out | apply below_alloc | apply pw_below_drewN | apply below_drew1) | exact HB.out))) : w.heap.size ≤ gb111)); have n3_ := Aside0.mk ((by rw [hg]; exact (below_size (by repeat (first | (with_reducible first | exact HB.out | apply below_alloc | apply pw_below_drewN | apply below_drew1) | exact HB.out))) : w.heap.size ≤ gb111)); clear HB; have HB := n0_; have BK111 := n1_; have GW111 := n2_; have GE111 := n3_; clear n0_ n1_ n2_ n3_; clear hb hbox hg) | ((with_reducible refine gate_callee (f := 29) rfl ?_); refine goesL_ (some 24) rfl rfl Tryd.func29 (by kernel_rfl) rfl #[.int .u32 a0, .int .i64 (wrap64 (2 * (wrap64 ((wrap64 (4 * (wrap64 (Go.bits .and .u32 (a2 / 8) 1)))) + (wrap64 (Go.bits .and .u32 (a2 / 2) 3))))))] rfl (by (try simp only [List.map_toArray, List.map_cons, List.map_nil]); first | done | rfl | (simp only [List.length_drop, List.length_take]; rfl)) ?_; (with_reducible refine (atlasref06_field.calls a0 (wrap64 (2 * (wrap64 ((wrap64 (4 * (wrap64 (Go.bits .and .u32 (a2 / 8) 1)))) + (wrap64 (Go.bits .and .u32 (a2 / 2) 3)))))) t112 _ A4.out).mono ?_); rintro e w' ⟨rfl, ⟨nd, rfl⟩⟩; refine ⟨_, rfl, ?_⟩; (try (rw [drewN_self w6]; generalize hq_ : World.drewN w6 _ = w6; have n0_ : Aside0 (w6.heap[gb111]? = some (.cells #[.int .i64 0, .int .i64 0, .int .i64 0, .int .i64 0] 24 (0, 0))) := ⟨by rw [← hq_]; exact (by (with_reducible repeat (first | refine blk_drewN ?_ _ | refine blk_drew ?_ | refine blk_alloc ?_ _)); exact BK111.out)⟩; have n1_ : Aside0 (Below w.heap.size w w6) := ⟨by rw [← hq_]; exact (by repeat (first | (with_reducible first | exact HB.out | apply below_alloc | apply pw_below_drewN | apply below_drew1 | refine below_set ?_ GE111.out) | exact HB.out))⟩; clear BK111 HB hq_; have BK111 := n0_; have HB := n1_; clear n0_ n1_))) | ((with_reducible refine gate_dst (N := 9) rfl ?_); refine box_event ?hg (N := 9) ?hd (cs := #[.int .i64 0, .int .i64 0, .int .i64 0, .int .i64 0]) (t := 24) ?hr ?_; (case hd => rfl); (case hg => rfl); (case hr => first | (go_simp; done) | (go_simp; rfl)); intro gb113 hg w7 hbox hb; have n0_ := Aside0.mk (blk_below (g := gb111) (o := .cells #[.int .i64 0, .int .i64 0, .int .i64 0, .int .i64 0] 24 (0, 0)) (by (with_reducible repeat (first | refine blk_drewN ?_ _ | refine blk_drew ?_ | refine blk_alloc ?_ _)); exact BK111.out) hb); have n1_ := Aside0.mk (below_step (by repeat (first | (with_reducible first | exact HB.out | apply below_alloc | apply pw_below_drewN | apply below_drew1 | refine below_set ?_ GE111.out) | exact HB.out)) hb); have n2_ := Aside0.mk (hbox); have n3_ := Aside0.mk ((by rw [hg]; exact (below_size (by repeat (first | (with_reducible first | exact HB.out | apply below_alloc | apply pw_below_drewN | apply below_drew1 | refine below_set ?_ GE111.out) | exact HB.out))) : w.heap.size ≤ gb113)); have n4_ := Aside0.mk ((by rw [hg]; exact (below_size (by repeat (first | (with_reducible first | exact HB.out | apply below_alloc | apply pw_below_drewN | apply below_drew1 | refine below_set ?_ GE111.out) | exact HB.out))) : w.heap.size ≤ gb113)); have n5_ := Aside0.mk ((by rw [hg]; exact Nat.ne_of_lt (blk_lt (g := gb111) (o := .cells #[.int .i64 0, .int .i64 0, .int .i64 0, .int .i64 0] 24 (0, 0)) (by (with_reducible repeat (first | refine blk_drewN ?_ _ | refine blk_drew ?_ | refine blk_alloc ?_ _)); exact BK111.out)) : gb111 ≠ gb113)); have n6_ := Aside0.mk ((by rw [hg]; exact Nat.ne_of_gt (blk_lt (g := gb111) (o := .cells #[.int .i64 0, .int .i64 0, .int .i64 0, .int .i64 0] 24 (0, 0)) (by (with_reducible repeat (first | refine blk_drewN ?_ _ | refine blk_drew ?_ | refine blk_alloc ?_ _)); exact BK111.out)) : gb113 ≠ gb111)); clear BK111; clear HB; have BK111 := n0_; have HB := n1_; have BK113 := n2_; have GW113 := n3_; have GE113 := n4_; have NB111_113 := n5_; have NB113_111 := n6_; clear n0_ n1_ n2_ n3_ n4_ n5_ n6_; clear hb hbox hg; have hnb8 := NB113_111.out; have hnc8 := NB111_113.out; have hcz9_0 : w7.cell? ⟨gb113, 0, none⟩ = some (.int .i64 0) := (blk_cell BK113.out 0).trans rfl; have hcz9_1 : w7.cell? ⟨gb113, 1, none⟩ = some (.int .i64 0) := (blk_cell BK113.out 1).trans rfl; have hcz9_2 : w7.cell? ⟨gb113, 2, none⟩ = some (.int .i64 0) := (blk_cell BK113.out 2).trans rfl; have hcz9_3 : w7.cell? ⟨gb113, 3, none⟩ = some (.int .i64 0) := (blk_cell BK113.out 3).trans rfl; have hfz9_0 := blk_frozen BK113.out 0; have hfz9_1 := blk_frozen BK113.out 1; have hfz9_2 := blk_frozen BK113.out 2; have hfz9_3 := blk_frozen BK113.out 3))
 (try simp only [Act.put, List.setIfInBounds_toArray, List.set_cons_zero, List.set_cons_succ])
 go_cut [32] (fun v32 wc => ∃ (kq : Nat) (x32_4 : Bool), v32 = .bool x32_4 ∧ Aside0 (atlasref06_mapped.j0 kq a0 a1 a2 (wrap64 ((wrap64 (4 * (wrap64 (Go.bits .and .u32 (a2 / 8) 1)))) + (wrap64 (Go.bits .and .u32 (a2 / 2) 3)))) x32_4 t112 0 0 0 = some (r1, r2, r3, r4, r5)) ∧ Aside0 (kq ≤ k) ∧ Aside0 (wc.heap[gb111]? = some (.cells #[.int .i64 0, .int .i64 0, .int .i64 0, .int .i64 0] 24 (0, 0))) ∧ Aside0 (wc.heap[gb113]? = some (.cells #[.int .i64 t112, .int .i64 0, .int .i64 0, .int .i64 0] 24 (0, 0))) ∧ Aside0 (Below w.heap.size w wc))
 case first =>
  have H := HC5.out
  clear HC5
  by_cases c10 : (wrap64 ((wrap64 (4 * (wrap64 (Go.bits .and .u32 (a2 / 8) 1)))) + (wrap64 (Go.bits .and .u32 (a2 / 2) 3)))) = 6
  ·
   rw [if_pos c10] at H
   have c10b0 : ((wrap64 ((wrap64 (4 * (wrap64 (Go.bits .and .u32 (a2 / 8) 1)))) + (wrap64 (Go.bits .and .u32 (a2 / 2) 3)))) == 6) = true := beq_iff_eq.mpr c10
   have c10b1 : ((wrap64 ((wrap64 (4 * (wrap64 (Go.bits .and .u32 (a2 / 8) 1)))) + (wrap64 (Go.bits .and .u32 (a2 / 2) 3)))) != 6) = false := bne_eq_false_iff_eq.mpr c10
   clear c10
   (first | rw [c10b0] | (simp only [i64_w, i32_w]; rw [c10b0]) | skip)
   have H' := Aside0.mk H
   clear H
   go_wp2
   go_meet
   case rel => exact ⟨_, (true), (by first | rfl | (simp; done) | (simp [*]; done)), H', ⟨by first | omega | exact Nat.le_refl _⟩, ⟨by (with_reducible repeat (first | refine blk_drewN ?_ _ | refine blk_drew ?_ | refine blk_alloc ?_ _)); refine blk_far ?_ NB111_113.out _; (with_reducible repeat (first | refine blk_drewN ?_ _ | refine blk_drew ?_ | refine blk_alloc ?_ _)); refine blk_far ?_ NB111_113.out _; (with_reducible repeat (first | refine blk_drewN ?_ _ | refine blk_drew ?_ | refine blk_alloc ?_ _)); refine blk_far ?_ NB111_113.out _; (with_reducible repeat (first | refine blk_drewN ?_ _ | refine blk_drew ?_ | refine blk_alloc ?_ _)); refine blk_far ?_ NB111_113.out _; (with_reducible repeat (first | refine blk_drewN ?_ _ | refine blk_drew ?_ | refine blk_alloc ?_ _)); exact BK111.out⟩, ⟨by (with_reducible repeat (first | refine blk_drewN ?_ _ | refine blk_drew ?_ | refine blk_alloc ?_ _)); refine blk_put (cs := #[.int .i64 t112, .int .i64 0, .int .i64 0, .int .i64 0]) ?_ 3 _ rfl; (with_reducible repeat (first | refine blk_drewN ?_ _ | refine blk_drew ?_ | refine blk_alloc ?_ _)); refine blk_put (cs := #[.int .i64 t112, .int .i64 0, .int .i64 0, .int .i64 0]) ?_ 2 _ rfl; (with_reducible repeat (first | refine blk_drewN ?_ _ | refine blk_drew ?_ | refine blk_alloc ?_ _)); refine blk_put (cs := #[.int .i64 t112, .int .i64 0, .int .i64 0, .int .i64 0]) ?_ 1 _ rfl; (with_reducible repeat (first | refine blk_drewN ?_ _ | refine blk_drew ?_ | refine blk_alloc ?_ _)); refine blk_put (cs := #[.int .i64 0, .int .i64 0, .int .i64 0, .int .i64 0]) ?_ 0 _ rfl; (with_reducible repeat (first | refine blk_drewN ?_ _ | refine blk_drew ?_ | refine blk_alloc ?_ _)); exact BK113.out⟩, ⟨by repeat (first | (with_reducible first | exact HB.out | apply below_alloc | apply pw_below_drewN | apply below_drew1 | refine below_set ?_ GE111.out | refine below_set ?_ GE113.out) | exact HB.out)⟩⟩
  ·
   rw [if_neg c10] at H
   have c10b0 : ((wrap64 ((wrap64 (4 * (wrap64 (Go.bits .and .u32 (a2 / 8) 1)))) + (wrap64 (Go.bits .and .u32 (a2 / 2) 3)))) == 6) = false := beq_eq_false_iff_ne.mpr c10
   have c10b1 : ((wrap64 ((wrap64 (4 * (wrap64 (Go.bits .and .u32 (a2 / 8) 1)))) + (wrap64 (Go.bits .and .u32 (a2 / 2) 3)))) != 6) = true := bne_iff_ne.mpr c10
   (first | rw [c10b0] | (simp only [i64_w, i32_w]; rw [c10b0]) | skip)
   have H' := Aside0.mk H
   clear H
   have hnb11 := NB113_111.out
   have hnc11 := NB111_113.out
   have hcz12_0 : w7.cell? ⟨gb113, 0, none⟩ = some (.int .i64 0) := (blk_cell BK113.out 0).trans rfl
   have hcz12_1 : w7.cell? ⟨gb113, 1, none⟩ = some (.int .i64 0) := (blk_cell BK113.out 1).trans rfl
   have hcz12_2 : w7.cell? ⟨gb113, 2, none⟩ = some (.int .i64 0) := (blk_cell BK113.out 2).trans rfl
   have hcz12_3 : w7.cell? ⟨gb113, 3, none⟩ = some (.int .i64 0) := (blk_cell BK113.out 3).trans rfl
   have hfz12_0 := blk_frozen BK113.out 0
   have hfz12_1 := blk_frozen BK113.out 1
   have hfz12_2 := blk_frozen BK113.out 2
   have hfz12_3 := blk_frozen BK113.out 3
   go_wp2
   go_meet
   case rel => exact ⟨_, ((t112 == 3)), (by first | rfl | (simp; done) | (simp [*]; done)), H', ⟨by first | omega | exact Nat.le_refl _⟩, ⟨by (with_reducible repeat (first | refine blk_drewN ?_ _ | refine blk_drew ?_ | refine blk_alloc ?_ _)); refine blk_far ?_ NB111_113.out _; (with_reducible repeat (first | refine blk_drewN ?_ _ | refine blk_drew ?_ | refine blk_alloc ?_ _)); refine blk_far ?_ NB111_113.out _; (with_reducible repeat (first | refine blk_drewN ?_ _ | refine blk_drew ?_ | refine blk_alloc ?_ _)); refine blk_far ?_ NB111_113.out _; (with_reducible repeat (first | refine blk_drewN ?_ _ | refine blk_drew ?_ | refine blk_alloc ?_ _)); refine blk_far ?_ NB111_113.out _; (with_reducible repeat (first | refine blk_drewN ?_ _ | refine blk_drew ?_ | refine blk_alloc ?_ _)); exact BK111.out⟩, ⟨by (with_reducible repeat (first | refine blk_drewN ?_ _ | refine blk_drew ?_ | refine blk_alloc ?_ _)); refine blk_put (cs := #[.int .i64 t112, .int .i64 0, .int .i64 0, .int .i64 0]) ?_ 3 _ rfl; (with_reducible repeat (first | refine blk_drewN ?_ _ | refine blk_drew ?_ | refine blk_alloc ?_ _)); refine blk_put (cs := #[.int .i64 t112, .int .i64 0, .int .i64 0, .int .i64 0]) ?_ 2 _ rfl; (with_reducible repeat (first | refine blk_drewN ?_ _ | refine blk_drew ?_ | refine blk_alloc ?_ _)); refine blk_put (cs := #[.int .i64 t112, .int .i64 0, .int .i64 0, .int .i64 0]) ?_ 1 _ rfl; (with_reducible repeat (first | refine blk_drewN ?_ _ | refine blk_drew ?_ | refine blk_alloc ?_ _)); refine blk_put (cs := #[.int .i64 0, .int .i64 0, .int .i64 0, .int .i64 0]) ?_ 0 _ rfl; (with_reducible repeat (first | refine blk_drewN ?_ _ | refine blk_drew ?_ | refine blk_alloc ?_ _)); exact BK113.out⟩, ⟨by repeat (first | (with_reducible first | exact HB.out | apply below_alloc | apply pw_below_drewN | apply below_drew1 | refine below_set ?_ GE111.out | refine below_set ?_ GE113.out) | exact HB.out)⟩⟩
 case rest =>
  clear HC5
  try clear c1
  try clear c2
  try clear p2
  try clear p6
  try clear c8
  try clear c10
  try clear c10b0
  try clear c10b1
  try clear c11
  try clear hcz12_0
  try clear hcz12_1
  try clear hcz12_2
  try clear hcz12_3
  try clear hcz9_0
  try clear hcz9_1
  try clear hcz9_2
  try clear hcz9_3
  try clear hfz12_0
  try clear hfz12_1
  try clear hfz12_2
  try clear hfz12_3
  try clear hfz9_0
  try clear hfz9_1
  try clear hfz9_2
  try clear hfz9_3
  obtain ⟨kq, x32_4, rfl, HA, HJ4, BK111, BK113, HB⟩ := hcut
  cases kq with
  | zero => exact absurd HA.out (by simp [atlasref06_mapped.j0])
  | succ kj4 =>
   have H := HA.out
   clear HA
   simp only [atlasref06_mapped.j0] at H
   by_cases c13 : x32_4 = true
   ·
    subst c13
    have H1 : (some (0, 0, 0, 0, 61)) = some (r1, r2, r3, r4, r5) := by rw [if_pos rfl] at H; exact H
    clear H
    have H := H1
    clear H1
    simp only [Option.some.injEq, Prod.mk.injEq] at H
    obtain ⟨rfl, rfl, rfl, rfl, rfl⟩ := H
    have hnb14 := NB111_113.out
    have hnc14 := NB113_111.out
    have hcz15_0 : wc.cell? ⟨gb111, 0, none⟩ = some (.int .i64 0) := (blk_cell BK111.out 0).trans rfl
    have hcz15_1 : wc.cell? ⟨gb111, 1, none⟩ = some (.int .i64 0) := (blk_cell BK111.out 1).trans rfl
    have hcz15_2 : wc.cell? ⟨gb111, 2, none⟩ = some (.int .i64 0) := (blk_cell BK111.out 2).trans rfl
    have hcz15_3 : wc.cell? ⟨gb111, 3, none⟩ = some (.int .i64 0) := (blk_cell BK111.out 3).trans rfl
    have hfz15_0 := blk_frozen BK111.out 0
    have hfz15_1 := blk_frozen BK111.out 1
    have hfz15_2 := blk_frozen BK111.out 2
    have hfz15_3 := blk_frozen BK111.out 3
    go_wp2
    refine bodyPost_ret (results_ct rfl _ _ gb111 24 #[.int .i64 0, .int .i64 0, .int .i64 0, .int .i64 0] (0, 0) _ rfl (by (with_reducible repeat (first | refine blk_drewN ?_ _ | refine blk_drew ?_ | refine blk_alloc ?_ _)); refine blk_put (cs := #[.int .i64 0, .int .i64 0, .int .i64 0, .int .i64 0]) ?_ 3 _ rfl; (with_reducible repeat (first | refine blk_drewN ?_ _ | refine blk_drew ?_ | refine blk_alloc ?_ _)); refine blk_put (cs := #[.int .i64 0, .int .i64 0, .int .i64 0, .int .i64 0]) ?_ 2 _ rfl; (with_reducible repeat (first | refine blk_drewN ?_ _ | refine blk_drew ?_ | refine blk_alloc ?_ _)); refine blk_put (cs := #[.int .i64 0, .int .i64 0, .int .i64 0, .int .i64 0]) ?_ 1 _ rfl; (with_reducible repeat (first | refine blk_drewN ?_ _ | refine blk_drew ?_ | refine blk_alloc ?_ _)); refine blk_put (cs := #[.int .i64 0, .int .i64 0, .int .i64 0, .int .i64 0]) ?_ 0 _ rfl; (with_reducible repeat (first | refine blk_drewN ?_ _ | refine blk_drew ?_ | refine blk_alloc ?_ _)); exact BK111.out) Tryd.underlying24 rfl (by kernel_rfl)) rfl ?_
    exact ⟨by first | rfl | (simp [errW_none, errW_some] <;> rfl) | (simp [*, errW_none, errW_some] <;> rfl) | (simp [*, errW_none, errW_some] <;> exact isEmpty_ne _), by repeat (first | (with_reducible first | exact HB.out | apply below_alloc | apply pw_below_drewN | apply below_drew1 | refine below_set ?_ GE111.out | refine below_set ?_ GE113.out) | exact HB.out)⟩
   ·
    replace c13 := Bool.eq_false_iff.mpr c13
    subst c13
    have H1 : (if t112 = 0 then (some (0, 0, 0, 2, 0)) else (if t112 = 1 then (atlasref06_mapped.j1 kj4 a0 (wrap64 ((wrap64 (4 * (wrap64 (Go.bits .and .u32 (a2 / 8) 1)))) + (wrap64 (Go.bits .and .u32 (a2 / 2) 3)))) (wrap64 (16 + (wrap64 (Go.bits .and .u32 a2 1)))) t112 0 0 0) else (if t112 = 2 then ((atlasref06_field.f a1 (wrap64 (2 * (wrap64 ((wrap64 (4 * (wrap64 (Go.bits .and .u32 (a2 / 8) 1)))) + (wrap64 (Go.bits .and .u32 (a2 / 2) 3))))))).bind fun t114 => ((atlasref06_field.f a1 (wrap64 ((wrap64 (2 * (wrap64 ((wrap64 (4 * (wrap64 (Go.bits .and .u32 (a2 / 8) 1)))) + (wrap64 (Go.bits .and .u32 (a2 / 2) 3)))))) + 16))).bind fun t115 => (atlasref06_mapped.j1 kj4 a0 (wrap64 ((wrap64 (4 * (wrap64 (Go.bits .and .u32 (a2 / 8) 1)))) + (wrap64 (Go.bits .and .u32 (a2 / 2) 3)))) (wrap64 (18 + (wrap64 (Go.bits .and .u32 a2 1)))) t112 t114 t115 0))) else (atlasref06_mapped.j1 kj4 a0 (wrap64 ((wrap64 (4 * (wrap64 (Go.bits .and .u32 (a2 / 8) 1)))) + (wrap64 (Go.bits .and .u32 (a2 / 2) 3)))) 0 t112 0 0 0)))) = some (r1, r2, r3, r4, r5) := by rw [if_neg (show ¬ (false = true) by decide)] at H; exact H
    clear H
    have H := H1
    clear H1
    have HC16 := Aside0.mk H
    clear H
    have hnb17 := NB113_111.out
    have hnc17 := NB111_113.out
    have hcz18_0 : wc.cell? ⟨gb113, 0, none⟩ = some (.int .i64 t112) := (blk_cell BK113.out 0).trans rfl
    have hcz18_1 : wc.cell? ⟨gb113, 1, none⟩ = some (.int .i64 0) := (blk_cell BK113.out 1).trans rfl
    have hcz18_2 : wc.cell? ⟨gb113, 2, none⟩ = some (.int .i64 0) := (blk_cell BK113.out 2).trans rfl
    have hcz18_3 : wc.cell? ⟨gb113, 3, none⟩ = some (.int .i64 0) := (blk_cell BK113.out 3).trans rfl
    have hfz18_0 := blk_frozen BK113.out 0
    have hfz18_1 := blk_frozen BK113.out 1
    have hfz18_2 := blk_frozen BK113.out 2
    have hfz18_3 := blk_frozen BK113.out 3
    go_upto_block 0 with (fail)
    go_cut [10] (fun v10 wc => ∃ (kq : Nat) (x10_15 : Int) (x112000_15 : Int) (x112001_15 : Int) (x112002_15 : Int) (x112003_15 : Int) (x114001_15 : Int) (x114002_15 : Int), v10 = .int .i64 x10_15 ∧ Aside0 (atlasref06_mapped.j1 kq a0 (wrap64 ((wrap64 (4 * (wrap64 (Go.bits .and .u32 (a2 / 8) 1)))) + (wrap64 (Go.bits .and .u32 (a2 / 2) 3)))) x10_15 t112 x114001_15 x114002_15 0 = some (r1, r2, r3, r4, r5)) ∧ Aside0 (kq ≤ kj4) ∧ Aside0 (wc.heap[gb111]? = some (.cells #[.int .i64 x112000_15, .int .i64 x112001_15, .int .i64 x112002_15, .int .i64 x112003_15] 24 (0, 0))) ∧ Aside0 (wc.heap[gb113]? = some (.cells #[.int .i64 t112, .int .i64 x114001_15, .int .i64 x114002_15, .int .i64 0] 24 (0, 0))) ∧ Aside0 (Below w.heap.size w wc))
    case first =>
     have H := HC16.out
     clear HC16
     by_cases c19 : t112 = 0
     ·
      rw [if_pos c19] at H
      have c19b0 : (t112 == 0) = true := beq_iff_eq.mpr c19
      have c19b1 : (t112 != 0) = false := bne_eq_false_iff_eq.mpr c19
      clear c19
      (first | rw [c19b0] | (simp only [i64_w, i32_w]; rw [c19b0]) | skip)
      simp only [Option.some.injEq, Prod.mk.injEq] at H
      obtain ⟨rfl, rfl, rfl, rfl, rfl⟩ := H
      have hnb20 := NB111_113.out
      have hnc20 := NB113_111.out
      have hcz21_0 : wc.cell? ⟨gb111, 0, none⟩ = some (.int .i64 0) := (blk_cell BK111.out 0).trans rfl
      have hcz21_1 : wc.cell? ⟨gb111, 1, none⟩ = some (.int .i64 0) := (blk_cell BK111.out 1).trans rfl
      have hcz21_2 : wc.cell? ⟨gb111, 2, none⟩ = some (.int .i64 0) := (blk_cell BK111.out 2).trans rfl
      have hcz21_3 : wc.cell? ⟨gb111, 3, none⟩ = some (.int .i64 0) := (blk_cell BK111.out 3).trans rfl
      have hfz21_0 := blk_frozen BK111.out 0
      have hfz21_1 := blk_frozen BK111.out 1
      have hfz21_2 := blk_frozen BK111.out 2
      have hfz21_3 := blk_frozen BK111.out 3
      go_wp2
      refine bodyPost_ret (results_ct rfl _ _ gb111 24 #[.int .i64 0, .int .i64 0, .int .i64 0, .int .i64 2] (0, 0) _ rfl (by (with_reducible repeat (first | refine blk_drewN ?_ _ | refine blk_drew ?_ | refine blk_alloc ?_ _)); refine blk_put (cs := #[.int .i64 0, .int .i64 0, .int .i64 0, .int .i64 0]) ?_ 3 _ rfl; (with_reducible repeat (first | refine blk_drewN ?_ _ | refine blk_drew ?_ | refine blk_alloc ?_ _)); refine blk_put (cs := #[.int .i64 0, .int .i64 0, .int .i64 0, .int .i64 0]) ?_ 2 _ rfl; (with_reducible repeat (first | refine blk_drewN ?_ _ | refine blk_drew ?_ | refine blk_alloc ?_ _)); refine blk_put (cs := #[.int .i64 0, .int .i64 0, .int .i64 0, .int .i64 0]) ?_ 1 _ rfl; (with_reducible repeat (first | refine blk_drewN ?_ _ | refine blk_drew ?_ | refine blk_alloc ?_ _)); refine blk_put (cs := #[.int .i64 0, .int .i64 0, .int .i64 0, .int .i64 0]) ?_ 0 _ rfl; (with_reducible repeat (first | refine blk_drewN ?_ _ | refine blk_drew ?_ | refine blk_alloc ?_ _)); exact BK111.out) Tryd.underlying24 rfl (by kernel_rfl)) rfl ?_
      exact ⟨by first | rfl | (simp [errW_none, errW_some] <;> rfl) | (simp [*, errW_none, errW_some] <;> rfl) | (simp [*, errW_none, errW_some] <;> exact isEmpty_ne _), by repeat (first | (with_reducible first | exact HB.out | apply below_alloc | apply pw_below_drewN | apply below_drew1 | refine below_set ?_ GE111.out | refine below_set ?_ GE113.out) | exact HB.out)⟩
     ·
      rw [if_neg c19] at H
      have c19b0 : (t112 == 0) = false := beq_eq_false_iff_ne.mpr c19
      have c19b1 : (t112 != 0) = true := bne_iff_ne.mpr c19
      (first | rw [c19b0] | (simp only [i64_w, i32_w]; rw [c19b0]) | skip)
      by_cases c22 : t112 = 1
      ·
       rw [if_pos c22] at H
       have c22b0 : (t112 == 1) = true := beq_iff_eq.mpr c22
       have c22b1 : (t112 != 1) = false := bne_eq_false_iff_eq.mpr c22
       clear c22
       have H' := Aside0.mk H
       clear H
       go_wp2
       go_meet
       case rel => exact ⟨_, (wrap64 (16 + (wrap64 (Go.bits .and .u32 a2 1)))), (0), (0), (0), (0), (0), (0), (by first | rfl | (simp; done) | (simp [*]; done)), H', ⟨by have := HJ4.out; first | omega | exact Nat.le_refl _⟩, ⟨by (with_reducible repeat (first | refine blk_drewN ?_ _ | refine blk_drew ?_ | refine blk_alloc ?_ _)); exact BK111.out⟩, ⟨by (with_reducible repeat (first | refine blk_drewN ?_ _ | refine blk_drew ?_ | refine blk_alloc ?_ _)); exact BK113.out⟩, ⟨by repeat (first | (with_reducible first | exact HB.out | apply below_alloc | apply pw_below_drewN | apply below_drew1 | refine below_set ?_ GE111.out | refine below_set ?_ GE113.out) | exact HB.out)⟩⟩
      ·
       rw [if_neg c22] at H
       have c22b0 : (t112 == 1) = false := beq_eq_false_iff_ne.mpr c22
       have c22b1 : (t112 != 1) = true := bne_iff_ne.mpr c22
       by_cases c23 : t112 = 2
       ·
        rw [if_pos c23] at H
        have c23b0 : (t112 == 2) = true := beq_iff_eq.mpr c23
        have c23b1 : (t112 != 2) = false := bne_eq_false_iff_eq.mpr c23
        clear c23
        replace H := Option.bind_eq_some_iff.mp H
        obtain ⟨t114, A240, H⟩ := H
        replace H : ((atlasref06_field.f a1 (wrap64 ((wrap64 (2 * (wrap64 ((wrap64 (4 * (wrap64 (Go.bits .and .u32 (a2 / 8) 1)))) + (wrap64 (Go.bits .and .u32 (a2 / 2) 3)))))) + 16))).bind fun t115 => (atlasref06_mapped.j1 kj4 a0 (wrap64 ((wrap64 (4 * (wrap64 (Go.bits .and .u32 (a2 / 8) 1)))) + (wrap64 (Go.bits .and .u32 (a2 / 2) 3)))) (wrap64 (18 + (wrap64 (Go.bits .and .u32 a2 1)))) t112 t114 t115 0)) = some (r1, r2, r3, r4, r5) := H
        have A24 := Aside0.mk A240
        clear A240
        replace H := Option.bind_eq_some_iff.mp H
        obtain ⟨t115, A250, H⟩ := H
        replace H : (atlasref06_mapped.j1 kj4 a0 (wrap64 ((wrap64 (4 * (wrap64 (Go.bits .and .u32 (a2 / 8) 1)))) + (wrap64 (Go.bits .and .u32 (a2 / 2) 3)))) (wrap64 (18 + (wrap64 (Go.bits .and .u32 a2 1)))) t112 t114 t115 0) = some (r1, r2, r3, r4, r5) := H
        have A25 := Aside0.mk A250
        clear A250
        have H' := Aside0.mk H
        clear H
        go_wp2_with (first | ((with_reducible refine gate_callee (f := 29) rfl ?_); refine goesL_ (some 54) rfl rfl Tryd.func29 (by kernel_rfl) rfl #[.int .u32 a1, .int .i64 (wrap64 (2 * (wrap64 ((wrap64 (4 * (wrap64 (Go.bits .and .u32 (a2 / 8) 1)))) + (wrap64 (Go.bits .and .u32 (a2 / 2) 3))))))] rfl (by (try simp only [List.map_toArray, List.map_cons, List.map_nil]); first | done | rfl | (simp only [List.length_drop, List.length_take]; rfl)) ?_; (with_reducible refine (atlasref06_field.calls a1 (wrap64 (2 * (wrap64 ((wrap64 (4 * (wrap64 (Go.bits .and .u32 (a2 / 8) 1)))) + (wrap64 (Go.bits .and .u32 (a2 / 2) 3)))))) t114 _ A24.out).mono ?_); rintro e w' ⟨rfl, ⟨nd, rfl⟩⟩; refine ⟨_, rfl, ?_⟩; (try (rw [drewN_self wc]; generalize hq_ : World.drewN wc _ = wc; have n0_ : Aside0 (wc.heap[gb111]? = some (.cells #[.int .i64 0, .int .i64 0, .int .i64 0, .int .i64 0] 24 (0, 0))) := ⟨by rw [← hq_]; exact (by (with_reducible repeat (first | refine blk_drewN ?_ _ | refine blk_drew ?_ | refine blk_alloc ?_ _)); exact BK111.out)⟩; have n1_ : Aside0 (wc.heap[gb113]? = some (.cells #[.int .i64 t112, .int .i64 0, .int .i64 0, .int .i64 0] 24 (0, 0))) := ⟨by rw [← hq_]; exact (by (with_reducible repeat (first | refine blk_drewN ?_ _ | refine blk_drew ?_ | refine blk_alloc ?_ _)); exact BK113.out)⟩; have n2_ : Aside0 (Below w.heap.size w wc) := ⟨by rw [← hq_]; exact (by repeat (first | (with_reducible first | exact HB.out | apply below_alloc | apply pw_below_drewN | apply below_drew1 | refine below_set ?_ GE111.out | refine below_set ?_ GE113.out) | exact HB.out))⟩; clear BK111 BK113 HB hq_; have BK111 := n0_; have BK113 := n1_; have HB := n2_; clear n0_ n1_ n2_)); have hnb26 := NB113_111.out; have hnc26 := NB111_113.out; have hcz27_0 : wc.cell? ⟨gb113, 0, none⟩ = some (.int .i64 t112) := (blk_cell BK113.out 0).trans rfl; have hcz27_1 : wc.cell? ⟨gb113, 1, none⟩ = some (.int .i64 0) := (blk_cell BK113.out 1).trans rfl; have hcz27_2 : wc.cell? ⟨gb113, 2, none⟩ = some (.int .i64 0) := (blk_cell BK113.out 2).trans rfl; have hcz27_3 : wc.cell? ⟨gb113, 3, none⟩ = some (.int .i64 0) := (blk_cell BK113.out 3).trans rfl; have hfz27_0 := blk_frozen BK113.out 0; have hfz27_1 := blk_frozen BK113.out 1; have hfz27_2 := blk_frozen BK113.out 2; have hfz27_3 := blk_frozen BK113.out 3) | ((with_reducible refine gate_callee (f := 29) rfl ?_); refine goesL_ (some 60) rfl rfl Tryd.func29 (by kernel_rfl) rfl #[.int .u32 a1, .int .i64 (wrap64 ((wrap64 (2 * (wrap64 ((wrap64 (4 * (wrap64 (Go.bits .and .u32 (a2 / 8) 1)))) + (wrap64 (Go.bits .and .u32 (a2 / 2) 3)))))) + 16))] rfl (by (try simp only [List.map_toArray, List.map_cons, List.map_nil]); first | done | rfl | (simp only [List.length_drop, List.length_take]; rfl)) ?_; (with_reducible refine (atlasref06_field.calls a1 (wrap64 ((wrap64 (2 * (wrap64 ((wrap64 (4 * (wrap64 (Go.bits .and .u32 (a2 / 8) 1)))) + (wrap64 (Go.bits .and .u32 (a2 / 2) 3)))))) + 16)) t115 _ A25.out).mono ?_); rintro e w' ⟨rfl, ⟨nd, rfl⟩⟩; refine ⟨_, rfl, ?_⟩))
        go_meet
        case rel => exact ⟨_, (wrap64 (18 + (wrap64 (Go.bits .and .u32 a2 1)))), (0), (0), (0), (0), (t114), (t115), (by first | rfl | (simp; done) | (simp [*]; done)), H', ⟨by have := HJ4.out; first | omega | exact Nat.le_refl _⟩, ⟨by (with_reducible repeat (first | refine blk_drewN ?_ _ | refine blk_drew ?_ | refine blk_alloc ?_ _)); refine blk_far ?_ NB111_113.out _; (with_reducible repeat (first | refine blk_drewN ?_ _ | refine blk_drew ?_ | refine blk_alloc ?_ _)); refine blk_far ?_ NB111_113.out _; (with_reducible repeat (first | refine blk_drewN ?_ _ | refine blk_drew ?_ | refine blk_alloc ?_ _)); exact BK111.out⟩, ⟨by (with_reducible repeat (first | refine blk_drewN ?_ _ | refine blk_drew ?_ | refine blk_alloc ?_ _)); refine blk_put (cs := #[.int .i64 t112, .int .i64 t114, .int .i64 0, .int .i64 0]) ?_ 2 _ rfl; (with_reducible repeat (first | refine blk_drewN ?_ _ | refine blk_drew ?_ | refine blk_alloc ?_ _)); refine blk_put (cs := #[.int .i64 t112, .int .i64 0, .int .i64 0, .int .i64 0]) ?_ 1 _ rfl; (with_reducible repeat (first | refine blk_drewN ?_ _ | refine blk_drew ?_ | refine blk_alloc ?_ _)); exact BK113.out⟩, ⟨by repeat (first | (with_reducible first | exact HB.out | apply below_alloc | apply pw_below_drewN | apply below_drew1 | refine below_set ?_ GE111.out | refine below_set ?_ GE113.out) | exact HB.out)⟩⟩
       ·
        rw [if_neg c23] at H
        have c23b0 : (t112 == 2) = false := beq_eq_false_iff_ne.mpr c23
        have c23b1 : (t112 != 2) = true := bne_iff_ne.mpr c23
        have H' := Aside0.mk H
        clear H
        go_wp2
        go_meet
        case rel => exact ⟨_, (0), (0), (0), (0), (0), (0), (0), (by first | rfl | (simp; done) | (simp [*]; done)), H', ⟨by have := HJ4.out; first | omega | exact Nat.le_refl _⟩, ⟨by (with_reducible repeat (first | refine blk_drewN ?_ _ | refine blk_drew ?_ | refine blk_alloc ?_ _)); exact BK111.out⟩, ⟨by (with_reducible repeat (first | refine blk_drewN ?_ _ | refine blk_drew ?_ | refine blk_alloc ?_ _)); exact BK113.out⟩, ⟨by repeat (first | (with_reducible first | exact HB.out | apply below_alloc | apply pw_below_drewN | apply below_drew1 | refine below_set ?_ GE111.out | refine below_set ?_ GE113.out) | exact HB.out)⟩⟩
    case rest =>
     clear HC16
     try clear c1
     try clear c2
     try clear p2
     try clear p6
     try clear c8
     try clear c10
     try clear c10b0
     try clear c10b1
     try clear c11
     try clear c13
     try clear c14
     try clear c17
     try clear c19
     try clear c19b0
     try clear c19b1
     try clear c20
     try clear c22
     try clear c22b0
     try clear c22b1
     try clear c23
     try clear c23b0
     try clear c23b1
     try clear c26
     try clear hcz12_0
     try clear hcz12_1
     try clear hcz12_2
     try clear hcz12_3
     try clear hcz15_0
     try clear hcz15_1
     try clear hcz15_2
     try clear hcz15_3
     try clear hcz18_0
     try clear hcz18_1
     try clear hcz18_2
     try clear hcz18_3
     try clear hcz21_0
     try clear hcz21_1
     try clear hcz21_2
     try clear hcz21_3
     try clear hcz27_0
     try clear hcz27_1
     try clear hcz27_2
     try clear hcz27_3
     try clear hcz9_0
     try clear hcz9_1
     try clear hcz9_2
     try clear hcz9_3
     try clear hfz12_0
     try clear hfz12_1
     try clear hfz12_2
     try clear hfz12_3
     try clear hfz15_0
     try clear hfz15_1
     try clear hfz15_2
     try clear hfz15_3
     try clear hfz18_0
     try clear hfz18_1
     try clear hfz18_2
     try clear hfz18_3
     try clear hfz21_0
     try clear hfz21_1
     try clear hfz21_2
     try clear hfz21_3
     try clear hfz27_0
     try clear hfz27_1
     try clear hfz27_2
     try clear hfz27_3
     try clear hfz9_0
     try clear hfz9_1
     try clear hfz9_2
     try clear hfz9_3
     try clear p2
     try clear p6
     obtain ⟨kq, x10_15, x112000_15, x112001_15, x112002_15, x112003_15, x114001_15, x114002_15, rfl, HA, HJ15, BK111, BK113, HB⟩ := hcut
     cases kq with
     | zero => exact absurd HA.out (by simp [atlasref06_mapped.j1])
     | succ kj15 =>
      have H := HA.out
      clear HA
      simp only [atlasref06_mapped.j1] at H
      have HC28 := Aside0.mk H
      clear H
      go_upto_region 15 with (fail)
      go_cut [70] (fun v70 wc => ∃ (kq : Nat) (x70_27 : Bool), v70 = .bool x70_27 ∧ Aside0 (atlasref06_mapped.j2 kq a0 x10_15 x70_27 t112 x114001_15 x114002_15 0 = some (r1, r2, r3, r4, r5)) ∧ Aside0 (kq ≤ kj15) ∧ Aside0 (wc.heap[gb111]? = some (.cells #[.int .i64 x112000_15, .int .i64 x112001_15, .int .i64 x112002_15, .int .i64 x112003_15] 24 (0, 0))) ∧ Aside0 (wc.heap[gb113]? = some (.cells #[.int .i64 t112, .int .i64 x114001_15, .int .i64 x114002_15, .int .i64 0] 24 (0, 0))) ∧ Aside0 (Below w.heap.size w wc))
      case first =>
       have H := HC28.out
       clear HC28
       replace H := Option.bind_eq_some_iff.mp H
       obtain ⟨t116, A290, H⟩ := H
       replace H : (if t116 = true then ((atlasref06_set.f a0 (wrap64 (24 + (wrap64 ((wrap64 (4 * (wrap64 (Go.bits .and .u32 (a2 / 8) 1)))) + (wrap64 (Go.bits .and .u32 (a2 / 2) 3))))))).bind fun t117 => (atlasref06_mapped.j2 kj15 a0 x10_15 t117 t112 x114001_15 x114002_15 0)) else (atlasref06_mapped.j2 kj15 a0 x10_15 false t112 x114001_15 x114002_15 0)) = some (r1, r2, r3, r4, r5) := H
       have A29 := Aside0.mk A290
       clear A290
       by_cases c30 : t116 = true
       ·
        subst c30
        have H1 : ((atlasref06_set.f a0 (wrap64 (24 + (wrap64 ((wrap64 (4 * (wrap64 (Go.bits .and .u32 (a2 / 8) 1)))) + (wrap64 (Go.bits .and .u32 (a2 / 2) 3))))))).bind fun t117 => (atlasref06_mapped.j2 kj15 a0 x10_15 t117 t112 x114001_15 x114002_15 0)) = some (r1, r2, r3, r4, r5) := by rw [if_pos rfl] at H; exact H
        clear H
        have H := H1
        clear H1
        replace H := Option.bind_eq_some_iff.mp H
        obtain ⟨t117, A310, H⟩ := H
        replace H : (atlasref06_mapped.j2 kj15 a0 x10_15 t117 t112 x114001_15 x114002_15 0) = some (r1, r2, r3, r4, r5) := H
        have A31 := Aside0.mk A310
        clear A310
        have H' := Aside0.mk H
        clear H
        go_wp2_with (first | ((with_reducible refine gate_callee (f := 30) rfl ?_); refine goesL_ (some 64) rfl rfl Tryd.func30 (by kernel_rfl) rfl #[.int .u32 a0, .int .i64 x10_15] rfl (by (try simp only [List.map_toArray, List.map_cons, List.map_nil]); first | done | rfl | (simp only [List.length_drop, List.length_take]; rfl)) ?_; (with_reducible refine (atlasref06_set.calls a0 x10_15 true _ A29.out).mono ?_); rintro e w' ⟨rfl, ⟨nd, rfl⟩⟩; refine ⟨_, rfl, ?_⟩) | (go_at_call 30; (with_reducible refine (atlasref06_set.calls a0 (wrap64 (24 + (wrap64 ((wrap64 (4 * (wrap64 (Go.bits .and .u32 (a2 / 8) 1)))) + (wrap64 (Go.bits .and .u32 (a2 / 2) 3)))))) t117 _ A31.out).mono ?_); rintro e w' ⟨rfl, ⟨nd, rfl⟩⟩))
        go_meet
        case rel => exact ⟨_, (t117), (by first | rfl | (simp; done) | (simp [*]; done)), H', ⟨by have := HJ4.out; have := HJ15.out; first | omega | exact Nat.le_refl _⟩, ⟨by (with_reducible repeat (first | refine blk_drewN ?_ _ | refine blk_drew ?_ | refine blk_alloc ?_ _)); exact BK111.out⟩, ⟨by (with_reducible repeat (first | refine blk_drewN ?_ _ | refine blk_drew ?_ | refine blk_alloc ?_ _)); exact BK113.out⟩, ⟨by repeat (first | (with_reducible first | exact HB.out | apply below_alloc | apply pw_below_drewN | apply below_drew1 | refine below_set ?_ GE111.out | refine below_set ?_ GE113.out) | exact HB.out)⟩⟩
       ·
        replace c30 := Bool.eq_false_iff.mpr c30
        subst c30
        have H1 : (atlasref06_mapped.j2 kj15 a0 x10_15 false t112 x114001_15 x114002_15 0) = some (r1, r2, r3, r4, r5) := by rw [if_neg (show ¬ (false = true) by decide)] at H; exact H
        clear H
        have H := H1
        clear H1
        have H' := Aside0.mk H
        clear H
        go_wp2_with (first | ((with_reducible refine gate_callee (f := 30) rfl ?_); refine goesL_ (some 64) rfl rfl Tryd.func30 (by kernel_rfl) rfl #[.int .u32 a0, .int .i64 x10_15] rfl (by (try simp only [List.map_toArray, List.map_cons, List.map_nil]); first | done | rfl | (simp only [List.length_drop, List.length_take]; rfl)) ?_; (with_reducible refine (atlasref06_set.calls a0 x10_15 false _ A29.out).mono ?_); rintro e w' ⟨rfl, ⟨nd, rfl⟩⟩; refine ⟨_, rfl, ?_⟩))
        go_meet
        case rel => exact ⟨_, (false), (by first | rfl | (simp; done) | (simp [*]; done)), H', ⟨by have := HJ4.out; have := HJ15.out; first | omega | exact Nat.le_refl _⟩, ⟨by (with_reducible repeat (first | refine blk_drewN ?_ _ | refine blk_drew ?_ | refine blk_alloc ?_ _)); exact BK111.out⟩, ⟨by (with_reducible repeat (first | refine blk_drewN ?_ _ | refine blk_drew ?_ | refine blk_alloc ?_ _)); exact BK113.out⟩, ⟨by repeat (first | (with_reducible first | exact HB.out | apply below_alloc | apply pw_below_drewN | apply below_drew1 | refine below_set ?_ GE111.out | refine below_set ?_ GE113.out) | exact HB.out)⟩⟩
      case rest =>
       clear HC28
       try clear c1
       try clear c2
       try clear p2
       try clear c3
       try clear p6
       try clear c8
       try clear c10
       try clear c10b0
       try clear c10b1
       try clear c11
       try clear c13
       try clear c14
       try clear c17
       try clear c19
       try clear c19b0
       try clear c19b1
       try clear c20
       try clear c22
       try clear c22b0
       try clear c22b1
       try clear c23
       try clear c23b0
       try clear c23b1
       try clear c26
       try clear c29
       try clear c30
       try clear hcz12_0
       try clear hcz12_1
       try clear hcz12_2
       try clear hcz12_3
       try clear hcz15_0
       try clear hcz15_1
       try clear hcz15_2
       try clear hcz15_3
       try clear hcz18_0
       try clear hcz18_1
       try clear hcz18_2
       try clear hcz18_3
       try clear hcz21_0
       try clear hcz21_1
       try clear hcz21_2
       try clear hcz21_3
       try clear hcz27_0
       try clear hcz27_1
       try clear hcz27_2
       try clear hcz27_3
       try clear hcz9_0
       try clear hcz9_1
       try clear hcz9_2
       try clear hcz9_3
       try clear hfz12_0
       try clear hfz12_1
       try clear hfz12_2
       try clear hfz12_3
       try clear hfz15_0
       try clear hfz15_1
       try clear hfz15_2
       try clear hfz15_3
       try clear hfz18_0
       try clear hfz18_1
       try clear hfz18_2
       try clear hfz18_3
       try clear hfz21_0
       try clear hfz21_1
       try clear hfz21_2
       try clear hfz21_3
       try clear hfz27_0
       try clear hfz27_1
       try clear hfz27_2
       try clear hfz27_3
       try clear hfz9_0
       try clear hfz9_1
       try clear hfz9_2
       try clear hfz9_3
       try clear p2
       try clear p6
       obtain ⟨kq, x70_27, rfl, HA, HJ27, BK111, BK113, HB⟩ := hcut
       cases kq with
       | zero => exact absurd HA.out (by simp [atlasref06_mapped.j2])
       | succ kj27 =>
        have H := HA.out
        clear HA
        simp only [atlasref06_mapped.j2] at H
        by_cases c32 : x70_27 = true
        ·
         subst c32
         have H1 : (some (t112, x114001_15, x114002_15, 1, 0)) = some (r1, r2, r3, r4, r5) := by rw [if_pos rfl] at H; exact H
         clear H
         have H := H1
         clear H1
         simp only [Option.some.injEq, Prod.mk.injEq] at H
         obtain ⟨rfl, rfl, rfl, rfl, rfl⟩ := H
         have hnb33 := NB113_111.out
         have hnc33 := NB111_113.out
         have hcz34_0 : wc.cell? ⟨gb113, 0, none⟩ = some (.int .i64 t112) := (blk_cell BK113.out 0).trans rfl
         have hcz34_1 : wc.cell? ⟨gb113, 1, none⟩ = some (.int .i64 x114001_15) := (blk_cell BK113.out 1).trans rfl
         have hcz34_2 : wc.cell? ⟨gb113, 2, none⟩ = some (.int .i64 x114002_15) := (blk_cell BK113.out 2).trans rfl
         have hcz34_3 : wc.cell? ⟨gb113, 3, none⟩ = some (.int .i64 0) := (blk_cell BK113.out 3).trans rfl
         have hfz34_0 := blk_frozen BK113.out 0
         have hfz34_1 := blk_frozen BK113.out 1
         have hfz34_2 := blk_frozen BK113.out 2
         have hfz34_3 := blk_frozen BK113.out 3
         have hcz35_0 : wc.cell? ⟨gb111, 0, none⟩ = some (.int .i64 x112000_15) := (blk_cell BK111.out 0).trans rfl
         have hcz35_1 : wc.cell? ⟨gb111, 1, none⟩ = some (.int .i64 x112001_15) := (blk_cell BK111.out 1).trans rfl
         have hcz35_2 : wc.cell? ⟨gb111, 2, none⟩ = some (.int .i64 x112002_15) := (blk_cell BK111.out 2).trans rfl
         have hcz35_3 : wc.cell? ⟨gb111, 3, none⟩ = some (.int .i64 x112003_15) := (blk_cell BK111.out 3).trans rfl
         have hfz35_0 := blk_frozen BK111.out 0
         have hfz35_1 := blk_frozen BK111.out 1
         have hfz35_2 := blk_frozen BK111.out 2
         have hfz35_3 := blk_frozen BK111.out 3
         go_wp2
         refine bodyPost_ret (results_ct rfl _ _ gb111 24 #[.int .i64 t112, .int .i64 x114001_15, .int .i64 x114002_15, .int .i64 1] (0, 0) _ rfl (by (with_reducible repeat (first | refine blk_drewN ?_ _ | refine blk_drew ?_ | refine blk_alloc ?_ _)); refine blk_put (cs := #[.int .i64 t112, .int .i64 x114001_15, .int .i64 x114002_15, .int .i64 x112003_15]) ?_ 3 _ rfl; (with_reducible repeat (first | refine blk_drewN ?_ _ | refine blk_drew ?_ | refine blk_alloc ?_ _)); refine blk_put (cs := #[.int .i64 t112, .int .i64 x114001_15, .int .i64 x112002_15, .int .i64 x112003_15]) ?_ 2 _ rfl; (with_reducible repeat (first | refine blk_drewN ?_ _ | refine blk_drew ?_ | refine blk_alloc ?_ _)); refine blk_put (cs := #[.int .i64 t112, .int .i64 x112001_15, .int .i64 x112002_15, .int .i64 x112003_15]) ?_ 1 _ rfl; (with_reducible repeat (first | refine blk_drewN ?_ _ | refine blk_drew ?_ | refine blk_alloc ?_ _)); refine blk_put (cs := #[.int .i64 x112000_15, .int .i64 x112001_15, .int .i64 x112002_15, .int .i64 x112003_15]) ?_ 0 _ rfl; (with_reducible repeat (first | refine blk_drewN ?_ _ | refine blk_drew ?_ | refine blk_alloc ?_ _)); refine blk_far ?_ NB111_113.out _; (with_reducible repeat (first | refine blk_drewN ?_ _ | refine blk_drew ?_ | refine blk_alloc ?_ _)); exact BK111.out) Tryd.underlying24 rfl (by kernel_rfl)) rfl ?_
         exact ⟨by first | rfl | (simp [errW_none, errW_some] <;> rfl) | (simp [*, errW_none, errW_some] <;> rfl) | (simp [*, errW_none, errW_some] <;> exact isEmpty_ne _), by repeat (first | (with_reducible first | exact HB.out | apply below_alloc | apply pw_below_drewN | apply below_drew1 | refine below_set ?_ GE111.out | refine below_set ?_ GE113.out) | exact HB.out)⟩
        ·
         replace c32 := Bool.eq_false_iff.mpr c32
         subst c32
         have H1 : ((atlasref06_set.f a0 x10_15).bind fun t118 => (if t118 = true then (some (t112, x114001_15, x114002_15, 2, 0)) else (some (t112, x114001_15, x114002_15, 0, 0)))) = some (r1, r2, r3, r4, r5) := by rw [if_neg (show ¬ (false = true) by decide)] at H; exact H
         clear H
         have H := H1
         clear H1
         replace H := Option.bind_eq_some_iff.mp H
         obtain ⟨t118, A360, H⟩ := H
         replace H : (if t118 = true then (some (t112, x114001_15, x114002_15, 2, 0)) else (some (t112, x114001_15, x114002_15, 0, 0))) = some (r1, r2, r3, r4, r5) := H
         have A36 := Aside0.mk A360
         clear A360
         by_cases c37 : t118 = true
         ·
          subst c37
          have H1 : (some (t112, x114001_15, x114002_15, 2, 0)) = some (r1, r2, r3, r4, r5) := by rw [if_pos rfl] at H; exact H
          clear H
          have H := H1
          clear H1
          simp only [Option.some.injEq, Prod.mk.injEq] at H
          obtain ⟨rfl, rfl, rfl, rfl, rfl⟩ := H
          go_wp2_with (first | ((with_reducible refine gate_callee (f := 30) rfl ?_); refine goesL_ (some 74) rfl rfl Tryd.func30 (by kernel_rfl) rfl #[.int .u32 a0, .int .i64 x10_15] rfl (by (try simp only [List.map_toArray, List.map_cons, List.map_nil]); first | done | rfl | (simp only [List.length_drop, List.length_take]; rfl)) ?_; (with_reducible refine (atlasref06_set.calls a0 x10_15 true _ A36.out).mono ?_); rintro e w' ⟨rfl, ⟨nd, rfl⟩⟩; refine ⟨_, rfl, ?_⟩; (try (rw [drewN_self wc]; generalize hq_ : World.drewN wc _ = wc; have n0_ : Aside0 (wc.heap[gb111]? = some (.cells #[.int .i64 x112000_15, .int .i64 x112001_15, .int .i64 x112002_15, .int .i64 x112003_15] 24 (0, 0))) := ⟨by rw [← hq_]; exact (by (with_reducible repeat (first | refine blk_drewN ?_ _ | refine blk_drew ?_ | refine blk_alloc ?_ _)); exact BK111.out)⟩; have n1_ : Aside0 (wc.heap[gb113]? = some (.cells #[.int .i64 t112, .int .i64 x114001_15, .int .i64 x114002_15, .int .i64 0] 24 (0, 0))) := ⟨by rw [← hq_]; exact (by (with_reducible repeat (first | refine blk_drewN ?_ _ | refine blk_drew ?_ | refine blk_alloc ?_ _)); exact BK113.out)⟩; have n2_ : Aside0 (Below w.heap.size w wc) := ⟨by rw [← hq_]; exact (by repeat (first | (with_reducible first | exact HB.out | apply below_alloc | apply pw_below_drewN | apply below_drew1 | refine below_set ?_ GE111.out | refine below_set ?_ GE113.out) | exact HB.out))⟩; clear BK111 BK113 HB hq_; have BK111 := n0_; have BK113 := n1_; have HB := n2_; clear n0_ n1_ n2_)); have hnb38 := NB113_111.out; have hnc38 := NB111_113.out; have hcz39_0 : wc.cell? ⟨gb113, 0, none⟩ = some (.int .i64 t112) := (blk_cell BK113.out 0).trans rfl; have hcz39_1 : wc.cell? ⟨gb113, 1, none⟩ = some (.int .i64 x114001_15) := (blk_cell BK113.out 1).trans rfl; have hcz39_2 : wc.cell? ⟨gb113, 2, none⟩ = some (.int .i64 x114002_15) := (blk_cell BK113.out 2).trans rfl; have hcz39_3 : wc.cell? ⟨gb113, 3, none⟩ = some (.int .i64 0) := (blk_cell BK113.out 3).trans rfl; have hfz39_0 := blk_frozen BK113.out 0; have hfz39_1 := blk_frozen BK113.out 1; have hfz39_2 := blk_frozen BK113.out 2; have hfz39_3 := blk_frozen BK113.out 3; have hcz40_0 : wc.cell? ⟨gb111, 0, none⟩ = some (.int .i64 x112000_15) := (blk_cell BK111.out 0).trans rfl; have hcz40_1 : wc.cell? ⟨gb111, 1, none⟩ = some (.int .i64 x112001_15) := (blk_cell BK111.out 1).trans rfl; have hcz40_2 : wc.cell? ⟨gb111, 2, none⟩ = some (.int .i64 x112002_15) := (blk_cell BK111.out 2).trans rfl; have hcz40_3 : wc.cell? ⟨gb111, 3, none⟩ = some (.int .i64 x112003_15) := (blk_cell BK111.out 3).trans rfl; have hfz40_0 := blk_frozen BK111.out 0; have hfz40_1 := blk_frozen BK111.out 1; have hfz40_2 := blk_frozen BK111.out 2; have hfz40_3 := blk_frozen BK111.out 3))
          refine bodyPost_ret (results_ct rfl _ _ gb111 24 #[.int .i64 t112, .int .i64 x114001_15, .int .i64 x114002_15, .int .i64 2] (0, 0) _ rfl (by (with_reducible repeat (first | refine blk_drewN ?_ _ | refine blk_drew ?_ | refine blk_alloc ?_ _)); refine blk_put (cs := #[.int .i64 t112, .int .i64 x114001_15, .int .i64 x114002_15, .int .i64 x112003_15]) ?_ 3 _ rfl; (with_reducible repeat (first | refine blk_drewN ?_ _ | refine blk_drew ?_ | refine blk_alloc ?_ _)); refine blk_put (cs := #[.int .i64 t112, .int .i64 x114001_15, .int .i64 x112002_15, .int .i64 x112003_15]) ?_ 2 _ rfl; (with_reducible repeat (first | refine blk_drewN ?_ _ | refine blk_drew ?_ | refine blk_alloc ?_ _)); refine blk_put (cs := #[.int .i64 t112, .int .i64 x112001_15, .int .i64 x112002_15, .int .i64 x112003_15]) ?_ 1 _ rfl; (with_reducible repeat (first | refine blk_drewN ?_ _ | refine blk_drew ?_ | refine blk_alloc ?_ _)); refine blk_put (cs := #[.int .i64 x112000_15, .int .i64 x112001_15, .int .i64 x112002_15, .int .i64 x112003_15]) ?_ 0 _ rfl; (with_reducible repeat (first | refine blk_drewN ?_ _ | refine blk_drew ?_ | refine blk_alloc ?_ _)); refine blk_far ?_ NB111_113.out _; (with_reducible repeat (first | refine blk_drewN ?_ _ | refine blk_drew ?_ | refine blk_alloc ?_ _)); exact BK111.out) Tryd.underlying24 rfl (by kernel_rfl)) rfl ?_
          exact ⟨by first | rfl | (simp [errW_none, errW_some] <;> rfl) | (simp [*, errW_none, errW_some] <;> rfl) | (simp [*, errW_none, errW_some] <;> exact isEmpty_ne _), by repeat (first | (with_reducible first | exact HB.out | apply below_alloc | apply pw_below_drewN | apply below_drew1 | refine below_set ?_ GE111.out | refine below_set ?_ GE113.out) | exact HB.out)⟩
         ·
          replace c37 := Bool.eq_false_iff.mpr c37
          subst c37
          have H1 : (some (t112, x114001_15, x114002_15, 0, 0)) = some (r1, r2, r3, r4, r5) := by rw [if_neg (show ¬ (false = true) by decide)] at H; exact H
          clear H
          have H := H1
          clear H1
          simp only [Option.some.injEq, Prod.mk.injEq] at H
          obtain ⟨rfl, rfl, rfl, rfl, rfl⟩ := H
          go_wp2_with (first | ((with_reducible refine gate_callee (f := 30) rfl ?_); refine goesL_ (some 74) rfl rfl Tryd.func30 (by kernel_rfl) rfl #[.int .u32 a0, .int .i64 x10_15] rfl (by (try simp only [List.map_toArray, List.map_cons, List.map_nil]); first | done | rfl | (simp only [List.length_drop, List.length_take]; rfl)) ?_; (with_reducible refine (atlasref06_set.calls a0 x10_15 false _ A36.out).mono ?_); rintro e w' ⟨rfl, ⟨nd, rfl⟩⟩; refine ⟨_, rfl, ?_⟩; (try (rw [drewN_self wc]; generalize hq_ : World.drewN wc _ = wc; have n0_ : Aside0 (wc.heap[gb111]? = some (.cells #[.int .i64 x112000_15, .int .i64 x112001_15, .int .i64 x112002_15, .int .i64 x112003_15] 24 (0, 0))) := ⟨by rw [← hq_]; exact (by (with_reducible repeat (first | refine blk_drewN ?_ _ | refine blk_drew ?_ | refine blk_alloc ?_ _)); exact BK111.out)⟩; have n1_ : Aside0 (wc.heap[gb113]? = some (.cells #[.int .i64 t112, .int .i64 x114001_15, .int .i64 x114002_15, .int .i64 0] 24 (0, 0))) := ⟨by rw [← hq_]; exact (by (with_reducible repeat (first | refine blk_drewN ?_ _ | refine blk_drew ?_ | refine blk_alloc ?_ _)); exact BK113.out)⟩; have n2_ : Aside0 (Below w.heap.size w wc) := ⟨by rw [← hq_]; exact (by repeat (first | (with_reducible first | exact HB.out | apply below_alloc | apply pw_below_drewN | apply below_drew1 | refine below_set ?_ GE111.out | refine below_set ?_ GE113.out) | exact HB.out))⟩; clear BK111 BK113 HB hq_; have BK111 := n0_; have BK113 := n1_; have HB := n2_; clear n0_ n1_ n2_)); have hnb41 := NB113_111.out; have hnc41 := NB111_113.out; have hcz42_0 : wc.cell? ⟨gb113, 0, none⟩ = some (.int .i64 t112) := (blk_cell BK113.out 0).trans rfl; have hcz42_1 : wc.cell? ⟨gb113, 1, none⟩ = some (.int .i64 x114001_15) := (blk_cell BK113.out 1).trans rfl; have hcz42_2 : wc.cell? ⟨gb113, 2, none⟩ = some (.int .i64 x114002_15) := (blk_cell BK113.out 2).trans rfl; have hcz42_3 : wc.cell? ⟨gb113, 3, none⟩ = some (.int .i64 0) := (blk_cell BK113.out 3).trans rfl; have hfz42_0 := blk_frozen BK113.out 0; have hfz42_1 := blk_frozen BK113.out 1; have hfz42_2 := blk_frozen BK113.out 2; have hfz42_3 := blk_frozen BK113.out 3; have hcz43_0 : wc.cell? ⟨gb111, 0, none⟩ = some (.int .i64 x112000_15) := (blk_cell BK111.out 0).trans rfl; have hcz43_1 : wc.cell? ⟨gb111, 1, none⟩ = some (.int .i64 x112001_15) := (blk_cell BK111.out 1).trans rfl; have hcz43_2 : wc.cell? ⟨gb111, 2, none⟩ = some (.int .i64 x112002_15) := (blk_cell BK111.out 2).trans rfl; have hcz43_3 : wc.cell? ⟨gb111, 3, none⟩ = some (.int .i64 x112003_15) := (blk_cell BK111.out 3).trans rfl; have hfz43_0 := blk_frozen BK111.out 0; have hfz43_1 := blk_frozen BK111.out 1; have hfz43_2 := blk_frozen BK111.out 2; have hfz43_3 := blk_frozen BK111.out 3))
          refine bodyPost_ret (results_ct rfl _ _ gb111 24 #[.int .i64 t112, .int .i64 x114001_15, .int .i64 x114002_15, .int .i64 0] (0, 0) _ rfl (by (with_reducible repeat (first | refine blk_drewN ?_ _ | refine blk_drew ?_ | refine blk_alloc ?_ _)); refine blk_put (cs := #[.int .i64 t112, .int .i64 x114001_15, .int .i64 x114002_15, .int .i64 x112003_15]) ?_ 3 _ rfl; (with_reducible repeat (first | refine blk_drewN ?_ _ | refine blk_drew ?_ | refine blk_alloc ?_ _)); refine blk_put (cs := #[.int .i64 t112, .int .i64 x114001_15, .int .i64 x112002_15, .int .i64 x112003_15]) ?_ 2 _ rfl; (with_reducible repeat (first | refine blk_drewN ?_ _ | refine blk_drew ?_ | refine blk_alloc ?_ _)); refine blk_put (cs := #[.int .i64 t112, .int .i64 x112001_15, .int .i64 x112002_15, .int .i64 x112003_15]) ?_ 1 _ rfl; (with_reducible repeat (first | refine blk_drewN ?_ _ | refine blk_drew ?_ | refine blk_alloc ?_ _)); refine blk_put (cs := #[.int .i64 x112000_15, .int .i64 x112001_15, .int .i64 x112002_15, .int .i64 x112003_15]) ?_ 0 _ rfl; (with_reducible repeat (first | refine blk_drewN ?_ _ | refine blk_drew ?_ | refine blk_alloc ?_ _)); exact BK111.out) Tryd.underlying24 rfl (by kernel_rfl)) rfl ?_
          exact ⟨by first | rfl | (simp [errW_none, errW_some] <;> rfl) | (simp [*, errW_none, errW_some] <;> rfl) | (simp [*, errW_none, errW_some] <;> exact isEmpty_ne _), by repeat (first | (with_reducible first | exact HB.out | apply below_alloc | apply pw_below_drewN | apply below_drew1 | refine below_set ?_ GE111.out | refine below_set ?_ GE113.out) | exact HB.out)⟩

end Go.Proofs.YtkljijkejbfopaaDoor.S
