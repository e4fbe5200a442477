-- Written by a program of this session (wip/xprint.py), over the kit's print. Not trusted: Lean checks it.
import Derived.Test.YtkljijkejbfopaaDoorS0
namespace Go.Proofs.YtkljijkejbfopaaDoor.S
open Go.Proofs.YtkljijkejbfopaaDoorG
open Go.RowKit Go.Proofs.YtkljijkejbfopaaDoorW.PrintWords Go.Proofs.YtkljijkejbfopaaDoorW.PrintLast Go.Proofs.YtkljijkejbfopaaDoorW.PrintMore
attribute [local go_sem] max2_int min2_int max_two min_two max_three min_three max_four min_four   -- for this text's walks alone
set_option linter.unusedVariables false
set_option linter.unusedSimpArgs false

/-! ### attr_remapped: function 22 -/
mutual
def attr_remapped.j0 : Nat → Int → Int → Int → Int → Bool → Int → Int → Int → Int → Option (Int × Int × Int × Int × Int)
 | 0, _, _, _, _, _, _, _, _, _ => none
 | k + 1, x0, x1, x2, x8, x27, x103000, x103001, x103002, x103003 => if x27 = true then (some (0, 0, 0, 0, 61)) else (if x103000 = 0 then (some (x103000, x103001, x103002, 2, 0)) else (if x103000 = 2 then (attr_remapped.j1 k x0 x2 x8 18 x103000 (wrap64 (Go.bits .and .u32 (shr .u32 x1 ((2 * x8) % 4294967296)) 3)) (wrap64 (Go.bits .and .u32 (shr .u32 x1 ((((2 * x8) % 4294967296) + 16) % 4294967296)) 3)) x103003) else (attr_remapped.j1 k x0 x2 x8 16 x103000 x103001 x103002 x103003)))
def attr_remapped.j1 : Nat → Int → Int → Int → Int → Int → Int → Int → Int → Option (Int × Int × Int × Int × Int)
 | 0, _, _, _, _, _, _, _, _ => none
 | k + 1, x0, x2, x8, x10, x103000, x103001, x103002, x103003 => if (Go.bits .and .u32 (shr .u32 x0 ((x10 + (Go.bits .and .u32 x2 1)) % 4294967296)) 1) = 1 then (if (Go.bits .and .u32 (shr .u32 x0 ((24 + x8) % 4294967296)) 1) = 1 then (some (x103000, x103001, x103002, 1, 0)) else (some (x103000, x103001, x103002, 2, 0))) else (some (x103000, x103001, x103002, x103003, 0))
end
def attr_remapped.f (k : Nat) (a0 : Int) (a1 : Int) (a2 : Int) : Option (Int × Int × Int × Int × Int) := if (Go.bits .and .u32 (a2 / 2) 7) = 6 then (attr_remapped.j0 k a0 a1 a2 (Go.bits .and .u32 (a2 / 2) 7) true (wrap64 (Go.bits .and .u32 (shr .u32 a0 ((2 * (Go.bits .and .u32 (a2 / 2) 7)) % 4294967296)) 3)) 0 0 0) else (attr_remapped.j0 k a0 a1 a2 (Go.bits .and .u32 (a2 / 2) 7) ((wrap64 (Go.bits .and .u32 (shr .u32 a0 ((2 * (Go.bits .and .u32 (a2 / 2) 7)) % 4294967296)) 3)) == 3) (wrap64 (Go.bits .and .u32 (shr .u32 a0 ((2 * (Go.bits .and .u32 (a2 / 2) 7)) % 4294967296)) 3)) 0 0 0)
theorem attr_remapped.mono_l : ∀ k, (∀ y0 y1 y2 y3 y4 y5 y6 y7 y8, LeO (attr_remapped.j0 k y0 y1 y2 y3 y4 y5 y6 y7 y8) (attr_remapped.j0 (k + 1) y0 y1 y2 y3 y4 y5 y6 y7 y8)) ∧ (∀ y0 y1 y2 y3 y4 y5 y6 y7, LeO (attr_remapped.j1 k y0 y1 y2 y3 y4 y5 y6 y7) (attr_remapped.j1 (k + 1) y0 y1 y2 y3 y4 y5 y6 y7))
 | 0 => ⟨fun _ _ _ _ _ _ _ _ _ r h => by simp [attr_remapped.j0] at h, fun _ _ _ _ _ _ _ _ r h => by simp [attr_remapped.j1] at h⟩
 | k + 1 => by
  obtain ⟨ih0, ih1⟩ := attr_remapped.mono_l k
  refine ⟨?_, ?_⟩
  ·
   intro y0 y1 y2 y3 y4 y5 y6 y7 y8
   unfold attr_remapped.j0
   repeat' first
   | (with_reducible exact ih0 _ _ _ _ _ _ _ _ _)
   | (with_reducible exact ih1 _ _ _ _ _ _ _ _)
   | (with_reducible exact LeO.refl _)
   | (with_reducible exact LeO.none _)
   | (with_reducible refine LeO.ite ?_ ?_)
   | (with_reducible refine LeO.bind ?_ (fun _ => ?_))
   | exact ih0 _ _ _ _ _ _ _ _ _
   | exact ih1 _ _ _ _ _ _ _ _
   | exact LeO.none _
   | refine LeO.ite ?_ ?_
   | refine LeO.bind ?_ (fun _ => ?_)
  ·
   intro y0 y1 y2 y3 y4 y5 y6 y7
   unfold attr_remapped.j1
   repeat' first
   | (with_reducible exact ih0 _ _ _ _ _ _ _ _ _)
   | (with_reducible exact ih1 _ _ _ _ _ _ _ _)
   | (with_reducible exact LeO.refl _)
   | (with_reducible exact LeO.none _)
   | (with_reducible refine LeO.ite ?_ ?_)
   | (with_reducible refine LeO.bind ?_ (fun _ => ?_))
   | exact ih0 _ _ _ _ _ _ _ _ _
   | exact ih1 _ _ _ _ _ _ _ _
   | exact LeO.none _
   | refine LeO.ite ?_ ?_
   | refine LeO.bind ?_ (fun _ => ?_)
theorem attr_remapped.mono : ∀ a0 a1 a2 k, LeO (attr_remapped.f k a0 a1 a2) (attr_remapped.f (k + 1) a0 a1 a2) := by
 intro a0 a1 a2 k
 obtain ⟨ih0, ih1⟩ := attr_remapped.mono_l k
 unfold attr_remapped.f
 repeat' first
   | (with_reducible exact ih0 _ _ _ _ _ _ _ _ _)
   | (with_reducible exact ih1 _ _ _ _ _ _ _ _)
   | (with_reducible exact LeO.refl _)
   | (with_reducible exact LeO.none _)
   | (with_reducible refine LeO.ite ?_ ?_)
   | (with_reducible refine LeO.bind ?_ (fun _ => ?_))
   | exact ih0 _ _ _ _ _ _ _ _ _
   | exact ih1 _ _ _ _ _ _ _ _
   | exact LeO.none _
   | refine LeO.ite ?_ ?_
   | refine LeO.bind ?_ (fun _ => ?_)
set_option maxHeartbeats 8000000 in
set_option maxRecDepth 100000 in
theorem attr_remapped.calls (k : Nat) (a0 : Int) (a1 : Int) (a2 : Int) (r1 : Int) (r2 : Int) (r3 : Int) (r4 : Int) (r5 : Int) (w : World) (h : attr_remapped.f k a0 a1 a2 = some (r1, r2, r3, r4, r5)) :
  Calls Tryd.prog 22 #[.int .u32 a0, .int .u32 a1, .int .u32 a2] w fun e w' => e = .returned (.tuple #[.agg #[.int .i64 r1, .int .i64 r2, .int .i64 r3, .int .i64 r4], .int .i64 r5]) ∧ Below w.heap.size w w' := by
 have hu24 := Tryd.underlying24
 have HB := Aside0.mk (Below.refl w.heap.size w)
 have H : (if (Go.bits .and .u32 (a2 / 2) 7) = 6 then (attr_remapped.j0 k a0 a1 a2 (Go.bits .and .u32 (a2 / 2) 7) true (wrap64 (Go.bits .and .u32 (shr .u32 a0 ((2 * (Go.bits .and .u32 (a2 / 2) 7)) % 4294967296)) 3)) 0 0 0) else (attr_remapped.j0 k a0 a1 a2 (Go.bits .and .u32 (a2 / 2) 7) ((wrap64 (Go.bits .and .u32 (shr .u32 a0 ((2 * (Go.bits .and .u32 (a2 / 2) 7)) % 4294967296)) 3)) == 3) (wrap64 (Go.bits .and .u32 (shr .u32 a0 ((2 * (Go.bits .and .u32 (a2 / 2) 7)) % 4294967296)) 3)) 0 0 0)) = some (r1, r2, r3, r4, r5) := h
 clear h
 obtain ⟨ji4, hji4⟩ : ∃ j_ : Int, (shr .u32 a0 ((2 * (Go.bits .and .u32 (a2 / 2) 7)) % 4294967296)) = j_ := ⟨_, rfl⟩
 replace H : (if (Go.bits .and .u32 (a2 / 2) 7) = 6 then (attr_remapped.j0 k a0 a1 a2 (Go.bits .and .u32 (a2 / 2) 7) true (wrap64 (Go.bits .and .u32 (ji4) 3)) 0 0 0) else (attr_remapped.j0 k a0 a1 a2 (Go.bits .and .u32 (a2 / 2) 7) ((wrap64 (Go.bits .and .u32 (ji4) 3)) == 3) (wrap64 (Go.bits .and .u32 (ji4) 3)) 0 0 0)) = some (r1, r2, r3, r4, r5) := by first | (rw [hji4] at H; exact H) | (simp only [hji4] at H ⊢; exact H)
 (try have hji4n : (0 ≤ ((2 * (Go.bits .and .u32 (a2 / 2) 7)) % 4294967296)) = True := eq_true (by omega))
 have hji4_ : (a0 / 2 ^ min ((2 * (Go.bits .and .u32 (a2 / 2) 7)) % 4294967296).toNat 32) = ji4 := hji4
 have hji4z : ((2 * (Go.bits .and .u32 (a2 / 2) 7)) % 4294967296) ≤ 32 → (a0 / 2 ^ ((2 * (Go.bits .and .u32 (a2 / 2) 7)) % 4294967296).toNat) = ji4 := shr_small hji4
 have HC5 := Aside0.mk H
 clear H
 go_enter Tryd.func22, Tryd.ntmps22
 go_upto_region 3 with (first | ((with_reducible refine gate_dst (N := 6) rfl ?_); refine box_event ?hg (N := 6) ?hd (cs := #[.int .i64 0, .int .i64 0, .int .i64 0, .int .i64 0]) (t := 24) ?hr ?_; (case hd => rfl); (case hg => rfl); (case hr => first | (go_simp; done) | (go_simp; rfl)); intro gb101 hg w6 hbox hb; have n0_ := Aside0.mk (below_step (by repeat (first | (with_reducible first | exact HB.out | apply below_alloc | apply pw_below_drewN | apply below_drew1) | exact HB.out)) hb); have n1_ := Aside0.mk (hbox); have n2_ := Aside0.mk ((by rw [hg]; exact (below_size (by repeat (first | (with_reducible first | exact HB.out | apply below_alloc | apply pw_below_drewN | apply below_drew1) | exact HB.out))) : w.heap.size ≤ gb101)); have n3_ := Aside0.mk ((by rw [hg]; exact (below_size (by repeat (first | (with_reducible first | exact HB.out | apply below_alloc | apply pw_below_drewN | apply below_drew1) | exact HB.out))) : w.heap.size ≤ gb101)); clear HB; have HB := n0_; have BK101 := n1_; have GW101 := n2_; have GE101 := n3_; clear n0_ n1_ n2_ n3_; clear hb hbox hg) | ((with_reducible refine gate_dst (N := 9) rfl ?_); refine box_event ?hg (N := 9) ?hd (cs := #[.int .i64 0, .int .i64 0, .int .i64 0, .int .i64 0]) (t := 24) ?hr ?_; (case hd => rfl); (case hg => rfl); (case hr => first | (go_simp; done) | (go_simp; rfl)); intro gb102 hg w7 hbox hb; have n0_ := Aside0.mk (blk_below (g := gb101) (o := .cells #[.int .i64 0, .int .i64 0, .int .i64 0, .int .i64 0] 24 (0, 0)) (by (with_reducible repeat (first | refine blk_drewN ?_ _ | refine blk_drew ?_ | refine blk_alloc ?_ _)); exact BK101.out) hb); have n1_ := Aside0.mk (below_step (by repeat (first | (with_reducible first | exact HB.out | apply below_alloc | apply pw_below_drewN | apply below_drew1 | refine below_set ?_ GE101.out) | exact HB.out)) hb); have n2_ := Aside0.mk (hbox); have n3_ := Aside0.mk ((by rw [hg]; exact (below_size (by repeat (first | (with_reducible first | exact HB.out | apply below_alloc | apply pw_below_drewN | apply below_drew1 | refine below_set ?_ GE101.out) | exact HB.out))) : w.heap.size ≤ gb102)); have n4_ := Aside0.mk ((by rw [hg]; exact (below_size (by repeat (first | (with_reducible first | exact HB.out | apply below_alloc | apply pw_below_drewN | apply below_drew1 | refine below_set ?_ GE101.out) | exact HB.out))) : w.heap.size ≤ gb102)); have n5_ := Aside0.mk ((by rw [hg]; exact Nat.ne_of_lt (blk_lt (g := gb101) (o := .cells #[.int .i64 0, .int .i64 0, .int .i64 0, .int .i64 0] 24 (0, 0)) (by (with_reducible repeat (first | refine blk_drewN ?_ _ | refine blk_drew ?_ | refine blk_alloc ?_ _)); exact BK101.out)) : gb101 ≠ gb102)); have n6_ := Aside0.mk ((by rw [hg]; exact Nat.ne_of_gt (blk_lt (g := gb101) (o := .cells #[.int .i64 0, .int .i64 0, .int .i64 0, .int .i64 0] 24 (0, 0)) (by (with_reducible repeat (first | refine blk_drewN ?_ _ | refine blk_drew ?_ | refine blk_alloc ?_ _)); exact BK101.out)) : gb102 ≠ gb101)); clear BK101; clear HB; have BK101 := n0_; have HB := n1_; have BK102 := n2_; have GW102 := n3_; have GE102 := n4_; have NB101_102 := n5_; have NB102_101 := n6_; clear n0_ n1_ n2_ n3_ n4_ n5_ n6_; clear hb hbox hg; have hnb8 := NB102_101.out; have hnc8 := NB101_102.out; have hcz9_0 : w7.cell? ⟨gb102, 0, none⟩ = some (.int .i64 0) := (blk_cell BK102.out 0).trans rfl; have hcz9_1 : w7.cell? ⟨gb102, 1, none⟩ = some (.int .i64 0) := (blk_cell BK102.out 1).trans rfl; have hcz9_2 : w7.cell? ⟨gb102, 2, none⟩ = some (.int .i64 0) := (blk_cell BK102.out 2).trans rfl; have hcz9_3 : w7.cell? ⟨gb102, 3, none⟩ = some (.int .i64 0) := (blk_cell BK102.out 3).trans rfl; have hfz9_0 := blk_frozen BK102.out 0; have hfz9_1 := blk_frozen BK102.out 1; have hfz9_2 := blk_frozen BK102.out 2; have hfz9_3 := blk_frozen BK102.out 3))
 (try simp only [Act.put, List.setIfInBounds_toArray, List.set_cons_zero, List.set_cons_succ])
 go_cut [27] (fun v27 wc => ∃ (kq : Nat) (x27_4 : Bool), v27 = .bool x27_4 ∧ Aside0 (attr_remapped.j0 kq a0 a1 a2 (Go.bits .and .u32 (a2 / 2) 7) x27_4 (wrap64 (Go.bits .and .u32 (ji4) 3)) 0 0 0 = some (r1, r2, r3, r4, r5)) ∧ Aside0 (kq ≤ k) ∧ Aside0 (wc.heap[gb101]? = some (.cells #[.int .i64 0, .int .i64 0, .int .i64 0, .int .i64 0] 24 (0, 0))) ∧ Aside0 (wc.heap[gb102]? = some (.cells #[.int .i64 (wrap64 (Go.bits .and .u32 (ji4) 3)), .int .i64 0, .int .i64 0, .int .i64 0] 24 (0, 0))) ∧ Aside0 (Below w.heap.size w wc))
 case first =>
  have H := HC5.out
  clear HC5
  by_cases c10 : (Go.bits .and .u32 (a2 / 2) 7) = 6
  ·
   rw [if_pos c10] at H
   have c10b0 : ((Go.bits .and .u32 (a2 / 2) 7) == 6) = true := beq_iff_eq.mpr c10
   have c10b1 : ((Go.bits .and .u32 (a2 / 2) 7) != 6) = false := bne_eq_false_iff_eq.mpr c10
   clear c10
   (first | rw [c10b0] | (simp only [i64_w, i32_w]; rw [c10b0]) | skip)
   have H' := Aside0.mk H
   clear H
   go_wp2
   go_meet
   case rel => exact ⟨_, (true), (by first | rfl | (simp; done) | (simp [*]; done)), H', ⟨by first | omega | exact Nat.le_refl _⟩, ⟨by (with_reducible repeat (first | refine blk_drewN ?_ _ | refine blk_drew ?_ | refine blk_alloc ?_ _)); refine blk_far ?_ NB101_102.out _; (with_reducible repeat (first | refine blk_drewN ?_ _ | refine blk_drew ?_ | refine blk_alloc ?_ _)); refine blk_far ?_ NB101_102.out _; (with_reducible repeat (first | refine blk_drewN ?_ _ | refine blk_drew ?_ | refine blk_alloc ?_ _)); refine blk_far ?_ NB101_102.out _; (with_reducible repeat (first | refine blk_drewN ?_ _ | refine blk_drew ?_ | refine blk_alloc ?_ _)); refine blk_far ?_ NB101_102.out _; (with_reducible repeat (first | refine blk_drewN ?_ _ | refine blk_drew ?_ | refine blk_alloc ?_ _)); exact BK101.out⟩, ⟨by (with_reducible repeat (first | refine blk_drewN ?_ _ | refine blk_drew ?_ | refine blk_alloc ?_ _)); refine blk_put (cs := #[.int .i64 (wrap64 (Go.bits .and .u32 (ji4) 3)), .int .i64 0, .int .i64 0, .int .i64 0]) ?_ 3 _ rfl; (with_reducible repeat (first | refine blk_drewN ?_ _ | refine blk_drew ?_ | refine blk_alloc ?_ _)); refine blk_put (cs := #[.int .i64 (wrap64 (Go.bits .and .u32 (ji4) 3)), .int .i64 0, .int .i64 0, .int .i64 0]) ?_ 2 _ rfl; (with_reducible repeat (first | refine blk_drewN ?_ _ | refine blk_drew ?_ | refine blk_alloc ?_ _)); refine blk_put (cs := #[.int .i64 (wrap64 (Go.bits .and .u32 (ji4) 3)), .int .i64 0, .int .i64 0, .int .i64 0]) ?_ 1 _ rfl; (with_reducible repeat (first | refine blk_drewN ?_ _ | refine blk_drew ?_ | refine blk_alloc ?_ _)); refine blk_put (cs := #[.int .i64 0, .int .i64 0, .int .i64 0, .int .i64 0]) ?_ 0 _ rfl; (with_reducible repeat (first | refine blk_drewN ?_ _ | refine blk_drew ?_ | refine blk_alloc ?_ _)); exact BK102.out⟩, ⟨by repeat (first | (with_reducible first | exact HB.out | apply below_alloc | apply pw_below_drewN | apply below_drew1 | refine below_set ?_ GE101.out | refine below_set ?_ GE102.out) | exact HB.out)⟩⟩
  ·
   rw [if_neg c10] at H
   have c10b0 : ((Go.bits .and .u32 (a2 / 2) 7) == 6) = false := beq_eq_false_iff_ne.mpr c10
   have c10b1 : ((Go.bits .and .u32 (a2 / 2) 7) != 6) = true := bne_iff_ne.mpr c10
   (first | rw [c10b0] | (simp only [i64_w, i32_w]; rw [c10b0]) | skip)
   have H' := Aside0.mk H
   clear H
   have hnb11 := NB102_101.out
   have hnc11 := NB101_102.out
   have hcz12_0 : w7.cell? ⟨gb102, 0, none⟩ = some (.int .i64 0) := (blk_cell BK102.out 0).trans rfl
   have hcz12_1 : w7.cell? ⟨gb102, 1, none⟩ = some (.int .i64 0) := (blk_cell BK102.out 1).trans rfl
   have hcz12_2 : w7.cell? ⟨gb102, 2, none⟩ = some (.int .i64 0) := (blk_cell BK102.out 2).trans rfl
   have hcz12_3 : w7.cell? ⟨gb102, 3, none⟩ = some (.int .i64 0) := (blk_cell BK102.out 3).trans rfl
   have hfz12_0 := blk_frozen BK102.out 0
   have hfz12_1 := blk_frozen BK102.out 1
   have hfz12_2 := blk_frozen BK102.out 2
   have hfz12_3 := blk_frozen BK102.out 3
   go_wp2
   go_meet
   case rel => exact ⟨_, (((wrap64 (Go.bits .and .u32 (ji4) 3)) == 3)), (by first | rfl | (simp; done) | (simp only [← hji4] <;> (first | rfl | simp)) | (simp [*]; done)), H', ⟨by first | omega | exact Nat.le_refl _⟩, ⟨by (with_reducible repeat (first | refine blk_drewN ?_ _ | refine blk_drew ?_ | refine blk_alloc ?_ _)); refine blk_far ?_ NB101_102.out _; (with_reducible repeat (first | refine blk_drewN ?_ _ | refine blk_drew ?_ | refine blk_alloc ?_ _)); refine blk_far ?_ NB101_102.out _; (with_reducible repeat (first | refine blk_drewN ?_ _ | refine blk_drew ?_ | refine blk_alloc ?_ _)); refine blk_far ?_ NB101_102.out _; (with_reducible repeat (first | refine blk_drewN ?_ _ | refine blk_drew ?_ | refine blk_alloc ?_ _)); refine blk_far ?_ NB101_102.out _; (with_reducible repeat (first | refine blk_drewN ?_ _ | refine blk_drew ?_ | refine blk_alloc ?_ _)); exact BK101.out⟩, ⟨by (with_reducible repeat (first | refine blk_drewN ?_ _ | refine blk_drew ?_ | refine blk_alloc ?_ _)); refine blk_put (cs := #[.int .i64 (wrap64 (Go.bits .and .u32 (ji4) 3)), .int .i64 0, .int .i64 0, .int .i64 0]) ?_ 3 _ rfl; (with_reducible repeat (first | refine blk_drewN ?_ _ | refine blk_drew ?_ | refine blk_alloc ?_ _)); refine blk_put (cs := #[.int .i64 (wrap64 (Go.bits .and .u32 (ji4) 3)), .int .i64 0, .int .i64 0, .int .i64 0]) ?_ 2 _ rfl; (with_reducible repeat (first | refine blk_drewN ?_ _ | refine blk_drew ?_ | refine blk_alloc ?_ _)); refine blk_put (cs := #[.int .i64 (wrap64 (Go.bits .and .u32 (ji4) 3)), .int .i64 0, .int .i64 0, .int .i64 0]) ?_ 1 _ rfl; (with_reducible repeat (first | refine blk_drewN ?_ _ | refine blk_drew ?_ | refine blk_alloc ?_ _)); refine blk_put (cs := #[.int .i64 0, .int .i64 0, .int .i64 0, .int .i64 0]) ?_ 0 _ rfl; (with_reducible repeat (first | refine blk_drewN ?_ _ | refine blk_drew ?_ | refine blk_alloc ?_ _)); exact BK102.out⟩, ⟨by repeat (first | (with_reducible first | exact HB.out | apply below_alloc | apply pw_below_drewN | apply below_drew1 | refine below_set ?_ GE101.out | refine below_set ?_ GE102.out) | exact HB.out)⟩⟩
 case rest =>
  clear HC5
  try clear c1
  try clear c2
  try clear p2
  try clear p6
  try clear c8
  try clear c10
  try clear c10b0
  try clear c10b1
  try clear c11
  try clear hcz12_0
  try clear hcz12_1
  try clear hcz12_2
  try clear hcz12_3
  try clear hcz9_0
  try clear hcz9_1
  try clear hcz9_2
  try clear hcz9_3
  try clear hfz12_0
  try clear hfz12_1
  try clear hfz12_2
  try clear hfz12_3
  try clear hfz9_0
  try clear hfz9_1
  try clear hfz9_2
  try clear hfz9_3
  obtain ⟨kq, x27_4, rfl, HA, HJ4, BK101, BK102, HB⟩ := hcut
  cases kq with
  | zero => exact absurd HA.out (by simp [attr_remapped.j0])
  | succ kj4 =>
   have H := HA.out
   clear HA
   simp only [attr_remapped.j0] at H
   by_cases c13 : x27_4 = true
   ·
    subst c13
    have H1 : (some (0, 0, 0, 0, 61)) = some (r1, r2, r3, r4, r5) := by rw [if_pos rfl] at H; exact H
    clear H
    have H := H1
    clear H1
    simp only [Option.some.injEq, Prod.mk.injEq] at H
    obtain ⟨rfl, rfl, rfl, rfl, rfl⟩ := H
    have hnb14 := NB101_102.out
    have hnc14 := NB102_101.out
    have hcz15_0 : wc.cell? ⟨gb101, 0, none⟩ = some (.int .i64 0) := (blk_cell BK101.out 0).trans rfl
    have hcz15_1 : wc.cell? ⟨gb101, 1, none⟩ = some (.int .i64 0) := (blk_cell BK101.out 1).trans rfl
    have hcz15_2 : wc.cell? ⟨gb101, 2, none⟩ = some (.int .i64 0) := (blk_cell BK101.out 2).trans rfl
    have hcz15_3 : wc.cell? ⟨gb101, 3, none⟩ = some (.int .i64 0) := (blk_cell BK101.out 3).trans rfl
    have hfz15_0 := blk_frozen BK101.out 0
    have hfz15_1 := blk_frozen BK101.out 1
    have hfz15_2 := blk_frozen BK101.out 2
    have hfz15_3 := blk_frozen BK101.out 3
    go_wp2
    refine bodyPost_ret (results_ct rfl _ _ gb101 24 #[.int .i64 0, .int .i64 0, .int .i64 0, .int .i64 0] (0, 0) _ rfl (by (with_reducible repeat (first | refine blk_drewN ?_ _ | refine blk_drew ?_ | refine blk_alloc ?_ _)); refine blk_put (cs := #[.int .i64 0, .int .i64 0, .int .i64 0, .int .i64 0]) ?_ 3 _ rfl; (with_reducible repeat (first | refine blk_drewN ?_ _ | refine blk_drew ?_ | refine blk_alloc ?_ _)); refine blk_put (cs := #[.int .i64 0, .int .i64 0, .int .i64 0, .int .i64 0]) ?_ 2 _ rfl; (with_reducible repeat (first | refine blk_drewN ?_ _ | refine blk_drew ?_ | refine blk_alloc ?_ _)); refine blk_put (cs := #[.int .i64 0, .int .i64 0, .int .i64 0, .int .i64 0]) ?_ 1 _ rfl; (with_reducible repeat (first | refine blk_drewN ?_ _ | refine blk_drew ?_ | refine blk_alloc ?_ _)); refine blk_put (cs := #[.int .i64 0, .int .i64 0, .int .i64 0, .int .i64 0]) ?_ 0 _ rfl; (with_reducible repeat (first | refine blk_drewN ?_ _ | refine blk_drew ?_ | refine blk_alloc ?_ _)); exact BK101.out) Tryd.underlying24 rfl (by kernel_rfl)) rfl ?_
    exact ⟨by first | rfl | (simp [errW_none, errW_some] <;> rfl) | (simp only [← hji4]; first | rfl | (simp [errW_none, errW_some] <;> rfl)) | (simp [*, errW_none, errW_some] <;> rfl) | (simp [*, errW_none, errW_some] <;> exact isEmpty_ne _), by repeat (first | (with_reducible first | exact HB.out | apply below_alloc | apply pw_below_drewN | apply below_drew1 | refine below_set ?_ GE101.out | refine below_set ?_ GE102.out) | exact HB.out)⟩
   ·
    replace c13 := Bool.eq_false_iff.mpr c13
    subst c13
    have H1 : (if (wrap64 (Go.bits .and .u32 (ji4) 3)) = 0 then (some ((wrap64 (Go.bits .and .u32 (ji4) 3)), 0, 0, 2, 0)) else (if (wrap64 (Go.bits .and .u32 (ji4) 3)) = 2 then (attr_remapped.j1 kj4 a0 a2 (Go.bits .and .u32 (a2 / 2) 7) 18 (wrap64 (Go.bits .and .u32 (ji4) 3)) (wrap64 (Go.bits .and .u32 (shr .u32 a1 ((2 * (Go.bits .and .u32 (a2 / 2) 7)) % 4294967296)) 3)) (wrap64 (Go.bits .and .u32 (shr .u32 a1 ((((2 * (Go.bits .and .u32 (a2 / 2) 7)) % 4294967296) + 16) % 4294967296)) 3)) 0) else (attr_remapped.j1 kj4 a0 a2 (Go.bits .and .u32 (a2 / 2) 7) 16 (wrap64 (Go.bits .and .u32 (ji4) 3)) 0 0 0))) = some (r1, r2, r3, r4, r5) := by rw [if_neg (show ¬ (false = true) by decide)] at H; exact H
    clear H
    have H := H1
    clear H1
    have HC16 := Aside0.mk H
    clear H
    have hnb17 := NB102_101.out
    have hnc17 := NB101_102.out
    have hcz18_0 : wc.cell? ⟨gb102, 0, none⟩ = some (.int .i64 (wrap64 (Go.bits .and .u32 (ji4) 3))) := (blk_cell BK102.out 0).trans rfl
    have hcz18_1 : wc.cell? ⟨gb102, 1, none⟩ = some (.int .i64 0) := (blk_cell BK102.out 1).trans rfl
    have hcz18_2 : wc.cell? ⟨gb102, 2, none⟩ = some (.int .i64 0) := (blk_cell BK102.out 2).trans rfl
    have hcz18_3 : wc.cell? ⟨gb102, 3, none⟩ = some (.int .i64 0) := (blk_cell BK102.out 3).trans rfl
    have hfz18_0 := blk_frozen BK102.out 0
    have hfz18_1 := blk_frozen BK102.out 1
    have hfz18_2 := blk_frozen BK102.out 2
    have hfz18_3 := blk_frozen BK102.out 3
    go_upto_block 0 with (fail)
    go_cut [10] (fun v10 wc => ∃ (kq : Nat) (x10_15 : Int) (x102000_15 : Int) (x102001_15 : Int) (x102002_15 : Int) (x102003_15 : Int) (x103001_15 : Int) (x103002_15 : Int) (x103003_15 : Int), v10 = .int .u32 x10_15 ∧ Aside0 (attr_remapped.j1 kq a0 a2 (Go.bits .and .u32 (a2 / 2) 7) x10_15 (wrap64 (Go.bits .and .u32 (ji4) 3)) x103001_15 x103002_15 x103003_15 = some (r1, r2, r3, r4, r5)) ∧ Aside0 (kq ≤ kj4) ∧ Aside0 (wc.heap[gb101]? = some (.cells #[.int .i64 x102000_15, .int .i64 x102001_15, .int .i64 x102002_15, .int .i64 x102003_15] 24 (0, 0))) ∧ Aside0 (wc.heap[gb102]? = some (.cells #[.int .i64 (wrap64 (Go.bits .and .u32 (ji4) 3)), .int .i64 x103001_15, .int .i64 x103002_15, .int .i64 x103003_15] 24 (0, 0))) ∧ Aside0 (Below w.heap.size w wc))
    case first =>
     have H := HC16.out
     clear HC16
     by_cases c19 : (wrap64 (Go.bits .and .u32 (ji4) 3)) = 0
     ·
      rw [if_pos c19] at H
      have c19b0 : ((wrap64 (Go.bits .and .u32 (ji4) 3)) == 0) = true := beq_iff_eq.mpr c19
      have c19b1 : ((wrap64 (Go.bits .and .u32 (ji4) 3)) != 0) = false := bne_eq_false_iff_eq.mpr c19
      clear c19
      (first | rw [c19b0] | (simp only [i64_w, i32_w]; rw [c19b0]) | skip)
      simp only [Option.some.injEq, Prod.mk.injEq] at H
      obtain ⟨rfl, rfl, rfl, rfl, rfl⟩ := H
      have hnb20 := NB102_101.out
      have hnc20 := NB101_102.out
      have hcz21_0 : wc.cell? ⟨gb102, 0, none⟩ = some (.int .i64 (wrap64 (Go.bits .and .u32 (ji4) 3))) := (blk_cell BK102.out 0).trans rfl
      have hcz21_1 : wc.cell? ⟨gb102, 1, none⟩ = some (.int .i64 0) := (blk_cell BK102.out 1).trans rfl
      have hcz21_2 : wc.cell? ⟨gb102, 2, none⟩ = some (.int .i64 0) := (blk_cell BK102.out 2).trans rfl
      have hcz21_3 : wc.cell? ⟨gb102, 3, none⟩ = some (.int .i64 0) := (blk_cell BK102.out 3).trans rfl
      have hfz21_0 := blk_frozen BK102.out 0
      have hfz21_1 := blk_frozen BK102.out 1
      have hfz21_2 := blk_frozen BK102.out 2
      have hfz21_3 := blk_frozen BK102.out 3
      have hcz22_0 : wc.cell? ⟨gb101, 0, none⟩ = some (.int .i64 0) := (blk_cell BK101.out 0).trans rfl
      have hcz22_1 : wc.cell? ⟨gb101, 1, none⟩ = some (.int .i64 0) := (blk_cell BK101.out 1).trans rfl
      have hcz22_2 : wc.cell? ⟨gb101, 2, none⟩ = some (.int .i64 0) := (blk_cell BK101.out 2).trans rfl
      have hcz22_3 : wc.cell? ⟨gb101, 3, none⟩ = some (.int .i64 0) := (blk_cell BK101.out 3).trans rfl
      have hfz22_0 := blk_frozen BK101.out 0
      have hfz22_1 := blk_frozen BK101.out 1
      have hfz22_2 := blk_frozen BK101.out 2
      have hfz22_3 := blk_frozen BK101.out 3
      go_wp2
      refine bodyPost_ret (results_ct rfl _ _ gb101 24 #[.int .i64 (wrap64 (Go.bits .and .u32 (ji4) 3)), .int .i64 0, .int .i64 0, .int .i64 2] (0, 0) _ rfl (by (with_reducible repeat (first | refine blk_drewN ?_ _ | refine blk_drew ?_ | refine blk_alloc ?_ _)); refine blk_put (cs := #[.int .i64 (wrap64 (Go.bits .and .u32 (ji4) 3)), .int .i64 0, .int .i64 0, .int .i64 0]) ?_ 3 _ rfl; (with_reducible repeat (first | refine blk_drewN ?_ _ | refine blk_drew ?_ | refine blk_alloc ?_ _)); refine blk_put (cs := #[.int .i64 (wrap64 (Go.bits .and .u32 (ji4) 3)), .int .i64 0, .int .i64 0, .int .i64 0]) ?_ 2 _ rfl; (with_reducible repeat (first | refine blk_drewN ?_ _ | refine blk_drew ?_ | refine blk_alloc ?_ _)); refine blk_put (cs := #[.int .i64 (wrap64 (Go.bits .and .u32 (ji4) 3)), .int .i64 0, .int .i64 0, .int .i64 0]) ?_ 1 _ rfl; (with_reducible repeat (first | refine blk_drewN ?_ _ | refine blk_drew ?_ | refine blk_alloc ?_ _)); refine blk_put (cs := #[.int .i64 0, .int .i64 0, .int .i64 0, .int .i64 0]) ?_ 0 _ rfl; (with_reducible repeat (first | refine blk_drewN ?_ _ | refine blk_drew ?_ | refine blk_alloc ?_ _)); refine blk_far ?_ NB101_102.out _; (with_reducible repeat (first | refine blk_drewN ?_ _ | refine blk_drew ?_ | refine blk_alloc ?_ _)); exact BK101.out) Tryd.underlying24 rfl (by kernel_rfl)) rfl ?_
      exact ⟨by first | rfl | (simp [errW_none, errW_some] <;> rfl) | (simp only [← hji4]; first | rfl | (simp [errW_none, errW_some] <;> rfl)) | (simp [*, errW_none, errW_some] <;> rfl) | (simp [*, errW_none, errW_some] <;> exact isEmpty_ne _), by repeat (first | (with_reducible first | exact HB.out | apply below_alloc | apply pw_below_drewN | apply below_drew1 | refine below_set ?_ GE101.out | refine below_set ?_ GE102.out) | exact HB.out)⟩
     ·
      rw [if_neg c19] at H
      have c19b0 : ((wrap64 (Go.bits .and .u32 (ji4) 3)) == 0) = false := beq_eq_false_iff_ne.mpr c19
      have c19b1 : ((wrap64 (Go.bits .and .u32 (ji4) 3)) != 0) = true := bne_iff_ne.mpr c19
      (first | rw [c19b0] | (simp only [i64_w, i32_w]; rw [c19b0]) | skip)
      by_cases c23 : (wrap64 (Go.bits .and .u32 (ji4) 3)) = 2
      ·
       rw [if_pos c23] at H
       have c23b0 : ((wrap64 (Go.bits .and .u32 (ji4) 3)) == 2) = true := beq_iff_eq.mpr c23
       have c23b1 : ((wrap64 (Go.bits .and .u32 (ji4) 3)) != 2) = false := bne_eq_false_iff_eq.mpr c23
       clear c23
       obtain ⟨ji24, hji24⟩ : ∃ j_ : Int, (shr .u32 a1 ((2 * (Go.bits .and .u32 (a2 / 2) 7)) % 4294967296)) = j_ := ⟨_, rfl⟩
       replace H : (attr_remapped.j1 kj4 a0 a2 (Go.bits .and .u32 (a2 / 2) 7) 18 (wrap64 (Go.bits .and .u32 (ji4) 3)) (wrap64 (Go.bits .and .u32 (ji24) 3)) (wrap64 (Go.bits .and .u32 (shr .u32 a1 ((((2 * (Go.bits .and .u32 (a2 / 2) 7)) % 4294967296) + 16) % 4294967296)) 3)) 0) = some (r1, r2, r3, r4, r5) := by first | (rw [hji24] at H; exact H) | (simp only [hji24] at H ⊢; exact H)
       (try have hji24n : (0 ≤ ((2 * (Go.bits .and .u32 (a2 / 2) 7)) % 4294967296)) = True := eq_true (by omega))
       have hji24_ : (a1 / 2 ^ min ((2 * (Go.bits .and .u32 (a2 / 2) 7)) % 4294967296).toNat 32) = ji24 := hji24
       have hji24z : ((2 * (Go.bits .and .u32 (a2 / 2) 7)) % 4294967296) ≤ 32 → (a1 / 2 ^ ((2 * (Go.bits .and .u32 (a2 / 2) 7)) % 4294967296).toNat) = ji24 := shr_small hji24
       obtain ⟨ji25, hji25⟩ : ∃ j_ : Int, (shr .u32 a1 ((((2 * (Go.bits .and .u32 (a2 / 2) 7)) % 4294967296) + 16) % 4294967296)) = j_ := ⟨_, rfl⟩
       replace H : (attr_remapped.j1 kj4 a0 a2 (Go.bits .and .u32 (a2 / 2) 7) 18 (wrap64 (Go.bits .and .u32 (ji4) 3)) (wrap64 (Go.bits .and .u32 (ji24) 3)) (wrap64 (Go.bits .and .u32 (ji25) 3)) 0) = some (r1, r2, r3, r4, r5) := by first | (rw [hji25] at H; exact H) | (simp only [hji25] at H ⊢; exact H)
       (try have hji25n : (0 ≤ ((((2 * (Go.bits .and .u32 (a2 / 2) 7)) % 4294967296) + 16) % 4294967296)) = True := eq_true (by omega))
       have hji25_ : (a1 / 2 ^ min ((((2 * (Go.bits .and .u32 (a2 / 2) 7)) % 4294967296) + 16) % 4294967296).toNat 32) = ji25 := hji25
       (try (have hji25n2 := hji25n; simp only [Int.emod_add_emod, Int.add_emod_emod] at hji25n2))
       (try (have hji25_2 := hji25_; simp only [Int.emod_add_emod, Int.add_emod_emod] at hji25_2))
       have hji25z : ((((2 * (Go.bits .and .u32 (a2 / 2) 7)) % 4294967296) + 16) % 4294967296) ≤ 32 → (a1 / 2 ^ ((((2 * (Go.bits .and .u32 (a2 / 2) 7)) % 4294967296) + 16) % 4294967296).toNat) = ji25 := shr_small hji25
       have H' := Aside0.mk H
       clear H
       have hnb26 := NB102_101.out
       have hnc26 := NB101_102.out
       have hcz27_0 : wc.cell? ⟨gb102, 0, none⟩ = some (.int .i64 (wrap64 (Go.bits .and .u32 (ji4) 3))) := (blk_cell BK102.out 0).trans rfl
       have hcz27_1 : wc.cell? ⟨gb102, 1, none⟩ = some (.int .i64 0) := (blk_cell BK102.out 1).trans rfl
       have hcz27_2 : wc.cell? ⟨gb102, 2, none⟩ = some (.int .i64 0) := (blk_cell BK102.out 2).trans rfl
       have hcz27_3 : wc.cell? ⟨gb102, 3, none⟩ = some (.int .i64 0) := (blk_cell BK102.out 3).trans rfl
       have hfz27_0 := blk_frozen BK102.out 0
       have hfz27_1 := blk_frozen BK102.out 1
       have hfz27_2 := blk_frozen BK102.out 2
       have hfz27_3 := blk_frozen BK102.out 3
       go_wp2
       go_meet
       case rel => exact ⟨_, (18), (0), (0), (0), (0), (wrap64 (Go.bits .and .u32 (ji24) 3)), (wrap64 (Go.bits .and .u32 (ji25) 3)), (0), (by first | rfl | (simp; done) | (simp [*]; done)), H', ⟨by have := HJ4.out; first | omega | exact Nat.le_refl _⟩, ⟨by (with_reducible repeat (first | refine blk_drewN ?_ _ | refine blk_drew ?_ | refine blk_alloc ?_ _)); refine blk_far ?_ NB101_102.out _; (with_reducible repeat (first | refine blk_drewN ?_ _ | refine blk_drew ?_ | refine blk_alloc ?_ _)); refine blk_far ?_ NB101_102.out _; (with_reducible repeat (first | refine blk_drewN ?_ _ | refine blk_drew ?_ | refine blk_alloc ?_ _)); exact BK101.out⟩, ⟨by (with_reducible repeat (first | refine blk_drewN ?_ _ | refine blk_drew ?_ | refine blk_alloc ?_ _)); refine blk_put (cs := #[.int .i64 (wrap64 (Go.bits .and .u32 (ji4) 3)), .int .i64 (wrap64 (Go.bits .and .u32 (ji24) 3)), .int .i64 0, .int .i64 0]) ?_ 2 _ rfl; (with_reducible repeat (first | refine blk_drewN ?_ _ | refine blk_drew ?_ | refine blk_alloc ?_ _)); refine blk_put (cs := #[.int .i64 (wrap64 (Go.bits .and .u32 (ji4) 3)), .int .i64 0, .int .i64 0, .int .i64 0]) ?_ 1 _ rfl; (with_reducible repeat (first | refine blk_drewN ?_ _ | refine blk_drew ?_ | refine blk_alloc ?_ _)); exact BK102.out⟩, ⟨by repeat (first | (with_reducible first | exact HB.out | apply below_alloc | apply pw_below_drewN | apply below_drew1 | refine below_set ?_ GE101.out | refine below_set ?_ GE102.out) | exact HB.out)⟩⟩
      ·
       rw [if_neg c23] at H
       have c23b0 : ((wrap64 (Go.bits .and .u32 (ji4) 3)) == 2) = false := beq_eq_false_iff_ne.mpr c23
       have c23b1 : ((wrap64 (Go.bits .and .u32 (ji4) 3)) != 2) = true := bne_iff_ne.mpr c23
       have H' := Aside0.mk H
       clear H
       go_wp2
       go_meet
       case rel => exact ⟨_, (16), (0), (0), (0), (0), (0), (0), (0), (by first | rfl | (simp; done) | (simp [*]; done)), H', ⟨by have := HJ4.out; first | omega | exact Nat.le_refl _⟩, ⟨by (with_reducible repeat (first | refine blk_drewN ?_ _ | refine blk_drew ?_ | refine blk_alloc ?_ _)); exact BK101.out⟩, ⟨by (with_reducible repeat (first | refine blk_drewN ?_ _ | refine blk_drew ?_ | refine blk_alloc ?_ _)); exact BK102.out⟩, ⟨by repeat (first | (with_reducible first | exact HB.out | apply below_alloc | apply pw_below_drewN | apply below_drew1 | refine below_set ?_ GE101.out | refine below_set ?_ GE102.out) | exact HB.out)⟩⟩
    case rest =>
     clear HC16
     try clear c1
     try clear c2
     try clear p2
     try clear p6
     try clear c8
     try clear c10
     try clear c10b0
     try clear c10b1
     try clear c11
     try clear c13
     try clear c14
     try clear c17
     try clear c19
     try clear c19b0
     try clear c19b1
     try clear c20
     try clear c22
     try clear c23
     try clear c23b0
     try clear c23b1
     try clear c26
     try clear hcz12_0
     try clear hcz12_1
     try clear hcz12_2
     try clear hcz12_3
     try clear hcz15_0
     try clear hcz15_1
     try clear hcz15_2
     try clear hcz15_3
     try clear hcz18_0
     try clear hcz18_1
     try clear hcz18_2
     try clear hcz18_3
     try clear hcz21_0
     try clear hcz21_1
     try clear hcz21_2
     try clear hcz21_3
     try clear hcz22_0
     try clear hcz22_1
     try clear hcz22_2
     try clear hcz22_3
     try clear hcz27_0
     try clear hcz27_1
     try clear hcz27_2
     try clear hcz27_3
     try clear hcz9_0
     try clear hcz9_1
     try clear hcz9_2
     try clear hcz9_3
     try clear hfz12_0
     try clear hfz12_1
     try clear hfz12_2
     try clear hfz12_3
     try clear hfz15_0
     try clear hfz15_1
     try clear hfz15_2
     try clear hfz15_3
     try clear hfz18_0
     try clear hfz18_1
     try clear hfz18_2
     try clear hfz18_3
     try clear hfz21_0
     try clear hfz21_1
     try clear hfz21_2
     try clear hfz21_3
     try clear hfz22_0
     try clear hfz22_1
     try clear hfz22_2
     try clear hfz22_3
     try clear hfz27_0
     try clear hfz27_1
     try clear hfz27_2
     try clear hfz27_3
     try clear hfz9_0
     try clear hfz9_1
     try clear hfz9_2
     try clear hfz9_3
     try clear p2
     try clear p6
     obtain ⟨kq, x10_15, x102000_15, x102001_15, x102002_15, x102003_15, x103001_15, x103002_15, x103003_15, rfl, HA, HJ15, BK101, BK102, HB⟩ := hcut
     cases kq with
     | zero => exact absurd HA.out (by simp [attr_remapped.j1])
     | succ kj15 =>
      have H := HA.out
      clear HA
      simp only [attr_remapped.j1] at H
      obtain ⟨ji28, hji28⟩ : ∃ j_ : Int, (shr .u32 a0 ((x10_15 + (Go.bits .and .u32 a2 1)) % 4294967296)) = j_ := ⟨_, rfl⟩
      replace H : (if (Go.bits .and .u32 (ji28) 1) = 1 then (if (Go.bits .and .u32 (shr .u32 a0 ((24 + (Go.bits .and .u32 (a2 / 2) 7)) % 4294967296)) 1) = 1 then (some ((wrap64 (Go.bits .and .u32 (ji4) 3)), x103001_15, x103002_15, 1, 0)) else (some ((wrap64 (Go.bits .and .u32 (ji4) 3)), x103001_15, x103002_15, 2, 0))) else (some ((wrap64 (Go.bits .and .u32 (ji4) 3)), x103001_15, x103002_15, x103003_15, 0))) = some (r1, r2, r3, r4, r5) := by first | (rw [hji28] at H; exact H) | (simp only [hji28] at H ⊢; exact H)
      (try have hji28n : (0 ≤ ((x10_15 + (Go.bits .and .u32 a2 1)) % 4294967296)) = True := eq_true (by omega))
      have hji28_ : (a0 / 2 ^ min ((x10_15 + (Go.bits .and .u32 a2 1)) % 4294967296).toNat 32) = ji28 := hji28
      (try (have hji28n2 := hji28n; simp only [Int.emod_add_emod, Int.add_emod_emod] at hji28n2))
      (try (have hji28_2 := hji28_; simp only [Int.emod_add_emod, Int.add_emod_emod] at hji28_2))
      have hji28z : ((x10_15 + (Go.bits .and .u32 a2 1)) % 4294967296) ≤ 32 → (a0 / 2 ^ ((x10_15 + (Go.bits .and .u32 a2 1)) % 4294967296).toNat) = ji28 := shr_small hji28
      by_cases c29 : (Go.bits .and .u32 (ji28) 1) = 1
      ·
       rw [if_pos c29] at H
       have c29b0 : ((Go.bits .and .u32 (ji28) 1) == 1) = true := beq_iff_eq.mpr c29
       have c29b1 : ((Go.bits .and .u32 (ji28) 1) != 1) = false := bne_eq_false_iff_eq.mpr c29
       clear c29
       obtain ⟨ji30, hji30⟩ : ∃ j_ : Int, (shr .u32 a0 ((24 + (Go.bits .and .u32 (a2 / 2) 7)) % 4294967296)) = j_ := ⟨_, rfl⟩
       replace H : (if (Go.bits .and .u32 (ji30) 1) = 1 then (some ((wrap64 (Go.bits .and .u32 (ji4) 3)), x103001_15, x103002_15, 1, 0)) else (some ((wrap64 (Go.bits .and .u32 (ji4) 3)), x103001_15, x103002_15, 2, 0))) = some (r1, r2, r3, r4, r5) := by first | (rw [hji30] at H; exact H) | (simp only [hji30] at H ⊢; exact H)
       (try have hji30n : (0 ≤ ((24 + (Go.bits .and .u32 (a2 / 2) 7)) % 4294967296)) = True := eq_true (by omega))
       have hji30_ : (a0 / 2 ^ min ((24 + (Go.bits .and .u32 (a2 / 2) 7)) % 4294967296).toNat 32) = ji30 := hji30
       (try (have hji30n2 := hji30n; simp only [Int.emod_add_emod, Int.add_emod_emod] at hji30n2))
       (try (have hji30_2 := hji30_; simp only [Int.emod_add_emod, Int.add_emod_emod] at hji30_2))
       have hji30z : ((24 + (Go.bits .and .u32 (a2 / 2) 7)) % 4294967296) ≤ 32 → (a0 / 2 ^ ((24 + (Go.bits .and .u32 (a2 / 2) 7)) % 4294967296).toNat) = ji30 := shr_small hji30
       by_cases c31 : (Go.bits .and .u32 (ji30) 1) = 1
       ·
        rw [if_pos c31] at H
        have c31b0 : ((Go.bits .and .u32 (ji30) 1) == 1) = true := beq_iff_eq.mpr c31
        have c31b1 : ((Go.bits .and .u32 (ji30) 1) != 1) = false := bne_eq_false_iff_eq.mpr c31
        clear c31
        simp only [Option.some.injEq, Prod.mk.injEq] at H
        obtain ⟨rfl, rfl, rfl, rfl, rfl⟩ := H
        have hnb32 := NB102_101.out
        have hnc32 := NB101_102.out
        have hcz33_0 : wc.cell? ⟨gb102, 0, none⟩ = some (.int .i64 (wrap64 (Go.bits .and .u32 (ji4) 3))) := (blk_cell BK102.out 0).trans rfl
        have hcz33_1 : wc.cell? ⟨gb102, 1, none⟩ = some (.int .i64 x103001_15) := (blk_cell BK102.out 1).trans rfl
        have hcz33_2 : wc.cell? ⟨gb102, 2, none⟩ = some (.int .i64 x103002_15) := (blk_cell BK102.out 2).trans rfl
        have hcz33_3 : wc.cell? ⟨gb102, 3, none⟩ = some (.int .i64 x103003_15) := (blk_cell BK102.out 3).trans rfl
        have hfz33_0 := blk_frozen BK102.out 0
        have hfz33_1 := blk_frozen BK102.out 1
        have hfz33_2 := blk_frozen BK102.out 2
        have hfz33_3 := blk_frozen BK102.out 3
        have hcz34_0 : wc.cell? ⟨gb101, 0, none⟩ = some (.int .i64 x102000_15) := (blk_cell BK101.out 0).trans rfl
        have hcz34_1 : wc.cell? ⟨gb101, 1, none⟩ = some (.int .i64 x102001_15) := (blk_cell BK101.out 1).trans rfl
        have hcz34_2 : wc.cell? ⟨gb101, 2, none⟩ = some (.int .i64 x102002_15) := (blk_cell BK101.out 2).trans rfl
        have hcz34_3 : wc.cell? ⟨gb101, 3, none⟩ = some (.int .i64 x102003_15) := (blk_cell BK101.out 3).trans rfl
        have hfz34_0 := blk_frozen BK101.out 0
        have hfz34_1 := blk_frozen BK101.out 1
        have hfz34_2 := blk_frozen BK101.out 2
        have hfz34_3 := blk_frozen BK101.out 3
        go_wp2
        refine bodyPost_ret (results_ct rfl _ _ gb101 24 #[.int .i64 (wrap64 (Go.bits .and .u32 (ji4) 3)), .int .i64 x103001_15, .int .i64 x103002_15, .int .i64 1] (0, 0) _ rfl (by (with_reducible repeat (first | refine blk_drewN ?_ _ | refine blk_drew ?_ | refine blk_alloc ?_ _)); refine blk_put (cs := #[.int .i64 (wrap64 (Go.bits .and .u32 (ji4) 3)), .int .i64 x103001_15, .int .i64 x103002_15, .int .i64 x102003_15]) ?_ 3 _ rfl; (with_reducible repeat (first | refine blk_drewN ?_ _ | refine blk_drew ?_ | refine blk_alloc ?_ _)); refine blk_put (cs := #[.int .i64 (wrap64 (Go.bits .and .u32 (ji4) 3)), .int .i64 x103001_15, .int .i64 x102002_15, .int .i64 x102003_15]) ?_ 2 _ rfl; (with_reducible repeat (first | refine blk_drewN ?_ _ | refine blk_drew ?_ | refine blk_alloc ?_ _)); refine blk_put (cs := #[.int .i64 (wrap64 (Go.bits .and .u32 (ji4) 3)), .int .i64 x102001_15, .int .i64 x102002_15, .int .i64 x102003_15]) ?_ 1 _ rfl; (with_reducible repeat (first | refine blk_drewN ?_ _ | refine blk_drew ?_ | refine blk_alloc ?_ _)); refine blk_put (cs := #[.int .i64 x102000_15, .int .i64 x102001_15, .int .i64 x102002_15, .int .i64 x102003_15]) ?_ 0 _ rfl; (with_reducible repeat (first | refine blk_drewN ?_ _ | refine blk_drew ?_ | refine blk_alloc ?_ _)); refine blk_far ?_ NB101_102.out _; (with_reducible repeat (first | refine blk_drewN ?_ _ | refine blk_drew ?_ | refine blk_alloc ?_ _)); refine blk_far ?_ NB101_102.out _; (with_reducible repeat (first | refine blk_drewN ?_ _ | refine blk_drew ?_ | refine blk_alloc ?_ _)); exact BK101.out) Tryd.underlying24 rfl (by kernel_rfl)) rfl ?_
        exact ⟨by first | rfl | (simp [errW_none, errW_some] <;> rfl) | (simp only [← hji4, ← hji28, ← hji30]; first | rfl | (simp [errW_none, errW_some] <;> rfl)) | (simp [*, errW_none, errW_some] <;> rfl) | (simp [*, errW_none, errW_some] <;> exact isEmpty_ne _), by repeat (first | (with_reducible first | exact HB.out | apply below_alloc | apply pw_below_drewN | apply below_drew1 | refine below_set ?_ GE101.out | refine below_set ?_ GE102.out) | exact HB.out)⟩
       ·
        rw [if_neg c31] at H
        have c31b0 : ((Go.bits .and .u32 (ji30) 1) == 1) = false := beq_eq_false_iff_ne.mpr c31
        have c31b1 : ((Go.bits .and .u32 (ji30) 1) != 1) = true := bne_iff_ne.mpr c31
        simp only [Option.some.injEq, Prod.mk.injEq] at H
        obtain ⟨rfl, rfl, rfl, rfl, rfl⟩ := H
        have hnb35 := NB102_101.out
        have hnc35 := NB101_102.out
        have hcz36_0 : wc.cell? ⟨gb102, 0, none⟩ = some (.int .i64 (wrap64 (Go.bits .and .u32 (ji4) 3))) := (blk_cell BK102.out 0).trans rfl
        have hcz36_1 : wc.cell? ⟨gb102, 1, none⟩ = some (.int .i64 x103001_15) := (blk_cell BK102.out 1).trans rfl
        have hcz36_2 : wc.cell? ⟨gb102, 2, none⟩ = some (.int .i64 x103002_15) := (blk_cell BK102.out 2).trans rfl
        have hcz36_3 : wc.cell? ⟨gb102, 3, none⟩ = some (.int .i64 x103003_15) := (blk_cell BK102.out 3).trans rfl
        have hfz36_0 := blk_frozen BK102.out 0
        have hfz36_1 := blk_frozen BK102.out 1
        have hfz36_2 := blk_frozen BK102.out 2
        have hfz36_3 := blk_frozen BK102.out 3
        have hcz37_0 : wc.cell? ⟨gb101, 0, none⟩ = some (.int .i64 x102000_15) := (blk_cell BK101.out 0).trans rfl
        have hcz37_1 : wc.cell? ⟨gb101, 1, none⟩ = some (.int .i64 x102001_15) := (blk_cell BK101.out 1).trans rfl
        have hcz37_2 : wc.cell? ⟨gb101, 2, none⟩ = some (.int .i64 x102002_15) := (blk_cell BK101.out 2).trans rfl
        have hcz37_3 : wc.cell? ⟨gb101, 3, none⟩ = some (.int .i64 x102003_15) := (blk_cell BK101.out 3).trans rfl
        have hfz37_0 := blk_frozen BK101.out 0
        have hfz37_1 := blk_frozen BK101.out 1
        have hfz37_2 := blk_frozen BK101.out 2
        have hfz37_3 := blk_frozen BK101.out 3
        go_wp2
        refine bodyPost_ret (results_ct rfl _ _ gb101 24 #[.int .i64 (wrap64 (Go.bits .and .u32 (ji4) 3)), .int .i64 x103001_15, .int .i64 x103002_15, .int .i64 2] (0, 0) _ rfl (by (with_reducible repeat (first | refine blk_drewN ?_ _ | refine blk_drew ?_ | refine blk_alloc ?_ _)); refine blk_put (cs := #[.int .i64 (wrap64 (Go.bits .and .u32 (ji4) 3)), .int .i64 x103001_15, .int .i64 x103002_15, .int .i64 x102003_15]) ?_ 3 _ rfl; (with_reducible repeat (first | refine blk_drewN ?_ _ | refine blk_drew ?_ | refine blk_alloc ?_ _)); refine blk_put (cs := #[.int .i64 (wrap64 (Go.bits .and .u32 (ji4) 3)), .int .i64 x103001_15, .int .i64 x102002_15, .int .i64 x102003_15]) ?_ 2 _ rfl; (with_reducible repeat (first | refine blk_drewN ?_ _ | refine blk_drew ?_ | refine blk_alloc ?_ _)); refine blk_put (cs := #[.int .i64 (wrap64 (Go.bits .and .u32 (ji4) 3)), .int .i64 x102001_15, .int .i64 x102002_15, .int .i64 x102003_15]) ?_ 1 _ rfl; (with_reducible repeat (first | refine blk_drewN ?_ _ | refine blk_drew ?_ | refine blk_alloc ?_ _)); refine blk_put (cs := #[.int .i64 x102000_15, .int .i64 x102001_15, .int .i64 x102002_15, .int .i64 x102003_15]) ?_ 0 _ rfl; (with_reducible repeat (first | refine blk_drewN ?_ _ | refine blk_drew ?_ | refine blk_alloc ?_ _)); refine blk_far ?_ NB101_102.out _; (with_reducible repeat (first | refine blk_drewN ?_ _ | refine blk_drew ?_ | refine blk_alloc ?_ _)); exact BK101.out) Tryd.underlying24 rfl (by kernel_rfl)) rfl ?_
        exact ⟨by first | rfl | (simp [errW_none, errW_some] <;> rfl) | (simp only [← hji4, ← hji28, ← hji30]; first | rfl | (simp [errW_none, errW_some] <;> rfl)) | (simp [*, errW_none, errW_some] <;> rfl) | (simp [*, errW_none, errW_some] <;> exact isEmpty_ne _), by repeat (first | (with_reducible first | exact HB.out | apply below_alloc | apply pw_below_drewN | apply below_drew1 | refine below_set ?_ GE101.out | refine below_set ?_ GE102.out) | exact HB.out)⟩
      ·
       rw [if_neg c29] at H
       have c29b0 : ((Go.bits .and .u32 (ji28) 1) == 1) = false := beq_eq_false_iff_ne.mpr c29
       have c29b1 : ((Go.bits .and .u32 (ji28) 1) != 1) = true := bne_iff_ne.mpr c29
       simp only [Option.some.injEq, Prod.mk.injEq] at H
       obtain ⟨rfl, rfl, rfl, rfl, rfl⟩ := H
       have hnb38 := NB102_101.out
       have hnc38 := NB101_102.out
       have hcz39_0 : wc.cell? ⟨gb102, 0, none⟩ = some (.int .i64 (wrap64 (Go.bits .and .u32 (ji4) 3))) := (blk_cell BK102.out 0).trans rfl
       have hcz39_1 : wc.cell? ⟨gb102, 1, none⟩ = some (.int .i64 x103001_15) := (blk_cell BK102.out 1).trans rfl
       have hcz39_2 : wc.cell? ⟨gb102, 2, none⟩ = some (.int .i64 x103002_15) := (blk_cell BK102.out 2).trans rfl
       have hcz39_3 : wc.cell? ⟨gb102, 3, none⟩ = some (.int .i64 x103003_15) := (blk_cell BK102.out 3).trans rfl
       have hfz39_0 := blk_frozen BK102.out 0
       have hfz39_1 := blk_frozen BK102.out 1
       have hfz39_2 := blk_frozen BK102.out 2
       have hfz39_3 := blk_frozen BK102.out 3
       have hcz40_0 : wc.cell? ⟨gb101, 0, none⟩ = some (.int .i64 x102000_15) := (blk_cell BK101.out 0).trans rfl
       have hcz40_1 : wc.cell? ⟨gb101, 1, none⟩ = some (.int .i64 x102001_15) := (blk_cell BK101.out 1).trans rfl
       have hcz40_2 : wc.cell? ⟨gb101, 2, none⟩ = some (.int .i64 x102002_15) := (blk_cell BK101.out 2).trans rfl
       have hcz40_3 : wc.cell? ⟨gb101, 3, none⟩ = some (.int .i64 x102003_15) := (blk_cell BK101.out 3).trans rfl
       have hfz40_0 := blk_frozen BK101.out 0
       have hfz40_1 := blk_frozen BK101.out 1
       have hfz40_2 := blk_frozen BK101.out 2
       have hfz40_3 := blk_frozen BK101.out 3
       go_wp2
       refine bodyPost_ret (results_ct rfl _ _ gb101 24 #[.int .i64 (wrap64 (Go.bits .and .u32 (ji4) 3)), .int .i64 x103001_15, .int .i64 x103002_15, .int .i64 x103003_15] (0, 0) _ rfl (by (with_reducible repeat (first | refine blk_drewN ?_ _ | refine blk_drew ?_ | refine blk_alloc ?_ _)); refine blk_put (cs := #[.int .i64 (wrap64 (Go.bits .and .u32 (ji4) 3)), .int .i64 x103001_15, .int .i64 x103002_15, .int .i64 x102003_15]) ?_ 3 _ rfl; (with_reducible repeat (first | refine blk_drewN ?_ _ | refine blk_drew ?_ | refine blk_alloc ?_ _)); refine blk_put (cs := #[.int .i64 (wrap64 (Go.bits .and .u32 (ji4) 3)), .int .i64 x103001_15, .int .i64 x102002_15, .int .i64 x102003_15]) ?_ 2 _ rfl; (with_reducible repeat (first | refine blk_drewN ?_ _ | refine blk_drew ?_ | refine blk_alloc ?_ _)); refine blk_put (cs := #[.int .i64 (wrap64 (Go.bits .and .u32 (ji4) 3)), .int .i64 x102001_15, .int .i64 x102002_15, .int .i64 x102003_15]) ?_ 1 _ rfl; (with_reducible repeat (first | refine blk_drewN ?_ _ | refine blk_drew ?_ | refine blk_alloc ?_ _)); refine blk_put (cs := #[.int .i64 x102000_15, .int .i64 x102001_15, .int .i64 x102002_15, .int .i64 x102003_15]) ?_ 0 _ rfl; (with_reducible repeat (first | refine blk_drewN ?_ _ | refine blk_drew ?_ | refine blk_alloc ?_ _)); exact BK101.out) Tryd.underlying24 rfl (by kernel_rfl)) rfl ?_
       exact ⟨by first | rfl | (simp [errW_none, errW_some] <;> rfl) | (simp only [← hji4, ← hji28]; first | rfl | (simp [errW_none, errW_some] <;> rfl)) | (simp [*, errW_none, errW_some] <;> rfl) | (simp [*, errW_none, errW_some] <;> exact isEmpty_ne _), by repeat (first | (with_reducible first | exact HB.out | apply below_alloc | apply pw_below_drewN | apply below_drew1 | refine below_set ?_ GE101.out | refine below_set ?_ GE102.out) | exact HB.out)⟩

end Go.Proofs.YtkljijkejbfopaaDoor.S
