-- Written by a program of this session (wip/xprint.py), over the kit's print. Not trusted: Lean checks it.
import Derived.Test.YtkljijkejbfopaaDoorS0
import Derived.Test.YtkljijkejbfopaaDoorS2
namespace Go.Proofs.YtkljijkejbfopaaDoor.S
open Go.Proofs.YtkljijkejbfopaaDoorG
open Go.RowKit Go.Proofs.YtkljijkejbfopaaDoorW.PrintWords Go.Proofs.YtkljijkejbfopaaDoorW.PrintLast Go.Proofs.YtkljijkejbfopaaDoorW.PrintMore
attribute [local go_sem] max2_int min2_int max_two min_two max_three min_three max_four min_four   -- for this text's walks alone
set_option linter.unusedVariables false
set_option linter.unusedSimpArgs false

/-! ### attr_Of: function 12 -/
def attr_Of.j0 : Nat → Int → Bool → Int → Int → Int → Int → Option (Int × Int × Int × Int × Int)
 | 0, _, _, _, _, _, _ => none
 | k + 1, x3, x110000, x110001, x110002, x110003, x110004 => if x110000 = true then (if x110001 = 2 then (if (Go.bits .and .u32 x3 1) = 1 then (some (x110001, x110002, x110003, 2, 0)) else (some (x110001, x110002, x110003, x110004, 0))) else (some (x110001, x110002, x110003, x110004, 0))) else (some (0, 0, 0, 0, 61))
def attr_Of.f (k : Nat) (a0 : Bool) (a1 : Int) (a2 : Int) (a3 : Int) : Option (Int × Int × Int × Int × Int) := if a3 > 63 then (some (0, 0, 0, 0, 60)) else (if a0 = true then ((attr_remapped.f k a1 a2 a3).bind fun bt104 => (some (bt104.1, bt104.2.1, bt104.2.2.1, bt104.2.2.2.1, bt104.2.2.2.2))) else (if (a3 / 2) < 16 then (if 0 ≤ (a3 / 2) then (attr_Of.j0 k a3 (rdOf false gt0_0 (a3 / 2)) (rd gt0_1 (a3 / 2)) (rd gt0_2 (a3 / 2)) (rd gt0_3 (a3 / 2)) (rd gt0_4 (a3 / 2))) else (none)) else (attr_Of.j0 k a3 true 2 (wrap64 (Go.bits .and .u32 (a3 / 2) 3)) (wrap64 ((wrap64 ((a3 / 2) / 4)) - 4)) 0)))
theorem attr_Of.mono_l : ∀ k, (∀ y0 y1 y2 y3 y4 y5, LeO (attr_Of.j0 k y0 y1 y2 y3 y4 y5) (attr_Of.j0 (k + 1) y0 y1 y2 y3 y4 y5))
 | 0 => fun _ _ _ _ _ _ r h => by simp [attr_Of.j0] at h
 | k + 1 => by
  have ih0 := attr_Of.mono_l k
  ·
   intro y0 y1 y2 y3 y4 y5
   unfold attr_Of.j0
   repeat' first
   | (with_reducible exact ih0 _ _ _ _ _ _)
   | (with_reducible exact attr_remapped.mono _ _ _ _)
   | (with_reducible exact LeO.refl _)
   | (with_reducible exact LeO.none _)
   | (with_reducible refine LeO.ite ?_ ?_)
   | (with_reducible refine LeO.bind ?_ (fun _ => ?_))
   | exact ih0 _ _ _ _ _ _
   | exact attr_remapped.mono _ _ _ _
   | exact LeO.none _
   | refine LeO.ite ?_ ?_
   | refine LeO.bind ?_ (fun _ => ?_)
theorem attr_Of.mono : ∀ a0 a1 a2 a3 k, LeO (attr_Of.f k a0 a1 a2 a3) (attr_Of.f (k + 1) a0 a1 a2 a3) := by
 intro a0 a1 a2 a3 k
 have ih0 := attr_Of.mono_l k
 unfold attr_Of.f
 repeat' first
   | (with_reducible exact ih0 _ _ _ _ _ _)
   | (with_reducible exact attr_remapped.mono _ _ _ _)
   | (with_reducible exact LeO.refl _)
   | (with_reducible exact LeO.none _)
   | (with_reducible refine LeO.ite ?_ ?_)
   | (with_reducible refine LeO.bind ?_ (fun _ => ?_))
   | exact ih0 _ _ _ _ _ _
   | exact attr_remapped.mono _ _ _ _
   | exact LeO.none _
   | refine LeO.ite ?_ ?_
   | refine LeO.bind ?_ (fun _ => ?_)
set_option maxHeartbeats 8000000 in
set_option maxRecDepth 100000 in
theorem attr_Of.calls (k : Nat) (a0 : Bool) (a1 : Int) (a2 : Int) (a3 : Int) (r1 : Int) (r2 : Int) (r3 : Int) (r4 : Int) (r5 : Int) (w : World) (hG0 : Aside0 (G0 w)) (h : attr_Of.f k a0 a1 a2 a3 = some (r1, r2, r3, r4, r5)) :
  Calls Tryd.prog 12 #[.bool a0, .int .u32 a1, .int .u32 a2, .int .u32 a3] w fun e w' => e = .returned (.tuple #[.agg #[.int .i64 r1, .int .i64 r2, .int .i64 r3, .int .i64 r4], .int .i64 r5]) ∧ Below w.heap.size w w' := by
 have hu24 := Tryd.underlying24
 have hu51 := Tryd.underlying51
 have HB := Aside0.mk (Below.refl w.heap.size w)
 have H : (if a3 > 63 then (some (0, 0, 0, 0, 60)) else (if a0 = true then ((attr_remapped.f k a1 a2 a3).bind fun bt104 => (some (bt104.1, bt104.2.1, bt104.2.2.1, bt104.2.2.2.1, bt104.2.2.2.2))) else (if (a3 / 2) < 16 then (if 0 ≤ (a3 / 2) then (attr_Of.j0 k a3 (rdOf false gt0_0 (a3 / 2)) (rd gt0_1 (a3 / 2)) (rd gt0_2 (a3 / 2)) (rd gt0_3 (a3 / 2)) (rd gt0_4 (a3 / 2))) else (none)) else (attr_Of.j0 k a3 true 2 (wrap64 (Go.bits .and .u32 (a3 / 2) 3)) (wrap64 ((wrap64 ((a3 / 2) / 4)) - 4)) 0)))) = some (r1, r2, r3, r4, r5) := h
 clear h
 by_cases c5 : a3 > 63
 ·
  rw [if_pos c5] at H
  have c5b0 : decide (63 < a3) = true := decide_eq_true c5
  clear c5
  simp only [Option.some.injEq, Prod.mk.injEq] at H
  obtain ⟨rfl, rfl, rfl, rfl, rfl⟩ := H
  go_enter Tryd.func12, Tryd.ntmps12
  go_wp2_with (first | ((with_reducible refine gate_dst (N := 8) rfl ?_); refine box_event ?hg (N := 8) ?hd (cs := #[.int .i64 0, .int .i64 0, .int .i64 0, .int .i64 0]) (t := 24) ?hr ?_; (case hd => rfl); (case hg => rfl); (case hr => first | (go_simp; done) | (go_simp; rfl)); intro gb103 hg w6 hbox hb; have n0_ := Aside0.mk (below_step (by repeat (first | (with_reducible first | exact HB.out | apply below_alloc | apply pw_below_drewN | apply below_drew1) | exact HB.out)) hb); have n1_ := Aside0.mk (hbox); have n2_ := Aside0.mk ((by rw [hg]; exact (below_size (by repeat (first | (with_reducible first | exact HB.out | apply below_alloc | apply pw_below_drewN | apply below_drew1) | exact HB.out))) : w.heap.size ≤ gb103)); have n3_ := Aside0.mk ((by rw [hg]; exact (below_size (by repeat (first | (with_reducible first | exact HB.out | apply below_alloc | apply pw_below_drewN | apply below_drew1) | exact HB.out))) : w.heap.size ≤ gb103)); clear HB; have HB := n0_; have BK103 := n1_; have GW103 := n2_; have GE103 := n3_; clear n0_ n1_ n2_ n3_; clear hb hbox hg; have hcz7_0 : w6.cell? ⟨gb103, 0, none⟩ = some (.int .i64 0) := (blk_cell BK103.out 0).trans rfl; have hcz7_1 : w6.cell? ⟨gb103, 1, none⟩ = some (.int .i64 0) := (blk_cell BK103.out 1).trans rfl; have hcz7_2 : w6.cell? ⟨gb103, 2, none⟩ = some (.int .i64 0) := (blk_cell BK103.out 2).trans rfl; have hcz7_3 : w6.cell? ⟨gb103, 3, none⟩ = some (.int .i64 0) := (blk_cell BK103.out 3).trans rfl; have hfz7_0 := blk_frozen BK103.out 0; have hfz7_1 := blk_frozen BK103.out 1; have hfz7_2 := blk_frozen BK103.out 2; have hfz7_3 := blk_frozen BK103.out 3))
  refine bodyPost_ret (results_ct rfl _ _ gb103 24 #[.int .i64 0, .int .i64 0, .int .i64 0, .int .i64 0] (0, 0) _ rfl (by (with_reducible repeat (first | refine blk_drewN ?_ _ | refine blk_drew ?_ | refine blk_alloc ?_ _)); refine blk_put (cs := #[.int .i64 0, .int .i64 0, .int .i64 0, .int .i64 0]) ?_ 3 _ rfl; (with_reducible repeat (first | refine blk_drewN ?_ _ | refine blk_drew ?_ | refine blk_alloc ?_ _)); refine blk_put (cs := #[.int .i64 0, .int .i64 0, .int .i64 0, .int .i64 0]) ?_ 2 _ rfl; (with_reducible repeat (first | refine blk_drewN ?_ _ | refine blk_drew ?_ | refine blk_alloc ?_ _)); refine blk_put (cs := #[.int .i64 0, .int .i64 0, .int .i64 0, .int .i64 0]) ?_ 1 _ rfl; (with_reducible repeat (first | refine blk_drewN ?_ _ | refine blk_drew ?_ | refine blk_alloc ?_ _)); refine blk_put (cs := #[.int .i64 0, .int .i64 0, .int .i64 0, .int .i64 0]) ?_ 0 _ rfl; (with_reducible repeat (first | refine blk_drewN ?_ _ | refine blk_drew ?_ | refine blk_alloc ?_ _)); exact BK103.out) Tryd.underlying24 rfl (by kernel_rfl)) rfl ?_
  exact ⟨by first | rfl | (simp [errW_none, errW_some] <;> rfl) | (simp [*, errW_none, errW_some] <;> rfl) | (simp [*, errW_none, errW_some] <;> exact isEmpty_ne _), by repeat (first | (with_reducible first | exact HB.out | apply below_alloc | apply pw_below_drewN | apply below_drew1 | refine below_set ?_ GE103.out) | exact HB.out)⟩
 ·
  rw [if_neg c5] at H
  have c5b0 : decide (63 < a3) = false := decide_eq_false c5
  clear c5
  by_cases c8 : a0 = true
  ·
   subst c8
   have H1 : ((attr_remapped.f k a1 a2 a3).bind fun bt104 => (some (bt104.1, bt104.2.1, bt104.2.2.1, bt104.2.2.2.1, bt104.2.2.2.2))) = some (r1, r2, r3, r4, r5) := by rw [if_pos rfl] at H; exact H
   clear H
   have H := H1
   clear H1
   replace H := Option.bind_eq_some_iff.mp H
   obtain ⟨⟨t104, t105, t106, t107, t108⟩, A90, H⟩ := H
   replace H : (some (t104, t105, t106, t107, t108)) = some (r1, r2, r3, r4, r5) := H
   have A9 := Aside0.mk A90
   clear A90
   simp only [Option.some.injEq, Prod.mk.injEq] at H
   obtain ⟨rfl, rfl, rfl, rfl, rfl⟩ := H
   go_enter Tryd.func12, Tryd.ntmps12
   go_wp2_with (first | ((with_reducible refine gate_dst (N := 8) rfl ?_); refine box_event ?hg (N := 8) ?hd (cs := #[.int .i64 0, .int .i64 0, .int .i64 0, .int .i64 0]) (t := 24) ?hr ?_; (case hd => rfl); (case hg => rfl); (case hr => first | (go_simp; done) | (go_simp; rfl)); intro gb103 hg w10 hbox hb; have n0_ := Aside0.mk (below_step (by repeat (first | (with_reducible first | exact HB.out | apply below_alloc | apply pw_below_drewN | apply below_drew1) | exact HB.out)) hb); have n1_ := Aside0.mk (hbox); have n2_ := Aside0.mk ((by rw [hg]; exact (below_size (by repeat (first | (with_reducible first | exact HB.out | apply below_alloc | apply pw_below_drewN | apply below_drew1) | exact HB.out))) : w.heap.size ≤ gb103)); have n3_ := Aside0.mk ((by rw [hg]; exact (below_size (by repeat (first | (with_reducible first | exact HB.out | apply below_alloc | apply pw_below_drewN | apply below_drew1) | exact HB.out))) : w.heap.size ≤ gb103)); clear HB; have HB := n0_; have BK103 := n1_; have GW103 := n2_; have GE103 := n3_; clear n0_ n1_ n2_ n3_; clear hb hbox hg) | ((with_reducible refine gate_callee (f := 22) rfl ?_); refine goesL_ (some 19) rfl rfl Tryd.func22 (by kernel_rfl) rfl #[.int .u32 a1, .int .u32 a2, .int .u32 a3] rfl (by (try simp only [List.map_toArray, List.map_cons, List.map_nil]); first | done | rfl | (simp only [List.length_drop, List.length_take]; rfl)) ?_; (with_reducible refine (attr_remapped.calls k a1 a2 a3 t104 t105 t106 t107 t108 _ A9.out).mono ?_); rintro e w11 ⟨rfl, hb⟩; refine ⟨_, rfl, ?_⟩; have n0_ := Aside0.mk (blk_below (g := gb103) (o := .cells #[.int .i64 0, .int .i64 0, .int .i64 0, .int .i64 0] 24 (0, 0)) (by (with_reducible repeat (first | refine blk_drewN ?_ _ | refine blk_drew ?_ | refine blk_alloc ?_ _)); exact BK103.out) hb); have n1_ := Aside0.mk (below_step (by repeat (first | (with_reducible first | exact HB.out | apply below_alloc | apply pw_below_drewN | apply below_drew1 | refine below_set ?_ GE103.out) | exact HB.out)) hb); clear BK103; clear HB; have BK103 := n0_; have HB := n1_; clear n0_ n1_; (try clear hb); (try clear hb2); (try clear hk); (try clear hi); have hcz12_0 : w11.cell? ⟨gb103, 0, none⟩ = some (.int .i64 0) := (blk_cell BK103.out 0).trans rfl; have hcz12_1 : w11.cell? ⟨gb103, 1, none⟩ = some (.int .i64 0) := (blk_cell BK103.out 1).trans rfl; have hcz12_2 : w11.cell? ⟨gb103, 2, none⟩ = some (.int .i64 0) := (blk_cell BK103.out 2).trans rfl; have hcz12_3 : w11.cell? ⟨gb103, 3, none⟩ = some (.int .i64 0) := (blk_cell BK103.out 3).trans rfl; have hfz12_0 := blk_frozen BK103.out 0; have hfz12_1 := blk_frozen BK103.out 1; have hfz12_2 := blk_frozen BK103.out 2; have hfz12_3 := blk_frozen BK103.out 3))
   refine bodyPost_ret (results_ct rfl _ _ gb103 24 #[.int .i64 t104, .int .i64 t105, .int .i64 t106, .int .i64 t107] (0, 0) _ rfl (by (with_reducible repeat (first | refine blk_drewN ?_ _ | refine blk_drew ?_ | refine blk_alloc ?_ _)); refine blk_put (cs := #[.int .i64 t104, .int .i64 t105, .int .i64 t106, .int .i64 0]) ?_ 3 _ rfl; (with_reducible repeat (first | refine blk_drewN ?_ _ | refine blk_drew ?_ | refine blk_alloc ?_ _)); refine blk_put (cs := #[.int .i64 t104, .int .i64 t105, .int .i64 0, .int .i64 0]) ?_ 2 _ rfl; (with_reducible repeat (first | refine blk_drewN ?_ _ | refine blk_drew ?_ | refine blk_alloc ?_ _)); refine blk_put (cs := #[.int .i64 t104, .int .i64 0, .int .i64 0, .int .i64 0]) ?_ 1 _ rfl; (with_reducible repeat (first | refine blk_drewN ?_ _ | refine blk_drew ?_ | refine blk_alloc ?_ _)); refine blk_put (cs := #[.int .i64 0, .int .i64 0, .int .i64 0, .int .i64 0]) ?_ 0 _ rfl; (with_reducible repeat (first | refine blk_drewN ?_ _ | refine blk_drew ?_ | refine blk_alloc ?_ _)); exact BK103.out) Tryd.underlying24 rfl (by kernel_rfl)) rfl ?_
   exact ⟨by first | rfl | (simp [errW_none, errW_some] <;> rfl) | (simp [*, errW_none, errW_some] <;> rfl) | (simp [*, errW_none, errW_some] <;> exact isEmpty_ne _), by repeat (first | (with_reducible first | exact HB.out | apply below_alloc | apply pw_below_drewN | apply below_drew1 | refine below_set ?_ GE103.out) | exact HB.out)⟩
  ·
   replace c8 := Bool.eq_false_iff.mpr c8
   subst c8
   have H1 : (if (a3 / 2) < 16 then (if 0 ≤ (a3 / 2) then (attr_Of.j0 k a3 (rdOf false gt0_0 (a3 / 2)) (rd gt0_1 (a3 / 2)) (rd gt0_2 (a3 / 2)) (rd gt0_3 (a3 / 2)) (rd gt0_4 (a3 / 2))) else (none)) else (attr_Of.j0 k a3 true 2 (wrap64 (Go.bits .and .u32 (a3 / 2) 3)) (wrap64 ((wrap64 ((a3 / 2) / 4)) - 4)) 0)) = some (r1, r2, r3, r4, r5) := by rw [if_neg (show ¬ (false = true) by decide)] at H; exact H
   clear H
   have H := H1
   clear H1
   have HC13 := Aside0.mk H
   clear H
   go_enter Tryd.func12, Tryd.ntmps12
   go_upto_if 33 with (first | ((with_reducible refine gate_dst (N := 8) rfl ?_); refine box_event ?hg (N := 8) ?hd (cs := #[.int .i64 0, .int .i64 0, .int .i64 0, .int .i64 0]) (t := 24) ?hr ?_; (case hd => rfl); (case hg => rfl); (case hr => first | (go_simp; done) | (go_simp; rfl)); intro gb103 hg w14 hbox hb; have n0_ := Aside0.mk (below_step (by repeat (first | (with_reducible first | exact HB.out | apply below_alloc | apply pw_below_drewN | apply below_drew1) | exact HB.out)) hb); have n1_ := Aside0.mk (hbox); have n2_ := Aside0.mk ((by rw [hg]; exact (below_size (by repeat (first | (with_reducible first | exact HB.out | apply below_alloc | apply pw_below_drewN | apply below_drew1) | exact HB.out))) : w.heap.size ≤ gb103)); have n3_ := Aside0.mk ((by rw [hg]; exact (below_size (by repeat (first | (with_reducible first | exact HB.out | apply below_alloc | apply pw_below_drewN | apply below_drew1) | exact HB.out))) : w.heap.size ≤ gb103)); clear HB; have HB := n0_; have BK103 := n1_; have GW103 := n2_; have GE103 := n3_; clear n0_ n1_ n2_ n3_; clear hb hbox hg) | ((with_reducible refine gate_dst (N := 11) rfl ?_); refine box_event ?hg (N := 11) ?hd (cs := #[.bool false, .int .i64 0, .int .i64 0, .int .i64 0, .int .i64 0]) (t := 51) ?hr ?_; (case hd => rfl); (case hg => rfl); (case hr => first | (go_simp; done) | (go_simp; rfl)); intro gb109 hg w15 hbox hb; have n0_ := Aside0.mk (blk_below (g := gb103) (o := .cells #[.int .i64 0, .int .i64 0, .int .i64 0, .int .i64 0] 24 (0, 0)) (by (with_reducible repeat (first | refine blk_drewN ?_ _ | refine blk_drew ?_ | refine blk_alloc ?_ _)); exact BK103.out) hb); have n1_ := Aside0.mk (below_step (by repeat (first | (with_reducible first | exact HB.out | apply below_alloc | apply pw_below_drewN | apply below_drew1 | refine below_set ?_ GE103.out) | exact HB.out)) hb); have n2_ := Aside0.mk (hbox); have n3_ := Aside0.mk ((by rw [hg]; exact (below_size (by repeat (first | (with_reducible first | exact HB.out | apply below_alloc | apply pw_below_drewN | apply below_drew1 | refine below_set ?_ GE103.out) | exact HB.out))) : w.heap.size ≤ gb109)); have n4_ := Aside0.mk ((by rw [hg]; exact (below_size (by repeat (first | (with_reducible first | exact HB.out | apply below_alloc | apply pw_below_drewN | apply below_drew1 | refine below_set ?_ GE103.out) | exact HB.out))) : w.heap.size ≤ gb109)); have n5_ := Aside0.mk ((by rw [hg]; exact Nat.ne_of_lt (blk_lt (g := gb103) (o := .cells #[.int .i64 0, .int .i64 0, .int .i64 0, .int .i64 0] 24 (0, 0)) (by (with_reducible repeat (first | refine blk_drewN ?_ _ | refine blk_drew ?_ | refine blk_alloc ?_ _)); exact BK103.out)) : gb103 ≠ gb109)); have n6_ := Aside0.mk ((by rw [hg]; exact Nat.ne_of_gt (blk_lt (g := gb103) (o := .cells #[.int .i64 0, .int .i64 0, .int .i64 0, .int .i64 0] 24 (0, 0)) (by (with_reducible repeat (first | refine blk_drewN ?_ _ | refine blk_drew ?_ | refine blk_alloc ?_ _)); exact BK103.out)) : gb109 ≠ gb103)); clear BK103; clear HB; have BK103 := n0_; have HB := n1_; have BK109 := n2_; have GW109 := n3_; have GE109 := n4_; have NB103_109 := n5_; have NB109_103 := n6_; clear n0_ n1_ n2_ n3_ n4_ n5_ n6_; clear hb hbox hg; have hnb16 := NB109_103.out; have hnc16 := NB103_109.out; have hcz17_0 : w15.cell? ⟨gb109, 0, none⟩ = some (.bool false) := (blk_cell BK109.out 0).trans rfl; have hcz17_1 : w15.cell? ⟨gb109, 1, none⟩ = some (.int .i64 0) := (blk_cell BK109.out 1).trans rfl; have hcz17_2 : w15.cell? ⟨gb109, 2, none⟩ = some (.int .i64 0) := (blk_cell BK109.out 2).trans rfl; have hcz17_3 : w15.cell? ⟨gb109, 3, none⟩ = some (.int .i64 0) := (blk_cell BK109.out 3).trans rfl; have hcz17_4 : w15.cell? ⟨gb109, 4, none⟩ = some (.int .i64 0) := (blk_cell BK109.out 4).trans rfl; have hfz17_0 := blk_frozen BK109.out 0; have hfz17_1 := blk_frozen BK109.out 1; have hfz17_2 := blk_frozen BK109.out 2; have hfz17_3 := blk_frozen BK109.out 3; have hfz17_4 := blk_frozen BK109.out 4))
   (try simp only [Act.put, List.setIfInBounds_toArray, List.set_cons_zero, List.set_cons_succ])
   go_cut [] (fun wc => ∃ (kq : Nat) (x110000_12 : Bool) (x110001_12 : Int) (x110002_12 : Int) (x110003_12 : Int) (x110004_12 : Int), Aside0 (attr_Of.j0 kq a3 x110000_12 x110001_12 x110002_12 x110003_12 x110004_12 = some (r1, r2, r3, r4, r5)) ∧ Aside0 (kq ≤ k) ∧ Aside0 (wc.heap[gb103]? = some (.cells #[.int .i64 0, .int .i64 0, .int .i64 0, .int .i64 0] 24 (0, 0))) ∧ Aside0 (wc.heap[gb109]? = some (.cells #[.bool x110000_12, .int .i64 x110001_12, .int .i64 x110002_12, .int .i64 x110003_12, .int .i64 x110004_12] 51 (0, 0))) ∧ Aside0 (Below w.heap.size w wc))
   case first =>
    have H := HC13.out
    clear HC13
    by_cases c18 : (a3 / 2) < 16
    ·
     rw [if_pos c18] at H
     have c18b0 : decide ((a3 / 2) < 16) = true := decide_eq_true c18
     clear c18
     (first | rw [c18b0] | (simp only [i64_w, i32_w]; rw [c18b0]) | skip)
     obtain ⟨ji19, hji19⟩ : ∃ j_ : Int, (a3 / 2) = j_ := ⟨_, rfl⟩
     replace H : (if 0 ≤ (ji19) then (attr_Of.j0 k a3 (rdOf false gt0_0 (ji19)) (rd gt0_1 (ji19)) (rd gt0_2 (ji19)) (rd gt0_3 (ji19)) (rd gt0_4 (ji19))) else (none)) = some (r1, r2, r3, r4, r5) := by first | (rw [hji19] at H; exact H) | (simp only [hji19] at H ⊢; exact H)
     (try rw [hji19] at c18b0)
     by_cases c20 : 0 ≤ (ji19)
     ·
      rw [if_pos c20] at H
      have c20b0 : decide (0 ≤ (ji19)) = true := decide_eq_true c20
      clear c20
      have H' := Aside0.mk H
      clear H
      have p11021_0 : 0 ≤ (ji19 : Int) := of_decide_eq_true (by first | (with_reducible assumption) | assumption)
      have q11021_0 : (ji19 : Int) < 16 := of_decide_eq_true (by first | (with_reducible assumption) | assumption)
      have hx11021_0 := hG0.out.c0 (ji19 : Int) p11021_0 q11021_0
      have hx11021_1 := hG0.out.c1 (ji19 : Int) p11021_0 q11021_0
      have hx11021_2 := hG0.out.c2 (ji19 : Int) p11021_0 q11021_0
      have hx11021_3 := hG0.out.c3 (ji19 : Int) p11021_0 q11021_0
      have hx11021_4 := hG0.out.c4 (ji19 : Int) p11021_0 q11021_0
      have hn11021_0 : 0 ≠ gb109 := Nat.ne_of_lt (Nat.lt_of_lt_of_le (World.block_lt_of_cell? _ _ hx11021_0) GW109.out)
      have hn11021_1 : 0 ≠ gb109 := Nat.ne_of_lt (Nat.lt_of_lt_of_le (World.block_lt_of_cell? _ _ hx11021_0) GW109.out)
      have hn11021_2 : 0 ≠ gb109 := Nat.ne_of_lt (Nat.lt_of_lt_of_le (World.block_lt_of_cell? _ _ hx11021_0) GW109.out)
      have hn11021_3 : 0 ≠ gb109 := Nat.ne_of_lt (Nat.lt_of_lt_of_le (World.block_lt_of_cell? _ _ hx11021_0) GW109.out)
      have hn11021_4 : 0 ≠ gb109 := Nat.ne_of_lt (Nat.lt_of_lt_of_le (World.block_lt_of_cell? _ _ hx11021_0) GW109.out)
      replace hx11021_0 := pw_cell_below HB.out hx11021_0
      replace hx11021_1 := pw_cell_below HB.out hx11021_1
      replace hx11021_2 := pw_cell_below HB.out hx11021_2
      replace hx11021_3 := pw_cell_below HB.out hx11021_3
      replace hx11021_4 := pw_cell_below HB.out hx11021_4
      replace hx11021_0 := (cell_far (p := ⟨gb109, 0, none⟩) hn11021_0 (.bool true)).trans hx11021_0
      replace hx11021_1 := (cell_far (p := ⟨gb109, 0, none⟩) hn11021_0 (.bool true)).trans hx11021_1
      replace hx11021_2 := (cell_far (p := ⟨gb109, 0, none⟩) hn11021_0 (.bool true)).trans hx11021_2
      replace hx11021_3 := (cell_far (p := ⟨gb109, 0, none⟩) hn11021_0 (.bool true)).trans hx11021_3
      replace hx11021_4 := (cell_far (p := ⟨gb109, 0, none⟩) hn11021_0 (.bool true)).trans hx11021_4
      replace hx11021_0 := (cell_far (p := ⟨gb109, 1, none⟩) hn11021_1 (.int .i64 2)).trans hx11021_0
      replace hx11021_1 := (cell_far (p := ⟨gb109, 1, none⟩) hn11021_1 (.int .i64 2)).trans hx11021_1
      replace hx11021_2 := (cell_far (p := ⟨gb109, 1, none⟩) hn11021_1 (.int .i64 2)).trans hx11021_2
      replace hx11021_3 := (cell_far (p := ⟨gb109, 1, none⟩) hn11021_1 (.int .i64 2)).trans hx11021_3
      replace hx11021_4 := (cell_far (p := ⟨gb109, 1, none⟩) hn11021_1 (.int .i64 2)).trans hx11021_4
      replace hx11021_0 := (cell_far (p := ⟨gb109, 2, none⟩) hn11021_2 (.int .i64 (wrap64 (Go.bits .and .u32 (ji19) 3)))).trans hx11021_0
      replace hx11021_1 := (cell_far (p := ⟨gb109, 2, none⟩) hn11021_2 (.int .i64 (wrap64 (Go.bits .and .u32 (ji19) 3)))).trans hx11021_1
      replace hx11021_2 := (cell_far (p := ⟨gb109, 2, none⟩) hn11021_2 (.int .i64 (wrap64 (Go.bits .and .u32 (ji19) 3)))).trans hx11021_2
      replace hx11021_3 := (cell_far (p := ⟨gb109, 2, none⟩) hn11021_2 (.int .i64 (wrap64 (Go.bits .and .u32 (ji19) 3)))).trans hx11021_3
      replace hx11021_4 := (cell_far (p := ⟨gb109, 2, none⟩) hn11021_2 (.int .i64 (wrap64 (Go.bits .and .u32 (ji19) 3)))).trans hx11021_4
      replace hx11021_0 := (cell_far (p := ⟨gb109, 3, none⟩) hn11021_3 (.int .i64 (wrap64 ((wrap64 ((ji19) / 4)) - 4)))).trans hx11021_0
      replace hx11021_1 := (cell_far (p := ⟨gb109, 3, none⟩) hn11021_3 (.int .i64 (wrap64 ((wrap64 ((ji19) / 4)) - 4)))).trans hx11021_1
      replace hx11021_2 := (cell_far (p := ⟨gb109, 3, none⟩) hn11021_3 (.int .i64 (wrap64 ((wrap64 ((ji19) / 4)) - 4)))).trans hx11021_2
      replace hx11021_3 := (cell_far (p := ⟨gb109, 3, none⟩) hn11021_3 (.int .i64 (wrap64 ((wrap64 ((ji19) / 4)) - 4)))).trans hx11021_3
      replace hx11021_4 := (cell_far (p := ⟨gb109, 3, none⟩) hn11021_3 (.int .i64 (wrap64 ((wrap64 ((ji19) / 4)) - 4)))).trans hx11021_4
      replace hx11021_0 := (cell_far (p := ⟨gb109, 4, none⟩) hn11021_4 (.int .i64 0)).trans hx11021_0
      replace hx11021_1 := (cell_far (p := ⟨gb109, 4, none⟩) hn11021_4 (.int .i64 0)).trans hx11021_1
      replace hx11021_2 := (cell_far (p := ⟨gb109, 4, none⟩) hn11021_4 (.int .i64 0)).trans hx11021_2
      replace hx11021_3 := (cell_far (p := ⟨gb109, 4, none⟩) hn11021_4 (.int .i64 0)).trans hx11021_3
      replace hx11021_4 := (cell_far (p := ⟨gb109, 4, none⟩) hn11021_4 (.int .i64 0)).trans hx11021_4
      replace p11021_0 := eq_true p11021_0
      replace q11021_0 := eq_true q11021_0
      have hnb22 := NB109_103.out
      have hnc22 := NB103_109.out
      have hcz23_0 : w15.cell? ⟨gb109, 0, none⟩ = some (.bool false) := (blk_cell BK109.out 0).trans rfl
      have hcz23_1 : w15.cell? ⟨gb109, 1, none⟩ = some (.int .i64 0) := (blk_cell BK109.out 1).trans rfl
      have hcz23_2 : w15.cell? ⟨gb109, 2, none⟩ = some (.int .i64 0) := (blk_cell BK109.out 2).trans rfl
      have hcz23_3 : w15.cell? ⟨gb109, 3, none⟩ = some (.int .i64 0) := (blk_cell BK109.out 3).trans rfl
      have hcz23_4 : w15.cell? ⟨gb109, 4, none⟩ = some (.int .i64 0) := (blk_cell BK109.out 4).trans rfl
      have hfz23_0 := blk_frozen BK109.out 0
      have hfz23_1 := blk_frozen BK109.out 1
      have hfz23_2 := blk_frozen BK109.out 2
      have hfz23_3 := blk_frozen BK109.out 3
      have hfz23_4 := blk_frozen BK109.out 4
      go_wp2
      go_meet
      case rel => exact ⟨_, (rdOf false gt0_0 (ji19)), (rd gt0_1 (ji19)), (rd gt0_2 (ji19)), (rd gt0_3 (ji19)), (rd gt0_4 (ji19)), H', ⟨by first | omega | exact Nat.le_refl _⟩, ⟨by (with_reducible repeat (first | refine blk_drewN ?_ _ | refine blk_drew ?_ | refine blk_alloc ?_ _)); refine blk_far ?_ NB103_109.out _; (with_reducible repeat (first | refine blk_drewN ?_ _ | refine blk_drew ?_ | refine blk_alloc ?_ _)); refine blk_far ?_ NB103_109.out _; (with_reducible repeat (first | refine blk_drewN ?_ _ | refine blk_drew ?_ | refine blk_alloc ?_ _)); refine blk_far ?_ NB103_109.out _; (with_reducible repeat (first | refine blk_drewN ?_ _ | refine blk_drew ?_ | refine blk_alloc ?_ _)); refine blk_far ?_ NB103_109.out _; (with_reducible repeat (first | refine blk_drewN ?_ _ | refine blk_drew ?_ | refine blk_alloc ?_ _)); refine blk_far ?_ NB103_109.out _; (with_reducible repeat (first | refine blk_drewN ?_ _ | refine blk_drew ?_ | refine blk_alloc ?_ _)); refine blk_far ?_ NB103_109.out _; (with_reducible repeat (first | refine blk_drewN ?_ _ | refine blk_drew ?_ | refine blk_alloc ?_ _)); refine blk_far ?_ NB103_109.out _; (with_reducible repeat (first | refine blk_drewN ?_ _ | refine blk_drew ?_ | refine blk_alloc ?_ _)); refine blk_far ?_ NB103_109.out _; (with_reducible repeat (first | refine blk_drewN ?_ _ | refine blk_drew ?_ | refine blk_alloc ?_ _)); refine blk_far ?_ NB103_109.out _; (with_reducible repeat (first | refine blk_drewN ?_ _ | refine blk_drew ?_ | refine blk_alloc ?_ _)); refine blk_far ?_ NB103_109.out _; (with_reducible repeat (first | refine blk_drewN ?_ _ | refine blk_drew ?_ | refine blk_alloc ?_ _)); exact BK103.out⟩, ⟨by (with_reducible repeat (first | refine blk_drewN ?_ _ | refine blk_drew ?_ | refine blk_alloc ?_ _)); refine blk_put (cs := #[.bool (rdOf false gt0_0 (ji19)), .int .i64 (rd gt0_1 (ji19)), .int .i64 (rd gt0_2 (ji19)), .int .i64 (rd gt0_3 (ji19)), .int .i64 0]) ?_ 4 _ rfl; (with_reducible repeat (first | refine blk_drewN ?_ _ | refine blk_drew ?_ | refine blk_alloc ?_ _)); refine blk_put (cs := #[.bool (rdOf false gt0_0 (ji19)), .int .i64 (rd gt0_1 (ji19)), .int .i64 (rd gt0_2 (ji19)), .int .i64 (wrap64 ((wrap64 ((ji19) / 4)) - 4)), .int .i64 0]) ?_ 3 _ rfl; (with_reducible repeat (first | refine blk_drewN ?_ _ | refine blk_drew ?_ | refine blk_alloc ?_ _)); refine blk_put (cs := #[.bool (rdOf false gt0_0 (ji19)), .int .i64 (rd gt0_1 (ji19)), .int .i64 (wrap64 (Go.bits .and .u32 (ji19) 3)), .int .i64 (wrap64 ((wrap64 ((ji19) / 4)) - 4)), .int .i64 0]) ?_ 2 _ rfl; (with_reducible repeat (first | refine blk_drewN ?_ _ | refine blk_drew ?_ | refine blk_alloc ?_ _)); refine blk_put (cs := #[.bool (rdOf false gt0_0 (ji19)), .int .i64 2, .int .i64 (wrap64 (Go.bits .and .u32 (ji19) 3)), .int .i64 (wrap64 ((wrap64 ((ji19) / 4)) - 4)), .int .i64 0]) ?_ 1 _ rfl; (with_reducible repeat (first | refine blk_drewN ?_ _ | refine blk_drew ?_ | refine blk_alloc ?_ _)); refine blk_put (cs := #[.bool true, .int .i64 2, .int .i64 (wrap64 (Go.bits .and .u32 (ji19) 3)), .int .i64 (wrap64 ((wrap64 ((ji19) / 4)) - 4)), .int .i64 0]) ?_ 0 _ rfl; (with_reducible repeat (first | refine blk_drewN ?_ _ | refine blk_drew ?_ | refine blk_alloc ?_ _)); refine blk_put (cs := #[.bool true, .int .i64 2, .int .i64 (wrap64 (Go.bits .and .u32 (ji19) 3)), .int .i64 (wrap64 ((wrap64 ((ji19) / 4)) - 4)), .int .i64 0]) ?_ 4 _ rfl; (with_reducible repeat (first | refine blk_drewN ?_ _ | refine blk_drew ?_ | refine blk_alloc ?_ _)); refine blk_put (cs := #[.bool true, .int .i64 2, .int .i64 (wrap64 (Go.bits .and .u32 (ji19) 3)), .int .i64 0, .int .i64 0]) ?_ 3 _ rfl; (with_reducible repeat (first | refine blk_drewN ?_ _ | refine blk_drew ?_ | refine blk_alloc ?_ _)); refine blk_put (cs := #[.bool true, .int .i64 2, .int .i64 0, .int .i64 0, .int .i64 0]) ?_ 2 _ rfl; (with_reducible repeat (first | refine blk_drewN ?_ _ | refine blk_drew ?_ | refine blk_alloc ?_ _)); refine blk_put (cs := #[.bool true, .int .i64 0, .int .i64 0, .int .i64 0, .int .i64 0]) ?_ 1 _ rfl; (with_reducible repeat (first | refine blk_drewN ?_ _ | refine blk_drew ?_ | refine blk_alloc ?_ _)); refine blk_put (cs := #[.bool false, .int .i64 0, .int .i64 0, .int .i64 0, .int .i64 0]) ?_ 0 _ rfl; (with_reducible repeat (first | refine blk_drewN ?_ _ | refine blk_drew ?_ | refine blk_alloc ?_ _)); exact BK109.out⟩, ⟨by repeat (first | (with_reducible first | exact HB.out | apply below_alloc | apply pw_below_drewN | apply below_drew1 | refine below_set ?_ GE103.out | refine below_set ?_ GE109.out) | exact HB.out)⟩⟩
     ·
      rw [if_neg c20] at H
      exact absurd H (by simp)
    ·
     rw [if_neg c18] at H
     have c18b0 : decide ((a3 / 2) < 16) = false := decide_eq_false c18
     clear c18
     (first | rw [c18b0] | (simp only [i64_w, i32_w]; rw [c18b0]) | skip)
     have H' := Aside0.mk H
     clear H
     go_wp2
     go_meet
     case rel => exact ⟨_, (true), (2), (wrap64 (Go.bits .and .u32 (a3 / 2) 3)), (wrap64 ((wrap64 ((a3 / 2) / 4)) - 4)), (0), H', ⟨by first | omega | exact Nat.le_refl _⟩, ⟨by (with_reducible repeat (first | refine blk_drewN ?_ _ | refine blk_drew ?_ | refine blk_alloc ?_ _)); refine blk_far ?_ NB103_109.out _; (with_reducible repeat (first | refine blk_drewN ?_ _ | refine blk_drew ?_ | refine blk_alloc ?_ _)); refine blk_far ?_ NB103_109.out _; (with_reducible repeat (first | refine blk_drewN ?_ _ | refine blk_drew ?_ | refine blk_alloc ?_ _)); refine blk_far ?_ NB103_109.out _; (with_reducible repeat (first | refine blk_drewN ?_ _ | refine blk_drew ?_ | refine blk_alloc ?_ _)); refine blk_far ?_ NB103_109.out _; (with_reducible repeat (first | refine blk_drewN ?_ _ | refine blk_drew ?_ | refine blk_alloc ?_ _)); refine blk_far ?_ NB103_109.out _; (with_reducible repeat (first | refine blk_drewN ?_ _ | refine blk_drew ?_ | refine blk_alloc ?_ _)); exact BK103.out⟩, ⟨by (with_reducible repeat (first | refine blk_drewN ?_ _ | refine blk_drew ?_ | refine blk_alloc ?_ _)); refine blk_put (cs := #[.bool true, .int .i64 2, .int .i64 (wrap64 (Go.bits .and .u32 (a3 / 2) 3)), .int .i64 (wrap64 ((wrap64 ((a3 / 2) / 4)) - 4)), .int .i64 0]) ?_ 4 _ rfl; (with_reducible repeat (first | refine blk_drewN ?_ _ | refine blk_drew ?_ | refine blk_alloc ?_ _)); refine blk_put (cs := #[.bool true, .int .i64 2, .int .i64 (wrap64 (Go.bits .and .u32 (a3 / 2) 3)), .int .i64 0, .int .i64 0]) ?_ 3 _ rfl; (with_reducible repeat (first | refine blk_drewN ?_ _ | refine blk_drew ?_ | refine blk_alloc ?_ _)); refine blk_put (cs := #[.bool true, .int .i64 2, .int .i64 0, .int .i64 0, .int .i64 0]) ?_ 2 _ rfl; (with_reducible repeat (first | refine blk_drewN ?_ _ | refine blk_drew ?_ | refine blk_alloc ?_ _)); refine blk_put (cs := #[.bool true, .int .i64 0, .int .i64 0, .int .i64 0, .int .i64 0]) ?_ 1 _ rfl; (with_reducible repeat (first | refine blk_drewN ?_ _ | refine blk_drew ?_ | refine blk_alloc ?_ _)); refine blk_put (cs := #[.bool false, .int .i64 0, .int .i64 0, .int .i64 0, .int .i64 0]) ?_ 0 _ rfl; (with_reducible repeat (first | refine blk_drewN ?_ _ | refine blk_drew ?_ | refine blk_alloc ?_ _)); exact BK109.out⟩, ⟨by repeat (first | (with_reducible first | exact HB.out | apply below_alloc | apply pw_below_drewN | apply below_drew1 | refine below_set ?_ GE103.out | refine below_set ?_ GE109.out) | exact HB.out)⟩⟩
   case rest =>
    clear HC13
    try clear c1
    try clear p1
    try clear q1
    try clear hx1
    try clear c2
    try clear p2
    try clear c3
    try clear c4
    try clear c5
    try clear c5b0
    try clear p6
    try clear c8
    try clear p11
    try clear q11
    try clear hx11
    try clear c12
    try clear c16
    try clear c18
    try clear c18b0
    try clear c20
    try clear c20b0
    try clear c22
    try clear hcz12_0
    try clear hcz12_1
    try clear hcz12_2
    try clear hcz12_3
    try clear hcz17_0
    try clear hcz17_1
    try clear hcz17_2
    try clear hcz17_3
    try clear hcz17_4
    try clear hcz23_0
    try clear hcz23_1
    try clear hcz23_2
    try clear hcz23_3
    try clear hcz23_4
    try clear hcz7_0
    try clear hcz7_1
    try clear hcz7_2
    try clear hcz7_3
    try clear hfz12_0
    try clear hfz12_1
    try clear hfz12_2
    try clear hfz12_3
    try clear hfz17_0
    try clear hfz17_1
    try clear hfz17_2
    try clear hfz17_3
    try clear hfz17_4
    try clear hfz23_0
    try clear hfz23_1
    try clear hfz23_2
    try clear hfz23_3
    try clear hfz23_4
    try clear hfz7_0
    try clear hfz7_1
    try clear hfz7_2
    try clear hfz7_3
    try clear hx11021_0
    try clear hx11021_1
    try clear hx11021_2
    try clear hx11021_3
    try clear hx11021_4
    obtain ⟨kq, x110000_12, x110001_12, x110002_12, x110003_12, x110004_12, HA, HJ12, BK103, BK109, HB⟩ := hcut
    cases kq with
    | zero => exact absurd HA.out (by simp [attr_Of.j0])
    | succ kj12 =>
     have H := HA.out
     clear HA
     simp only [attr_Of.j0] at H
     by_cases c24 : x110000_12 = true
     ·
      subst c24
      have H1 : (if x110001_12 = 2 then (if (Go.bits .and .u32 a3 1) = 1 then (some (x110001_12, x110002_12, x110003_12, 2, 0)) else (some (x110001_12, x110002_12, x110003_12, x110004_12, 0))) else (some (x110001_12, x110002_12, x110003_12, x110004_12, 0))) = some (r1, r2, r3, r4, r5) := by rw [if_pos rfl] at H; exact H
      clear H
      have H := H1
      clear H1
      by_cases c25 : x110001_12 = 2
      ·
       rw [if_pos c25] at H
       have c25b0 : (x110001_12 == 2) = true := beq_iff_eq.mpr c25
       have c25b1 : (x110001_12 != 2) = false := bne_eq_false_iff_eq.mpr c25
       clear c25
       by_cases c26 : (Go.bits .and .u32 a3 1) = 1
       ·
        rw [if_pos c26] at H
        have c26b0 : ((Go.bits .and .u32 a3 1) == 1) = true := beq_iff_eq.mpr c26
        have c26b1 : ((Go.bits .and .u32 a3 1) != 1) = false := bne_eq_false_iff_eq.mpr c26
        clear c26
        simp only [Option.some.injEq, Prod.mk.injEq] at H
        obtain ⟨rfl, rfl, rfl, rfl, rfl⟩ := H
        have hnb27 := NB109_103.out
        have hnc27 := NB103_109.out
        have hcz28_0 : wc.cell? ⟨gb109, 0, none⟩ = some (.bool true) := (blk_cell BK109.out 0).trans rfl
        have hcz28_1 : wc.cell? ⟨gb109, 1, none⟩ = some (.int .i64 x110001_12) := (blk_cell BK109.out 1).trans rfl
        have hcz28_2 : wc.cell? ⟨gb109, 2, none⟩ = some (.int .i64 x110002_12) := (blk_cell BK109.out 2).trans rfl
        have hcz28_3 : wc.cell? ⟨gb109, 3, none⟩ = some (.int .i64 x110003_12) := (blk_cell BK109.out 3).trans rfl
        have hcz28_4 : wc.cell? ⟨gb109, 4, none⟩ = some (.int .i64 x110004_12) := (blk_cell BK109.out 4).trans rfl
        have hfz28_0 := blk_frozen BK109.out 0
        have hfz28_1 := blk_frozen BK109.out 1
        have hfz28_2 := blk_frozen BK109.out 2
        have hfz28_3 := blk_frozen BK109.out 3
        have hfz28_4 := blk_frozen BK109.out 4
        have hcz29_0 : wc.cell? ⟨gb103, 0, none⟩ = some (.int .i64 0) := (blk_cell BK103.out 0).trans rfl
        have hcz29_1 : wc.cell? ⟨gb103, 1, none⟩ = some (.int .i64 0) := (blk_cell BK103.out 1).trans rfl
        have hcz29_2 : wc.cell? ⟨gb103, 2, none⟩ = some (.int .i64 0) := (blk_cell BK103.out 2).trans rfl
        have hcz29_3 : wc.cell? ⟨gb103, 3, none⟩ = some (.int .i64 0) := (blk_cell BK103.out 3).trans rfl
        have hfz29_0 := blk_frozen BK103.out 0
        have hfz29_1 := blk_frozen BK103.out 1
        have hfz29_2 := blk_frozen BK103.out 2
        have hfz29_3 := blk_frozen BK103.out 3
        go_wp2
        refine bodyPost_ret (results_ct rfl _ _ gb103 24 #[.int .i64 x110001_12, .int .i64 x110002_12, .int .i64 x110003_12, .int .i64 2] (0, 0) _ rfl (by (with_reducible repeat (first | refine blk_drewN ?_ _ | refine blk_drew ?_ | refine blk_alloc ?_ _)); refine blk_put (cs := #[.int .i64 x110001_12, .int .i64 x110002_12, .int .i64 x110003_12, .int .i64 0]) ?_ 3 _ rfl; (with_reducible repeat (first | refine blk_drewN ?_ _ | refine blk_drew ?_ | refine blk_alloc ?_ _)); refine blk_put (cs := #[.int .i64 x110001_12, .int .i64 x110002_12, .int .i64 0, .int .i64 0]) ?_ 2 _ rfl; (with_reducible repeat (first | refine blk_drewN ?_ _ | refine blk_drew ?_ | refine blk_alloc ?_ _)); refine blk_put (cs := #[.int .i64 x110001_12, .int .i64 0, .int .i64 0, .int .i64 0]) ?_ 1 _ rfl; (with_reducible repeat (first | refine blk_drewN ?_ _ | refine blk_drew ?_ | refine blk_alloc ?_ _)); refine blk_put (cs := #[.int .i64 0, .int .i64 0, .int .i64 0, .int .i64 0]) ?_ 0 _ rfl; (with_reducible repeat (first | refine blk_drewN ?_ _ | refine blk_drew ?_ | refine blk_alloc ?_ _)); refine blk_far ?_ NB103_109.out _; (with_reducible repeat (first | refine blk_drewN ?_ _ | refine blk_drew ?_ | refine blk_alloc ?_ _)); exact BK103.out) Tryd.underlying24 rfl (by kernel_rfl)) rfl ?_
        exact ⟨by first | rfl | (simp [errW_none, errW_some] <;> rfl) | (simp [*, errW_none, errW_some] <;> rfl) | (simp [*, errW_none, errW_some] <;> exact isEmpty_ne _), by repeat (first | (with_reducible first | exact HB.out | apply below_alloc | apply pw_below_drewN | apply below_drew1 | refine below_set ?_ GE103.out | refine below_set ?_ GE109.out) | exact HB.out)⟩
       ·
        rw [if_neg c26] at H
        have c26b0 : ((Go.bits .and .u32 a3 1) == 1) = false := beq_eq_false_iff_ne.mpr c26
        have c26b1 : ((Go.bits .and .u32 a3 1) != 1) = true := bne_iff_ne.mpr c26
        simp only [Option.some.injEq, Prod.mk.injEq] at H
        obtain ⟨rfl, rfl, rfl, rfl, rfl⟩ := H
        have hnb30 := NB109_103.out
        have hnc30 := NB103_109.out
        have hcz31_0 : wc.cell? ⟨gb109, 0, none⟩ = some (.bool true) := (blk_cell BK109.out 0).trans rfl
        have hcz31_1 : wc.cell? ⟨gb109, 1, none⟩ = some (.int .i64 x110001_12) := (blk_cell BK109.out 1).trans rfl
        have hcz31_2 : wc.cell? ⟨gb109, 2, none⟩ = some (.int .i64 x110002_12) := (blk_cell BK109.out 2).trans rfl
        have hcz31_3 : wc.cell? ⟨gb109, 3, none⟩ = some (.int .i64 x110003_12) := (blk_cell BK109.out 3).trans rfl
        have hcz31_4 : wc.cell? ⟨gb109, 4, none⟩ = some (.int .i64 x110004_12) := (blk_cell BK109.out 4).trans rfl
        have hfz31_0 := blk_frozen BK109.out 0
        have hfz31_1 := blk_frozen BK109.out 1
        have hfz31_2 := blk_frozen BK109.out 2
        have hfz31_3 := blk_frozen BK109.out 3
        have hfz31_4 := blk_frozen BK109.out 4
        have hcz32_0 : wc.cell? ⟨gb103, 0, none⟩ = some (.int .i64 0) := (blk_cell BK103.out 0).trans rfl
        have hcz32_1 : wc.cell? ⟨gb103, 1, none⟩ = some (.int .i64 0) := (blk_cell BK103.out 1).trans rfl
        have hcz32_2 : wc.cell? ⟨gb103, 2, none⟩ = some (.int .i64 0) := (blk_cell BK103.out 2).trans rfl
        have hcz32_3 : wc.cell? ⟨gb103, 3, none⟩ = some (.int .i64 0) := (blk_cell BK103.out 3).trans rfl
        have hfz32_0 := blk_frozen BK103.out 0
        have hfz32_1 := blk_frozen BK103.out 1
        have hfz32_2 := blk_frozen BK103.out 2
        have hfz32_3 := blk_frozen BK103.out 3
        go_wp2
        refine bodyPost_ret (results_ct rfl _ _ gb103 24 #[.int .i64 x110001_12, .int .i64 x110002_12, .int .i64 x110003_12, .int .i64 x110004_12] (0, 0) _ rfl (by (with_reducible repeat (first | refine blk_drewN ?_ _ | refine blk_drew ?_ | refine blk_alloc ?_ _)); refine blk_put (cs := #[.int .i64 x110001_12, .int .i64 x110002_12, .int .i64 x110003_12, .int .i64 0]) ?_ 3 _ rfl; (with_reducible repeat (first | refine blk_drewN ?_ _ | refine blk_drew ?_ | refine blk_alloc ?_ _)); refine blk_put (cs := #[.int .i64 x110001_12, .int .i64 x110002_12, .int .i64 0, .int .i64 0]) ?_ 2 _ rfl; (with_reducible repeat (first | refine blk_drewN ?_ _ | refine blk_drew ?_ | refine blk_alloc ?_ _)); refine blk_put (cs := #[.int .i64 x110001_12, .int .i64 0, .int .i64 0, .int .i64 0]) ?_ 1 _ rfl; (with_reducible repeat (first | refine blk_drewN ?_ _ | refine blk_drew ?_ | refine blk_alloc ?_ _)); refine blk_put (cs := #[.int .i64 0, .int .i64 0, .int .i64 0, .int .i64 0]) ?_ 0 _ rfl; (with_reducible repeat (first | refine blk_drewN ?_ _ | refine blk_drew ?_ | refine blk_alloc ?_ _)); exact BK103.out) Tryd.underlying24 rfl (by kernel_rfl)) rfl ?_
        exact ⟨by first | rfl | (simp [errW_none, errW_some] <;> rfl) | (simp [*, errW_none, errW_some] <;> rfl) | (simp [*, errW_none, errW_some] <;> exact isEmpty_ne _), by repeat (first | (with_reducible first | exact HB.out | apply below_alloc | apply pw_below_drewN | apply below_drew1 | refine below_set ?_ GE103.out | refine below_set ?_ GE109.out) | exact HB.out)⟩
      ·
       rw [if_neg c25] at H
       have c25b0 : (x110001_12 == 2) = false := beq_eq_false_iff_ne.mpr c25
       have c25b1 : (x110001_12 != 2) = true := bne_iff_ne.mpr c25
       simp only [Option.some.injEq, Prod.mk.injEq] at H
       obtain ⟨rfl, rfl, rfl, rfl, rfl⟩ := H
       have hnb33 := NB109_103.out
       have hnc33 := NB103_109.out
       have hcz34_0 : wc.cell? ⟨gb109, 0, none⟩ = some (.bool true) := (blk_cell BK109.out 0).trans rfl
       have hcz34_1 : wc.cell? ⟨gb109, 1, none⟩ = some (.int .i64 x110001_12) := (blk_cell BK109.out 1).trans rfl
       have hcz34_2 : wc.cell? ⟨gb109, 2, none⟩ = some (.int .i64 x110002_12) := (blk_cell BK109.out 2).trans rfl
       have hcz34_3 : wc.cell? ⟨gb109, 3, none⟩ = some (.int .i64 x110003_12) := (blk_cell BK109.out 3).trans rfl
       have hcz34_4 : wc.cell? ⟨gb109, 4, none⟩ = some (.int .i64 x110004_12) := (blk_cell BK109.out 4).trans rfl
       have hfz34_0 := blk_frozen BK109.out 0
       have hfz34_1 := blk_frozen BK109.out 1
       have hfz34_2 := blk_frozen BK109.out 2
       have hfz34_3 := blk_frozen BK109.out 3
       have hfz34_4 := blk_frozen BK109.out 4
       have hcz35_0 : wc.cell? ⟨gb103, 0, none⟩ = some (.int .i64 0) := (blk_cell BK103.out 0).trans rfl
       have hcz35_1 : wc.cell? ⟨gb103, 1, none⟩ = some (.int .i64 0) := (blk_cell BK103.out 1).trans rfl
       have hcz35_2 : wc.cell? ⟨gb103, 2, none⟩ = some (.int .i64 0) := (blk_cell BK103.out 2).trans rfl
       have hcz35_3 : wc.cell? ⟨gb103, 3, none⟩ = some (.int .i64 0) := (blk_cell BK103.out 3).trans rfl
       have hfz35_0 := blk_frozen BK103.out 0
       have hfz35_1 := blk_frozen BK103.out 1
       have hfz35_2 := blk_frozen BK103.out 2
       have hfz35_3 := blk_frozen BK103.out 3
       go_wp2
       refine bodyPost_ret (results_ct rfl _ _ gb103 24 #[.int .i64 x110001_12, .int .i64 x110002_12, .int .i64 x110003_12, .int .i64 x110004_12] (0, 0) _ rfl (by (with_reducible repeat (first | refine blk_drewN ?_ _ | refine blk_drew ?_ | refine blk_alloc ?_ _)); refine blk_put (cs := #[.int .i64 x110001_12, .int .i64 x110002_12, .int .i64 x110003_12, .int .i64 0]) ?_ 3 _ rfl; (with_reducible repeat (first | refine blk_drewN ?_ _ | refine blk_drew ?_ | refine blk_alloc ?_ _)); refine blk_put (cs := #[.int .i64 x110001_12, .int .i64 x110002_12, .int .i64 0, .int .i64 0]) ?_ 2 _ rfl; (with_reducible repeat (first | refine blk_drewN ?_ _ | refine blk_drew ?_ | refine blk_alloc ?_ _)); refine blk_put (cs := #[.int .i64 x110001_12, .int .i64 0, .int .i64 0, .int .i64 0]) ?_ 1 _ rfl; (with_reducible repeat (first | refine blk_drewN ?_ _ | refine blk_drew ?_ | refine blk_alloc ?_ _)); refine blk_put (cs := #[.int .i64 0, .int .i64 0, .int .i64 0, .int .i64 0]) ?_ 0 _ rfl; (with_reducible repeat (first | refine blk_drewN ?_ _ | refine blk_drew ?_ | refine blk_alloc ?_ _)); exact BK103.out) Tryd.underlying24 rfl (by kernel_rfl)) rfl ?_
       exact ⟨by first | rfl | (simp [errW_none, errW_some] <;> rfl) | (simp [*, errW_none, errW_some] <;> rfl) | (simp [*, errW_none, errW_some] <;> exact isEmpty_ne _), by repeat (first | (with_reducible first | exact HB.out | apply below_alloc | apply pw_below_drewN | apply below_drew1 | refine below_set ?_ GE103.out | refine below_set ?_ GE109.out) | exact HB.out)⟩
     ·
      replace c24 := Bool.eq_false_iff.mpr c24
      subst c24
      have H1 : (some (0, 0, 0, 0, 61)) = some (r1, r2, r3, r4, r5) := by rw [if_neg (show ¬ (false = true) by decide)] at H; exact H
      clear H
      have H := H1
      clear H1
      simp only [Option.some.injEq, Prod.mk.injEq] at H
      obtain ⟨rfl, rfl, rfl, rfl, rfl⟩ := H
      have hnb36 := NB109_103.out
      have hnc36 := NB103_109.out
      have hcz37_0 : wc.cell? ⟨gb109, 0, none⟩ = some (.bool false) := (blk_cell BK109.out 0).trans rfl
      have hcz37_1 : wc.cell? ⟨gb109, 1, none⟩ = some (.int .i64 x110001_12) := (blk_cell BK109.out 1).trans rfl
      have hcz37_2 : wc.cell? ⟨gb109, 2, none⟩ = some (.int .i64 x110002_12) := (blk_cell BK109.out 2).trans rfl
      have hcz37_3 : wc.cell? ⟨gb109, 3, none⟩ = some (.int .i64 x110003_12) := (blk_cell BK109.out 3).trans rfl
      have hcz37_4 : wc.cell? ⟨gb109, 4, none⟩ = some (.int .i64 x110004_12) := (blk_cell BK109.out 4).trans rfl
      have hfz37_0 := blk_frozen BK109.out 0
      have hfz37_1 := blk_frozen BK109.out 1
      have hfz37_2 := blk_frozen BK109.out 2
      have hfz37_3 := blk_frozen BK109.out 3
      have hfz37_4 := blk_frozen BK109.out 4
      have hcz38_0 : wc.cell? ⟨gb103, 0, none⟩ = some (.int .i64 0) := (blk_cell BK103.out 0).trans rfl
      have hcz38_1 : wc.cell? ⟨gb103, 1, none⟩ = some (.int .i64 0) := (blk_cell BK103.out 1).trans rfl
      have hcz38_2 : wc.cell? ⟨gb103, 2, none⟩ = some (.int .i64 0) := (blk_cell BK103.out 2).trans rfl
      have hcz38_3 : wc.cell? ⟨gb103, 3, none⟩ = some (.int .i64 0) := (blk_cell BK103.out 3).trans rfl
      have hfz38_0 := blk_frozen BK103.out 0
      have hfz38_1 := blk_frozen BK103.out 1
      have hfz38_2 := blk_frozen BK103.out 2
      have hfz38_3 := blk_frozen BK103.out 3
      go_wp2
      refine bodyPost_ret (results_ct rfl _ _ gb103 24 #[.int .i64 0, .int .i64 0, .int .i64 0, .int .i64 0] (0, 0) _ rfl (by (with_reducible repeat (first | refine blk_drewN ?_ _ | refine blk_drew ?_ | refine blk_alloc ?_ _)); refine blk_put (cs := #[.int .i64 0, .int .i64 0, .int .i64 0, .int .i64 0]) ?_ 3 _ rfl; (with_reducible repeat (first | refine blk_drewN ?_ _ | refine blk_drew ?_ | refine blk_alloc ?_ _)); refine blk_put (cs := #[.int .i64 0, .int .i64 0, .int .i64 0, .int .i64 0]) ?_ 2 _ rfl; (with_reducible repeat (first | refine blk_drewN ?_ _ | refine blk_drew ?_ | refine blk_alloc ?_ _)); refine blk_put (cs := #[.int .i64 0, .int .i64 0, .int .i64 0, .int .i64 0]) ?_ 1 _ rfl; (with_reducible repeat (first | refine blk_drewN ?_ _ | refine blk_drew ?_ | refine blk_alloc ?_ _)); refine blk_put (cs := #[.int .i64 0, .int .i64 0, .int .i64 0, .int .i64 0]) ?_ 0 _ rfl; (with_reducible repeat (first | refine blk_drewN ?_ _ | refine blk_drew ?_ | refine blk_alloc ?_ _)); exact BK103.out) Tryd.underlying24 rfl (by kernel_rfl)) rfl ?_
      exact ⟨by first | rfl | (simp [errW_none, errW_some] <;> rfl) | (simp [*, errW_none, errW_some] <;> rfl) | (simp [*, errW_none, errW_some] <;> exact isEmpty_ne _), by repeat (first | (with_reducible first | exact HB.out | apply below_alloc | apply pw_below_drewN | apply below_drew1 | refine below_set ?_ GE103.out | refine below_set ?_ GE109.out) | exact HB.out)⟩

end Go.Proofs.YtkljijkejbfopaaDoor.S
