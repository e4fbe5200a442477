-- Written by a program of this session (wip/xprint.py), over the kit's print. Not trusted: Lean checks it.
import Derived.Test.YtkljijkejbfopaaDoorS0
import Derived.Test.YtkljijkejbfopaaDoorS11
import Derived.Test.YtkljijkejbfopaaDoorS12
namespace Go.Proofs.YtkljijkejbfopaaDoor.S
open Go.Proofs.YtkljijkejbfopaaDoorG
open Go.RowKit Go.Proofs.YtkljijkejbfopaaDoorW.PrintWords Go.Proofs.YtkljijkejbfopaaDoorW.PrintLast Go.Proofs.YtkljijkejbfopaaDoorW.PrintMore
attribute [local go_sem] max2_int min2_int max_two min_two max_three min_three max_four min_four   -- for this text's walks alone
set_option linter.unusedVariables false
set_option linter.unusedSimpArgs false

/-! ### attr_Read: function 20 -/
mutual
def attr_Read.l0 : Nat → ByteArray → List ByteArray → Int → Int → ByteArray → ByteArray → ByteArray → Option (Int × Int × Int × Int × Int)
 | 0, _, _, _, _, _, _, _ => none
 | k + 1, x0, x4, x5, x16, x900, x901, x902 => if x16 < 3 then (if 0 ≤ x16 then (if 0 ≤ (wrap64 ((x4.length : Int) - 1)) then (if (wrap64 ((x4.length : Int) - 1)) < (x4.length : Int) then (if (rdOf ByteArray.empty x4 (wrap64 ((x4.length : Int) - 1))).toList = (rdOf ByteArray.empty ([x900, x901, x902] : List ByteArray) x16).toList then (attr_Read.l0 k x0 x4 x16 (wrap64 (x16 + 1)) x900 x901 x902) else (attr_Read.l0 k x0 x4 x5 (wrap64 (x16 + 1)) x900 x901 x902)) else (none)) else (none)) else (none)) else (if (x4.length : Int) = 2 then (attr_Read.j3 k x0 1 0 0 x5) else (if (x4.length : Int) = 4 then (attr_Read.l1 k x0 x4 0 (rdOf ByteArray.empty gt2_0 0) (rdOf ByteArray.empty gt2_0 1) (rdOf ByteArray.empty gt2_0 2) (rdOf ByteArray.empty gt2_0 3) 2 0 0 x5) else (attr_Read.j3 k x0 0 0 0 2)))
def attr_Read.j3 : Nat → ByteArray → Int → Int → Int → Int → Option (Int × Int × Int × Int × Int)
 | 0, _, _, _, _, _ => none
 | k + 1, x0, x164000, x164001, x164002, x164003 => (attr_Show.f k x164000 x164001 x164002 x164003).bind fun bt171 => (if bt171.2 = 0 then (if bt171.1.toList = x0.toList then (some (x164000, x164001, x164002, x164003, 0)) else (some (0, 0, 0, 0, 62))) else (some (0, 0, 0, 0, 62)))
def attr_Read.l1 : Nat → ByteArray → List ByteArray → Int → ByteArray → ByteArray → ByteArray → ByteArray → Int → Int → Int → Int → Option (Int × Int × Int × Int × Int)
 | 0, _, _, _, _, _, _, _, _, _, _, _ => none
 | k + 1, x0, x4, x42, x903, x904, x905, x906, x164000, x164001, x164002, x164003 => if x42 < 4 then (if 0 ≤ x42 then (if 1 < (x4.length : Int) then (if (rdOf ByteArray.empty x4 1).toList = (rdOf ByteArray.empty ([x903, x904, x905, x906] : List ByteArray) x42).toList then (attr_Read.j2 k x0 x4 x42 (rdOf ByteArray.empty ([x903, x904, x905, x906] : List ByteArray) x42) x42 x903 x904 x905 x906 x164000 x42 x164002 x164003) else (attr_Read.j2 k x0 x4 x42 (rdOf ByteArray.empty ([x903, x904, x905, x906] : List ByteArray) x42) x42 x903 x904 x905 x906 x164000 x164001 x164002 x164003)) else (none)) else (none)) else (attr_Read.j3 k x0 x164000 x164001 x164002 x164003)
def attr_Read.j2 : Nat → ByteArray → List ByteArray → Int → ByteArray → Int → ByteArray → ByteArray → ByteArray → ByteArray → Int → Int → Int → Int → Option (Int × Int × Int × Int × Int)
 | 0, _, _, _, _, _, _, _, _, _, _, _, _, _ => none
 | k + 1, x0, x4, x9, x10, x42, x903, x904, x905, x906, x164000, x164001, x164002, x164003 => if 2 < (x4.length : Int) then (if (rdOf ByteArray.empty x4 2).toList = x10.toList then (attr_Read.l1 k x0 x4 (wrap64 (x42 + 1)) x903 x904 x905 x906 x164000 x164001 x9 x164003) else (attr_Read.l1 k x0 x4 (wrap64 (x42 + 1)) x903 x904 x905 x906 x164000 x164001 x164002 x164003)) else (none)
end
def attr_Read.f (k : Nat) (a0 : ByteArray) : Option (Int × Int × Int × Int × Int) := (strings_Split.f a0 (⟨#[32]⟩ : ByteArray)).bind fun t155 => (attr_Read.l0 k a0 t155 0 0 (rdOf ByteArray.empty gt1_0 0) (rdOf ByteArray.empty gt1_0 1) (rdOf ByteArray.empty gt1_0 2))
theorem attr_Read.mono_l : ∀ k, (∀ y0 y1 y2 y3 y4 y5 y6, LeO (attr_Read.l0 k y0 y1 y2 y3 y4 y5 y6) (attr_Read.l0 (k + 1) y0 y1 y2 y3 y4 y5 y6)) ∧ (∀ y0 y1 y2 y3 y4, LeO (attr_Read.j3 k y0 y1 y2 y3 y4) (attr_Read.j3 (k + 1) y0 y1 y2 y3 y4)) ∧ (∀ y0 y1 y2 y3 y4 y5 y6 y7 y8 y9 y10, LeO (attr_Read.l1 k y0 y1 y2 y3 y4 y5 y6 y7 y8 y9 y10) (attr_Read.l1 (k + 1) y0 y1 y2 y3 y4 y5 y6 y7 y8 y9 y10)) ∧ (∀ y0 y1 y2 y3 y4 y5 y6 y7 y8 y9 y10 y11 y12, LeO (attr_Read.j2 k y0 y1 y2 y3 y4 y5 y6 y7 y8 y9 y10 y11 y12) (attr_Read.j2 (k + 1) y0 y1 y2 y3 y4 y5 y6 y7 y8 y9 y10 y11 y12))
 | 0 => ⟨fun _ _ _ _ _ _ _ r h => by simp [attr_Read.l0] at h, fun _ _ _ _ _ r h => by simp [attr_Read.j3] at h, fun _ _ _ _ _ _ _ _ _ _ _ r h => by simp [attr_Read.l1] at h, fun _ _ _ _ _ _ _ _ _ _ _ _ _ r h => by simp [attr_Read.j2] at h⟩
 | k + 1 => by
  obtain ⟨ih0, ih1, ih2, ih3⟩ := attr_Read.mono_l k
  refine ⟨?_, ?_, ?_, ?_⟩
  ·
   intro y0 y1 y2 y3 y4 y5 y6
   unfold attr_Read.l0
   repeat' first
   | (with_reducible exact ih0 _ _ _ _ _ _ _)
   | (with_reducible exact ih1 _ _ _ _ _)
   | (with_reducible exact ih2 _ _ _ _ _ _ _ _ _ _ _)
   | (with_reducible exact ih3 _ _ _ _ _ _ _ _ _ _ _ _ _)
   | (with_reducible exact attr_Show.mono _ _ _ _ _)
   | (with_reducible exact LeO.refl _)
   | (with_reducible exact LeO.none _)
   | (with_reducible refine LeO.ite ?_ ?_)
   | (with_reducible refine LeO.bind ?_ (fun _ => ?_))
   | exact ih0 _ _ _ _ _ _ _
   | exact ih1 _ _ _ _ _
   | exact ih2 _ _ _ _ _ _ _ _ _ _ _
   | exact ih3 _ _ _ _ _ _ _ _ _ _ _ _ _
   | exact attr_Show.mono _ _ _ _ _
   | exact LeO.none _
   | refine LeO.ite ?_ ?_
   | refine LeO.bind ?_ (fun _ => ?_)
  ·
   intro y0 y1 y2 y3 y4
   unfold attr_Read.j3
   repeat' first
   | (with_reducible exact ih0 _ _ _ _ _ _ _)
   | (with_reducible exact ih1 _ _ _ _ _)
   | (with_reducible exact ih2 _ _ _ _ _ _ _ _ _ _ _)
   | (with_reducible exact ih3 _ _ _ _ _ _ _ _ _ _ _ _ _)
   | (with_reducible exact attr_Show.mono _ _ _ _ _)
   | (with_reducible exact LeO.refl _)
   | (with_reducible exact LeO.none _)
   | (with_reducible refine LeO.ite ?_ ?_)
   | (with_reducible refine LeO.bind ?_ (fun _ => ?_))
   | exact ih0 _ _ _ _ _ _ _
   | exact ih1 _ _ _ _ _
   | exact ih2 _ _ _ _ _ _ _ _ _ _ _
   | exact ih3 _ _ _ _ _ _ _ _ _ _ _ _ _
   | exact attr_Show.mono _ _ _ _ _
   | exact LeO.none _
   | refine LeO.ite ?_ ?_
   | refine LeO.bind ?_ (fun _ => ?_)
  ·
   intro y0 y1 y2 y3 y4 y5 y6 y7 y8 y9 y10
   unfold attr_Read.l1
   repeat' first
   | (with_reducible exact ih0 _ _ _ _ _ _ _)
   | (with_reducible exact ih1 _ _ _ _ _)
   | (with_reducible exact ih2 _ _ _ _ _ _ _ _ _ _ _)
   | (with_reducible exact ih3 _ _ _ _ _ _ _ _ _ _ _ _ _)
   | (with_reducible exact attr_Show.mono _ _ _ _ _)
   | (with_reducible exact LeO.refl _)
   | (with_reducible exact LeO.none _)
   | (with_reducible refine LeO.ite ?_ ?_)
   | (with_reducible refine LeO.bind ?_ (fun _ => ?_))
   | exact ih0 _ _ _ _ _ _ _
   | exact ih1 _ _ _ _ _
   | exact ih2 _ _ _ _ _ _ _ _ _ _ _
   | exact ih3 _ _ _ _ _ _ _ _ _ _ _ _ _
   | exact attr_Show.mono _ _ _ _ _
   | exact LeO.none _
   | refine LeO.ite ?_ ?_
   | refine LeO.bind ?_ (fun _ => ?_)
  ·
   intro y0 y1 y2 y3 y4 y5 y6 y7 y8 y9 y10 y11 y12
   unfold attr_Read.j2
   repeat' first
   | (with_reducible exact ih0 _ _ _ _ _ _ _)
   | (with_reducible exact ih1 _ _ _ _ _)
   | (with_reducible exact ih2 _ _ _ _ _ _ _ _ _ _ _)
   | (with_reducible exact ih3 _ _ _ _ _ _ _ _ _ _ _ _ _)
   | (with_reducible exact attr_Show.mono _ _ _ _ _)
   | (with_reducible exact LeO.refl _)
   | (with_reducible exact LeO.none _)
   | (with_reducible refine LeO.ite ?_ ?_)
   | (with_reducible refine LeO.bind ?_ (fun _ => ?_))
   | exact ih0 _ _ _ _ _ _ _
   | exact ih1 _ _ _ _ _
   | exact ih2 _ _ _ _ _ _ _ _ _ _ _
   | exact ih3 _ _ _ _ _ _ _ _ _ _ _ _ _
   | exact attr_Show.mono _ _ _ _ _
   | exact LeO.none _
   | refine LeO.ite ?_ ?_
   | refine LeO.bind ?_ (fun _ => ?_)
theorem attr_Read.mono : ∀ a0 k, LeO (attr_Read.f k a0) (attr_Read.f (k + 1) a0) := by
 intro a0 k
 obtain ⟨ih0, ih1, ih2, ih3⟩ := attr_Read.mono_l k
 unfold attr_Read.f
 repeat' first
   | (with_reducible exact ih0 _ _ _ _ _ _ _)
   | (with_reducible exact ih1 _ _ _ _ _)
   | (with_reducible exact ih2 _ _ _ _ _ _ _ _ _ _ _)
   | (with_reducible exact ih3 _ _ _ _ _ _ _ _ _ _ _ _ _)
   | (with_reducible exact attr_Show.mono _ _ _ _ _)
   | (with_reducible exact LeO.refl _)
   | (with_reducible exact LeO.none _)
   | (with_reducible refine LeO.ite ?_ ?_)
   | (with_reducible refine LeO.bind ?_ (fun _ => ?_))
   | exact ih0 _ _ _ _ _ _ _
   | exact ih1 _ _ _ _ _
   | exact ih2 _ _ _ _ _ _ _ _ _ _ _
   | exact ih3 _ _ _ _ _ _ _ _ _ _ _ _ _
   | exact attr_Show.mono _ _ _ _ _
   | exact LeO.none _
   | refine LeO.ite ?_ ?_
   | refine LeO.bind ?_ (fun _ => ?_)
set_option maxHeartbeats 8000000 in
set_option maxRecDepth 100000 in
theorem attr_Read.calls (k : Nat) (a0 : ByteArray) (r1 : Int) (r2 : Int) (r3 : Int) (r4 : Int) (r5 : Int) (w : World) (hG1 : Aside0 (G1 w)) (hG2 : Aside0 (G2 w)) (hG3 : Aside0 (G3 w)) (h : attr_Read.f k a0 = some (r1, r2, r3, r4, r5)) :
  Calls Tryd.prog 20 #[.string a0] w fun e w' => e = .returned (.tuple #[.agg #[.int .i64 r1, .int .i64 r2, .int .i64 r3, .int .i64 r4], .int .i64 r5]) ∧ Below w.heap.size w w' := by
 have hu24 := Tryd.underlying24
 have hu56 := Tryd.underlying56
 have hu58 := Tryd.underlying58
 have HB := Aside0.mk (Below.refl w.heap.size w)
 have H : ((strings_Split.f a0 (⟨#[32]⟩ : ByteArray)).bind fun t155 => (attr_Read.l0 k a0 t155 0 0 (rdOf ByteArray.empty gt1_0 0) (rdOf ByteArray.empty gt1_0 1) (rdOf ByteArray.empty gt1_0 2))) = some (r1, r2, r3, r4, r5) := h
 clear h
 replace H := Option.bind_eq_some_iff.mp H
 obtain ⟨t155, A20, H⟩ := H
 replace H : (attr_Read.l0 k a0 t155 0 0 (rdOf ByteArray.empty gt1_0 0) (rdOf ByteArray.empty gt1_0 1) (rdOf ByteArray.empty gt1_0 2)) = some (r1, r2, r3, r4, r5) := H
 have A2 := Aside0.mk A20
 clear A20
 have H' := Aside0.mk H
 clear H
 go_enter Tryd.func20, Tryd.ntmps20
 go_wp2_with (first | ((with_reducible refine gate_dst (N := 2) rfl ?_); refine box_event ?hg (N := 2) ?hd (cs := #[.int .i64 0, .int .i64 0, .int .i64 0, .int .i64 0]) (t := 24) ?hr ?_; (case hd => rfl); (case hg => rfl); (case hr => first | (go_simp; done) | (go_simp; rfl)); intro gb154 hg w3 hbox hb; have n0_ := Aside0.mk (below_step (by repeat (first | (with_reducible first | exact HB.out | apply below_alloc | apply pw_below_drewN | apply below_drew1) | exact HB.out)) hb); have n1_ := Aside0.mk (hbox); have n2_ := Aside0.mk ((by rw [hg]; exact (below_size (by repeat (first | (with_reducible first | exact HB.out | apply below_alloc | apply pw_below_drewN | apply below_drew1) | exact HB.out))) : w.heap.size ≤ gb154)); have n3_ := Aside0.mk ((by rw [hg]; exact (below_size (by repeat (first | (with_reducible first | exact HB.out | apply below_alloc | apply pw_below_drewN | apply below_drew1) | exact HB.out))) : w.heap.size ≤ gb154)); clear HB; have HB := n0_; have BK154 := n1_; have GW154 := n2_; have GE154 := n3_; clear n0_ n1_ n2_ n3_; clear hb hbox hg) | ((with_reducible refine gate_callee (f := 28) rfl ?_); refine goesL_ (some 14) rfl rfl Tryd.func28 (by kernel_rfl) rfl #[.string a0, .string (⟨#[32]⟩ : ByteArray)] rfl (by (try simp only [List.map_toArray, List.map_cons, List.map_nil]); first | done | rfl | (simp only [List.length_drop, List.length_take]; rfl)) ?_; (with_reducible refine (strings_Split.calls a0 (⟨#[32]⟩ : ByteArray) t155 _ ?side1 A2.out).mono ?_); (case side1 => exact ⟨G3.below hG3.out (by repeat (first | (with_reducible first | exact HB.out | apply below_alloc | apply pw_below_drewN | apply below_drew1 | refine below_set ?_ GE154.out) | exact HB.out))⟩); rintro e w4 ⟨v156, rfl, ho0, hb⟩; refine ⟨_, rfl, ?_⟩; have n0_ := Aside0.mk (Kd.R_lower ho0 (below_size (by repeat (first | (with_reducible first | exact HB.out | apply below_alloc | apply pw_below_drewN | apply below_drew1 | refine below_set ?_ GE154.out) | exact HB.out)))); have n1_ := Aside0.mk (blk_below (g := gb154) (o := .cells #[.int .i64 0, .int .i64 0, .int .i64 0, .int .i64 0] 24 (0, 0)) (by (with_reducible repeat (first | refine blk_drewN ?_ _ | refine blk_drew ?_ | refine blk_alloc ?_ _)); exact BK154.out) hb); have n2_ := Aside0.mk (below_step (by repeat (first | (with_reducible first | exact HB.out | apply below_alloc | apply pw_below_drewN | apply below_drew1 | refine below_set ?_ GE154.out) | exact HB.out)) hb); clear BK154; clear HB; have HO157 := n0_; have BK154 := n1_; have HB := n2_; clear n0_ n1_ n2_; (try clear hb); (try clear hb2); (try clear hk); (try clear hi); (try clear ho0); have p1585_0 : 0 ≤ (0 : Int) := (by omega); have q1585_0 : (0 : Int) < 3 := (by omega); have hx1585_0 := hG1.out.c0 (0 : Int) p1585_0 q1585_0; (try rw [show ((0 : Int)).toNat = 0 from rfl] at hx1585_0); (try simp only [Nat.reduceMul, Nat.zero_mul, Nat.zero_add, Nat.add_zero, Nat.reduceAdd] at hx1585_0); replace hx1585_0 := pw_cell_below HB.out hx1585_0; replace p1585_0 := eq_true p1585_0; replace q1585_0 := eq_true q1585_0; have p1596_0 : 0 ≤ (1 : Int) := (by omega); have q1596_0 : (1 : Int) < 3 := (by omega); have hx1596_0 := hG1.out.c0 (1 : Int) p1596_0 q1596_0; (try rw [show ((1 : Int)).toNat = 1 from rfl] at hx1596_0); (try simp only [Nat.reduceMul, Nat.zero_mul, Nat.zero_add, Nat.add_zero, Nat.reduceAdd] at hx1596_0); replace hx1596_0 := pw_cell_below HB.out hx1596_0; replace p1596_0 := eq_true p1596_0; replace q1596_0 := eq_true q1596_0; have p1607_0 : 0 ≤ (2 : Int) := (by omega); have q1607_0 : (2 : Int) < 3 := (by omega); have hx1607_0 := hG1.out.c0 (2 : Int) p1607_0 q1607_0; (try rw [show ((2 : Int)).toNat = 2 from rfl] at hx1607_0); (try simp only [Nat.reduceMul, Nat.zero_mul, Nat.zero_add, Nat.add_zero, Nat.reduceAdd] at hx1607_0); replace hx1607_0 := pw_cell_below HB.out hx1607_0; replace p1607_0 := eq_true p1607_0; replace q1607_0 := eq_true q1607_0))
 go_loopg [5, 16] k (fun kq v5 v16 w' => ∃ (x5_1 : Int) (x16_1 : Int), v5 = .int .i64 x5_1 ∧ v16 = .int .i64 x16_1 ∧ Aside0 (attr_Read.l0 kq a0 t155 x5_1 x16_1 (rdOf ByteArray.empty gt1_0 0) (rdOf ByteArray.empty gt1_0 1) (rdOf ByteArray.empty gt1_0 2) = some (r1, r2, r3, r4, r5)) ∧ Aside0 (kq ≤ k) ∧ Aside0 (Kd.R Kd.string 9 w' w.heap.size (fun _ => True) v156 t155) ∧ Aside0 (w'.heap[gb154]? = some (.cells #[.int .i64 0, .int .i64 0, .int .i64 0, .int .i64 0] 24 (0, 0))) ∧ Aside0 (Below w.heap.size w w'))
 case atStart => exact ⟨(0), (0), (by first | rfl | (simp; done) | (simp [*]; done)), (by first | rfl | (simp; done) | (simp [*]; done)), H', ⟨Nat.le_refl _⟩, ⟨by (with_reducible repeat (first | apply Kd.R_alloc | apply Kd.R_drewN | apply Kd.R_drew)); exact HO157.out⟩, ⟨by (with_reducible repeat (first | refine blk_drewN ?_ _ | refine blk_drew ?_ | refine blk_alloc ?_ _)); exact BK154.out⟩, ⟨by repeat (first | (with_reducible first | exact HB.out | apply below_alloc | apply pw_below_drewN | apply below_drew1 | refine below_set ?_ GE154.out) | exact HB.out)⟩⟩
 case round =>
  clear H'
  try clear p1
  try clear q1
  try clear hx1
  try clear c2
  try clear p2
  try clear hx1585_0
  try clear hx1596_0
  try clear hx1607_0
  obtain ⟨x5_1, x16_1, rfl, rfl, HA, HK1, HO_4, BK154, HB⟩ := hrel
  cases gk with
  | zero => exact absurd HA.out (by simp [attr_Read.l0])
  | succ k1 =>
   have H := HA.out
   clear HA
   simp only [attr_Read.l0] at H
   by_cases c8 : x16_1 < 3
   ·
    rw [if_pos c8] at H
    have c8b0 : decide (x16_1 < 3) = true := decide_eq_true c8
    clear c8
    by_cases c9 : 0 ≤ x16_1
    ·
     rw [if_pos c9] at H
     have c9b0 : decide (0 ≤ x16_1) = true := decide_eq_true c9
     clear c9
     obtain ⟨ji10, hji10⟩ : ∃ j_ : Int, (wrap64 ((t155.length : Int) - 1)) = j_ := ⟨_, rfl⟩
     replace H : (if 0 ≤ (ji10) then (if (ji10) < (t155.length : Int) then (if (rdOf ByteArray.empty t155 (ji10)).toList = (rdOf ByteArray.empty ([(rdOf ByteArray.empty gt1_0 0), (rdOf ByteArray.empty gt1_0 1), (rdOf ByteArray.empty gt1_0 2)] : List ByteArray) x16_1).toList then (attr_Read.l0 k1 a0 t155 x16_1 (wrap64 (x16_1 + 1)) (rdOf ByteArray.empty gt1_0 0) (rdOf ByteArray.empty gt1_0 1) (rdOf ByteArray.empty gt1_0 2)) else (attr_Read.l0 k1 a0 t155 x5_1 (wrap64 (x16_1 + 1)) (rdOf ByteArray.empty gt1_0 0) (rdOf ByteArray.empty gt1_0 1) (rdOf ByteArray.empty gt1_0 2))) else (none)) else (none)) = some (r1, r2, r3, r4, r5) := by first | (rw [hji10] at H; exact H) | (simp only [hji10] at H ⊢; exact H)
     have hji10w : (IntKind.i64.wrap ((t155.length : Int) - 1)) = ji10 := (i64_w _).trans hji10
     by_cases c11 : 0 ≤ (ji10)
     ·
      rw [if_pos c11] at H
      have c11b0 : decide (0 ≤ (ji10)) = true := decide_eq_true c11
      clear c11
      by_cases c12 : (ji10) < (t155.length : Int)
      ·
       rw [if_pos c12] at H
       have c12b0 : decide ((ji10) < (t155.length : Int)) = true := decide_eq_true c12
       clear c12
       by_cases c13 : (rdOf ByteArray.empty t155 (ji10)).toList = (rdOf ByteArray.empty ([(rdOf ByteArray.empty gt1_0 0), (rdOf ByteArray.empty gt1_0 1), (rdOf ByteArray.empty gt1_0 2)] : List ByteArray) x16_1).toList
       ·
        rw [if_pos c13] at H
        have c13b0 : ((rdOf ByteArray.empty t155 (ji10)).toList == (rdOf ByteArray.empty ([(rdOf ByteArray.empty gt1_0 0), (rdOf ByteArray.empty gt1_0 1), (rdOf ByteArray.empty gt1_0 2)] : List ByteArray) x16_1).toList) = true := beq_iff_eq.mpr c13
        have c13b1 : ((rdOf ByteArray.empty t155 (ji10)).toList != (rdOf ByteArray.empty ([(rdOf ByteArray.empty gt1_0 0), (rdOf ByteArray.empty gt1_0 1), (rdOf ByteArray.empty gt1_0 2)] : List ByteArray) x16_1).toList) = false := bne_eq_false_iff_eq.mpr c13
        clear c13
        have H' := Aside0.mk H
        clear H
        have hix161 : ∀ w_ : World, (Instr.index 56 (.agg #[.string (rdOf ByteArray.empty gt1_0 0), .string (rdOf ByteArray.empty gt1_0 1), .string (rdOf ByteArray.empty gt1_0 2)]) (.int .i64 x16_1)).run Tryd.prog w_ = .ok (.string (rdOf ByteArray.empty ([(rdOf ByteArray.empty gt1_0 0), (rdOf ByteArray.empty gt1_0 1), (rdOf ByteArray.empty gt1_0 2)] : List ByteArray) x16_1)) w_ := fun w_ => ix_runs (P := Tryd.prog) (t := 56) (e := 9) (n := 3) [(rdOf ByteArray.empty gt1_0 0), (rdOf ByteArray.empty gt1_0 1), (rdOf ByteArray.empty gt1_0 2)] Tryd.underlying56 Tryd.underlying9 (by kernel_rfl) rfl .i64 x16_1 (of_decide_eq_true (by first | (with_reducible assumption) | assumption)) (of_decide_eq_true (by first | (with_reducible assumption) | assumption)) w_
        obtain ⟨Ao14, co14, eo14⟩ := Kd.R_slice HO_4.out
        subst eo14
        have p162 : 0 ≤ ((ji10) : Int) := of_decide_eq_true (by first | (with_reducible assumption) | assumption)
        have q162 : (ji10) < (t155.length : Int) := of_decide_eq_true (by first | (with_reducible assumption) | assumption)
        obtain ⟨ad162, e162, hx162_0⟩ := Kd.at_string (Kd.R_reads' HO_4.out).2.2 (ji10) p162 q162
        cases e162
        replace p162 := eq_true p162
        replace q162 := eq_true q162
        go_wp2
        go_roundg k1
        case measure => have := HK1.out; omega
        case rel => exact ⟨(x16_1), (wrap64 (x16_1 + 1)), (by first | rfl | (simp; done) | (simp [*]; done)), (by first | rfl | (simp; done) | (simp [*]; done)), H', ⟨by have := HK1.out; omega⟩, ⟨by (with_reducible repeat (first | apply Kd.R_alloc | apply Kd.R_drewN | apply Kd.R_drew)); exact HO_4.out⟩, ⟨by (with_reducible repeat (first | refine blk_drewN ?_ _ | refine blk_drew ?_ | refine blk_alloc ?_ _)); exact BK154.out⟩, ⟨by repeat (first | (with_reducible first | exact HB.out | apply below_alloc | apply pw_below_drewN | apply below_drew1 | refine below_set ?_ GE154.out) | exact HB.out)⟩⟩
       ·
        rw [if_neg c13] at H
        have c13b0 : ((rdOf ByteArray.empty t155 (ji10)).toList == (rdOf ByteArray.empty ([(rdOf ByteArray.empty gt1_0 0), (rdOf ByteArray.empty gt1_0 1), (rdOf ByteArray.empty gt1_0 2)] : List ByteArray) x16_1).toList) = false := beq_eq_false_iff_ne.mpr c13
        have c13b1 : ((rdOf ByteArray.empty t155 (ji10)).toList != (rdOf ByteArray.empty ([(rdOf ByteArray.empty gt1_0 0), (rdOf ByteArray.empty gt1_0 1), (rdOf ByteArray.empty gt1_0 2)] : List ByteArray) x16_1).toList) = true := bne_iff_ne.mpr c13
        have H' := Aside0.mk H
        clear H
        have hix161 : ∀ w_ : World, (Instr.index 56 (.agg #[.string (rdOf ByteArray.empty gt1_0 0), .string (rdOf ByteArray.empty gt1_0 1), .string (rdOf ByteArray.empty gt1_0 2)]) (.int .i64 x16_1)).run Tryd.prog w_ = .ok (.string (rdOf ByteArray.empty ([(rdOf ByteArray.empty gt1_0 0), (rdOf ByteArray.empty gt1_0 1), (rdOf ByteArray.empty gt1_0 2)] : List ByteArray) x16_1)) w_ := fun w_ => ix_runs (P := Tryd.prog) (t := 56) (e := 9) (n := 3) [(rdOf ByteArray.empty gt1_0 0), (rdOf ByteArray.empty gt1_0 1), (rdOf ByteArray.empty gt1_0 2)] Tryd.underlying56 Tryd.underlying9 (by kernel_rfl) rfl .i64 x16_1 (of_decide_eq_true (by first | (with_reducible assumption) | assumption)) (of_decide_eq_true (by first | (with_reducible assumption) | assumption)) w_
        obtain ⟨Ao15, co15, eo15⟩ := Kd.R_slice HO_4.out
        subst eo15
        have p162 : 0 ≤ ((ji10) : Int) := of_decide_eq_true (by first | (with_reducible assumption) | assumption)
        have q162 : (ji10) < (t155.length : Int) := of_decide_eq_true (by first | (with_reducible assumption) | assumption)
        obtain ⟨ad162, e162, hx162_0⟩ := Kd.at_string (Kd.R_reads' HO_4.out).2.2 (ji10) p162 q162
        cases e162
        replace p162 := eq_true p162
        replace q162 := eq_true q162
        go_wp2
        go_roundg k1
        case measure => have := HK1.out; omega
        case rel => exact ⟨(x5_1), (wrap64 (x16_1 + 1)), (by first | rfl | (simp; done) | (simp [*]; done)), (by first | rfl | (simp; done) | (simp [*]; done)), H', ⟨by have := HK1.out; omega⟩, ⟨by (with_reducible repeat (first | apply Kd.R_alloc | apply Kd.R_drewN | apply Kd.R_drew)); exact HO_4.out⟩, ⟨by (with_reducible repeat (first | refine blk_drewN ?_ _ | refine blk_drew ?_ | refine blk_alloc ?_ _)); exact BK154.out⟩, ⟨by repeat (first | (with_reducible first | exact HB.out | apply below_alloc | apply pw_below_drewN | apply below_drew1 | refine below_set ?_ GE154.out) | exact HB.out)⟩⟩
      ·
       rw [if_neg c12] at H
       exact absurd H (by simp)
     ·
      rw [if_neg c11] at H
      exact absurd H (by simp)
    ·
     rw [if_neg c9] at H
     exact absurd H (by simp)
   ·
    rw [if_neg c8] at H
    have c8b0 : decide (x16_1 < 3) = false := decide_eq_false c8
    clear c8
    have HC16 := Aside0.mk H
    clear H
    go_upto_block 2 with (first | ((with_reducible refine gate_dst (N := 8) rfl ?_); refine box_event ?hg (N := 8) ?hd (cs := #[.int .i64 0, .int .i64 0, .int .i64 0, .int .i64 0]) (t := 24) ?hr ?_; (case hd => rfl); (case hg => rfl); (case hr => first | (go_simp; done) | (go_simp; rfl)); intro gb163 hg w17 hbox hb; have n0_ := Aside0.mk (Kd.R_below (by (with_reducible repeat (first | apply Kd.R_alloc | apply Kd.R_drewN | apply Kd.R_drew)); exact HO_4.out) hb); have n1_ := Aside0.mk (blk_below (g := gb154) (o := .cells #[.int .i64 0, .int .i64 0, .int .i64 0, .int .i64 0] 24 (0, 0)) (by (with_reducible repeat (first | refine blk_drewN ?_ _ | refine blk_drew ?_ | refine blk_alloc ?_ _)); exact BK154.out) hb); have n2_ := Aside0.mk (below_step (by repeat (first | (with_reducible first | exact HB.out | apply below_alloc | apply pw_below_drewN | apply below_drew1 | refine below_set ?_ GE154.out) | exact HB.out)) hb); have n3_ := Aside0.mk (hbox); have n4_ := Aside0.mk ((by rw [hg]; exact (below_size (by repeat (first | (with_reducible first | exact HB.out | apply below_alloc | apply pw_below_drewN | apply below_drew1 | refine below_set ?_ GE154.out) | exact HB.out))) : w.heap.size ≤ gb163)); have n5_ := Aside0.mk ((by rw [hg]; exact (below_size (by repeat (first | (with_reducible first | exact HB.out | apply below_alloc | apply pw_below_drewN | apply below_drew1 | refine below_set ?_ GE154.out) | exact HB.out))) : w.heap.size ≤ gb163)); have n6_ := Aside0.mk ((by rw [hg]; exact Nat.ne_of_lt (blk_lt (g := gb154) (o := .cells #[.int .i64 0, .int .i64 0, .int .i64 0, .int .i64 0] 24 (0, 0)) (by (with_reducible repeat (first | refine blk_drewN ?_ _ | refine blk_drew ?_ | refine blk_alloc ?_ _)); exact BK154.out)) : gb154 ≠ gb163)); have n7_ := Aside0.mk ((by rw [hg]; exact Nat.ne_of_gt (blk_lt (g := gb154) (o := .cells #[.int .i64 0, .int .i64 0, .int .i64 0, .int .i64 0] 24 (0, 0)) (by (with_reducible repeat (first | refine blk_drewN ?_ _ | refine blk_drew ?_ | refine blk_alloc ?_ _)); exact BK154.out)) : gb163 ≠ gb154)); clear HO_4; clear BK154; clear HB; have HO_4 := n0_; have BK154 := n1_; have HB := n2_; have BK163 := n3_; have GW163 := n4_; have GE163 := n5_; have NB154_163 := n6_; have NB163_154 := n7_; clear n0_ n1_ n2_ n3_ n4_ n5_ n6_ n7_; clear hb hbox hg; have hnb18 := NB163_154.out; have hnc18 := NB154_163.out; have hcz19_0 : w17.cell? ⟨gb163, 0, none⟩ = some (.int .i64 0) := (blk_cell BK163.out 0).trans rfl; have hcz19_1 : w17.cell? ⟨gb163, 1, none⟩ = some (.int .i64 0) := (blk_cell BK163.out 1).trans rfl; have hcz19_2 : w17.cell? ⟨gb163, 2, none⟩ = some (.int .i64 0) := (blk_cell BK163.out 2).trans rfl; have hcz19_3 : w17.cell? ⟨gb163, 3, none⟩ = some (.int .i64 0) := (blk_cell BK163.out 3).trans rfl; have hfz19_0 := blk_frozen BK163.out 0; have hfz19_1 := blk_frozen BK163.out 1; have hfz19_2 := blk_frozen BK163.out 2; have hfz19_3 := blk_frozen BK163.out 3; obtain ⟨Ao20, co20, eo20⟩ := Kd.R_slice HO_4.out; subst eo20))
    (try simp only [Act.put, List.setIfInBounds_toArray, List.set_cons_zero, List.set_cons_succ])
    go_cut [] (fun wc => ∃ (kq : Nat) (x164000_15 : Int) (x164001_15 : Int) (x164002_15 : Int) (x164003_15 : Int), Aside0 (attr_Read.j3 kq a0 x164000_15 x164001_15 x164002_15 x164003_15 = some (r1, r2, r3, r4, r5)) ∧ Aside0 (kq ≤ k1) ∧ Aside0 (wc.heap[gb154]? = some (.cells #[.int .i64 0, .int .i64 0, .int .i64 0, .int .i64 0] 24 (0, 0))) ∧ Aside0 (wc.heap[gb163]? = some (.cells #[.int .i64 x164000_15, .int .i64 x164001_15, .int .i64 x164002_15, .int .i64 x164003_15] 24 (0, 0))) ∧ Aside0 (Below w.heap.size w wc))
    case first =>
     have H := HC16.out
     clear HC16
     by_cases c21 : (t155.length : Int) = 2
     ·
      rw [if_pos c21] at H
      have c21b0 : ((t155.length : Int) == 2) = true := beq_iff_eq.mpr c21
      have c21b1 : ((t155.length : Int) != 2) = false := bne_eq_false_iff_eq.mpr c21
      clear c21
      (first | rw [c21b0] | (simp only [i64_w, i32_w]; rw [c21b0]) | skip)
      have H' := Aside0.mk H
      clear H
      have hnb22 := NB163_154.out
      have hnc22 := NB154_163.out
      have hcz23_0 : w17.cell? ⟨gb163, 0, none⟩ = some (.int .i64 0) := (blk_cell BK163.out 0).trans rfl
      have hcz23_1 : w17.cell? ⟨gb163, 1, none⟩ = some (.int .i64 0) := (blk_cell BK163.out 1).trans rfl
      have hcz23_2 : w17.cell? ⟨gb163, 2, none⟩ = some (.int .i64 0) := (blk_cell BK163.out 2).trans rfl
      have hcz23_3 : w17.cell? ⟨gb163, 3, none⟩ = some (.int .i64 0) := (blk_cell BK163.out 3).trans rfl
      have hfz23_0 := blk_frozen BK163.out 0
      have hfz23_1 := blk_frozen BK163.out 1
      have hfz23_2 := blk_frozen BK163.out 2
      have hfz23_3 := blk_frozen BK163.out 3
      go_wp2
      go_meet
      case rel => exact ⟨_, (1), (0), (0), (x5_1), H', ⟨by have := HK1.out; first | omega | exact Nat.le_refl _⟩, ⟨by (with_reducible repeat (first | refine blk_drewN ?_ _ | refine blk_drew ?_ | refine blk_alloc ?_ _)); refine blk_far ?_ NB154_163.out _; (with_reducible repeat (first | refine blk_drewN ?_ _ | refine blk_drew ?_ | refine blk_alloc ?_ _)); refine blk_far ?_ NB154_163.out _; (with_reducible repeat (first | refine blk_drewN ?_ _ | refine blk_drew ?_ | refine blk_alloc ?_ _)); refine blk_far ?_ NB154_163.out _; (with_reducible repeat (first | refine blk_drewN ?_ _ | refine blk_drew ?_ | refine blk_alloc ?_ _)); refine blk_far ?_ NB154_163.out _; (with_reducible repeat (first | refine blk_drewN ?_ _ | refine blk_drew ?_ | refine blk_alloc ?_ _)); refine blk_far ?_ NB154_163.out _; (with_reducible repeat (first | refine blk_drewN ?_ _ | refine blk_drew ?_ | refine blk_alloc ?_ _)); refine blk_far ?_ NB154_163.out _; (with_reducible repeat (first | refine blk_drewN ?_ _ | refine blk_drew ?_ | refine blk_alloc ?_ _)); refine blk_far ?_ NB154_163.out _; (with_reducible repeat (first | refine blk_drewN ?_ _ | refine blk_drew ?_ | refine blk_alloc ?_ _)); refine blk_far ?_ NB154_163.out _; (with_reducible repeat (first | refine blk_drewN ?_ _ | refine blk_drew ?_ | refine blk_alloc ?_ _)); exact BK154.out⟩, ⟨by (with_reducible repeat (first | refine blk_drewN ?_ _ | refine blk_drew ?_ | refine blk_alloc ?_ _)); refine blk_put (cs := #[.int .i64 1, .int .i64 0, .int .i64 0, .int .i64 2]) ?_ 3 _ rfl; (with_reducible repeat (first | refine blk_drewN ?_ _ | refine blk_drew ?_ | refine blk_alloc ?_ _)); refine blk_put (cs := #[.int .i64 1, .int .i64 0, .int .i64 0, .int .i64 2]) ?_ 2 _ rfl; (with_reducible repeat (first | refine blk_drewN ?_ _ | refine blk_drew ?_ | refine blk_alloc ?_ _)); refine blk_put (cs := #[.int .i64 1, .int .i64 0, .int .i64 0, .int .i64 2]) ?_ 1 _ rfl; (with_reducible repeat (first | refine blk_drewN ?_ _ | refine blk_drew ?_ | refine blk_alloc ?_ _)); refine blk_put (cs := #[.int .i64 0, .int .i64 0, .int .i64 0, .int .i64 2]) ?_ 0 _ rfl; (with_reducible repeat (first | refine blk_drewN ?_ _ | refine blk_drew ?_ | refine blk_alloc ?_ _)); refine blk_put (cs := #[.int .i64 0, .int .i64 0, .int .i64 0, .int .i64 0]) ?_ 3 _ rfl; (with_reducible repeat (first | refine blk_drewN ?_ _ | refine blk_drew ?_ | refine blk_alloc ?_ _)); refine blk_put (cs := #[.int .i64 0, .int .i64 0, .int .i64 0, .int .i64 0]) ?_ 2 _ rfl; (with_reducible repeat (first | refine blk_drewN ?_ _ | refine blk_drew ?_ | refine blk_alloc ?_ _)); refine blk_put (cs := #[.int .i64 0, .int .i64 0, .int .i64 0, .int .i64 0]) ?_ 1 _ rfl; (with_reducible repeat (first | refine blk_drewN ?_ _ | refine blk_drew ?_ | refine blk_alloc ?_ _)); refine blk_put (cs := #[.int .i64 0, .int .i64 0, .int .i64 0, .int .i64 0]) ?_ 0 _ rfl; (with_reducible repeat (first | refine blk_drewN ?_ _ | refine blk_drew ?_ | refine blk_alloc ?_ _)); exact BK163.out⟩, ⟨by repeat (first | (with_reducible first | exact HB.out | apply below_alloc | apply pw_below_drewN | apply below_drew1 | refine below_set ?_ GE154.out | refine below_set ?_ GE163.out) | exact HB.out)⟩⟩
     ·
      rw [if_neg c21] at H
      have c21b0 : ((t155.length : Int) == 2) = false := beq_eq_false_iff_ne.mpr c21
      have c21b1 : ((t155.length : Int) != 2) = true := bne_iff_ne.mpr c21
      (first | rw [c21b0] | (simp only [i64_w, i32_w]; rw [c21b0]) | skip)
      by_cases c24 : (t155.length : Int) = 4
      ·
       rw [if_pos c24] at H
       have c24b0 : ((t155.length : Int) == 4) = true := beq_iff_eq.mpr c24
       have c24b1 : ((t155.length : Int) != 4) = false := bne_eq_false_iff_eq.mpr c24
       clear c24
       have H' := Aside0.mk H
       clear H
       have hnb25 := NB163_154.out
       have hnc25 := NB154_163.out
       have hcz26_0 : w17.cell? ⟨gb163, 0, none⟩ = some (.int .i64 0) := (blk_cell BK163.out 0).trans rfl
       have hcz26_1 : w17.cell? ⟨gb163, 1, none⟩ = some (.int .i64 0) := (blk_cell BK163.out 1).trans rfl
       have hcz26_2 : w17.cell? ⟨gb163, 2, none⟩ = some (.int .i64 0) := (blk_cell BK163.out 2).trans rfl
       have hcz26_3 : w17.cell? ⟨gb163, 3, none⟩ = some (.int .i64 0) := (blk_cell BK163.out 3).trans rfl
       have hfz26_0 := blk_frozen BK163.out 0
       have hfz26_1 := blk_frozen BK163.out 1
       have hfz26_2 := blk_frozen BK163.out 2
       have hfz26_3 := blk_frozen BK163.out 3
       have p16427_0 : 0 ≤ (0 : Int) := (by omega)
       have q16427_0 : (0 : Int) < 4 := (by omega)
       have hx16427_0 := hG2.out.c0 (0 : Int) p16427_0 q16427_0
       (try rw [show ((0 : Int)).toNat = 0 from rfl] at hx16427_0)
       (try simp only [Nat.reduceMul, Nat.zero_mul, Nat.zero_add, Nat.add_zero, Nat.reduceAdd] at hx16427_0)
       have hn16427_0 : 2 ≠ gb163 := Nat.ne_of_lt (Nat.lt_of_lt_of_le (World.block_lt_of_cell? _ _ hx16427_0) GW163.out)
       have hn16427_1 : 2 ≠ gb163 := Nat.ne_of_lt (Nat.lt_of_lt_of_le (World.block_lt_of_cell? _ _ hx16427_0) GW163.out)
       have hn16427_2 : 2 ≠ gb163 := Nat.ne_of_lt (Nat.lt_of_lt_of_le (World.block_lt_of_cell? _ _ hx16427_0) GW163.out)
       have hn16427_3 : 2 ≠ gb163 := Nat.ne_of_lt (Nat.lt_of_lt_of_le (World.block_lt_of_cell? _ _ hx16427_0) GW163.out)
       have hn16427_4 : 2 ≠ gb163 := Nat.ne_of_lt (Nat.lt_of_lt_of_le (World.block_lt_of_cell? _ _ hx16427_0) GW163.out)
       have hn16427_5 : 2 ≠ gb163 := Nat.ne_of_lt (Nat.lt_of_lt_of_le (World.block_lt_of_cell? _ _ hx16427_0) GW163.out)
       have hn16427_6 : 2 ≠ gb163 := Nat.ne_of_lt (Nat.lt_of_lt_of_le (World.block_lt_of_cell? _ _ hx16427_0) GW163.out)
       have hn16427_7 : 2 ≠ gb163 := Nat.ne_of_lt (Nat.lt_of_lt_of_le (World.block_lt_of_cell? _ _ hx16427_0) GW163.out)
       replace hx16427_0 := pw_cell_below HB.out hx16427_0
       replace hx16427_0 := (cell_far (p := ⟨gb163, 0, none⟩) hn16427_0 (.int .i64 0)).trans hx16427_0
       replace hx16427_0 := (cell_far (p := ⟨gb163, 1, none⟩) hn16427_1 (.int .i64 0)).trans hx16427_0
       replace hx16427_0 := (cell_far (p := ⟨gb163, 2, none⟩) hn16427_2 (.int .i64 0)).trans hx16427_0
       replace hx16427_0 := (cell_far (p := ⟨gb163, 3, none⟩) hn16427_3 (.int .i64 2)).trans hx16427_0
       replace hx16427_0 := (cell_far (p := ⟨gb163, 0, none⟩) hn16427_4 (.int .i64 2)).trans hx16427_0
       replace hx16427_0 := (cell_far (p := ⟨gb163, 1, none⟩) hn16427_5 (.int .i64 0)).trans hx16427_0
       replace hx16427_0 := (cell_far (p := ⟨gb163, 2, none⟩) hn16427_6 (.int .i64 0)).trans hx16427_0
       replace hx16427_0 := (cell_far (p := ⟨gb163, 3, none⟩) hn16427_7 (.int .i64 x5_1)).trans hx16427_0
       replace p16427_0 := eq_true p16427_0
       replace q16427_0 := eq_true q16427_0
       have p16528_0 : 0 ≤ (1 : Int) := (by omega)
       have q16528_0 : (1 : Int) < 4 := (by omega)
       have hx16528_0 := hG2.out.c0 (1 : Int) p16528_0 q16528_0
       (try rw [show ((1 : Int)).toNat = 1 from rfl] at hx16528_0)
       (try simp only [Nat.reduceMul, Nat.zero_mul, Nat.zero_add, Nat.add_zero, Nat.reduceAdd] at hx16528_0)
       have hn16528_0 : 2 ≠ gb163 := Nat.ne_of_lt (Nat.lt_of_lt_of_le (World.block_lt_of_cell? _ _ hx16528_0) GW163.out)
       have hn16528_1 : 2 ≠ gb163 := Nat.ne_of_lt (Nat.lt_of_lt_of_le (World.block_lt_of_cell? _ _ hx16528_0) GW163.out)
       have hn16528_2 : 2 ≠ gb163 := Nat.ne_of_lt (Nat.lt_of_lt_of_le (World.block_lt_of_cell? _ _ hx16528_0) GW163.out)
       have hn16528_3 : 2 ≠ gb163 := Nat.ne_of_lt (Nat.lt_of_lt_of_le (World.block_lt_of_cell? _ _ hx16528_0) GW163.out)
       have hn16528_4 : 2 ≠ gb163 := Nat.ne_of_lt (Nat.lt_of_lt_of_le (World.block_lt_of_cell? _ _ hx16528_0) GW163.out)
       have hn16528_5 : 2 ≠ gb163 := Nat.ne_of_lt (Nat.lt_of_lt_of_le (World.block_lt_of_cell? _ _ hx16528_0) GW163.out)
       have hn16528_6 : 2 ≠ gb163 := Nat.ne_of_lt (Nat.lt_of_lt_of_le (World.block_lt_of_cell? _ _ hx16528_0) GW163.out)
       have hn16528_7 : 2 ≠ gb163 := Nat.ne_of_lt (Nat.lt_of_lt_of_le (World.block_lt_of_cell? _ _ hx16528_0) GW163.out)
       replace hx16528_0 := pw_cell_below HB.out hx16528_0
       replace hx16528_0 := (cell_far (p := ⟨gb163, 0, none⟩) hn16528_0 (.int .i64 0)).trans hx16528_0
       replace hx16528_0 := (cell_far (p := ⟨gb163, 1, none⟩) hn16528_1 (.int .i64 0)).trans hx16528_0
       replace hx16528_0 := (cell_far (p := ⟨gb163, 2, none⟩) hn16528_2 (.int .i64 0)).trans hx16528_0
       replace hx16528_0 := (cell_far (p := ⟨gb163, 3, none⟩) hn16528_3 (.int .i64 2)).trans hx16528_0
       replace hx16528_0 := (cell_far (p := ⟨gb163, 0, none⟩) hn16528_4 (.int .i64 2)).trans hx16528_0
       replace hx16528_0 := (cell_far (p := ⟨gb163, 1, none⟩) hn16528_5 (.int .i64 0)).trans hx16528_0
       replace hx16528_0 := (cell_far (p := ⟨gb163, 2, none⟩) hn16528_6 (.int .i64 0)).trans hx16528_0
       replace hx16528_0 := (cell_far (p := ⟨gb163, 3, none⟩) hn16528_7 (.int .i64 x5_1)).trans hx16528_0
       replace p16528_0 := eq_true p16528_0
       replace q16528_0 := eq_true q16528_0
       have p16629_0 : 0 ≤ (2 : Int) := (by omega)
       have q16629_0 : (2 : Int) < 4 := (by omega)
       have hx16629_0 := hG2.out.c0 (2 : Int) p16629_0 q16629_0
       (try rw [show ((2 : Int)).toNat = 2 from rfl] at hx16629_0)
       (try simp only [Nat.reduceMul, Nat.zero_mul, Nat.zero_add, Nat.add_zero, Nat.reduceAdd] at hx16629_0)
       have hn16629_0 : 2 ≠ gb163 := Nat.ne_of_lt (Nat.lt_of_lt_of_le (World.block_lt_of_cell? _ _ hx16629_0) GW163.out)
       have hn16629_1 : 2 ≠ gb163 := Nat.ne_of_lt (Nat.lt_of_lt_of_le (World.block_lt_of_cell? _ _ hx16629_0) GW163.out)
       have hn16629_2 : 2 ≠ gb163 := Nat.ne_of_lt (Nat.lt_of_lt_of_le (World.block_lt_of_cell? _ _ hx16629_0) GW163.out)
       have hn16629_3 : 2 ≠ gb163 := Nat.ne_of_lt (Nat.lt_of_lt_of_le (World.block_lt_of_cell? _ _ hx16629_0) GW163.out)
       have hn16629_4 : 2 ≠ gb163 := Nat.ne_of_lt (Nat.lt_of_lt_of_le (World.block_lt_of_cell? _ _ hx16629_0) GW163.out)
       have hn16629_5 : 2 ≠ gb163 := Nat.ne_of_lt (Nat.lt_of_lt_of_le (World.block_lt_of_cell? _ _ hx16629_0) GW163.out)
       have hn16629_6 : 2 ≠ gb163 := Nat.ne_of_lt (Nat.lt_of_lt_of_le (World.block_lt_of_cell? _ _ hx16629_0) GW163.out)
       have hn16629_7 : 2 ≠ gb163 := Nat.ne_of_lt (Nat.lt_of_lt_of_le (World.block_lt_of_cell? _ _ hx16629_0) GW163.out)
       replace hx16629_0 := pw_cell_below HB.out hx16629_0
       replace hx16629_0 := (cell_far (p := ⟨gb163, 0, none⟩) hn16629_0 (.int .i64 0)).trans hx16629_0
       replace hx16629_0 := (cell_far (p := ⟨gb163, 1, none⟩) hn16629_1 (.int .i64 0)).trans hx16629_0
       replace hx16629_0 := (cell_far (p := ⟨gb163, 2, none⟩) hn16629_2 (.int .i64 0)).trans hx16629_0
       replace hx16629_0 := (cell_far (p := ⟨gb163, 3, none⟩) hn16629_3 (.int .i64 2)).trans hx16629_0
       replace hx16629_0 := (cell_far (p := ⟨gb163, 0, none⟩) hn16629_4 (.int .i64 2)).trans hx16629_0
       replace hx16629_0 := (cell_far (p := ⟨gb163, 1, none⟩) hn16629_5 (.int .i64 0)).trans hx16629_0
       replace hx16629_0 := (cell_far (p := ⟨gb163, 2, none⟩) hn16629_6 (.int .i64 0)).trans hx16629_0
       replace hx16629_0 := (cell_far (p := ⟨gb163, 3, none⟩) hn16629_7 (.int .i64 x5_1)).trans hx16629_0
       replace p16629_0 := eq_true p16629_0
       replace q16629_0 := eq_true q16629_0
       have p16730_0 : 0 ≤ (3 : Int) := (by omega)
       have q16730_0 : (3 : Int) < 4 := (by omega)
       have hx16730_0 := hG2.out.c0 (3 : Int) p16730_0 q16730_0
       (try rw [show ((3 : Int)).toNat = 3 from rfl] at hx16730_0)
       (try simp only [Nat.reduceMul, Nat.zero_mul, Nat.zero_add, Nat.add_zero, Nat.reduceAdd] at hx16730_0)
       have hn16730_0 : 2 ≠ gb163 := Nat.ne_of_lt (Nat.lt_of_lt_of_le (World.block_lt_of_cell? _ _ hx16730_0) GW163.out)
       have hn16730_1 : 2 ≠ gb163 := Nat.ne_of_lt (Nat.lt_of_lt_of_le (World.block_lt_of_cell? _ _ hx16730_0) GW163.out)
       have hn16730_2 : 2 ≠ gb163 := Nat.ne_of_lt (Nat.lt_of_lt_of_le (World.block_lt_of_cell? _ _ hx16730_0) GW163.out)
       have hn16730_3 : 2 ≠ gb163 := Nat.ne_of_lt (Nat.lt_of_lt_of_le (World.block_lt_of_cell? _ _ hx16730_0) GW163.out)
       have hn16730_4 : 2 ≠ gb163 := Nat.ne_of_lt (Nat.lt_of_lt_of_le (World.block_lt_of_cell? _ _ hx16730_0) GW163.out)
       have hn16730_5 : 2 ≠ gb163 := Nat.ne_of_lt (Nat.lt_of_lt_of_le (World.block_lt_of_cell? _ _ hx16730_0) GW163.out)
       have hn16730_6 : 2 ≠ gb163 := Nat.ne_of_lt (Nat.lt_of_lt_of_le (World.block_lt_of_cell? _ _ hx16730_0) GW163.out)
       have hn16730_7 : 2 ≠ gb163 := Nat.ne_of_lt (Nat.lt_of_lt_of_le (World.block_lt_of_cell? _ _ hx16730_0) GW163.out)
       replace hx16730_0 := pw_cell_below HB.out hx16730_0
       replace hx16730_0 := (cell_far (p := ⟨gb163, 0, none⟩) hn16730_0 (.int .i64 0)).trans hx16730_0
       replace hx16730_0 := (cell_far (p := ⟨gb163, 1, none⟩) hn16730_1 (.int .i64 0)).trans hx16730_0
       replace hx16730_0 := (cell_far (p := ⟨gb163, 2, none⟩) hn16730_2 (.int .i64 0)).trans hx16730_0
       replace hx16730_0 := (cell_far (p := ⟨gb163, 3, none⟩) hn16730_3 (.int .i64 2)).trans hx16730_0
       replace hx16730_0 := (cell_far (p := ⟨gb163, 0, none⟩) hn16730_4 (.int .i64 2)).trans hx16730_0
       replace hx16730_0 := (cell_far (p := ⟨gb163, 1, none⟩) hn16730_5 (.int .i64 0)).trans hx16730_0
       replace hx16730_0 := (cell_far (p := ⟨gb163, 2, none⟩) hn16730_6 (.int .i64 0)).trans hx16730_0
       replace hx16730_0 := (cell_far (p := ⟨gb163, 3, none⟩) hn16730_7 (.int .i64 x5_1)).trans hx16730_0
       replace p16730_0 := eq_true p16730_0
       replace q16730_0 := eq_true q16730_0
       go_wp2
       go_loopg [42] k1 (fun kq v42 w' => ∃ (x42_2 : Int) (x164001_2 : Int) (x164002_2 : Int), v42 = .int .i64 x42_2 ∧ Aside0 (attr_Read.l1 kq a0 t155 x42_2 (rdOf ByteArray.empty gt2_0 0) (rdOf ByteArray.empty gt2_0 1) (rdOf ByteArray.empty gt2_0 2) (rdOf ByteArray.empty gt2_0 3) 2 x164001_2 x164002_2 x5_1 = some (r1, r2, r3, r4, r5)) ∧ Aside0 (kq ≤ k1) ∧ Aside0 (Kd.R Kd.string 9 w' w.heap.size (fun _ => True) (.slice Ao20 t155.length co20) t155) ∧ Aside0 (w'.heap[gb154]? = some (.cells #[.int .i64 0, .int .i64 0, .int .i64 0, .int .i64 0] 24 (0, 0))) ∧ Aside0 (w'.heap[gb163]? = some (.cells #[.int .i64 2, .int .i64 x164001_2, .int .i64 x164002_2, .int .i64 x5_1] 24 (0, 0))) ∧ Aside0 (Below w.heap.size w w'))
       case atStart => exact ⟨(0), (0), (0), (by first | rfl | (simp; done) | (simp [*]; done)), H', ⟨Nat.le_refl _⟩, ⟨by (with_reducible repeat (first | apply Kd.R_alloc | apply Kd.R_drewN | apply Kd.R_drew)); exact Kd.R_mono (Kd.R_far (p := ⟨gb163, 3, none⟩) (Kd.R_far (p := ⟨gb163, 2, none⟩) (Kd.R_far (p := ⟨gb163, 1, none⟩) (Kd.R_far (p := ⟨gb163, 0, none⟩) (Kd.R_far (p := ⟨gb163, 3, none⟩) (Kd.R_far (p := ⟨gb163, 2, none⟩) (Kd.R_far (p := ⟨gb163, 1, none⟩) (Kd.R_far (p := ⟨gb163, 0, none⟩) (Kd.R_types HO_4.out BK163.out (by decide)) (fun _ hk => hk.2) (.int .i64 0)) (fun _ hk => hk.2) (.int .i64 0)) (fun _ hk => hk.2) (.int .i64 0)) (fun _ hk => hk.2) (.int .i64 2)) (fun _ hk => hk.2) (.int .i64 2)) (fun _ hk => hk.2) (.int .i64 0)) (fun _ hk => hk.2) (.int .i64 0)) (fun _ hk => hk.2) (.int .i64 x5_1)) (fun _ hk => trivial)⟩, ⟨by (with_reducible repeat (first | refine blk_drewN ?_ _ | refine blk_drew ?_ | refine blk_alloc ?_ _)); refine blk_far ?_ NB154_163.out _; (with_reducible repeat (first | refine blk_drewN ?_ _ | refine blk_drew ?_ | refine blk_alloc ?_ _)); refine blk_far ?_ NB154_163.out _; (with_reducible repeat (first | refine blk_drewN ?_ _ | refine blk_drew ?_ | refine blk_alloc ?_ _)); refine blk_far ?_ NB154_163.out _; (with_reducible repeat (first | refine blk_drewN ?_ _ | refine blk_drew ?_ | refine blk_alloc ?_ _)); refine blk_far ?_ NB154_163.out _; (with_reducible repeat (first | refine blk_drewN ?_ _ | refine blk_drew ?_ | refine blk_alloc ?_ _)); refine blk_far ?_ NB154_163.out _; (with_reducible repeat (first | refine blk_drewN ?_ _ | refine blk_drew ?_ | refine blk_alloc ?_ _)); refine blk_far ?_ NB154_163.out _; (with_reducible repeat (first | refine blk_drewN ?_ _ | refine blk_drew ?_ | refine blk_alloc ?_ _)); refine blk_far ?_ NB154_163.out _; (with_reducible repeat (first | refine blk_drewN ?_ _ | refine blk_drew ?_ | refine blk_alloc ?_ _)); refine blk_far ?_ NB154_163.out _; (with_reducible repeat (first | refine blk_drewN ?_ _ | refine blk_drew ?_ | refine blk_alloc ?_ _)); exact BK154.out⟩, ⟨by (with_reducible repeat (first | refine blk_drewN ?_ _ | refine blk_drew ?_ | refine blk_alloc ?_ _)); refine blk_put (cs := #[.int .i64 2, .int .i64 0, .int .i64 0, .int .i64 2]) ?_ 3 _ rfl; (with_reducible repeat (first | refine blk_drewN ?_ _ | refine blk_drew ?_ | refine blk_alloc ?_ _)); refine blk_put (cs := #[.int .i64 2, .int .i64 0, .int .i64 0, .int .i64 2]) ?_ 2 _ rfl; (with_reducible repeat (first | refine blk_drewN ?_ _ | refine blk_drew ?_ | refine blk_alloc ?_ _)); refine blk_put (cs := #[.int .i64 2, .int .i64 0, .int .i64 0, .int .i64 2]) ?_ 1 _ rfl; (with_reducible repeat (first | refine blk_drewN ?_ _ | refine blk_drew ?_ | refine blk_alloc ?_ _)); refine blk_put (cs := #[.int .i64 0, .int .i64 0, .int .i64 0, .int .i64 2]) ?_ 0 _ rfl; (with_reducible repeat (first | refine blk_drewN ?_ _ | refine blk_drew ?_ | refine blk_alloc ?_ _)); refine blk_put (cs := #[.int .i64 0, .int .i64 0, .int .i64 0, .int .i64 0]) ?_ 3 _ rfl; (with_reducible repeat (first | refine blk_drewN ?_ _ | refine blk_drew ?_ | refine blk_alloc ?_ _)); refine blk_put (cs := #[.int .i64 0, .int .i64 0, .int .i64 0, .int .i64 0]) ?_ 2 _ rfl; (with_reducible repeat (first | refine blk_drewN ?_ _ | refine blk_drew ?_ | refine blk_alloc ?_ _)); refine blk_put (cs := #[.int .i64 0, .int .i64 0, .int .i64 0, .int .i64 0]) ?_ 1 _ rfl; (with_reducible repeat (first | refine blk_drewN ?_ _ | refine blk_drew ?_ | refine blk_alloc ?_ _)); refine blk_put (cs := #[.int .i64 0, .int .i64 0, .int .i64 0, .int .i64 0]) ?_ 0 _ rfl; (with_reducible repeat (first | refine blk_drewN ?_ _ | refine blk_drew ?_ | refine blk_alloc ?_ _)); exact BK163.out⟩, ⟨by repeat (first | (with_reducible first | exact HB.out | apply below_alloc | apply pw_below_drewN | apply below_drew1 | refine below_set ?_ GE154.out | refine below_set ?_ GE163.out) | exact HB.out)⟩⟩
       case round =>
        clear H'
        try clear c1
        try clear p1
        try clear q1
        try clear hx1
        try clear c2
        try clear p2
        try clear p6
        try clear c8
        try clear c8b0
        try clear c9
        try clear c9b0
        try clear c11
        try clear c11b0
        try clear c12
        try clear c12b0
        try clear c13
        try clear c13b0
        try clear c13b1
        try clear p15
        try clear q15
        try clear hx15
        try clear p16
        try clear q16
        try clear hx16
        try clear c18
        try clear c20
        try clear c21
        try clear c21b0
        try clear c21b1
        try clear c22
        try clear c24
        try clear c24b0
        try clear c24b1
        try clear c25
        try clear c28
        try clear hcz19_0
        try clear hcz19_1
        try clear hcz19_2
        try clear hcz19_3
        try clear hcz23_0
        try clear hcz23_1
        try clear hcz23_2
        try clear hcz23_3
        try clear hcz26_0
        try clear hcz26_1
        try clear hcz26_2
        try clear hcz26_3
        try clear hfz19_0
        try clear hfz19_1
        try clear hfz19_2
        try clear hfz19_3
        try clear hfz23_0
        try clear hfz23_1
        try clear hfz23_2
        try clear hfz23_3
        try clear hfz26_0
        try clear hfz26_1
        try clear hfz26_2
        try clear hfz26_3
        try clear hx1585_0
        try clear hx1596_0
        try clear hx1607_0
        try clear hx162_0
        try clear hx16427_0
        try clear hx16528_0
        try clear hx16629_0
        try clear hx16730_0
        try clear p1
        try clear p162
        try clear p2
        try clear q1
        try clear q162
        obtain ⟨x42_2, x164001_2, x164002_2, rfl, HA, HK2, HO_4, BK154, BK163, HB⟩ := hrel
        cases gk with
        | zero => exact absurd HA.out (by simp [attr_Read.l1])
        | succ k2 =>
         have H := HA.out
         clear HA
         simp only [attr_Read.l1] at H
         by_cases c31 : x42_2 < 4
         ·
          rw [if_pos c31] at H
          have c31b0 : decide (x42_2 < 4) = true := decide_eq_true c31
          clear c31
          by_cases c32 : 0 ≤ x42_2
          ·
           rw [if_pos c32] at H
           have c32b0 : decide (0 ≤ x42_2) = true := decide_eq_true c32
           clear c32
           by_cases c33 : 1 < (t155.length : Int)
           ·
            rw [if_pos c33] at H
            have c33b0 : decide (1 < (t155.length : Int)) = true := decide_eq_true c33
            have c33b1 : decide (1 < t155.length) = true := decide_eq_true (by omega)
            clear c33
            have HC34 := Aside0.mk H
            clear H
            have hix168 : ∀ w_ : World, (Instr.index 58 (.agg #[.string (rdOf ByteArray.empty gt2_0 0), .string (rdOf ByteArray.empty gt2_0 1), .string (rdOf ByteArray.empty gt2_0 2), .string (rdOf ByteArray.empty gt2_0 3)]) (.int .i64 x42_2)).run Tryd.prog w_ = .ok (.string (rdOf ByteArray.empty ([(rdOf ByteArray.empty gt2_0 0), (rdOf ByteArray.empty gt2_0 1), (rdOf ByteArray.empty gt2_0 2), (rdOf ByteArray.empty gt2_0 3)] : List ByteArray) x42_2)) w_ := fun w_ => ix_runs (P := Tryd.prog) (t := 58) (e := 9) (n := 4) [(rdOf ByteArray.empty gt2_0 0), (rdOf ByteArray.empty gt2_0 1), (rdOf ByteArray.empty gt2_0 2), (rdOf ByteArray.empty gt2_0 3)] Tryd.underlying58 Tryd.underlying9 (by kernel_rfl) rfl .i64 x42_2 (of_decide_eq_true (by first | (with_reducible assumption) | assumption)) (of_decide_eq_true (by first | (with_reducible assumption) | assumption)) w_
            have p169 : 0 ≤ (1 : Int) := (by omega)
            have q169 : 1 < (t155.length : Int) := of_decide_eq_true (by first | (with_reducible assumption) | assumption)
            obtain ⟨ad169, e169, hx169_0⟩ := Kd.at_string (Kd.R_reads' HO_4.out).2.2 1 p169 q169
            cases e169
            (try simp only [show (1 : Int).toNat = 1 from rfl, Nat.reduceMul, Nat.reduceEqDiff, Go.Addr.add, ↓reduceIte] at hx169_0)
            have qi169 : (1 < t155.length) = True := eq_true (by omega)
            (try rw [show ((1 : Int)).toNat = 1 from rfl] at hx169_0)
            replace p169 := eq_true p169
            replace q169 := eq_true q169
            go_upto_if 50 with (fail)
            go_cut [] (fun wc => ∃ (kq : Nat) (x164001_33 : Int), Aside0 (attr_Read.j2 kq a0 t155 x42_2 (rdOf ByteArray.empty ([(rdOf ByteArray.empty gt2_0 0), (rdOf ByteArray.empty gt2_0 1), (rdOf ByteArray.empty gt2_0 2), (rdOf ByteArray.empty gt2_0 3)] : List ByteArray) x42_2) x42_2 (rdOf ByteArray.empty gt2_0 0) (rdOf ByteArray.empty gt2_0 1) (rdOf ByteArray.empty gt2_0 2) (rdOf ByteArray.empty gt2_0 3) 2 x164001_33 x164002_2 x5_1 = some (r1, r2, r3, r4, r5)) ∧ Aside0 (kq ≤ k2) ∧ Aside0 (Kd.R Kd.string 9 wc w.heap.size (fun _ => True) (.slice (some ad169) t155.length co20) t155) ∧ Aside0 (wc.heap[gb154]? = some (.cells #[.int .i64 0, .int .i64 0, .int .i64 0, .int .i64 0] 24 (0, 0))) ∧ Aside0 (wc.heap[gb163]? = some (.cells #[.int .i64 2, .int .i64 x164001_33, .int .i64 x164002_2, .int .i64 x5_1] 24 (0, 0))) ∧ Aside0 (Below w.heap.size w wc))
            case first =>
             have H := HC34.out
             clear HC34
             by_cases c35 : (rdOf ByteArray.empty t155 1).toList = (rdOf ByteArray.empty ([(rdOf ByteArray.empty gt2_0 0), (rdOf ByteArray.empty gt2_0 1), (rdOf ByteArray.empty gt2_0 2), (rdOf ByteArray.empty gt2_0 3)] : List ByteArray) x42_2).toList
             ·
              rw [if_pos c35] at H
              have c35b0 : ((rdOf ByteArray.empty t155 1).toList == (rdOf ByteArray.empty ([(rdOf ByteArray.empty gt2_0 0), (rdOf ByteArray.empty gt2_0 1), (rdOf ByteArray.empty gt2_0 2), (rdOf ByteArray.empty gt2_0 3)] : List ByteArray) x42_2).toList) = true := beq_iff_eq.mpr c35
              have c35b1 : ((rdOf ByteArray.empty t155 1).toList != (rdOf ByteArray.empty ([(rdOf ByteArray.empty gt2_0 0), (rdOf ByteArray.empty gt2_0 1), (rdOf ByteArray.empty gt2_0 2), (rdOf ByteArray.empty gt2_0 3)] : List ByteArray) x42_2).toList) = false := bne_eq_false_iff_eq.mpr c35
              clear c35
              (first | rw [c35b0] | (simp only [i64_w, i32_w]; rw [c35b0]) | skip)
              have H' := Aside0.mk H
              clear H
              have hnb36 := NB163_154.out
              have hnc36 := NB154_163.out
              have hcz37_0 : wr.cell? ⟨gb163, 0, none⟩ = some (.int .i64 2) := (blk_cell BK163.out 0).trans rfl
              have hcz37_1 : wr.cell? ⟨gb163, 1, none⟩ = some (.int .i64 x164001_2) := (blk_cell BK163.out 1).trans rfl
              have hcz37_2 : wr.cell? ⟨gb163, 2, none⟩ = some (.int .i64 x164002_2) := (blk_cell BK163.out 2).trans rfl
              have hcz37_3 : wr.cell? ⟨gb163, 3, none⟩ = some (.int .i64 x5_1) := (blk_cell BK163.out 3).trans rfl
              have hfz37_0 := blk_frozen BK163.out 0
              have hfz37_1 := blk_frozen BK163.out 1
              have hfz37_2 := blk_frozen BK163.out 2
              have hfz37_3 := blk_frozen BK163.out 3
              go_wp2
              go_meet
              case rel => exact ⟨_, (x42_2), H', ⟨by have := HK1.out; have := HK2.out; first | omega | exact Nat.le_refl _⟩, ⟨by (with_reducible repeat (first | apply Kd.R_alloc | apply Kd.R_drewN | apply Kd.R_drew)); exact Kd.R_mono (Kd.R_far (p := ⟨gb163, 1, none⟩) (Kd.R_types HO_4.out BK163.out (by decide)) (fun _ hk => hk.2) (.int .i64 x42_2)) (fun _ hk => trivial)⟩, ⟨by (with_reducible repeat (first | refine blk_drewN ?_ _ | refine blk_drew ?_ | refine blk_alloc ?_ _)); refine blk_far ?_ NB154_163.out _; (with_reducible repeat (first | refine blk_drewN ?_ _ | refine blk_drew ?_ | refine blk_alloc ?_ _)); exact BK154.out⟩, ⟨by (with_reducible repeat (first | refine blk_drewN ?_ _ | refine blk_drew ?_ | refine blk_alloc ?_ _)); refine blk_put (cs := #[.int .i64 2, .int .i64 x164001_2, .int .i64 x164002_2, .int .i64 x5_1]) ?_ 1 _ rfl; (with_reducible repeat (first | refine blk_drewN ?_ _ | refine blk_drew ?_ | refine blk_alloc ?_ _)); exact BK163.out⟩, ⟨by repeat (first | (with_reducible first | exact HB.out | apply below_alloc | apply pw_below_drewN | apply below_drew1 | refine below_set ?_ GE154.out | refine below_set ?_ GE163.out) | exact HB.out)⟩⟩
             ·
              rw [if_neg c35] at H
              have c35b0 : ((rdOf ByteArray.empty t155 1).toList == (rdOf ByteArray.empty ([(rdOf ByteArray.empty gt2_0 0), (rdOf ByteArray.empty gt2_0 1), (rdOf ByteArray.empty gt2_0 2), (rdOf ByteArray.empty gt2_0 3)] : List ByteArray) x42_2).toList) = false := beq_eq_false_iff_ne.mpr c35
              have c35b1 : ((rdOf ByteArray.empty t155 1).toList != (rdOf ByteArray.empty ([(rdOf ByteArray.empty gt2_0 0), (rdOf ByteArray.empty gt2_0 1), (rdOf ByteArray.empty gt2_0 2), (rdOf ByteArray.empty gt2_0 3)] : List ByteArray) x42_2).toList) = true := bne_iff_ne.mpr c35
              (first | rw [c35b0] | (simp only [i64_w, i32_w]; rw [c35b0]) | skip)
              have H' := Aside0.mk H
              clear H
              go_wp2
              go_meet
              case rel => exact ⟨_, (x164001_2), H', ⟨by have := HK1.out; have := HK2.out; first | omega | exact Nat.le_refl _⟩, ⟨by (with_reducible repeat (first | apply Kd.R_alloc | apply Kd.R_drewN | apply Kd.R_drew)); exact HO_4.out⟩, ⟨by (with_reducible repeat (first | refine blk_drewN ?_ _ | refine blk_drew ?_ | refine blk_alloc ?_ _)); exact BK154.out⟩, ⟨by (with_reducible repeat (first | refine blk_drewN ?_ _ | refine blk_drew ?_ | refine blk_alloc ?_ _)); exact BK163.out⟩, ⟨by repeat (first | (with_reducible first | exact HB.out | apply below_alloc | apply pw_below_drewN | apply below_drew1 | refine below_set ?_ GE154.out | refine below_set ?_ GE163.out) | exact HB.out)⟩⟩
            case rest =>
             clear HC34
             try clear c1
             try clear p1
             try clear q1
             try clear hx1
             try clear qi1
             try clear c2
             try clear p2
             try clear c3
             try clear p6
             try clear c8
             try clear c8b0
             try clear c9
             try clear c9b0
             try clear c11
             try clear c11b0
             try clear c12
             try clear c12b0
             try clear c13
             try clear c13b0
             try clear c13b1
             try clear p15
             try clear q15
             try clear hx15
             try clear p16
             try clear q16
             try clear hx16
             try clear qi16
             try clear c18
             try clear c20
             try clear c21
             try clear c21b0
             try clear c21b1
             try clear c22
             try clear c24
             try clear c24b0
             try clear c24b1
             try clear c25
             try clear c28
             try clear c31
             try clear c31b0
             try clear c32
             try clear c32b0
             try clear c33
             try clear c33b0
             try clear c33b1
             try clear c35
             try clear c35b0
             try clear c35b1
             try clear c36
             try clear hcz19_0
             try clear hcz19_1
             try clear hcz19_2
             try clear hcz19_3
             try clear hcz23_0
             try clear hcz23_1
             try clear hcz23_2
             try clear hcz23_3
             try clear hcz26_0
             try clear hcz26_1
             try clear hcz26_2
             try clear hcz26_3
             try clear hcz37_0
             try clear hcz37_1
             try clear hcz37_2
             try clear hcz37_3
             try clear hfz19_0
             try clear hfz19_1
             try clear hfz19_2
             try clear hfz19_3
             try clear hfz23_0
             try clear hfz23_1
             try clear hfz23_2
             try clear hfz23_3
             try clear hfz26_0
             try clear hfz26_1
             try clear hfz26_2
             try clear hfz26_3
             try clear hfz37_0
             try clear hfz37_1
             try clear hfz37_2
             try clear hfz37_3
             try clear hx1585_0
             try clear hx1596_0
             try clear hx1607_0
             try clear hx162_0
             try clear hx16427_0
             try clear hx16528_0
             try clear hx16629_0
             try clear hx16730_0
             try clear hx169_0
             try clear p1
             try clear p15
             try clear p16
             try clear p162
             try clear p169
             try clear p2
             try clear p6
             try clear q1
             try clear q15
             try clear q16
             try clear q162
             try clear q169
             obtain ⟨kq, x164001_33, HA, HJ33, HO_4, BK154, BK163, HB⟩ := hcut
             cases kq with
             | zero => exact absurd HA.out (by simp [attr_Read.j2])
             | succ kj33 =>
              have H := HA.out
              clear HA
              simp only [attr_Read.j2] at H
              by_cases c38 : 2 < (t155.length : Int)
              ·
               rw [if_pos c38] at H
               have c38b0 : decide (2 < (t155.length : Int)) = true := decide_eq_true c38
               have c38b1 : decide (2 < t155.length) = true := decide_eq_true (by omega)
               clear c38
               by_cases c39 : (rdOf ByteArray.empty t155 2).toList = (rdOf ByteArray.empty ([(rdOf ByteArray.empty gt2_0 0), (rdOf ByteArray.empty gt2_0 1), (rdOf ByteArray.empty gt2_0 2), (rdOf ByteArray.empty gt2_0 3)] : List ByteArray) x42_2).toList
               ·
                rw [if_pos c39] at H
                have c39b0 : ((rdOf ByteArray.empty t155 2).toList == (rdOf ByteArray.empty ([(rdOf ByteArray.empty gt2_0 0), (rdOf ByteArray.empty gt2_0 1), (rdOf ByteArray.empty gt2_0 2), (rdOf ByteArray.empty gt2_0 3)] : List ByteArray) x42_2).toList) = true := beq_iff_eq.mpr c39
                have c39b1 : ((rdOf ByteArray.empty t155 2).toList != (rdOf ByteArray.empty ([(rdOf ByteArray.empty gt2_0 0), (rdOf ByteArray.empty gt2_0 1), (rdOf ByteArray.empty gt2_0 2), (rdOf ByteArray.empty gt2_0 3)] : List ByteArray) x42_2).toList) = false := bne_eq_false_iff_eq.mpr c39
                clear c39
                have H' := Aside0.mk H
                clear H
                have p170 : 0 ≤ (2 : Int) := (by omega)
                have q170 : 2 < (t155.length : Int) := of_decide_eq_true (by first | (with_reducible assumption) | assumption)
                obtain ⟨ad170, e170, hx170_0⟩ := Kd.at_string (Kd.R_reads' HO_4.out).2.2 2 p170 q170
                obtain rfl : ad169 = ad170 := (by injection e170)
                (try simp only [show (2 : Int).toNat = 2 from rfl, Nat.reduceMul, Nat.reduceEqDiff, Go.Addr.add, ↓reduceIte] at hx170_0)
                have qi170 : (2 < t155.length) = True := eq_true (by omega)
                (try rw [show ((2 : Int)).toNat = 2 from rfl] at hx170_0)
                replace p170 := eq_true p170
                replace q170 := eq_true q170
                have hnb40 := NB163_154.out
                have hnc40 := NB154_163.out
                have hcz41_0 : wc.cell? ⟨gb163, 0, none⟩ = some (.int .i64 2) := (blk_cell BK163.out 0).trans rfl
                have hcz41_1 : wc.cell? ⟨gb163, 1, none⟩ = some (.int .i64 x164001_33) := (blk_cell BK163.out 1).trans rfl
                have hcz41_2 : wc.cell? ⟨gb163, 2, none⟩ = some (.int .i64 x164002_2) := (blk_cell BK163.out 2).trans rfl
                have hcz41_3 : wc.cell? ⟨gb163, 3, none⟩ = some (.int .i64 x5_1) := (blk_cell BK163.out 3).trans rfl
                have hfz41_0 := blk_frozen BK163.out 0
                have hfz41_1 := blk_frozen BK163.out 1
                have hfz41_2 := blk_frozen BK163.out 2
                have hfz41_3 := blk_frozen BK163.out 3
                go_wp2
                go_roundg kj33
                case measure => have := HK1.out; have := HK2.out; have := HJ33.out; omega
                case rel => exact ⟨(wrap64 (x42_2 + 1)), (x164001_33), (x42_2), (by first | rfl | (simp; done) | (simp [*]; done)), H', ⟨by have := HK1.out; have := HK2.out; have := HJ33.out; omega⟩, ⟨by (with_reducible repeat (first | apply Kd.R_alloc | apply Kd.R_drewN | apply Kd.R_drew)); exact Kd.R_mono (Kd.R_far (p := ⟨gb163, 2, none⟩) (Kd.R_types HO_4.out BK163.out (by decide)) (fun _ hk => hk.2) (.int .i64 x42_2)) (fun _ hk => trivial)⟩, ⟨by (with_reducible repeat (first | refine blk_drewN ?_ _ | refine blk_drew ?_ | refine blk_alloc ?_ _)); refine blk_far ?_ NB154_163.out _; (with_reducible repeat (first | refine blk_drewN ?_ _ | refine blk_drew ?_ | refine blk_alloc ?_ _)); exact BK154.out⟩, ⟨by (with_reducible repeat (first | refine blk_drewN ?_ _ | refine blk_drew ?_ | refine blk_alloc ?_ _)); refine blk_put (cs := #[.int .i64 2, .int .i64 x164001_33, .int .i64 x164002_2, .int .i64 x5_1]) ?_ 2 _ rfl; (with_reducible repeat (first | refine blk_drewN ?_ _ | refine blk_drew ?_ | refine blk_alloc ?_ _)); exact BK163.out⟩, ⟨by repeat (first | (with_reducible first | exact HB.out | apply below_alloc | apply pw_below_drewN | apply below_drew1 | refine below_set ?_ GE154.out | refine below_set ?_ GE163.out) | exact HB.out)⟩⟩
               ·
                rw [if_neg c39] at H
                have c39b0 : ((rdOf ByteArray.empty t155 2).toList == (rdOf ByteArray.empty ([(rdOf ByteArray.empty gt2_0 0), (rdOf ByteArray.empty gt2_0 1), (rdOf ByteArray.empty gt2_0 2), (rdOf ByteArray.empty gt2_0 3)] : List ByteArray) x42_2).toList) = false := beq_eq_false_iff_ne.mpr c39
                have c39b1 : ((rdOf ByteArray.empty t155 2).toList != (rdOf ByteArray.empty ([(rdOf ByteArray.empty gt2_0 0), (rdOf ByteArray.empty gt2_0 1), (rdOf ByteArray.empty gt2_0 2), (rdOf ByteArray.empty gt2_0 3)] : List ByteArray) x42_2).toList) = true := bne_iff_ne.mpr c39
                have H' := Aside0.mk H
                clear H
                have p170 : 0 ≤ (2 : Int) := (by omega)
                have q170 : 2 < (t155.length : Int) := of_decide_eq_true (by first | (with_reducible assumption) | assumption)
                obtain ⟨ad170, e170, hx170_0⟩ := Kd.at_string (Kd.R_reads' HO_4.out).2.2 2 p170 q170
                obtain rfl : ad169 = ad170 := (by injection e170)
                (try simp only [show (2 : Int).toNat = 2 from rfl, Nat.reduceMul, Nat.reduceEqDiff, Go.Addr.add, ↓reduceIte] at hx170_0)
                have qi170 : (2 < t155.length) = True := eq_true (by omega)
                (try rw [show ((2 : Int)).toNat = 2 from rfl] at hx170_0)
                replace p170 := eq_true p170
                replace q170 := eq_true q170
                go_wp2
                go_roundg kj33
                case measure => have := HK1.out; have := HK2.out; have := HJ33.out; omega
                case rel => exact ⟨(wrap64 (x42_2 + 1)), (x164001_33), (x164002_2), (by first | rfl | (simp; done) | (simp [*]; done)), H', ⟨by have := HK1.out; have := HK2.out; have := HJ33.out; omega⟩, ⟨by (with_reducible repeat (first | apply Kd.R_alloc | apply Kd.R_drewN | apply Kd.R_drew)); exact HO_4.out⟩, ⟨by (with_reducible repeat (first | refine blk_drewN ?_ _ | refine blk_drew ?_ | refine blk_alloc ?_ _)); exact BK154.out⟩, ⟨by (with_reducible repeat (first | refine blk_drewN ?_ _ | refine blk_drew ?_ | refine blk_alloc ?_ _)); exact BK163.out⟩, ⟨by repeat (first | (with_reducible first | exact HB.out | apply below_alloc | apply pw_below_drewN | apply below_drew1 | refine below_set ?_ GE154.out | refine below_set ?_ GE163.out) | exact HB.out)⟩⟩
              ·
               rw [if_neg c38] at H
               exact absurd H (by simp)
           ·
            rw [if_neg c33] at H
            exact absurd H (by simp)
          ·
           rw [if_neg c32] at H
           exact absurd H (by simp)
         ·
          rw [if_neg c31] at H
          have c31b0 : decide (x42_2 < 4) = false := decide_eq_false c31
          clear c31
          have H' := Aside0.mk H
          clear H
          go_wp2
          go_meet
          case rel => exact ⟨_, (2), (x164001_2), (x164002_2), (x5_1), H', ⟨by have := HK1.out; have := HK2.out; first | omega | exact Nat.le_refl _⟩, ⟨by (with_reducible repeat (first | refine blk_drewN ?_ _ | refine blk_drew ?_ | refine blk_alloc ?_ _)); exact BK154.out⟩, ⟨by (with_reducible repeat (first | refine blk_drewN ?_ _ | refine blk_drew ?_ | refine blk_alloc ?_ _)); exact BK163.out⟩, ⟨by repeat (first | (with_reducible first | exact HB.out | apply below_alloc | apply pw_below_drewN | apply below_drew1 | refine below_set ?_ GE154.out | refine below_set ?_ GE163.out) | exact HB.out)⟩⟩
      ·
       rw [if_neg c24] at H
       have c24b0 : ((t155.length : Int) == 4) = false := beq_eq_false_iff_ne.mpr c24
       have c24b1 : ((t155.length : Int) != 4) = true := bne_iff_ne.mpr c24
       have H' := Aside0.mk H
       clear H
       go_wp2
       go_meet
       case rel => exact ⟨_, (0), (0), (0), (2), H', ⟨by have := HK1.out; first | omega | exact Nat.le_refl _⟩, ⟨by (with_reducible repeat (first | refine blk_drewN ?_ _ | refine blk_drew ?_ | refine blk_alloc ?_ _)); refine blk_far ?_ NB154_163.out _; (with_reducible repeat (first | refine blk_drewN ?_ _ | refine blk_drew ?_ | refine blk_alloc ?_ _)); refine blk_far ?_ NB154_163.out _; (with_reducible repeat (first | refine blk_drewN ?_ _ | refine blk_drew ?_ | refine blk_alloc ?_ _)); refine blk_far ?_ NB154_163.out _; (with_reducible repeat (first | refine blk_drewN ?_ _ | refine blk_drew ?_ | refine blk_alloc ?_ _)); refine blk_far ?_ NB154_163.out _; (with_reducible repeat (first | refine blk_drewN ?_ _ | refine blk_drew ?_ | refine blk_alloc ?_ _)); exact BK154.out⟩, ⟨by (with_reducible repeat (first | refine blk_drewN ?_ _ | refine blk_drew ?_ | refine blk_alloc ?_ _)); refine blk_put (cs := #[.int .i64 0, .int .i64 0, .int .i64 0, .int .i64 0]) ?_ 3 _ rfl; (with_reducible repeat (first | refine blk_drewN ?_ _ | refine blk_drew ?_ | refine blk_alloc ?_ _)); refine blk_put (cs := #[.int .i64 0, .int .i64 0, .int .i64 0, .int .i64 0]) ?_ 2 _ rfl; (with_reducible repeat (first | refine blk_drewN ?_ _ | refine blk_drew ?_ | refine blk_alloc ?_ _)); refine blk_put (cs := #[.int .i64 0, .int .i64 0, .int .i64 0, .int .i64 0]) ?_ 1 _ rfl; (with_reducible repeat (first | refine blk_drewN ?_ _ | refine blk_drew ?_ | refine blk_alloc ?_ _)); refine blk_put (cs := #[.int .i64 0, .int .i64 0, .int .i64 0, .int .i64 0]) ?_ 0 _ rfl; (with_reducible repeat (first | refine blk_drewN ?_ _ | refine blk_drew ?_ | refine blk_alloc ?_ _)); exact BK163.out⟩, ⟨by repeat (first | (with_reducible first | exact HB.out | apply below_alloc | apply pw_below_drewN | apply below_drew1 | refine below_set ?_ GE154.out | refine below_set ?_ GE163.out) | exact HB.out)⟩⟩
    case rest =>
     clear HC16
     try clear c1
     try clear p1
     try clear q1
     try clear hx1
     try clear qi1
     try clear c2
     try clear p2
     try clear c3
     try clear c4
     try clear p6
     try clear c8
     try clear c8b0
     try clear c9
     try clear c9b0
     try clear c11
     try clear c11b0
     try clear c12
     try clear c12b0
     try clear c13
     try clear c13b0
     try clear c13b1
     try clear p15
     try clear q15
     try clear hx15
     try clear p16
     try clear q16
     try clear hx16
     try clear qi16
     try clear p17
     try clear q17
     try clear hx17
     try clear qi17
     try clear c18
     try clear c20
     try clear c21
     try clear c21b0
     try clear c21b1
     try clear c22
     try clear c24
     try clear c24b0
     try clear c24b1
     try clear c25
     try clear c28
     try clear c31
     try clear c31b0
     try clear c32
     try clear c32b0
     try clear c33
     try clear c33b0
     try clear c33b1
     try clear c35
     try clear c35b0
     try clear c35b1
     try clear c36
     try clear c38
     try clear c38b0
     try clear c38b1
     try clear c39
     try clear c39b0
     try clear c39b1
     try clear c40
     try clear hcz19_0
     try clear hcz19_1
     try clear hcz19_2
     try clear hcz19_3
     try clear hcz23_0
     try clear hcz23_1
     try clear hcz23_2
     try clear hcz23_3
     try clear hcz26_0
     try clear hcz26_1
     try clear hcz26_2
     try clear hcz26_3
     try clear hcz37_0
     try clear hcz37_1
     try clear hcz37_2
     try clear hcz37_3
     try clear hcz41_0
     try clear hcz41_1
     try clear hcz41_2
     try clear hcz41_3
     try clear hfz19_0
     try clear hfz19_1
     try clear hfz19_2
     try clear hfz19_3
     try clear hfz23_0
     try clear hfz23_1
     try clear hfz23_2
     try clear hfz23_3
     try clear hfz26_0
     try clear hfz26_1
     try clear hfz26_2
     try clear hfz26_3
     try clear hfz37_0
     try clear hfz37_1
     try clear hfz37_2
     try clear hfz37_3
     try clear hfz41_0
     try clear hfz41_1
     try clear hfz41_2
     try clear hfz41_3
     try clear hx1585_0
     try clear hx1596_0
     try clear hx1607_0
     try clear hx162_0
     try clear hx16427_0
     try clear hx16528_0
     try clear hx16629_0
     try clear hx16730_0
     try clear hx169_0
     try clear hx170_0
     try clear p1
     try clear p15
     try clear p16
     try clear p162
     try clear p169
     try clear p170
     try clear p2
     try clear p6
     try clear q1
     try clear q15
     try clear q16
     try clear q162
     try clear q169
     try clear q170
     obtain ⟨kq, x164000_15, x164001_15, x164002_15, x164003_15, HA, HJ15, BK154, BK163, HB⟩ := hcut
     cases kq with
     | zero => exact absurd HA.out (by simp [attr_Read.j3])
     | succ kj15 =>
      have H := HA.out
      clear HA
      simp only [attr_Read.j3] at H
      replace H := Option.bind_eq_some_iff.mp H
      obtain ⟨⟨t171, t172⟩, A420, H⟩ := H
      replace H : (if t172 = 0 then (if t171.toList = a0.toList then (some (x164000_15, x164001_15, x164002_15, x164003_15, 0)) else (some (0, 0, 0, 0, 62))) else (some (0, 0, 0, 0, 62))) = some (r1, r2, r3, r4, r5) := H
      have A42 := Aside0.mk A420
      clear A420
      by_cases c43 : t172 = 0
      ·
       rw [if_pos c43] at H
       have c43b0 : (t172 == 0) = true := beq_iff_eq.mpr c43
       have c43b1 : (t172 != 0) = false := bne_eq_false_iff_eq.mpr c43
       clear c43
       by_cases c44 : t171.toList = a0.toList
       ·
        rw [if_pos c44] at H
        have c44b0 : (t171.toList == a0.toList) = true := beq_iff_eq.mpr c44
        have c44b1 : (t171.toList != a0.toList) = false := bne_eq_false_iff_eq.mpr c44
        clear c44
        simp only [Option.some.injEq, Prod.mk.injEq] at H
        obtain ⟨rfl, rfl, rfl, rfl, rfl⟩ := H
        have hnb45 := NB163_154.out
        have hnc45 := NB154_163.out
        have hcz46_0 : wc.cell? ⟨gb163, 0, none⟩ = some (.int .i64 x164000_15) := (blk_cell BK163.out 0).trans rfl
        have hcz46_1 : wc.cell? ⟨gb163, 1, none⟩ = some (.int .i64 x164001_15) := (blk_cell BK163.out 1).trans rfl
        have hcz46_2 : wc.cell? ⟨gb163, 2, none⟩ = some (.int .i64 x164002_15) := (blk_cell BK163.out 2).trans rfl
        have hcz46_3 : wc.cell? ⟨gb163, 3, none⟩ = some (.int .i64 x164003_15) := (blk_cell BK163.out 3).trans rfl
        have hfz46_0 := blk_frozen BK163.out 0
        have hfz46_1 := blk_frozen BK163.out 1
        have hfz46_2 := blk_frozen BK163.out 2
        have hfz46_3 := blk_frozen BK163.out 3
        go_wp2_with (first | ((with_reducible refine gate_callee (f := 18) rfl ?_); refine goesL_ (some 63) rfl rfl Tryd.func18 (by kernel_rfl) rfl #[.agg #[.int .i64 x164000_15, .int .i64 x164001_15, .int .i64 x164002_15, .int .i64 x164003_15]] rfl (by (try simp only [List.map_toArray, List.map_cons, List.map_nil]); first | done | rfl | (simp only [List.length_drop, List.length_take]; rfl)) ?_; (with_reducible refine (attr_Show.calls kj15 x164000_15 x164001_15 x164002_15 x164003_15 t171 t172 _ ?side1 ?side2 A42.out).mono ?_); (case side1 => exact ⟨G1.below hG1.out (by repeat (first | (with_reducible first | exact HB.out | apply below_alloc | apply pw_below_drewN | apply below_drew1 | refine below_set ?_ GE154.out | refine below_set ?_ GE163.out) | exact HB.out))⟩); (case side2 => exact ⟨G2.below hG2.out (by repeat (first | (with_reducible first | exact HB.out | apply below_alloc | apply pw_below_drewN | apply below_drew1 | refine below_set ?_ GE154.out | refine below_set ?_ GE163.out) | exact HB.out))⟩); rintro e w47 ⟨rfl, hb⟩; refine ⟨_, rfl, ?_⟩; have n0_ := Aside0.mk (blk_below (g := gb154) (o := .cells #[.int .i64 0, .int .i64 0, .int .i64 0, .int .i64 0] 24 (0, 0)) (by (with_reducible repeat (first | refine blk_drewN ?_ _ | refine blk_drew ?_ | refine blk_alloc ?_ _)); exact BK154.out) hb); have n1_ := Aside0.mk (blk_below (g := gb163) (o := .cells #[.int .i64 x164000_15, .int .i64 x164001_15, .int .i64 x164002_15, .int .i64 x164003_15] 24 (0, 0)) (by (with_reducible repeat (first | refine blk_drewN ?_ _ | refine blk_drew ?_ | refine blk_alloc ?_ _)); exact BK163.out) hb); have n2_ := Aside0.mk (below_step (by repeat (first | (with_reducible first | exact HB.out | apply below_alloc | apply pw_below_drewN | apply below_drew1 | refine below_set ?_ GE154.out | refine below_set ?_ GE163.out) | exact HB.out)) hb); clear BK154; clear BK163; clear HB; have BK154 := n0_; have BK163 := n1_; have HB := n2_; clear n0_ n1_ n2_; (try clear hb); (try clear hb2); (try clear hk); (try clear hi); have hcz48_0 : w47.cell? ⟨gb163, 0, none⟩ = some (.int .i64 x164000_15) := (blk_cell BK163.out 0).trans rfl; have hcz48_1 : w47.cell? ⟨gb163, 1, none⟩ = some (.int .i64 x164001_15) := (blk_cell BK163.out 1).trans rfl; have hcz48_2 : w47.cell? ⟨gb163, 2, none⟩ = some (.int .i64 x164002_15) := (blk_cell BK163.out 2).trans rfl; have hcz48_3 : w47.cell? ⟨gb163, 3, none⟩ = some (.int .i64 x164003_15) := (blk_cell BK163.out 3).trans rfl; have hfz48_0 := blk_frozen BK163.out 0; have hfz48_1 := blk_frozen BK163.out 1; have hfz48_2 := blk_frozen BK163.out 2; have hfz48_3 := blk_frozen BK163.out 3; have hcz49_0 : w47.cell? ⟨gb154, 0, none⟩ = some (.int .i64 0) := (blk_cell BK154.out 0).trans rfl; have hcz49_1 : w47.cell? ⟨gb154, 1, none⟩ = some (.int .i64 0) := (blk_cell BK154.out 1).trans rfl; have hcz49_2 : w47.cell? ⟨gb154, 2, none⟩ = some (.int .i64 0) := (blk_cell BK154.out 2).trans rfl; have hcz49_3 : w47.cell? ⟨gb154, 3, none⟩ = some (.int .i64 0) := (blk_cell BK154.out 3).trans rfl; have hfz49_0 := blk_frozen BK154.out 0; have hfz49_1 := blk_frozen BK154.out 1; have hfz49_2 := blk_frozen BK154.out 2; have hfz49_3 := blk_frozen BK154.out 3))
        refine bodyPost_ret (results_ct rfl _ _ gb154 24 #[.int .i64 x164000_15, .int .i64 x164001_15, .int .i64 x164002_15, .int .i64 x164003_15] (0, 0) _ rfl (by (with_reducible repeat (first | refine blk_drewN ?_ _ | refine blk_drew ?_ | refine blk_alloc ?_ _)); refine blk_put (cs := #[.int .i64 x164000_15, .int .i64 x164001_15, .int .i64 x164002_15, .int .i64 0]) ?_ 3 _ rfl; (with_reducible repeat (first | refine blk_drewN ?_ _ | refine blk_drew ?_ | refine blk_alloc ?_ _)); refine blk_put (cs := #[.int .i64 x164000_15, .int .i64 x164001_15, .int .i64 0, .int .i64 0]) ?_ 2 _ rfl; (with_reducible repeat (first | refine blk_drewN ?_ _ | refine blk_drew ?_ | refine blk_alloc ?_ _)); refine blk_put (cs := #[.int .i64 x164000_15, .int .i64 0, .int .i64 0, .int .i64 0]) ?_ 1 _ rfl; (with_reducible repeat (first | refine blk_drewN ?_ _ | refine blk_drew ?_ | refine blk_alloc ?_ _)); refine blk_put (cs := #[.int .i64 0, .int .i64 0, .int .i64 0, .int .i64 0]) ?_ 0 _ rfl; (with_reducible repeat (first | refine blk_drewN ?_ _ | refine blk_drew ?_ | refine blk_alloc ?_ _)); exact BK154.out) Tryd.underlying24 rfl (by kernel_rfl)) rfl ?_
        exact ⟨by first | rfl | (simp [errW_none, errW_some] <;> rfl) | (simp [*, errW_none, errW_some] <;> rfl) | (simp [*, errW_none, errW_some] <;> exact isEmpty_ne _), by repeat (first | (with_reducible first | exact HB.out | apply below_alloc | apply pw_below_drewN | apply below_drew1 | refine below_set ?_ GE154.out | refine below_set ?_ GE163.out) | exact HB.out)⟩
       ·
        rw [if_neg c44] at H
        have c44b0 : (t171.toList == a0.toList) = false := beq_eq_false_iff_ne.mpr c44
        have c44b1 : (t171.toList != a0.toList) = true := bne_iff_ne.mpr c44
        simp only [Option.some.injEq, Prod.mk.injEq] at H
        obtain ⟨rfl, rfl, rfl, rfl, rfl⟩ := H
        have hnb50 := NB163_154.out
        have hnc50 := NB154_163.out
        have hcz51_0 : wc.cell? ⟨gb163, 0, none⟩ = some (.int .i64 x164000_15) := (blk_cell BK163.out 0).trans rfl
        have hcz51_1 : wc.cell? ⟨gb163, 1, none⟩ = some (.int .i64 x164001_15) := (blk_cell BK163.out 1).trans rfl
        have hcz51_2 : wc.cell? ⟨gb163, 2, none⟩ = some (.int .i64 x164002_15) := (blk_cell BK163.out 2).trans rfl
        have hcz51_3 : wc.cell? ⟨gb163, 3, none⟩ = some (.int .i64 x164003_15) := (blk_cell BK163.out 3).trans rfl
        have hfz51_0 := blk_frozen BK163.out 0
        have hfz51_1 := blk_frozen BK163.out 1
        have hfz51_2 := blk_frozen BK163.out 2
        have hfz51_3 := blk_frozen BK163.out 3
        go_wp2_with (first | ((with_reducible refine gate_callee (f := 18) rfl ?_); refine goesL_ (some 63) rfl rfl Tryd.func18 (by kernel_rfl) rfl #[.agg #[.int .i64 x164000_15, .int .i64 x164001_15, .int .i64 x164002_15, .int .i64 x164003_15]] rfl (by (try simp only [List.map_toArray, List.map_cons, List.map_nil]); first | done | rfl | (simp only [List.length_drop, List.length_take]; rfl)) ?_; (with_reducible refine (attr_Show.calls kj15 x164000_15 x164001_15 x164002_15 x164003_15 t171 t172 _ ?side1 ?side2 A42.out).mono ?_); (case side1 => exact ⟨G1.below hG1.out (by repeat (first | (with_reducible first | exact HB.out | apply below_alloc | apply pw_below_drewN | apply below_drew1 | refine below_set ?_ GE154.out | refine below_set ?_ GE163.out) | exact HB.out))⟩); (case side2 => exact ⟨G2.below hG2.out (by repeat (first | (with_reducible first | exact HB.out | apply below_alloc | apply pw_below_drewN | apply below_drew1 | refine below_set ?_ GE154.out | refine below_set ?_ GE163.out) | exact HB.out))⟩); rintro e w52 ⟨rfl, hb⟩; refine ⟨_, rfl, ?_⟩; have n0_ := Aside0.mk (blk_below (g := gb154) (o := .cells #[.int .i64 0, .int .i64 0, .int .i64 0, .int .i64 0] 24 (0, 0)) (by (with_reducible repeat (first | refine blk_drewN ?_ _ | refine blk_drew ?_ | refine blk_alloc ?_ _)); exact BK154.out) hb); have n1_ := Aside0.mk (blk_below (g := gb163) (o := .cells #[.int .i64 x164000_15, .int .i64 x164001_15, .int .i64 x164002_15, .int .i64 x164003_15] 24 (0, 0)) (by (with_reducible repeat (first | refine blk_drewN ?_ _ | refine blk_drew ?_ | refine blk_alloc ?_ _)); exact BK163.out) hb); have n2_ := Aside0.mk (below_step (by repeat (first | (with_reducible first | exact HB.out | apply below_alloc | apply pw_below_drewN | apply below_drew1 | refine below_set ?_ GE154.out | refine below_set ?_ GE163.out) | exact HB.out)) hb); clear BK154; clear BK163; clear HB; have BK154 := n0_; have BK163 := n1_; have HB := n2_; clear n0_ n1_ n2_; (try clear hb); (try clear hb2); (try clear hk); (try clear hi); have hcz53_0 : w52.cell? ⟨gb154, 0, none⟩ = some (.int .i64 0) := (blk_cell BK154.out 0).trans rfl; have hcz53_1 : w52.cell? ⟨gb154, 1, none⟩ = some (.int .i64 0) := (blk_cell BK154.out 1).trans rfl; have hcz53_2 : w52.cell? ⟨gb154, 2, none⟩ = some (.int .i64 0) := (blk_cell BK154.out 2).trans rfl; have hcz53_3 : w52.cell? ⟨gb154, 3, none⟩ = some (.int .i64 0) := (blk_cell BK154.out 3).trans rfl; have hfz53_0 := blk_frozen BK154.out 0; have hfz53_1 := blk_frozen BK154.out 1; have hfz53_2 := blk_frozen BK154.out 2; have hfz53_3 := blk_frozen BK154.out 3))
        refine bodyPost_ret (results_ct rfl _ _ gb154 24 #[.int .i64 0, .int .i64 0, .int .i64 0, .int .i64 0] (0, 0) _ rfl (by (with_reducible repeat (first | refine blk_drewN ?_ _ | refine blk_drew ?_ | refine blk_alloc ?_ _)); refine blk_put (cs := #[.int .i64 0, .int .i64 0, .int .i64 0, .int .i64 0]) ?_ 3 _ rfl; (with_reducible repeat (first | refine blk_drewN ?_ _ | refine blk_drew ?_ | refine blk_alloc ?_ _)); refine blk_put (cs := #[.int .i64 0, .int .i64 0, .int .i64 0, .int .i64 0]) ?_ 2 _ rfl; (with_reducible repeat (first | refine blk_drewN ?_ _ | refine blk_drew ?_ | refine blk_alloc ?_ _)); refine blk_put (cs := #[.int .i64 0, .int .i64 0, .int .i64 0, .int .i64 0]) ?_ 1 _ rfl; (with_reducible repeat (first | refine blk_drewN ?_ _ | refine blk_drew ?_ | refine blk_alloc ?_ _)); refine blk_put (cs := #[.int .i64 0, .int .i64 0, .int .i64 0, .int .i64 0]) ?_ 0 _ rfl; (with_reducible repeat (first | refine blk_drewN ?_ _ | refine blk_drew ?_ | refine blk_alloc ?_ _)); exact BK154.out) Tryd.underlying24 rfl (by kernel_rfl)) rfl ?_
        exact ⟨by first | rfl | (simp [errW_none, errW_some] <;> rfl) | (simp [*, errW_none, errW_some] <;> rfl) | (simp [*, errW_none, errW_some] <;> exact isEmpty_ne _), by repeat (first | (with_reducible first | exact HB.out | apply below_alloc | apply pw_below_drewN | apply below_drew1 | refine below_set ?_ GE154.out | refine below_set ?_ GE163.out) | exact HB.out)⟩
      ·
       rw [if_neg c43] at H
       have c43b0 : (t172 == 0) = false := beq_eq_false_iff_ne.mpr c43
       have c43b1 : (t172 != 0) = true := bne_iff_ne.mpr c43
       simp only [Option.some.injEq, Prod.mk.injEq] at H
       obtain ⟨rfl, rfl, rfl, rfl, rfl⟩ := H
       have hnb54 := NB163_154.out
       have hnc54 := NB154_163.out
       have hcz55_0 : wc.cell? ⟨gb163, 0, none⟩ = some (.int .i64 x164000_15) := (blk_cell BK163.out 0).trans rfl
       have hcz55_1 : wc.cell? ⟨gb163, 1, none⟩ = some (.int .i64 x164001_15) := (blk_cell BK163.out 1).trans rfl
       have hcz55_2 : wc.cell? ⟨gb163, 2, none⟩ = some (.int .i64 x164002_15) := (blk_cell BK163.out 2).trans rfl
       have hcz55_3 : wc.cell? ⟨gb163, 3, none⟩ = some (.int .i64 x164003_15) := (blk_cell BK163.out 3).trans rfl
       have hfz55_0 := blk_frozen BK163.out 0
       have hfz55_1 := blk_frozen BK163.out 1
       have hfz55_2 := blk_frozen BK163.out 2
       have hfz55_3 := blk_frozen BK163.out 3
       go_wp2_with (first | ((with_reducible refine gate_callee (f := 18) rfl ?_); refine goesL_ (some 63) rfl rfl Tryd.func18 (by kernel_rfl) rfl #[.agg #[.int .i64 x164000_15, .int .i64 x164001_15, .int .i64 x164002_15, .int .i64 x164003_15]] rfl (by (try simp only [List.map_toArray, List.map_cons, List.map_nil]); first | done | rfl | (simp only [List.length_drop, List.length_take]; rfl)) ?_; (with_reducible refine (attr_Show.calls kj15 x164000_15 x164001_15 x164002_15 x164003_15 t171 t172 _ ?side1 ?side2 A42.out).mono ?_); (case side1 => exact ⟨G1.below hG1.out (by repeat (first | (with_reducible first | exact HB.out | apply below_alloc | apply pw_below_drewN | apply below_drew1 | refine below_set ?_ GE154.out | refine below_set ?_ GE163.out) | exact HB.out))⟩); (case side2 => exact ⟨G2.below hG2.out (by repeat (first | (with_reducible first | exact HB.out | apply below_alloc | apply pw_below_drewN | apply below_drew1 | refine below_set ?_ GE154.out | refine below_set ?_ GE163.out) | exact HB.out))⟩); rintro e w56 ⟨rfl, hb⟩; refine ⟨_, rfl, ?_⟩; have n0_ := Aside0.mk (blk_below (g := gb154) (o := .cells #[.int .i64 0, .int .i64 0, .int .i64 0, .int .i64 0] 24 (0, 0)) (by (with_reducible repeat (first | refine blk_drewN ?_ _ | refine blk_drew ?_ | refine blk_alloc ?_ _)); exact BK154.out) hb); have n1_ := Aside0.mk (blk_below (g := gb163) (o := .cells #[.int .i64 x164000_15, .int .i64 x164001_15, .int .i64 x164002_15, .int .i64 x164003_15] 24 (0, 0)) (by (with_reducible repeat (first | refine blk_drewN ?_ _ | refine blk_drew ?_ | refine blk_alloc ?_ _)); exact BK163.out) hb); have n2_ := Aside0.mk (below_step (by repeat (first | (with_reducible first | exact HB.out | apply below_alloc | apply pw_below_drewN | apply below_drew1 | refine below_set ?_ GE154.out | refine below_set ?_ GE163.out) | exact HB.out)) hb); clear BK154; clear BK163; clear HB; have BK154 := n0_; have BK163 := n1_; have HB := n2_; clear n0_ n1_ n2_; (try clear hb); (try clear hb2); (try clear hk); (try clear hi); have hcz57_0 : w56.cell? ⟨gb154, 0, none⟩ = some (.int .i64 0) := (blk_cell BK154.out 0).trans rfl; have hcz57_1 : w56.cell? ⟨gb154, 1, none⟩ = some (.int .i64 0) := (blk_cell BK154.out 1).trans rfl; have hcz57_2 : w56.cell? ⟨gb154, 2, none⟩ = some (.int .i64 0) := (blk_cell BK154.out 2).trans rfl; have hcz57_3 : w56.cell? ⟨gb154, 3, none⟩ = some (.int .i64 0) := (blk_cell BK154.out 3).trans rfl; have hfz57_0 := blk_frozen BK154.out 0; have hfz57_1 := blk_frozen BK154.out 1; have hfz57_2 := blk_frozen BK154.out 2; have hfz57_3 := blk_frozen BK154.out 3))
       refine bodyPost_ret (results_ct rfl _ _ gb154 24 #[.int .i64 0, .int .i64 0, .int .i64 0, .int .i64 0] (0, 0) _ rfl (by (with_reducible repeat (first | refine blk_drewN ?_ _ | refine blk_drew ?_ | refine blk_alloc ?_ _)); refine blk_put (cs := #[.int .i64 0, .int .i64 0, .int .i64 0, .int .i64 0]) ?_ 3 _ rfl; (with_reducible repeat (first | refine blk_drewN ?_ _ | refine blk_drew ?_ | refine blk_alloc ?_ _)); refine blk_put (cs := #[.int .i64 0, .int .i64 0, .int .i64 0, .int .i64 0]) ?_ 2 _ rfl; (with_reducible repeat (first | refine blk_drewN ?_ _ | refine blk_drew ?_ | refine blk_alloc ?_ _)); refine blk_put (cs := #[.int .i64 0, .int .i64 0, .int .i64 0, .int .i64 0]) ?_ 1 _ rfl; (with_reducible repeat (first | refine blk_drewN ?_ _ | refine blk_drew ?_ | refine blk_alloc ?_ _)); refine blk_put (cs := #[.int .i64 0, .int .i64 0, .int .i64 0, .int .i64 0]) ?_ 0 _ rfl; (with_reducible repeat (first | refine blk_drewN ?_ _ | refine blk_drew ?_ | refine blk_alloc ?_ _)); exact BK154.out) Tryd.underlying24 rfl (by kernel_rfl)) rfl ?_
       exact ⟨by first | rfl | (simp [errW_none, errW_some] <;> rfl) | (simp [*, errW_none, errW_some] <;> rfl) | (simp [*, errW_none, errW_some] <;> exact isEmpty_ne _), by repeat (first | (with_reducible first | exact HB.out | apply below_alloc | apply pw_below_drewN | apply below_drew1 | refine below_set ?_ GE154.out | refine below_set ?_ GE163.out) | exact HB.out)⟩

end Go.Proofs.YtkljijkejbfopaaDoor.S
