-- Written by a program of this session (wip/xprint.py), over the kit's print. Not trusted: Lean checks it.
import Derived.Test.YtglafffghbhnbaaDoorS0
import Derived.Test.YtglafffghbhnbaaDoorS5
import Derived.Test.YtglafffghbhnbaaDoorS14
namespace Go.Proofs.YtglafffghbhnbaaDoor.S
open Go.Proofs.YtglafffghbhnbaaDoorG
open Go.RowKit Go.Proofs.YtglafffghbhnbaaDoorW.PrintWords Go.Proofs.YtglafffghbhnbaaDoorW.PrintLast Go.Proofs.YtglafffghbhnbaaDoorW.PrintMore
attribute [local go_sem] max2_int min2_int max_two min_two max_three min_three max_four min_four   -- for this text's walks alone
set_option linter.unusedVariables false
set_option linter.unusedSimpArgs false

/-! ### atlasref07_Check: function 17 -/
mutual
def atlasref07_Check.j0 : Nat → Bool → Int → Bool → Int → Int → Int → Int → Int → Int → Bool → Bool → Bool → Bool → Bool → Int → Bool → Bool → Int → Int → Int → Int → Int → Int → Option (Int × Int × Int)
  | 0, _, _, _, _, _, _, _, _, _, _, _, _, _, _, _, _, _, _, _, _, _, _, _ => none
  | k + 1, x2, x3, x19, x184000, x184001, x184002, x184003, x184004, x184005, x184006, x184007, x185000, x185001, x185002, x185003, x185004, x185005, x185006, x185007, x185008, x185009, x185010, x185011 => if x19 = true then (some (0, 0, 0)) else ((atlasref07_Level.f k x184000).bind fun t187 => (atlasref07_Check.l0 k x2 x3 x185008 0 x184000 x184001 x184002 x184003 x184004 x184005 x184006 x184007 x185000 x185001 x185002 x185003 x185004 x185005 x185006 x185007 x185008 x185009 x185010 x185011 0 t187 x184003))
def atlasref07_Check.l0 : Nat → Bool → Int → Int → Int → Int → Int → Int → Int → Int → Int → Bool → Bool → Bool → Bool → Bool → Int → Bool → Bool → Int → Int → Int → Int → Int → Int → Int → Int → Int → Option (Int × Int × Int)
  | 0, _, _, _, _, _, _, _, _, _, _, _, _, _, _, _, _, _, _, _, _, _, _, _, _, _, _, _ => none
  | k + 1, x2, x3, x10, x11, x184000, x184001, x184002, x184003, x184004, x184005, x184006, x184007, x185000, x185001, x185002, x185003, x185004, x185005, x185006, x185007, x185008, x185009, x185010, x185011, x189000, x189001, x189002 => if x11 < x184003 then (atlasref07_Check.l0 k x2 x3 ((Int.tdiv x10 4) % 4294967296) (wrap64 (x11 + 1)) x184000 x184001 x184002 x184003 x184004 x184005 x184006 x184007 x185000 x185001 x185002 x185003 x185004 x185005 x185006 x185007 x185008 x185009 x185010 x185011 x189000 x189001 x189002) else (if x185002 = true then (atlasref07_Check.j2 k x2 x3 x10 ((Int.tmod x184004 2) == 0) x184000 x184001 x184002 x184003 x184004 x184005 x184006 x184007 x185000 x185001 x185002 x185003 x185004 x185005 x185006 x185007 x185008 x185009 x185010 x185011 x189000 x189001 x189002) else (atlasref07_Check.j2 k x2 x3 x10 false x184000 x184001 x184002 x184003 x184004 x184005 x184006 x184007 x185000 x185001 x185002 x185003 x185004 x185005 x185006 x185007 x185008 x185009 x185010 x185011 x189000 x189001 x189002))
def atlasref07_Check.j2 : Nat → Bool → Int → Int → Bool → Int → Int → Int → Int → Int → Int → Bool → Bool → Bool → Bool → Bool → Int → Bool → Bool → Int → Int → Int → Int → Int → Int → Int → Int → Int → Option (Int × Int × Int)
  | 0, _, _, _, _, _, _, _, _, _, _, _, _, _, _, _, _, _, _, _, _, _, _, _, _, _, _, _ => none
  | k + 1, x2, x3, x10, x38, x184000, x184001, x184002, x184003, x184004, x184005, x184006, x184007, x185000, x185001, x185002, x185003, x185004, x185005, x185006, x185007, x185008, x185009, x185010, x185011, x189000, x189001, x189002 => if x38 = true then (some (7, x189001, x189002)) else (if (Int.tmod x10 2) = 0 then (some (8, x189001, x189002)) else (if (Int.tmod x10 4) = 3 then (some (0, 0, 0)) else ((atlasref07_Allows.f k x184004 x184005 x184006 x184007 x185002 x2 x3).bind fun t189 => (if t189 = true then (some (0, 0, 0)) else (some (9, x189001, x189002))))))
end
def atlasref07_Check.f (k : Nat) (a0_0 : Int) (a0_1 : Int) (a0_2 : Int) (a0_3 : Int) (a0_4 : Int) (a0_5 : Int) (a0_6 : Bool) (a0_7 : Bool) (a1_0 : Bool) (a1_1 : Bool) (a1_2 : Bool) (a1_3 : Int) (a1_4 : Bool) (a1_5 : Bool) (a1_6 : Int) (a1_7 : Int) (a1_8 : Int) (a1_9 : Int) (a1_10 : Int) (a1_11 : Int) (a2 : Bool) (a3 : Int) : Option (Int × Int × Int) := if a1_0 = true then ((atlasref05_Right.f k a0_0 a0_1 a0_2 a0_3 a0_4 a0_5 a0_6 a0_7).bind fun t186 => (atlasref07_Check.j0 k a2 a3 (!t186) a0_0 a0_1 a0_2 a0_3 a0_4 a0_5 a0_6 a0_7 a1_0 a1_1 a1_2 a1_3 a1_4 a1_5 a1_6 a1_7 a1_8 a1_9 a1_10 a1_11)) else (atlasref07_Check.j0 k a2 a3 true a0_0 a0_1 a0_2 a0_3 a0_4 a0_5 a0_6 a0_7 a1_0 a1_1 a1_2 a1_3 a1_4 a1_5 a1_6 a1_7 a1_8 a1_9 a1_10 a1_11)
theorem atlasref07_Check.mono_l : ∀ k, (∀ y0 y1 y2 y3 y4 y5 y6 y7 y8 y9 y10 y11 y12 y13 y14 y15 y16 y17 y18 y19 y20 y21 y22, LeO (atlasref07_Check.j0 k y0 y1 y2 y3 y4 y5 y6 y7 y8 y9 y10 y11 y12 y13 y14 y15 y16 y17 y18 y19 y20 y21 y22) (atlasref07_Check.j0 (k + 1) y0 y1 y2 y3 y4 y5 y6 y7 y8 y9 y10 y11 y12 y13 y14 y15 y16 y17 y18 y19 y20 y21 y22)) ∧ (∀ y0 y1 y2 y3 y4 y5 y6 y7 y8 y9 y10 y11 y12 y13 y14 y15 y16 y17 y18 y19 y20 y21 y22 y23 y24 y25 y26, LeO (atlasref07_Check.l0 k y0 y1 y2 y3 y4 y5 y6 y7 y8 y9 y10 y11 y12 y13 y14 y15 y16 y17 y18 y19 y20 y21 y22 y23 y24 y25 y26) (atlasref07_Check.l0 (k + 1) y0 y1 y2 y3 y4 y5 y6 y7 y8 y9 y10 y11 y12 y13 y14 y15 y16 y17 y18 y19 y20 y21 y22 y23 y24 y25 y26)) ∧ (∀ y0 y1 y2 y3 y4 y5 y6 y7 y8 y9 y10 y11 y12 y13 y14 y15 y16 y17 y18 y19 y20 y21 y22 y23 y24 y25 y26, LeO (atlasref07_Check.j2 k y0 y1 y2 y3 y4 y5 y6 y7 y8 y9 y10 y11 y12 y13 y14 y15 y16 y17 y18 y19 y20 y21 y22 y23 y24 y25 y26) (atlasref07_Check.j2 (k + 1) y0 y1 y2 y3 y4 y5 y6 y7 y8 y9 y10 y11 y12 y13 y14 y15 y16 y17 y18 y19 y20 y21 y22 y23 y24 y25 y26))
  | 0 => ⟨fun _ _ _ _ _ _ _ _ _ _ _ _ _ _ _ _ _ _ _ _ _ _ _ r h => by simp [atlasref07_Check.j0] at h, fun _ _ _ _ _ _ _ _ _ _ _ _ _ _ _ _ _ _ _ _ _ _ _ _ _ _ _ r h => by simp [atlasref07_Check.l0] at h, fun _ _ _ _ _ _ _ _ _ _ _ _ _ _ _ _ _ _ _ _ _ _ _ _ _ _ _ r h => by simp [atlasref07_Check.j2] at h⟩
  | k + 1 => by
    obtain ⟨ih0, ih1, ih2⟩ := atlasref07_Check.mono_l k
    refine ⟨?_, ?_, ?_⟩
    · intro y0 y1 y2 y3 y4 y5 y6 y7 y8 y9 y10 y11 y12 y13 y14 y15 y16 y17 y18 y19 y20 y21 y22
      unfold atlasref07_Check.j0
      repeat' first
      | (with_reducible exact ih0 _ _ _ _ _ _ _ _ _ _ _ _ _ _ _ _ _ _ _ _ _ _ _)
      | (with_reducible exact ih1 _ _ _ _ _ _ _ _ _ _ _ _ _ _ _ _ _ _ _ _ _ _ _ _ _ _ _)
      | (with_reducible exact ih2 _ _ _ _ _ _ _ _ _ _ _ _ _ _ _ _ _ _ _ _ _ _ _ _ _ _ _)
      | (with_reducible exact atlasref05_Right.mono _ _ _ _ _ _ _ _ _)
      | (with_reducible exact atlasref07_Allows.mono _ _ _ _ _ _ _ _)
      | (with_reducible exact atlasref07_Level.mono _ _)
      | (with_reducible exact LeO.refl _)
      | (with_reducible exact LeO.none _)
      | (with_reducible refine LeO.ite ?_ ?_)
      | (with_reducible refine LeO.bind ?_ (fun _ => ?_))
      | exact ih0 _ _ _ _ _ _ _ _ _ _ _ _ _ _ _ _ _ _ _ _ _ _ _
      | exact ih1 _ _ _ _ _ _ _ _ _ _ _ _ _ _ _ _ _ _ _ _ _ _ _ _ _ _ _
      | exact ih2 _ _ _ _ _ _ _ _ _ _ _ _ _ _ _ _ _ _ _ _ _ _ _ _ _ _ _
      | exact atlasref05_Right.mono _ _ _ _ _ _ _ _ _
      | exact atlasref07_Allows.mono _ _ _ _ _ _ _ _
      | exact atlasref07_Level.mono _ _
      | exact LeO.none _
      | refine LeO.ite ?_ ?_
      | refine LeO.bind ?_ (fun _ => ?_)
    · intro y0 y1 y2 y3 y4 y5 y6 y7 y8 y9 y10 y11 y12 y13 y14 y15 y16 y17 y18 y19 y20 y21 y22 y23 y24 y25 y26
      unfold atlasref07_Check.l0
      repeat' first
      | (with_reducible exact ih0 _ _ _ _ _ _ _ _ _ _ _ _ _ _ _ _ _ _ _ _ _ _ _)
      | (with_reducible exact ih1 _ _ _ _ _ _ _ _ _ _ _ _ _ _ _ _ _ _ _ _ _ _ _ _ _ _ _)
      | (with_reducible exact ih2 _ _ _ _ _ _ _ _ _ _ _ _ _ _ _ _ _ _ _ _ _ _ _ _ _ _ _)
      | (with_reducible exact atlasref05_Right.mono _ _ _ _ _ _ _ _ _)
      | (with_reducible exact atlasref07_Allows.mono _ _ _ _ _ _ _ _)
      | (with_reducible exact atlasref07_Level.mono _ _)
      | (with_reducible exact LeO.refl _)
      | (with_reducible exact LeO.none _)
      | (with_reducible refine LeO.ite ?_ ?_)
      | (with_reducible refine LeO.bind ?_ (fun _ => ?_))
      | exact ih0 _ _ _ _ _ _ _ _ _ _ _ _ _ _ _ _ _ _ _ _ _ _ _
      | exact ih1 _ _ _ _ _ _ _ _ _ _ _ _ _ _ _ _ _ _ _ _ _ _ _ _ _ _ _
      | exact ih2 _ _ _ _ _ _ _ _ _ _ _ _ _ _ _ _ _ _ _ _ _ _ _ _ _ _ _
      | exact atlasref05_Right.mono _ _ _ _ _ _ _ _ _
      | exact atlasref07_Allows.mono _ _ _ _ _ _ _ _
      | exact atlasref07_Level.mono _ _
      | exact LeO.none _
      | refine LeO.ite ?_ ?_
      | refine LeO.bind ?_ (fun _ => ?_)
    · intro y0 y1 y2 y3 y4 y5 y6 y7 y8 y9 y10 y11 y12 y13 y14 y15 y16 y17 y18 y19 y20 y21 y22 y23 y24 y25 y26
      unfold atlasref07_Check.j2
      repeat' first
      | (with_reducible exact ih0 _ _ _ _ _ _ _ _ _ _ _ _ _ _ _ _ _ _ _ _ _ _ _)
      | (with_reducible exact ih1 _ _ _ _ _ _ _ _ _ _ _ _ _ _ _ _ _ _ _ _ _ _ _ _ _ _ _)
      | (with_reducible exact ih2 _ _ _ _ _ _ _ _ _ _ _ _ _ _ _ _ _ _ _ _ _ _ _ _ _ _ _)
      | (with_reducible exact atlasref05_Right.mono _ _ _ _ _ _ _ _ _)
      | (with_reducible exact atlasref07_Allows.mono _ _ _ _ _ _ _ _)
      | (with_reducible exact atlasref07_Level.mono _ _)
      | (with_reducible exact LeO.refl _)
      | (with_reducible exact LeO.none _)
      | (with_reducible refine LeO.ite ?_ ?_)
      | (with_reducible refine LeO.bind ?_ (fun _ => ?_))
      | exact ih0 _ _ _ _ _ _ _ _ _ _ _ _ _ _ _ _ _ _ _ _ _ _ _
      | exact ih1 _ _ _ _ _ _ _ _ _ _ _ _ _ _ _ _ _ _ _ _ _ _ _ _ _ _ _
      | exact ih2 _ _ _ _ _ _ _ _ _ _ _ _ _ _ _ _ _ _ _ _ _ _ _ _ _ _ _
      | exact atlasref05_Right.mono _ _ _ _ _ _ _ _ _
      | exact atlasref07_Allows.mono _ _ _ _ _ _ _ _
      | exact atlasref07_Level.mono _ _
      | exact LeO.none _
      | refine LeO.ite ?_ ?_
      | refine LeO.bind ?_ (fun _ => ?_)
theorem atlasref07_Check.mono : ∀ a0 a1 a2 a3 a4 a5 a6 a7 a8 a9 a10 a11 a12 a13 a14 a15 a16 a17 a18 a19 a20 a21 k, LeO (atlasref07_Check.f k a0 a1 a2 a3 a4 a5 a6 a7 a8 a9 a10 a11 a12 a13 a14 a15 a16 a17 a18 a19 a20 a21) (atlasref07_Check.f (k + 1) a0 a1 a2 a3 a4 a5 a6 a7 a8 a9 a10 a11 a12 a13 a14 a15 a16 a17 a18 a19 a20 a21) := by
  intro a0 a1 a2 a3 a4 a5 a6 a7 a8 a9 a10 a11 a12 a13 a14 a15 a16 a17 a18 a19 a20 a21 k
  obtain ⟨ih0, ih1, ih2⟩ := atlasref07_Check.mono_l k
  unfold atlasref07_Check.f
  repeat' first
      | (with_reducible exact ih0 _ _ _ _ _ _ _ _ _ _ _ _ _ _ _ _ _ _ _ _ _ _ _)
      | (with_reducible exact ih1 _ _ _ _ _ _ _ _ _ _ _ _ _ _ _ _ _ _ _ _ _ _ _ _ _ _ _)
      | (with_reducible exact ih2 _ _ _ _ _ _ _ _ _ _ _ _ _ _ _ _ _ _ _ _ _ _ _ _ _ _ _)
      | (with_reducible exact atlasref05_Right.mono _ _ _ _ _ _ _ _ _)
      | (with_reducible exact atlasref07_Allows.mono _ _ _ _ _ _ _ _)
      | (with_reducible exact atlasref07_Level.mono _ _)
      | (with_reducible exact LeO.refl _)
      | (with_reducible exact LeO.none _)
      | (with_reducible refine LeO.ite ?_ ?_)
      | (with_reducible refine LeO.bind ?_ (fun _ => ?_))
      | exact ih0 _ _ _ _ _ _ _ _ _ _ _ _ _ _ _ _ _ _ _ _ _ _ _
      | exact ih1 _ _ _ _ _ _ _ _ _ _ _ _ _ _ _ _ _ _ _ _ _ _ _ _ _ _ _
      | exact ih2 _ _ _ _ _ _ _ _ _ _ _ _ _ _ _ _ _ _ _ _ _ _ _ _ _ _ _
      | exact atlasref05_Right.mono _ _ _ _ _ _ _ _ _
      | exact atlasref07_Allows.mono _ _ _ _ _ _ _ _
      | exact atlasref07_Level.mono _ _
      | exact LeO.none _
      | refine LeO.ite ?_ ?_
      | refine LeO.bind ?_ (fun _ => ?_)
def atlasref07_Check.T3 : Bool × List (List Nat × List Nat) := (true, [([], []), ([0], [0]), ([1], [1]), ([], []), ([3], [3]), ([2, 4], [2, 4]), ([], []), ([6, 5, 2, 0, 1, 2, 3, 4, 5, 6], [5, 6])])
def atlasref07_Check.B3 : List Nat := [0, 1, 3, 0, 8, 31, 0, 127]
theorem atlasref07_Check.tab3 : rtab .any (opsOf Tryd.f17 3) = atlasref07_Check.T3 := by kernel_rfl
theorem atlasref07_Check.bits3 : waitsOk atlasref07_Check.T3.2 atlasref07_Check.B3 = true := by kernel_rfl
set_option maxHeartbeats 8000000 in
set_option maxRecDepth 100000 in
theorem atlasref07_Check.calls (k : Nat) (a0_0 : Int) (a0_1 : Int) (a0_2 : Int) (a0_3 : Int) (a0_4 : Int) (a0_5 : Int) (a0_6 : Bool) (a0_7 : Bool) (a1_0 : Bool) (a1_1 : Bool) (a1_2 : Bool) (a1_3 : Int) (a1_4 : Bool) (a1_5 : Bool) (a1_6 : Int) (a1_7 : Int) (a1_8 : Int) (a1_9 : Int) (a1_10 : Int) (a1_11 : Int) (a2 : Bool) (a3 : Int) (r1 : Int) (r2 : Int) (r3 : Int) (w : World) (h : atlasref07_Check.f k a0_0 a0_1 a0_2 a0_3 a0_4 a0_5 a0_6 a0_7 a1_0 a1_1 a1_2 a1_3 a1_4 a1_5 a1_6 a1_7 a1_8 a1_9 a1_10 a1_11 a2 a3 = some (r1, r2, r3)) :
    Calls Tryd.prog 17 #[.agg #[.int .i64 a0_0, .int .u32 a0_1, .int .u64 a0_2, .int .i64 a0_3, .int .i64 a0_4, .int .u32 a0_5, .bool a0_6, .bool a0_7], .agg #[.bool a1_0, .bool a1_1, .bool a1_2, .int .i64 a1_3, .bool a1_4, .bool a1_5, .int .u64 a1_6, .int .u64 a1_7, .int .u32 a1_8, .int .u32 a1_9, .int .u32 a1_10, .int .i64 a1_11], .bool a2, .int .i64 a3] w fun e w' => e = .returned (.agg #[.int .i64 r1, .int .i64 r2, .int .i64 r3]) ∧ Below w.heap.size w w' := by
  have hu36 := Tryd.underlying36
  have hu38 := Tryd.underlying38
  have hu40 := Tryd.underlying40
  have hu24 := Tryd.underlying24
  have HB := Aside0.mk (Below.refl w.heap.size w)
  have H : (if a1_0 = true then ((atlasref05_Right.f k a0_0 a0_1 a0_2 a0_3 a0_4 a0_5 a0_6 a0_7).bind fun t186 => (atlasref07_Check.j0 k a2 a3 (!t186) a0_0 a0_1 a0_2 a0_3 a0_4 a0_5 a0_6 a0_7 a1_0 a1_1 a1_2 a1_3 a1_4 a1_5 a1_6 a1_7 a1_8 a1_9 a1_10 a1_11)) else (atlasref07_Check.j0 k a2 a3 true a0_0 a0_1 a0_2 a0_3 a0_4 a0_5 a0_6 a0_7 a1_0 a1_1 a1_2 a1_3 a1_4 a1_5 a1_6 a1_7 a1_8 a1_9 a1_10 a1_11)) = some (r1, r2, r3) := h
  clear h
  have HC5 := Aside0.mk H
  clear H
  go_enter Tryd.func17, Tryd.ntmps17
  go_upto_region 1 with (first | ((with_reducible refine gate_dst (N := 4) rfl ?_); refine box_event ?hg (N := 4) ?hd (cs := #[.int .i64 a0_0, .int .u32 a0_1, .int .u64 a0_2, .int .i64 a0_3, .int .i64 a0_4, .int .u32 a0_5, .bool a0_6, .bool a0_7]) (t := 36) ?hr ?_; (case hd => rfl); (case hg => rfl); (case hr => first | (go_simp; done) | (go_simp; rfl)); intro gb183 hg w6 hbox hb; have n0_ := Aside0.mk (below_step (by repeat (first | (with_reducible first | exact HB.out | apply below_alloc | apply pw_below_drewN | apply below_drew1) | exact HB.out)) hb); have n1_ := Aside0.mk (hbox); have n2_ := Aside0.mk ((by rw [hg]; exact (below_size (by repeat (first | (with_reducible first | exact HB.out | apply below_alloc | apply pw_below_drewN | apply below_drew1) | exact HB.out))) : w.heap.size ≤ gb183)); have n3_ := Aside0.mk ((by rw [hg]; exact (below_size (by repeat (first | (with_reducible first | exact HB.out | apply below_alloc | apply pw_below_drewN | apply below_drew1) | exact HB.out))) : w.heap.size ≤ gb183)); clear HB; have HB := n0_; have BK183 := n1_; have GW183 := n2_; have GE183 := n3_; clear n0_ n1_ n2_ n3_; clear hb hbox hg) | ((with_reducible refine gate_dst (N := 5) rfl ?_); refine box_event ?hg (N := 5) ?hd (cs := #[.bool a1_0, .bool a1_1, .bool a1_2, .int .i64 a1_3, .bool a1_4, .bool a1_5, .int .u64 a1_6, .int .u64 a1_7, .int .u32 a1_8, .int .u32 a1_9, .int .u32 a1_10, .int .i64 a1_11]) (t := 38) ?hr ?_; (case hd => rfl); (case hg => rfl); (case hr => first | (go_simp; done) | (go_simp; rfl)); intro gb184 hg w7 hbox hb; have n0_ := Aside0.mk (blk_below (g := gb183) (o := .cells #[.int .i64 a0_0, .int .u32 a0_1, .int .u64 a0_2, .int .i64 a0_3, .int .i64 a0_4, .int .u32 a0_5, .bool a0_6, .bool a0_7] 36 (0, 0)) (by (with_reducible repeat (first | refine blk_drewN ?_ _ | refine blk_drew ?_ | refine blk_alloc ?_ _)); exact BK183.out) hb); have n1_ := Aside0.mk (below_step (by repeat (first | (with_reducible first | exact HB.out | apply below_alloc | apply pw_below_drewN | apply below_drew1 | refine below_set ?_ GE183.out) | exact HB.out)) hb); have n2_ := Aside0.mk (hbox); have n3_ := Aside0.mk ((by rw [hg]; exact (below_size (by repeat (first | (with_reducible first | exact HB.out | apply below_alloc | apply pw_below_drewN | apply below_drew1 | refine below_set ?_ GE183.out) | exact HB.out))) : w.heap.size ≤ gb184)); have n4_ := Aside0.mk ((by rw [hg]; exact (below_size (by repeat (first | (with_reducible first | exact HB.out | apply below_alloc | apply pw_below_drewN | apply below_drew1 | refine below_set ?_ GE183.out) | exact HB.out))) : w.heap.size ≤ gb184)); have n5_ := Aside0.mk ((by rw [hg]; exact Nat.ne_of_lt (blk_lt (g := gb183) (o := .cells #[.int .i64 a0_0, .int .u32 a0_1, .int .u64 a0_2, .int .i64 a0_3, .int .i64 a0_4, .int .u32 a0_5, .bool a0_6, .bool a0_7] 36 (0, 0)) (by (with_reducible repeat (first | refine blk_drewN ?_ _ | refine blk_drew ?_ | refine blk_alloc ?_ _)); exact BK183.out)) : gb183 ≠ gb184)); have n6_ := Aside0.mk ((by rw [hg]; exact Nat.ne_of_gt (blk_lt (g := gb183) (o := .cells #[.int .i64 a0_0, .int .u32 a0_1, .int .u64 a0_2, .int .i64 a0_3, .int .i64 a0_4, .int .u32 a0_5, .bool a0_6, .bool a0_7] 36 (0, 0)) (by (with_reducible repeat (first | refine blk_drewN ?_ _ | refine blk_drew ?_ | refine blk_alloc ?_ _)); exact BK183.out)) : gb184 ≠ gb183)); clear BK183; clear HB; have BK183 := n0_; have HB := n1_; have BK184 := n2_; have GW184 := n3_; have GE184 := n4_; have NB183_184 := n5_; have NB184_183 := n6_; clear n0_ n1_ n2_ n3_ n4_ n5_ n6_; clear hb hbox hg) | ((with_reducible refine gate_dst (N := 8) rfl ?_); refine box_event ?hg (N := 8) ?hd (cs := #[.int .i64 0, .int .i64 0, .int .i64 0]) (t := 40) ?hr ?_; (case hd => rfl); (case hg => rfl); (case hr => first | (go_simp; done) | (go_simp; rfl)); intro gb185 hg w8 hbox hb; have n0_ := Aside0.mk (blk_below (g := gb183) (o := .cells #[.int .i64 a0_0, .int .u32 a0_1, .int .u64 a0_2, .int .i64 a0_3, .int .i64 a0_4, .int .u32 a0_5, .bool a0_6, .bool a0_7] 36 (0, 0)) (by (with_reducible repeat (first | refine blk_drewN ?_ _ | refine blk_drew ?_ | refine blk_alloc ?_ _)); exact BK183.out) hb); have n1_ := Aside0.mk (blk_below (g := gb184) (o := .cells #[.bool a1_0, .bool a1_1, .bool a1_2, .int .i64 a1_3, .bool a1_4, .bool a1_5, .int .u64 a1_6, .int .u64 a1_7, .int .u32 a1_8, .int .u32 a1_9, .int .u32 a1_10, .int .i64 a1_11] 38 (0, 0)) (by (with_reducible repeat (first | refine blk_drewN ?_ _ | refine blk_drew ?_ | refine blk_alloc ?_ _)); exact BK184.out) hb); have n2_ := Aside0.mk (below_step (by repeat (first | (with_reducible first | exact HB.out | apply below_alloc | apply pw_below_drewN | apply below_drew1 | refine below_set ?_ GE183.out | refine below_set ?_ GE184.out) | exact HB.out)) hb); have n3_ := Aside0.mk (hbox); have n4_ := Aside0.mk ((by rw [hg]; exact (below_size (by repeat (first | (with_reducible first | exact HB.out | apply below_alloc | apply pw_below_drewN | apply below_drew1 | refine below_set ?_ GE183.out | refine below_set ?_ GE184.out) | exact HB.out))) : w.heap.size ≤ gb185)); have n5_ := Aside0.mk ((by rw [hg]; exact (below_size (by repeat (first | (with_reducible first | exact HB.out | apply below_alloc | apply pw_below_drewN | apply below_drew1 | refine below_set ?_ GE183.out | refine below_set ?_ GE184.out) | exact HB.out))) : w.heap.size ≤ gb185)); have n6_ := Aside0.mk ((by rw [hg]; exact Nat.ne_of_lt (blk_lt (g := gb183) (o := .cells #[.int .i64 a0_0, .int .u32 a0_1, .int .u64 a0_2, .int .i64 a0_3, .int .i64 a0_4, .int .u32 a0_5, .bool a0_6, .bool a0_7] 36 (0, 0)) (by (with_reducible repeat (first | refine blk_drewN ?_ _ | refine blk_drew ?_ | refine blk_alloc ?_ _)); exact BK183.out)) : gb183 ≠ gb185)); have n7_ := Aside0.mk ((by rw [hg]; exact Nat.ne_of_gt (blk_lt (g := gb183) (o := .cells #[.int .i64 a0_0, .int .u32 a0_1, .int .u64 a0_2, .int .i64 a0_3, .int .i64 a0_4, .int .u32 a0_5, .bool a0_6, .bool a0_7] 36 (0, 0)) (by (with_reducible repeat (first | refine blk_drewN ?_ _ | refine blk_drew ?_ | refine blk_alloc ?_ _)); exact BK183.out)) : gb185 ≠ gb183)); have n8_ := Aside0.mk ((by rw [hg]; exact Nat.ne_of_lt (blk_lt (g := gb184) (o := .cells #[.bool a1_0, .bool a1_1, .bool a1_2, .int .i64 a1_3, .bool a1_4, .bool a1_5, .int .u64 a1_6, .int .u64 a1_7, .int .u32 a1_8, .int .u32 a1_9, .int .u32 a1_10, .int .i64 a1_11] 38 (0, 0)) (by (with_reducible repeat (first | refine blk_drewN ?_ _ | refine blk_drew ?_ | refine blk_alloc ?_ _)); exact BK184.out)) : gb184 ≠ gb185)); have n9_ := Aside0.mk ((by rw [hg]; exact Nat.ne_of_gt (blk_lt (g := gb184) (o := .cells #[.bool a1_0, .bool a1_1, .bool a1_2, .int .i64 a1_3, .bool a1_4, .bool a1_5, .int .u64 a1_6, .int .u64 a1_7, .int .u32 a1_8, .int .u32 a1_9, .int .u32 a1_10, .int .i64 a1_11] 38 (0, 0)) (by (with_reducible repeat (first | refine blk_drewN ?_ _ | refine blk_drew ?_ | refine blk_alloc ?_ _)); exact BK184.out)) : gb185 ≠ gb184)); clear BK183; clear BK184; clear HB; have BK183 := n0_; have BK184 := n1_; have HB := n2_; have BK185 := n3_; have GW185 := n4_; have GE185 := n5_; have NB183_185 := n6_; have NB185_183 := n7_; have NB184_185 := n8_; have NB185_184 := n9_; clear n0_ n1_ n2_ n3_ n4_ n5_ n6_ n7_ n8_ n9_; clear hb hbox hg))
  (try simp only [Act.put, List.setIfInBounds_toArray, List.set_cons_zero, List.set_cons_succ])
  go_cut [19] (fun v19 wc => ∃ (kq : Nat) (x19_4 : Bool), v19 = .bool x19_4 ∧ Aside0 (atlasref07_Check.j0 kq a2 a3 x19_4 a0_0 a0_1 a0_2 a0_3 a0_4 a0_5 a0_6 a0_7 a1_0 a1_1 a1_2 a1_3 a1_4 a1_5 a1_6 a1_7 a1_8 a1_9 a1_10 a1_11 = some (r1, r2, r3)) ∧ Aside0 (kq ≤ k) ∧ Aside0 (wc.heap[gb183]? = some (.cells #[.int .i64 a0_0, .int .u32 a0_1, .int .u64 a0_2, .int .i64 a0_3, .int .i64 a0_4, .int .u32 a0_5, .bool a0_6, .bool a0_7] 36 (0, 0))) ∧ Aside0 (wc.heap[gb184]? = some (.cells #[.bool a1_0, .bool a1_1, .bool a1_2, .int .i64 a1_3, .bool a1_4, .bool a1_5, .int .u64 a1_6, .int .u64 a1_7, .int .u32 a1_8, .int .u32 a1_9, .int .u32 a1_10, .int .i64 a1_11] 38 (0, 0))) ∧ Aside0 (wc.heap[gb185]? = some (.cells #[.int .i64 0, .int .i64 0, .int .i64 0] 40 (0, 0))) ∧ Aside0 (Below w.heap.size w wc))
  case first =>
    have H := HC5.out
    clear HC5
    by_cases c9 : a1_0 = true
    · subst c9
      have H1 : ((atlasref05_Right.f k a0_0 a0_1 a0_2 a0_3 a0_4 a0_5 a0_6 a0_7).bind fun t186 => (atlasref07_Check.j0 k a2 a3 (!t186) a0_0 a0_1 a0_2 a0_3 a0_4 a0_5 a0_6 a0_7 true a1_1 a1_2 a1_3 a1_4 a1_5 a1_6 a1_7 a1_8 a1_9 a1_10 a1_11)) = some (r1, r2, r3) := by rw [if_pos rfl] at H; exact H
      clear H
      have H := H1
      clear H1
      replace H := Option.bind_eq_some_iff.mp H
      obtain ⟨t186, A100, H⟩ := H
      replace H : (atlasref07_Check.j0 k a2 a3 (!t186) a0_0 a0_1 a0_2 a0_3 a0_4 a0_5 a0_6 a0_7 true a1_1 a1_2 a1_3 a1_4 a1_5 a1_6 a1_7 a1_8 a1_9 a1_10 a1_11) = some (r1, r2, r3) := H
      have A10 := Aside0.mk A100
      clear A100
      have H' := Aside0.mk H
      clear H
      have hnb11 := NB184_183.out
      have hnc11 := NB183_184.out
      have hnb12 := NB184_185.out
      have hnc12 := NB185_184.out
      have hcz13_0 : w8.cell? ⟨gb184, 0, none⟩ = some (.bool true) := (blk_cell BK184.out 0).trans rfl
      have hcz13_1 : w8.cell? ⟨gb184, 1, none⟩ = some (.bool a1_1) := (blk_cell BK184.out 1).trans rfl
      have hcz13_2 : w8.cell? ⟨gb184, 2, none⟩ = some (.bool a1_2) := (blk_cell BK184.out 2).trans rfl
      have hcz13_3 : w8.cell? ⟨gb184, 3, none⟩ = some (.int .i64 a1_3) := (blk_cell BK184.out 3).trans rfl
      have hcz13_4 : w8.cell? ⟨gb184, 4, none⟩ = some (.bool a1_4) := (blk_cell BK184.out 4).trans rfl
      have hcz13_5 : w8.cell? ⟨gb184, 5, none⟩ = some (.bool a1_5) := (blk_cell BK184.out 5).trans rfl
      have hcz13_6 : w8.cell? ⟨gb184, 6, none⟩ = some (.int .u64 a1_6) := (blk_cell BK184.out 6).trans rfl
      have hcz13_7 : w8.cell? ⟨gb184, 7, none⟩ = some (.int .u64 a1_7) := (blk_cell BK184.out 7).trans rfl
      have hcz13_8 : w8.cell? ⟨gb184, 8, none⟩ = some (.int .u32 a1_8) := (blk_cell BK184.out 8).trans rfl
      have hcz13_9 : w8.cell? ⟨gb184, 9, none⟩ = some (.int .u32 a1_9) := (blk_cell BK184.out 9).trans rfl
      have hcz13_10 : w8.cell? ⟨gb184, 10, none⟩ = some (.int .u32 a1_10) := (blk_cell BK184.out 10).trans rfl
      have hcz13_11 : w8.cell? ⟨gb184, 11, none⟩ = some (.int .i64 a1_11) := (blk_cell BK184.out 11).trans rfl
      have hfz13_0 := blk_frozen BK184.out 0
      have hfz13_1 := blk_frozen BK184.out 1
      have hfz13_2 := blk_frozen BK184.out 2
      have hfz13_3 := blk_frozen BK184.out 3
      have hfz13_4 := blk_frozen BK184.out 4
      have hfz13_5 := blk_frozen BK184.out 5
      have hfz13_6 := blk_frozen BK184.out 6
      have hfz13_7 := blk_frozen BK184.out 7
      have hfz13_8 := blk_frozen BK184.out 8
      have hfz13_9 := blk_frozen BK184.out 9
      have hfz13_10 := blk_frozen BK184.out 10
      have hfz13_11 := blk_frozen BK184.out 11
      have hnb14 := NB183_185.out
      have hnc14 := NB185_183.out
      have hcz15_0 : w8.cell? ⟨gb183, 0, none⟩ = some (.int .i64 a0_0) := (blk_cell BK183.out 0).trans rfl
      have hcz15_1 : w8.cell? ⟨gb183, 1, none⟩ = some (.int .u32 a0_1) := (blk_cell BK183.out 1).trans rfl
      have hcz15_2 : w8.cell? ⟨gb183, 2, none⟩ = some (.int .u64 a0_2) := (blk_cell BK183.out 2).trans rfl
      have hcz15_3 : w8.cell? ⟨gb183, 3, none⟩ = some (.int .i64 a0_3) := (blk_cell BK183.out 3).trans rfl
      have hcz15_4 : w8.cell? ⟨gb183, 4, none⟩ = some (.int .i64 a0_4) := (blk_cell BK183.out 4).trans rfl
      have hcz15_5 : w8.cell? ⟨gb183, 5, none⟩ = some (.int .u32 a0_5) := (blk_cell BK183.out 5).trans rfl
      have hcz15_6 : w8.cell? ⟨gb183, 6, none⟩ = some (.bool a0_6) := (blk_cell BK183.out 6).trans rfl
      have hcz15_7 : w8.cell? ⟨gb183, 7, none⟩ = some (.bool a0_7) := (blk_cell BK183.out 7).trans rfl
      have hfz15_0 := blk_frozen BK183.out 0
      have hfz15_1 := blk_frozen BK183.out 1
      have hfz15_2 := blk_frozen BK183.out 2
      have hfz15_3 := blk_frozen BK183.out 3
      have hfz15_4 := blk_frozen BK183.out 4
      have hfz15_5 := blk_frozen BK183.out 5
      have hfz15_6 := blk_frozen BK183.out 6
      have hfz15_7 := blk_frozen BK183.out 7
      go_wp2_with (first | (go_at_call 27; (with_reducible refine (atlasref05_Right.calls k a0_0 a0_1 a0_2 a0_3 a0_4 a0_5 a0_6 a0_7 t186 _ A10.out).mono ?_); rintro e w16 ⟨rfl, hb⟩; have n0_ := Aside0.mk (blk_below (g := gb183) (o := .cells #[.int .i64 a0_0, .int .u32 a0_1, .int .u64 a0_2, .int .i64 a0_3, .int .i64 a0_4, .int .u32 a0_5, .bool a0_6, .bool a0_7] 36 (0, 0)) (by (with_reducible repeat (first | refine blk_drewN ?_ _ | refine blk_drew ?_ | refine blk_alloc ?_ _)); exact BK183.out) hb); have n1_ := Aside0.mk (blk_below (g := gb184) (o := .cells #[.bool true, .bool a1_1, .bool a1_2, .int .i64 a1_3, .bool a1_4, .bool a1_5, .int .u64 a1_6, .int .u64 a1_7, .int .u32 a1_8, .int .u32 a1_9, .int .u32 a1_10, .int .i64 a1_11] 38 (0, 0)) (by (with_reducible repeat (first | refine blk_drewN ?_ _ | refine blk_drew ?_ | refine blk_alloc ?_ _)); exact BK184.out) hb); have n2_ := Aside0.mk (blk_below (g := gb185) (o := .cells #[.int .i64 0, .int .i64 0, .int .i64 0] 40 (0, 0)) (by (with_reducible repeat (first | refine blk_drewN ?_ _ | refine blk_drew ?_ | refine blk_alloc ?_ _)); exact BK185.out) hb); have n3_ := Aside0.mk (below_step (by repeat (first | (with_reducible first | exact HB.out | apply below_alloc | apply pw_below_drewN | apply below_drew1 | refine below_set ?_ GE183.out | refine below_set ?_ GE184.out | refine below_set ?_ GE185.out) | exact HB.out)) hb); clear BK183; clear BK184; clear BK185; clear HB; have BK183 := n0_; have BK184 := n1_; have BK185 := n2_; have HB := n3_; clear n0_ n1_ n2_ n3_; (try clear hb); (try clear hb2); (try clear hk); (try clear hi)))
      go_meet
      case rel => exact ⟨_, (!t186), (by first | rfl | (simp; done) | (simp [*]; done)), H', ⟨by first | omega | exact Nat.le_refl _⟩, ⟨by (with_reducible repeat (first | refine blk_drewN ?_ _ | refine blk_drew ?_ | refine blk_alloc ?_ _)); exact BK183.out⟩, ⟨by (with_reducible repeat (first | refine blk_drewN ?_ _ | refine blk_drew ?_ | refine blk_alloc ?_ _)); exact BK184.out⟩, ⟨by (with_reducible repeat (first | refine blk_drewN ?_ _ | refine blk_drew ?_ | refine blk_alloc ?_ _)); exact BK185.out⟩, ⟨by repeat (first | (with_reducible first | exact HB.out | apply below_alloc | apply pw_below_drewN | apply below_drew1 | refine below_set ?_ GE183.out | refine below_set ?_ GE184.out | refine below_set ?_ GE185.out) | exact HB.out)⟩⟩
    · replace c9 := Bool.eq_false_iff.mpr c9
      subst c9
      have H1 : (atlasref07_Check.j0 k a2 a3 true a0_0 a0_1 a0_2 a0_3 a0_4 a0_5 a0_6 a0_7 false a1_1 a1_2 a1_3 a1_4 a1_5 a1_6 a1_7 a1_8 a1_9 a1_10 a1_11) = some (r1, r2, r3) := by rw [if_neg (show ¬ (false = true) by decide)] at H; exact H
      clear H
      have H := H1
      clear H1
      have H' := Aside0.mk H
      clear H
      have hnb17 := NB184_183.out
      have hnc17 := NB183_184.out
      have hnb18 := NB184_185.out
      have hnc18 := NB185_184.out
      have hcz19_0 : w8.cell? ⟨gb184, 0, none⟩ = some (.bool false) := (blk_cell BK184.out 0).trans rfl
      have hcz19_1 : w8.cell? ⟨gb184, 1, none⟩ = some (.bool a1_1) := (blk_cell BK184.out 1).trans rfl
      have hcz19_2 : w8.cell? ⟨gb184, 2, none⟩ = some (.bool a1_2) := (blk_cell BK184.out 2).trans rfl
      have hcz19_3 : w8.cell? ⟨gb184, 3, none⟩ = some (.int .i64 a1_3) := (blk_cell BK184.out 3).trans rfl
      have hcz19_4 : w8.cell? ⟨gb184, 4, none⟩ = some (.bool a1_4) := (blk_cell BK184.out 4).trans rfl
      have hcz19_5 : w8.cell? ⟨gb184, 5, none⟩ = some (.bool a1_5) := (blk_cell BK184.out 5).trans rfl
      have hcz19_6 : w8.cell? ⟨gb184, 6, none⟩ = some (.int .u64 a1_6) := (blk_cell BK184.out 6).trans rfl
      have hcz19_7 : w8.cell? ⟨gb184, 7, none⟩ = some (.int .u64 a1_7) := (blk_cell BK184.out 7).trans rfl
      have hcz19_8 : w8.cell? ⟨gb184, 8, none⟩ = some (.int .u32 a1_8) := (blk_cell BK184.out 8).trans rfl
      have hcz19_9 : w8.cell? ⟨gb184, 9, none⟩ = some (.int .u32 a1_9) := (blk_cell BK184.out 9).trans rfl
      have hcz19_10 : w8.cell? ⟨gb184, 10, none⟩ = some (.int .u32 a1_10) := (blk_cell BK184.out 10).trans rfl
      have hcz19_11 : w8.cell? ⟨gb184, 11, none⟩ = some (.int .i64 a1_11) := (blk_cell BK184.out 11).trans rfl
      have hfz19_0 := blk_frozen BK184.out 0
      have hfz19_1 := blk_frozen BK184.out 1
      have hfz19_2 := blk_frozen BK184.out 2
      have hfz19_3 := blk_frozen BK184.out 3
      have hfz19_4 := blk_frozen BK184.out 4
      have hfz19_5 := blk_frozen BK184.out 5
      have hfz19_6 := blk_frozen BK184.out 6
      have hfz19_7 := blk_frozen BK184.out 7
      have hfz19_8 := blk_frozen BK184.out 8
      have hfz19_9 := blk_frozen BK184.out 9
      have hfz19_10 := blk_frozen BK184.out 10
      have hfz19_11 := blk_frozen BK184.out 11
      go_wp2
      go_meet
      case rel => exact ⟨_, (true), (by first | rfl | (simp; done) | (simp [*]; done)), H', ⟨by first | omega | exact Nat.le_refl _⟩, ⟨by (with_reducible repeat (first | refine blk_drewN ?_ _ | refine blk_drew ?_ | refine blk_alloc ?_ _)); exact BK183.out⟩, ⟨by (with_reducible repeat (first | refine blk_drewN ?_ _ | refine blk_drew ?_ | refine blk_alloc ?_ _)); exact BK184.out⟩, ⟨by (with_reducible repeat (first | refine blk_drewN ?_ _ | refine blk_drew ?_ | refine blk_alloc ?_ _)); exact BK185.out⟩, ⟨by repeat (first | (with_reducible first | exact HB.out | apply below_alloc | apply pw_below_drewN | apply below_drew1 | refine below_set ?_ GE183.out | refine below_set ?_ GE184.out | refine below_set ?_ GE185.out) | exact HB.out)⟩⟩
  case rest =>
    clear HC5
    try clear c1
    try clear p2
    try clear c9
    try clear c11
    try clear c12
    try clear c14
    try clear c17
    try clear c18
    try clear hcz13_0
    try clear hcz13_1
    try clear hcz13_10
    try clear hcz13_11
    try clear hcz13_2
    try clear hcz13_3
    try clear hcz13_4
    try clear hcz13_5
    try clear hcz13_6
    try clear hcz13_7
    try clear hcz13_8
    try clear hcz13_9
    try clear hcz15_0
    try clear hcz15_1
    try clear hcz15_2
    try clear hcz15_3
    try clear hcz15_4
    try clear hcz15_5
    try clear hcz15_6
    try clear hcz15_7
    try clear hcz19_0
    try clear hcz19_1
    try clear hcz19_10
    try clear hcz19_11
    try clear hcz19_2
    try clear hcz19_3
    try clear hcz19_4
    try clear hcz19_5
    try clear hcz19_6
    try clear hcz19_7
    try clear hcz19_8
    try clear hcz19_9
    try clear hfz13_0
    try clear hfz13_1
    try clear hfz13_10
    try clear hfz13_11
    try clear hfz13_2
    try clear hfz13_3
    try clear hfz13_4
    try clear hfz13_5
    try clear hfz13_6
    try clear hfz13_7
    try clear hfz13_8
    try clear hfz13_9
    try clear hfz15_0
    try clear hfz15_1
    try clear hfz15_2
    try clear hfz15_3
    try clear hfz15_4
    try clear hfz15_5
    try clear hfz15_6
    try clear hfz15_7
    try clear hfz19_0
    try clear hfz19_1
    try clear hfz19_10
    try clear hfz19_11
    try clear hfz19_2
    try clear hfz19_3
    try clear hfz19_4
    try clear hfz19_5
    try clear hfz19_6
    try clear hfz19_7
    try clear hfz19_8
    try clear hfz19_9
    obtain ⟨kq, x19_4, rfl, HA, HJ4, BK183, BK184, BK185, HB⟩ := hcut
    cases kq with
    | zero => exact absurd HA.out (by simp [atlasref07_Check.j0])
    | succ kj4 =>
      have H := HA.out
      clear HA
      simp only [atlasref07_Check.j0] at H
      by_cases c20 : x19_4 = true
      · subst c20
        have H1 : (some (0, 0, 0)) = some (r1, r2, r3) := by rw [if_pos rfl] at H; exact H
        clear H
        have H := H1
        clear H1
        simp only [Option.some.injEq, Prod.mk.injEq] at H
        obtain ⟨rfl, rfl, rfl⟩ := H
        have hnb21 := NB185_183.out
        have hnc21 := NB183_185.out
        have hnb22 := NB185_184.out
        have hnc22 := NB184_185.out
        have hcz23_0 : wc.cell? ⟨gb185, 0, none⟩ = some (.int .i64 0) := (blk_cell BK185.out 0).trans rfl
        have hcz23_1 : wc.cell? ⟨gb185, 1, none⟩ = some (.int .i64 0) := (blk_cell BK185.out 1).trans rfl
        have hcz23_2 : wc.cell? ⟨gb185, 2, none⟩ = some (.int .i64 0) := (blk_cell BK185.out 2).trans rfl
        have hfz23_0 := blk_frozen BK185.out 0
        have hfz23_1 := blk_frozen BK185.out 1
        have hfz23_2 := blk_frozen BK185.out 2
        go_wp2
        refine bodyPost_ret (results_cell_row rfl _ _ gb185 40 #[.int .i64 0, .int .i64 0, .int .i64 0] (0, 0) _ rfl (by (with_reducible repeat (first | refine blk_drewN ?_ _ | refine blk_drew ?_ | refine blk_alloc ?_ _)); refine blk_put (cs := #[.int .i64 0, .int .i64 0, .int .i64 0]) ?_ 2 _ rfl; (with_reducible repeat (first | refine blk_drewN ?_ _ | refine blk_drew ?_ | refine blk_alloc ?_ _)); refine blk_put (cs := #[.int .i64 0, .int .i64 0, .int .i64 0]) ?_ 1 _ rfl; (with_reducible repeat (first | refine blk_drewN ?_ _ | refine blk_drew ?_ | refine blk_alloc ?_ _)); refine blk_put (cs := #[.int .i64 0, .int .i64 0, .int .i64 0]) ?_ 0 _ rfl; (with_reducible repeat (first | refine blk_drewN ?_ _ | refine blk_drew ?_ | refine blk_alloc ?_ _)); exact BK185.out) Tryd.underlying40 rfl (by kernel_rfl)) rfl ?_
        exact ⟨by first | rfl | (simp [errW_none, errW_some] <;> rfl) | (simp [*, errW_none, errW_some] <;> rfl) | (simp [*, errW_none, errW_some] <;> exact isEmpty_ne _), by repeat (first | (with_reducible first | exact HB.out | apply below_alloc | apply pw_below_drewN | apply below_drew1 | refine below_set ?_ GE183.out | refine below_set ?_ GE184.out | refine below_set ?_ GE185.out) | exact HB.out)⟩
      · replace c20 := Bool.eq_false_iff.mpr c20
        subst c20
        have H1 : ((atlasref07_Level.f kj4 a0_0).bind fun t187 => (atlasref07_Check.l0 kj4 a2 a3 a1_8 0 a0_0 a0_1 a0_2 a0_3 a0_4 a0_5 a0_6 a0_7 a1_0 a1_1 a1_2 a1_3 a1_4 a1_5 a1_6 a1_7 a1_8 a1_9 a1_10 a1_11 0 t187 a0_3)) = some (r1, r2, r3) := by rw [if_neg (show ¬ (false = true) by decide)] at H; exact H
        clear H
        have H := H1
        clear H1
        replace H := Option.bind_eq_some_iff.mp H
        obtain ⟨t187, A240, H⟩ := H
        replace H : (atlasref07_Check.l0 kj4 a2 a3 a1_8 0 a0_0 a0_1 a0_2 a0_3 a0_4 a0_5 a0_6 a0_7 a1_0 a1_1 a1_2 a1_3 a1_4 a1_5 a1_6 a1_7 a1_8 a1_9 a1_10 a1_11 0 t187 a0_3) = some (r1, r2, r3) := H
        have A24 := Aside0.mk A240
        clear A240
        have H' := Aside0.mk H
        clear H
        try go_wp2
        have n0_ := Aside0.mk (blk_drew BK183.out)
        have n1_ := Aside0.mk (blk_drew BK184.out)
        have n2_ := Aside0.mk (blk_drew BK185.out)
        have n3_ := Aside0.mk (below_drew1 HB.out)
        clear BK183
        clear BK184
        clear BK185
        clear HB
        have BK183 := n0_
        have BK184 := n1_
        have BK185 := n2_
        have HB := n3_
        clear n0_ n1_ n2_ n3_
        refine start_ (n := 8) (S := fun w' => w'.cell? ⟨gb183, 0, none⟩ = some (.int .i64 a0_0) ∧ w'.cell? ⟨gb183, 1, none⟩ = some (.int .u32 a0_1) ∧ w'.cell? ⟨gb183, 2, none⟩ = some (.int .u64 a0_2) ∧ w'.cell? ⟨gb183, 3, none⟩ = some (.int .i64 a0_3) ∧ w'.cell? ⟨gb183, 4, none⟩ = some (.int .i64 a0_4) ∧ w'.cell? ⟨gb183, 5, none⟩ = some (.int .u32 a0_5) ∧ w'.cell? ⟨gb183, 6, none⟩ = some (.bool a0_6) ∧ w'.cell? ⟨gb183, 7, none⟩ = some (.bool a0_7)) (ds := []) #[false, false, false, false, false, false, false, false] (by kernel_rfl) rfl rfl ⟨(blk_cell BK183.out 0).trans rfl, (blk_cell BK183.out 1).trans rfl, (blk_cell BK183.out 2).trans rfl, (blk_cell BK183.out 3).trans rfl, (blk_cell BK183.out 4).trans rfl, (blk_cell BK183.out 5).trans rfl, (blk_cell BK183.out 6).trans rfl, (blk_cell BK183.out 7).trans rfl⟩ (fun hHeld => ?_); refine with_tabW atlasref07_Check.tab3 atlasref07_Check.bits3 (fun HT_ HW_ => ?_)
        generalize wc.drew = w25 at BK183 BK184 BK185 HB hHeld ⊢
        refine pure_ (i := 0) (N := some 21) (v := ?_) (a' := ?_) #[true, false, false, false, false, false, false, false] rfl rfl (any_of HT_.out (by kernel_rfl)) (fun _ _ _ h => h) (Or.inl ⟨by rfl, ?_⟩) ?_ ?_
        rotate_left
        · intro w'
          go_simp
          with_reducible rfl
        rotate_left
        · simp only [Act.put, List.setIfInBounds_toArray, List.set_cons_zero, List.set_cons_succ, i64_w, i32_w]
          rfl
        refine pure_ (i := 3) (N := some 24) (v := ?_) (a' := ?_) #[true, false, false, true, false, false, false, false] rfl rfl (any_of HT_.out (by kernel_rfl)) (fun _ _ _ h => h) (Or.inl ⟨by rfl, ?_⟩) ?_ ?_
        rotate_left
        · intro w'
          go_simp
          with_reducible rfl
        rotate_left
        · simp only [Act.put, List.setIfInBounds_toArray, List.set_cons_zero, List.set_cons_succ, i64_w, i32_w]
          rfl
        refine take_ (i := 1) (N := some 22) (v := ?_) (a' := ?_) #[true, true, false, true, false, false, false, false] rfl rfl (take_ofW HT_.out HW_.out (by kernel_rfl)) (fun _ _ _ h => h) (Or.inl ⟨by rfl, ?_⟩) hHeld ?_ ?_
        rotate_left
        · rintro w' ⟨s0, s1, s2, s3, s4, s5, s6, s7⟩
          go_simp
          with_reducible rfl
        rotate_left
        · simp only [Act.put, List.setIfInBounds_toArray, List.set_cons_zero, List.set_cons_succ, i64_w, i32_w]
          rfl
        refine take_ (i := 4) (N := some 25) (v := ?_) (a' := ?_) #[true, true, false, true, true, false, false, false] rfl rfl (take_ofW HT_.out HW_.out (by kernel_rfl)) (fun _ _ _ h => h) (Or.inl ⟨by rfl, ?_⟩) hHeld ?_ ?_
        rotate_left
        · rintro w' ⟨s0, s1, s2, s3, s4, s5, s6, s7⟩
          go_simp
          with_reducible rfl
        rotate_left
        · simp only [Act.put, List.setIfInBounds_toArray, List.set_cons_zero, List.set_cons_succ, i64_w, i32_w]
          rfl
        refine join_ (σ := Nat) 1 #[true, true, true, true, true, true, true, false] (fun s_ => [(23, .int .i64 t187), (9, .pointer (some ⟨s_, 0, none⟩)), (26, .agg #[.int .i64 0, .int .i64 t187, .int .i64 a0_3])]) (fun s_ w' => (w'.cell? ⟨gb183, 0, none⟩ = some (.int .i64 a0_0) ∧ w'.cell? ⟨gb183, 1, none⟩ = some (.int .u32 a0_1) ∧ w'.cell? ⟨gb183, 2, none⟩ = some (.int .u64 a0_2) ∧ w'.cell? ⟨gb183, 3, none⟩ = some (.int .i64 a0_3) ∧ w'.cell? ⟨gb183, 4, none⟩ = some (.int .i64 a0_4) ∧ w'.cell? ⟨gb183, 5, none⟩ = some (.int .u32 a0_5) ∧ w'.cell? ⟨gb183, 6, none⟩ = some (.bool a0_6) ∧ w'.cell? ⟨gb183, 7, none⟩ = some (.bool a0_7)) ∧ (w'.heap[gb183]? = some (.cells #[.int .i64 a0_0, .int .u32 a0_1, .int .u64 a0_2, .int .i64 a0_3, .int .i64 a0_4, .int .u32 a0_5, .bool a0_6, .bool a0_7] 36 (0, 0))) ∧ (w'.heap[gb184]? = some (.cells #[.bool a1_0, .bool a1_1, .bool a1_2, .int .i64 a1_3, .bool a1_4, .bool a1_5, .int .u64 a1_6, .int .u64 a1_7, .int .u32 a1_8, .int .u32 a1_9, .int .u32 a1_10, .int .i64 a1_11] 38 (0, 0))) ∧ (w'.heap[gb185]? = some (.cells #[.int .i64 0, .int .i64 0, .int .i64 0] 40 (0, 0))) ∧ (w'.heap[s_]? = some (.cells #[.int .i64 0, .int .i64 0, .int .i64 0] 40 (0, 0))) ∧ (w.heap.size ≤ s_) ∧ (w.heap.size ≤ s_) ∧ (gb183 ≠ s_) ∧ (s_ ≠ gb183) ∧ (gb184 ≠ s_) ∧ (s_ ≠ gb184) ∧ (gb185 ≠ s_) ∧ (s_ ≠ gb185) ∧ (Below w.heap.size w w')) ?_ ?_
        rotate_left
        · intro hCont
          refine two_ (i := 2) (j := 6) (Ni := some 23) (Nj := some 9) #[true, true, true, true, true, false, false, false] #[true, true, false, true, true, false, true, false] rfl rfl rfl rfl (two_of HT_.out (by kernel_rfl)) (by decide) (by decide) (fun K hK => ?_) (fun K hK => ?_)
          · skip
            refine goes_ Tryd.func28 (by kernel_rfl) rfl #[.int .i64 a0_0] (by rfl) rfl rfl (by (try simp only [List.map_toArray, List.map_cons, List.map_nil]); first | done | rfl | (simp only [List.length_drop, List.length_take]; rfl)) ?_
            with_reducible refine (atlasref07_Level.calls kj4 a0_0 t187 _ A24.out).mono ?_
            rintro e w' ⟨rfl, ⟨nd, rfl⟩⟩
            refine ⟨_, rfl, ?_⟩
            refine hK.out _ _ ⟨(blk_cell BK183.out 0).trans rfl, (blk_cell BK183.out 1).trans rfl, (blk_cell BK183.out 2).trans rfl, (blk_cell BK183.out 3).trans rfl, (blk_cell BK183.out 4).trans rfl, (blk_cell BK183.out 5).trans rfl, (blk_cell BK183.out 6).trans rfl, (blk_cell BK183.out 7).trans rfl⟩ (fun hHeld => ?_)
            clear hK K
            refine norm_ (a' := ?_) ?_ ?_
            rotate_left
            · show Act.put _ (some 23) _ = _
              simp only [Act.put, List.setIfInBounds_toArray, List.set_cons_zero, List.set_cons_succ, i64_w, i32_w]
              rfl
            refine pure_ (i := 5) (N := some 26) (v := ?_) (a' := ?_) #[true, true, true, true, true, true, false, false] rfl rfl (any_of HT_.out (by kernel_rfl)) (fun _ _ _ h => h) (Or.inl ⟨by rfl, ?_⟩) ?_ ?_
            rotate_left
            · intro w'
              go_simp
              with_reducible rfl
            rotate_left
            · simp only [Act.put, List.setIfInBounds_toArray, List.set_cons_zero, List.set_cons_succ, i64_w, i32_w]
              rfl
            refine one_ (i := 6) (N := some 9) #[true, true, true, true, true, true, true, false] rfl rfl (one_of HT_.out (by kernel_rfl)) (by decide) (fun K hK => ?_)
            refine box_step ?hg (N := 9) ?hd (cs := #[.int .i64 0, .int .i64 0, .int .i64 0]) (t := 40) ?hr ?_; (case hd => rfl); (case hg => rfl); (case hr => first | (go_simp; done) | (go_simp; rfl))
            intro gb188 hg w26 hbox hb
            have n0_ := Aside0.mk (blk_below (g := gb183) (o := .cells #[.int .i64 a0_0, .int .u32 a0_1, .int .u64 a0_2, .int .i64 a0_3, .int .i64 a0_4, .int .u32 a0_5, .bool a0_6, .bool a0_7] 36 (0, 0)) (by (with_reducible repeat (first | refine blk_drewN ?_ _ | refine blk_drew ?_ | refine blk_alloc ?_ _)); exact BK183.out) hb)
            have n1_ := Aside0.mk (blk_below (g := gb184) (o := .cells #[.bool a1_0, .bool a1_1, .bool a1_2, .int .i64 a1_3, .bool a1_4, .bool a1_5, .int .u64 a1_6, .int .u64 a1_7, .int .u32 a1_8, .int .u32 a1_9, .int .u32 a1_10, .int .i64 a1_11] 38 (0, 0)) (by (with_reducible repeat (first | refine blk_drewN ?_ _ | refine blk_drew ?_ | refine blk_alloc ?_ _)); exact BK184.out) hb)
            have n2_ := Aside0.mk (blk_below (g := gb185) (o := .cells #[.int .i64 0, .int .i64 0, .int .i64 0] 40 (0, 0)) (by (with_reducible repeat (first | refine blk_drewN ?_ _ | refine blk_drew ?_ | refine blk_alloc ?_ _)); exact BK185.out) hb)
            have n3_ := Aside0.mk (below_step (by repeat (first | (with_reducible first | exact HB.out | apply below_alloc | apply pw_below_drewN | apply below_drew1 | refine below_set ?_ GE183.out | refine below_set ?_ GE184.out | refine below_set ?_ GE185.out) | exact HB.out)) hb)
            have n4_ := Aside0.mk (hbox)
            have n5_ := Aside0.mk ((by rw [hg]; exact (below_size (by repeat (first | (with_reducible first | exact HB.out | apply below_alloc | apply pw_below_drewN | apply below_drew1 | refine below_set ?_ GE183.out | refine below_set ?_ GE184.out | refine below_set ?_ GE185.out) | exact HB.out))) : w.heap.size ≤ gb188))
            have n6_ := Aside0.mk ((by rw [hg]; exact (below_size (by repeat (first | (with_reducible first | exact HB.out | apply below_alloc | apply pw_below_drewN | apply below_drew1 | refine below_set ?_ GE183.out | refine below_set ?_ GE184.out | refine below_set ?_ GE185.out) | exact HB.out))) : w.heap.size ≤ gb188))
            have n7_ := Aside0.mk ((by rw [hg]; exact Nat.ne_of_lt (blk_lt (g := gb183) (o := .cells #[.int .i64 a0_0, .int .u32 a0_1, .int .u64 a0_2, .int .i64 a0_3, .int .i64 a0_4, .int .u32 a0_5, .bool a0_6, .bool a0_7] 36 (0, 0)) (by (with_reducible repeat (first | refine blk_drewN ?_ _ | refine blk_drew ?_ | refine blk_alloc ?_ _)); exact BK183.out)) : gb183 ≠ gb188))
            have n8_ := Aside0.mk ((by rw [hg]; exact Nat.ne_of_gt (blk_lt (g := gb183) (o := .cells #[.int .i64 a0_0, .int .u32 a0_1, .int .u64 a0_2, .int .i64 a0_3, .int .i64 a0_4, .int .u32 a0_5, .bool a0_6, .bool a0_7] 36 (0, 0)) (by (with_reducible repeat (first | refine blk_drewN ?_ _ | refine blk_drew ?_ | refine blk_alloc ?_ _)); exact BK183.out)) : gb188 ≠ gb183))
            have n9_ := Aside0.mk ((by rw [hg]; exact Nat.ne_of_lt (blk_lt (g := gb184) (o := .cells #[.bool a1_0, .bool a1_1, .bool a1_2, .int .i64 a1_3, .bool a1_4, .bool a1_5, .int .u64 a1_6, .int .u64 a1_7, .int .u32 a1_8, .int .u32 a1_9, .int .u32 a1_10, .int .i64 a1_11] 38 (0, 0)) (by (with_reducible repeat (first | refine blk_drewN ?_ _ | refine blk_drew ?_ | refine blk_alloc ?_ _)); exact BK184.out)) : gb184 ≠ gb188))
            have n10_ := Aside0.mk ((by rw [hg]; exact Nat.ne_of_gt (blk_lt (g := gb184) (o := .cells #[.bool a1_0, .bool a1_1, .bool a1_2, .int .i64 a1_3, .bool a1_4, .bool a1_5, .int .u64 a1_6, .int .u64 a1_7, .int .u32 a1_8, .int .u32 a1_9, .int .u32 a1_10, .int .i64 a1_11] 38 (0, 0)) (by (with_reducible repeat (first | refine blk_drewN ?_ _ | refine blk_drew ?_ | refine blk_alloc ?_ _)); exact BK184.out)) : gb188 ≠ gb184))
            have n11_ := Aside0.mk ((by rw [hg]; exact Nat.ne_of_lt (blk_lt (g := gb185) (o := .cells #[.int .i64 0, .int .i64 0, .int .i64 0] 40 (0, 0)) (by (with_reducible repeat (first | refine blk_drewN ?_ _ | refine blk_drew ?_ | refine blk_alloc ?_ _)); exact BK185.out)) : gb185 ≠ gb188))
            have n12_ := Aside0.mk ((by rw [hg]; exact Nat.ne_of_gt (blk_lt (g := gb185) (o := .cells #[.int .i64 0, .int .i64 0, .int .i64 0] 40 (0, 0)) (by (with_reducible repeat (first | refine blk_drewN ?_ _ | refine blk_drew ?_ | refine blk_alloc ?_ _)); exact BK185.out)) : gb188 ≠ gb185))
            clear BK183
            clear BK184
            clear BK185
            clear HB
            have BK183 := n0_
            have BK184 := n1_
            have BK185 := n2_
            have HB := n3_
            have BK188 := n4_
            have GW188 := n5_
            have GE188 := n6_
            have NB183_188 := n7_
            have NB188_183 := n8_
            have NB184_188 := n9_
            have NB188_184 := n10_
            have NB185_188 := n11_
            have NB188_185 := n12_
            clear n0_ n1_ n2_ n3_ n4_ n5_ n6_ n7_ n8_ n9_ n10_ n11_ n12_
            clear hb hbox hg
            refine hK.out _ _ ⟨(blk_cell BK183.out 0).trans rfl, (blk_cell BK183.out 1).trans rfl, (blk_cell BK183.out 2).trans rfl, (blk_cell BK183.out 3).trans rfl, (blk_cell BK183.out 4).trans rfl, (blk_cell BK183.out 5).trans rfl, (blk_cell BK183.out 6).trans rfl, (blk_cell BK183.out 7).trans rfl⟩ (fun hHeld => ?_)
            clear hK K
            refine norm_ (a' := ?_) ?_ ?_
            rotate_left
            · show Act.put _ (some 9) _ = _
              simp only [Act.put, List.setIfInBounds_toArray, List.set_cons_zero, List.set_cons_succ, i64_w, i32_w]
              rfl
            exact norm_ (by simp only [putAll, Act.put, List.setIfInBounds_toArray, List.set_cons_zero, List.set_cons_succ]) (hCont (gb188) _ ⟨hHeld, (by (with_reducible repeat (first | refine blk_drewN ?_ _ | refine blk_drew ?_ | refine blk_alloc ?_ _)); exact BK183.out), (by (with_reducible repeat (first | refine blk_drewN ?_ _ | refine blk_drew ?_ | refine blk_alloc ?_ _)); exact BK184.out), (by (with_reducible repeat (first | refine blk_drewN ?_ _ | refine blk_drew ?_ | refine blk_alloc ?_ _)); exact BK185.out), (by (with_reducible repeat (first | refine blk_drewN ?_ _ | refine blk_drew ?_ | refine blk_alloc ?_ _)); exact BK188.out), GW188.out, GE188.out, NB183_188.out, NB188_183.out, NB184_188.out, NB188_184.out, NB185_188.out, NB188_185.out, (by repeat (first | (with_reducible first | exact HB.out | apply below_alloc | apply pw_below_drewN | apply below_drew1 | refine below_set ?_ GE183.out | refine below_set ?_ GE184.out | refine below_set ?_ GE185.out | refine below_set ?_ GE188.out) | exact HB.out))⟩)
          · skip
            refine box_step ?hg (N := 9) ?hd (cs := #[.int .i64 0, .int .i64 0, .int .i64 0]) (t := 40) ?hr ?_; (case hd => rfl); (case hg => rfl); (case hr => first | (go_simp; done) | (go_simp; rfl))
            intro gb188 hg w26 hbox hb
            have n0_ := Aside0.mk (blk_below (g := gb183) (o := .cells #[.int .i64 a0_0, .int .u32 a0_1, .int .u64 a0_2, .int .i64 a0_3, .int .i64 a0_4, .int .u32 a0_5, .bool a0_6, .bool a0_7] 36 (0, 0)) (by (with_reducible repeat (first | refine blk_drewN ?_ _ | refine blk_drew ?_ | refine blk_alloc ?_ _)); exact BK183.out) hb)
            have n1_ := Aside0.mk (blk_below (g := gb184) (o := .cells #[.bool a1_0, .bool a1_1, .bool a1_2, .int .i64 a1_3, .bool a1_4, .bool a1_5, .int .u64 a1_6, .int .u64 a1_7, .int .u32 a1_8, .int .u32 a1_9, .int .u32 a1_10, .int .i64 a1_11] 38 (0, 0)) (by (with_reducible repeat (first | refine blk_drewN ?_ _ | refine blk_drew ?_ | refine blk_alloc ?_ _)); exact BK184.out) hb)
            have n2_ := Aside0.mk (blk_below (g := gb185) (o := .cells #[.int .i64 0, .int .i64 0, .int .i64 0] 40 (0, 0)) (by (with_reducible repeat (first | refine blk_drewN ?_ _ | refine blk_drew ?_ | refine blk_alloc ?_ _)); exact BK185.out) hb)
            have n3_ := Aside0.mk (below_step (by repeat (first | (with_reducible first | exact HB.out | apply below_alloc | apply pw_below_drewN | apply below_drew1 | refine below_set ?_ GE183.out | refine below_set ?_ GE184.out | refine below_set ?_ GE185.out) | exact HB.out)) hb)
            have n4_ := Aside0.mk (hbox)
            have n5_ := Aside0.mk ((by rw [hg]; exact (below_size (by repeat (first | (with_reducible first | exact HB.out | apply below_alloc | apply pw_below_drewN | apply below_drew1 | refine below_set ?_ GE183.out | refine below_set ?_ GE184.out | refine below_set ?_ GE185.out) | exact HB.out))) : w.heap.size ≤ gb188))
            have n6_ := Aside0.mk ((by rw [hg]; exact (below_size (by repeat (first | (with_reducible first | exact HB.out | apply below_alloc | apply pw_below_drewN | apply below_drew1 | refine below_set ?_ GE183.out | refine below_set ?_ GE184.out | refine below_set ?_ GE185.out) | exact HB.out))) : w.heap.size ≤ gb188))
            have n7_ := Aside0.mk ((by rw [hg]; exact Nat.ne_of_lt (blk_lt (g := gb183) (o := .cells #[.int .i64 a0_0, .int .u32 a0_1, .int .u64 a0_2, .int .i64 a0_3, .int .i64 a0_4, .int .u32 a0_5, .bool a0_6, .bool a0_7] 36 (0, 0)) (by (with_reducible repeat (first | refine blk_drewN ?_ _ | refine blk_drew ?_ | refine blk_alloc ?_ _)); exact BK183.out)) : gb183 ≠ gb188))
            have n8_ := Aside0.mk ((by rw [hg]; exact Nat.ne_of_gt (blk_lt (g := gb183) (o := .cells #[.int .i64 a0_0, .int .u32 a0_1, .int .u64 a0_2, .int .i64 a0_3, .int .i64 a0_4, .int .u32 a0_5, .bool a0_6, .bool a0_7] 36 (0, 0)) (by (with_reducible repeat (first | refine blk_drewN ?_ _ | refine blk_drew ?_ | refine blk_alloc ?_ _)); exact BK183.out)) : gb188 ≠ gb183))
            have n9_ := Aside0.mk ((by rw [hg]; exact Nat.ne_of_lt (blk_lt (g := gb184) (o := .cells #[.bool a1_0, .bool a1_1, .bool a1_2, .int .i64 a1_3, .bool a1_4, .bool a1_5, .int .u64 a1_6, .int .u64 a1_7, .int .u32 a1_8, .int .u32 a1_9, .int .u32 a1_10, .int .i64 a1_11] 38 (0, 0)) (by (with_reducible repeat (first | refine blk_drewN ?_ _ | refine blk_drew ?_ | refine blk_alloc ?_ _)); exact BK184.out)) : gb184 ≠ gb188))
            have n10_ := Aside0.mk ((by rw [hg]; exact Nat.ne_of_gt (blk_lt (g := gb184) (o := .cells #[.bool a1_0, .bool a1_1, .bool a1_2, .int .i64 a1_3, .bool a1_4, .bool a1_5, .int .u64 a1_6, .int .u64 a1_7, .int .u32 a1_8, .int .u32 a1_9, .int .u32 a1_10, .int .i64 a1_11] 38 (0, 0)) (by (with_reducible repeat (first | refine blk_drewN ?_ _ | refine blk_drew ?_ | refine blk_alloc ?_ _)); exact BK184.out)) : gb188 ≠ gb184))
            have n11_ := Aside0.mk ((by rw [hg]; exact Nat.ne_of_lt (blk_lt (g := gb185) (o := .cells #[.int .i64 0, .int .i64 0, .int .i64 0] 40 (0, 0)) (by (with_reducible repeat (first | refine blk_drewN ?_ _ | refine blk_drew ?_ | refine blk_alloc ?_ _)); exact BK185.out)) : gb185 ≠ gb188))
            have n12_ := Aside0.mk ((by rw [hg]; exact Nat.ne_of_gt (blk_lt (g := gb185) (o := .cells #[.int .i64 0, .int .i64 0, .int .i64 0] 40 (0, 0)) (by (with_reducible repeat (first | refine blk_drewN ?_ _ | refine blk_drew ?_ | refine blk_alloc ?_ _)); exact BK185.out)) : gb188 ≠ gb185))
            clear BK183
            clear BK184
            clear BK185
            clear HB
            have BK183 := n0_
            have BK184 := n1_
            have BK185 := n2_
            have HB := n3_
            have BK188 := n4_
            have GW188 := n5_
            have GE188 := n6_
            have NB183_188 := n7_
            have NB188_183 := n8_
            have NB184_188 := n9_
            have NB188_184 := n10_
            have NB185_188 := n11_
            have NB188_185 := n12_
            clear n0_ n1_ n2_ n3_ n4_ n5_ n6_ n7_ n8_ n9_ n10_ n11_ n12_
            clear hb hbox hg
            refine hK.out _ _ ⟨(blk_cell BK183.out 0).trans rfl, (blk_cell BK183.out 1).trans rfl, (blk_cell BK183.out 2).trans rfl, (blk_cell BK183.out 3).trans rfl, (blk_cell BK183.out 4).trans rfl, (blk_cell BK183.out 5).trans rfl, (blk_cell BK183.out 6).trans rfl, (blk_cell BK183.out 7).trans rfl⟩ (fun hHeld => ?_)
            clear hK K
            refine norm_ (a' := ?_) ?_ ?_
            rotate_left
            · show Act.put _ (some 9) _ = _
              simp only [Act.put, List.setIfInBounds_toArray, List.set_cons_zero, List.set_cons_succ, i64_w, i32_w]
              rfl
            refine one_ (i := 2) (N := some 23) #[true, true, true, true, true, false, true, false] rfl rfl (one_of HT_.out (by kernel_rfl)) (by decide) (fun K hK => ?_)
            refine goes_ Tryd.func28 (by kernel_rfl) rfl #[.int .i64 a0_0] (by rfl) rfl rfl (by (try simp only [List.map_toArray, List.map_cons, List.map_nil]); first | done | rfl | (simp only [List.length_drop, List.length_take]; rfl)) ?_
            with_reducible refine (atlasref07_Level.calls kj4 a0_0 t187 _ A24.out).mono ?_
            rintro e w' ⟨rfl, ⟨nd, rfl⟩⟩
            refine ⟨_, rfl, ?_⟩
            refine hK.out _ _ ⟨(blk_cell BK183.out 0).trans rfl, (blk_cell BK183.out 1).trans rfl, (blk_cell BK183.out 2).trans rfl, (blk_cell BK183.out 3).trans rfl, (blk_cell BK183.out 4).trans rfl, (blk_cell BK183.out 5).trans rfl, (blk_cell BK183.out 6).trans rfl, (blk_cell BK183.out 7).trans rfl⟩ (fun hHeld => ?_)
            clear hK K
            refine norm_ (a' := ?_) ?_ ?_
            rotate_left
            · show Act.put _ (some 23) _ = _
              simp only [Act.put, List.setIfInBounds_toArray, List.set_cons_zero, List.set_cons_succ, i64_w, i32_w]
              rfl
            refine pure_ (i := 5) (N := some 26) (v := ?_) (a' := ?_) #[true, true, true, true, true, true, true, false] rfl rfl (any_of HT_.out (by kernel_rfl)) (fun _ _ _ h => h) (Or.inl ⟨by rfl, ?_⟩) ?_ ?_
            rotate_left
            · intro w'
              go_simp
              with_reducible rfl
            rotate_left
            · simp only [Act.put, List.setIfInBounds_toArray, List.set_cons_zero, List.set_cons_succ, i64_w, i32_w]
              rfl
            exact norm_ (by simp only [putAll, Act.put, List.setIfInBounds_toArray, List.set_cons_zero, List.set_cons_succ]) (hCont (gb188) _ ⟨hHeld, (by (with_reducible repeat (first | refine blk_drewN ?_ _ | refine blk_drew ?_ | refine blk_alloc ?_ _)); exact BK183.out), (by (with_reducible repeat (first | refine blk_drewN ?_ _ | refine blk_drew ?_ | refine blk_alloc ?_ _)); exact BK184.out), (by (with_reducible repeat (first | refine blk_drewN ?_ _ | refine blk_drew ?_ | refine blk_alloc ?_ _)); exact BK185.out), (by (with_reducible repeat (first | refine blk_drewN ?_ _ | refine blk_drew ?_ | refine blk_alloc ?_ _)); exact BK188.out), GW188.out, GE188.out, NB183_188.out, NB188_183.out, NB184_188.out, NB188_184.out, NB185_188.out, NB188_185.out, (by repeat (first | (with_reducible first | exact HB.out | apply below_alloc | apply pw_below_drewN | apply below_drew1 | refine below_set ?_ GE183.out | refine below_set ?_ GE184.out | refine below_set ?_ GE185.out | refine below_set ?_ GE188.out) | exact HB.out))⟩)
        rintro gb188 w27 ⟨hS_, h0_, h1_, h2_, h3_, h4_, h5_, h6_, h7_, h8_, h9_, h10_, h11_, h12_⟩
        have n0_ : Aside0 (w27.heap[gb183]? = some (.cells #[.int .i64 a0_0, .int .u32 a0_1, .int .u64 a0_2, .int .i64 a0_3, .int .i64 a0_4, .int .u32 a0_5, .bool a0_6, .bool a0_7] 36 (0, 0))) := ⟨h0_⟩
        have n1_ : Aside0 (w27.heap[gb184]? = some (.cells #[.bool a1_0, .bool a1_1, .bool a1_2, .int .i64 a1_3, .bool a1_4, .bool a1_5, .int .u64 a1_6, .int .u64 a1_7, .int .u32 a1_8, .int .u32 a1_9, .int .u32 a1_10, .int .i64 a1_11] 38 (0, 0))) := ⟨h1_⟩
        have n2_ : Aside0 (w27.heap[gb185]? = some (.cells #[.int .i64 0, .int .i64 0, .int .i64 0] 40 (0, 0))) := ⟨h2_⟩
        have n3_ : Aside0 (w27.heap[gb188]? = some (.cells #[.int .i64 0, .int .i64 0, .int .i64 0] 40 (0, 0))) := ⟨h3_⟩
        have n4_ : Aside0 (w.heap.size ≤ gb188) := ⟨h4_⟩
        have n5_ : Aside0 (w.heap.size ≤ gb188) := ⟨h5_⟩
        have n6_ : Aside0 (gb183 ≠ gb188) := ⟨h6_⟩
        have n7_ : Aside0 (gb188 ≠ gb183) := ⟨h7_⟩
        have n8_ : Aside0 (gb184 ≠ gb188) := ⟨h8_⟩
        have n9_ : Aside0 (gb188 ≠ gb184) := ⟨h9_⟩
        have n10_ : Aside0 (gb185 ≠ gb188) := ⟨h10_⟩
        have n11_ : Aside0 (gb188 ≠ gb185) := ⟨h11_⟩
        have n12_ : Aside0 (Below w.heap.size w w27) := ⟨h12_⟩
        clear BK183
        clear BK184
        clear BK185
        clear HB
        clear h0_ h1_ h2_ h3_ h4_ h5_ h6_ h7_ h8_ h9_ h10_ h11_ h12_
        have BK183 := n0_
        have BK184 := n1_
        have BK185 := n2_
        have BK188 := n3_
        have GW188 := n4_
        have GE188 := n5_
        have NB183_188 := n6_
        have NB188_183 := n7_
        have NB184_188 := n8_
        have NB188_184 := n9_
        have NB185_188 := n10_
        have NB188_185 := n11_
        have HB := n12_
        clear n0_ n1_ n2_ n3_ n4_ n5_ n6_ n7_ n8_ n9_ n10_ n11_ n12_
        have hHeld : w27.cell? ⟨gb183, 0, none⟩ = some (.int .i64 a0_0) ∧ w27.cell? ⟨gb183, 1, none⟩ = some (.int .u32 a0_1) ∧ w27.cell? ⟨gb183, 2, none⟩ = some (.int .u64 a0_2) ∧ w27.cell? ⟨gb183, 3, none⟩ = some (.int .i64 a0_3) ∧ w27.cell? ⟨gb183, 4, none⟩ = some (.int .i64 a0_4) ∧ w27.cell? ⟨gb183, 5, none⟩ = some (.int .u32 a0_5) ∧ w27.cell? ⟨gb183, 6, none⟩ = some (.bool a0_6) ∧ w27.cell? ⟨gb183, 7, none⟩ = some (.bool a0_7) := hS_
        refine norm_ (a' := ?_) ?_ ?_
        rotate_left
        · simp only [putAll, Act.put, List.setIfInBounds_toArray, List.set_cons_zero, List.set_cons_succ]
          rfl
        refine one_ (i := 7) (N := none) #[true, true, true, true, true, true, true, true] rfl rfl (one_of HT_.out (by kernel_rfl)) (by decide) (fun K hK => ?_)
        have hs28 : w27.cell? ⟨gb188, 0, none⟩ = some (.int .i64 0) := (blk_cell BK188.out 0).trans rfl
        have hfs28 := blk_frozen BK188.out 0
        have hns28_0 := NB183_188.out
        have hns28_1 := NB184_188.out
        have hns28_2 := NB185_188.out
        have hms28_0 := NB188_183.out
        have hms28_1 := NB188_184.out
        have hms28_2 := NB188_185.out
        have hs29 : w27.cell? ⟨gb188, 1, none⟩ = some (.int .i64 0) := (blk_cell BK188.out 1).trans rfl
        have hfs29 := blk_frozen BK188.out 1
        have hns29_0 := NB183_188.out
        have hns29_1 := NB184_188.out
        have hns29_2 := NB185_188.out
        have hms29_0 := NB188_183.out
        have hms29_1 := NB188_184.out
        have hms29_2 := NB188_185.out
        have hs30 : w27.cell? ⟨gb188, 2, none⟩ = some (.int .i64 0) := (blk_cell BK188.out 2).trans rfl
        have hfs30 := blk_frozen BK188.out 2
        have hns30_0 := NB183_188.out
        have hns30_1 := NB184_188.out
        have hns30_2 := NB185_188.out
        have hms30_0 := NB188_183.out
        have hms30_1 := NB188_184.out
        have hms30_2 := NB188_185.out
        refine skip_ (w1 := ?_) (by rfl) rfl ?_ ?_
        rotate_left
        · go_simp
          rfl
        refine hK.out _ _ ⟨((cell_far (p := ⟨gb188, _, none⟩) NB183_188.out _).trans (((cell_far (p := ⟨gb188, _, none⟩) NB183_188.out _).trans (((cell_far (p := ⟨gb188, _, none⟩) NB183_188.out _).trans (hHeld.1)))))), ((cell_far (p := ⟨gb188, _, none⟩) NB183_188.out _).trans (((cell_far (p := ⟨gb188, _, none⟩) NB183_188.out _).trans (((cell_far (p := ⟨gb188, _, none⟩) NB183_188.out _).trans (hHeld.2.1)))))), ((cell_far (p := ⟨gb188, _, none⟩) NB183_188.out _).trans (((cell_far (p := ⟨gb188, _, none⟩) NB183_188.out _).trans (((cell_far (p := ⟨gb188, _, none⟩) NB183_188.out _).trans (hHeld.2.2.1)))))), ((cell_far (p := ⟨gb188, _, none⟩) NB183_188.out _).trans (((cell_far (p := ⟨gb188, _, none⟩) NB183_188.out _).trans (((cell_far (p := ⟨gb188, _, none⟩) NB183_188.out _).trans (hHeld.2.2.2.1)))))), ((cell_far (p := ⟨gb188, _, none⟩) NB183_188.out _).trans (((cell_far (p := ⟨gb188, _, none⟩) NB183_188.out _).trans (((cell_far (p := ⟨gb188, _, none⟩) NB183_188.out _).trans (hHeld.2.2.2.2.1)))))), ((cell_far (p := ⟨gb188, _, none⟩) NB183_188.out _).trans (((cell_far (p := ⟨gb188, _, none⟩) NB183_188.out _).trans (((cell_far (p := ⟨gb188, _, none⟩) NB183_188.out _).trans (hHeld.2.2.2.2.2.1)))))), ((cell_far (p := ⟨gb188, _, none⟩) NB183_188.out _).trans (((cell_far (p := ⟨gb188, _, none⟩) NB183_188.out _).trans (((cell_far (p := ⟨gb188, _, none⟩) NB183_188.out _).trans (hHeld.2.2.2.2.2.2.1)))))), ((cell_far (p := ⟨gb188, _, none⟩) NB183_188.out _).trans (((cell_far (p := ⟨gb188, _, none⟩) NB183_188.out _).trans (((cell_far (p := ⟨gb188, _, none⟩) NB183_188.out _).trans (hHeld.2.2.2.2.2.2.2))))))⟩ (fun hHeld => ?_)
        clear hK K
        refine done_ (done_of HT_.out (by kernel_rfl)) ?_
        have hnb31 := NB184_183.out
        have hnc31 := NB183_184.out
        have hnb32 := NB184_185.out
        have hnc32 := NB185_184.out
        have hnb33 := NB184_188.out
        have hnc33 := NB188_184.out
        have hcz34_0 : w27.cell? ⟨gb184, 0, none⟩ = some (.bool a1_0) := (blk_cell BK184.out 0).trans rfl
        have hcz34_1 : w27.cell? ⟨gb184, 1, none⟩ = some (.bool a1_1) := (blk_cell BK184.out 1).trans rfl
        have hcz34_2 : w27.cell? ⟨gb184, 2, none⟩ = some (.bool a1_2) := (blk_cell BK184.out 2).trans rfl
        have hcz34_3 : w27.cell? ⟨gb184, 3, none⟩ = some (.int .i64 a1_3) := (blk_cell BK184.out 3).trans rfl
        have hcz34_4 : w27.cell? ⟨gb184, 4, none⟩ = some (.bool a1_4) := (blk_cell BK184.out 4).trans rfl
        have hcz34_5 : w27.cell? ⟨gb184, 5, none⟩ = some (.bool a1_5) := (blk_cell BK184.out 5).trans rfl
        have hcz34_6 : w27.cell? ⟨gb184, 6, none⟩ = some (.int .u64 a1_6) := (blk_cell BK184.out 6).trans rfl
        have hcz34_7 : w27.cell? ⟨gb184, 7, none⟩ = some (.int .u64 a1_7) := (blk_cell BK184.out 7).trans rfl
        have hcz34_8 : w27.cell? ⟨gb184, 8, none⟩ = some (.int .u32 a1_8) := (blk_cell BK184.out 8).trans rfl
        have hcz34_9 : w27.cell? ⟨gb184, 9, none⟩ = some (.int .u32 a1_9) := (blk_cell BK184.out 9).trans rfl
        have hcz34_10 : w27.cell? ⟨gb184, 10, none⟩ = some (.int .u32 a1_10) := (blk_cell BK184.out 10).trans rfl
        have hcz34_11 : w27.cell? ⟨gb184, 11, none⟩ = some (.int .i64 a1_11) := (blk_cell BK184.out 11).trans rfl
        have hfz34_0 := blk_frozen BK184.out 0
        have hfz34_1 := blk_frozen BK184.out 1
        have hfz34_2 := blk_frozen BK184.out 2
        have hfz34_3 := blk_frozen BK184.out 3
        have hfz34_4 := blk_frozen BK184.out 4
        have hfz34_5 := blk_frozen BK184.out 5
        have hfz34_6 := blk_frozen BK184.out 6
        have hfz34_7 := blk_frozen BK184.out 7
        have hfz34_8 := blk_frozen BK184.out 8
        have hfz34_9 := blk_frozen BK184.out 9
        have hfz34_10 := blk_frozen BK184.out 10
        have hfz34_11 := blk_frozen BK184.out 11
        try go_wp2
        go_loopg [10, 11] kj4 (fun kq v10 v11 w' => ∃ (x10_2 : Int) (x11_2 : Int), v10 = .int .u32 x10_2 ∧ v11 = .int .i64 x11_2 ∧ Aside0 (atlasref07_Check.l0 kq a2 a3 x10_2 x11_2 a0_0 a0_1 a0_2 a0_3 a0_4 a0_5 a0_6 a0_7 a1_0 a1_1 a1_2 a1_3 a1_4 a1_5 a1_6 a1_7 a1_8 a1_9 a1_10 a1_11 0 t187 a0_3 = some (r1, r2, r3)) ∧ Aside0 (kq ≤ kj4) ∧ Aside0 (w'.heap[gb183]? = some (.cells #[.int .i64 a0_0, .int .u32 a0_1, .int .u64 a0_2, .int .i64 a0_3, .int .i64 a0_4, .int .u32 a0_5, .bool a0_6, .bool a0_7] 36 (0, 0))) ∧ Aside0 (w'.heap[gb184]? = some (.cells #[.bool a1_0, .bool a1_1, .bool a1_2, .int .i64 a1_3, .bool a1_4, .bool a1_5, .int .u64 a1_6, .int .u64 a1_7, .int .u32 a1_8, .int .u32 a1_9, .int .u32 a1_10, .int .i64 a1_11] 38 (0, 0))) ∧ Aside0 (w'.heap[gb185]? = some (.cells #[.int .i64 0, .int .i64 0, .int .i64 0] 40 (0, 0))) ∧ Aside0 (w'.heap[gb188]? = some (.cells #[.int .i64 0, .int .i64 t187, .int .i64 a0_3] 40 (0, 0))) ∧ Aside0 (Below w.heap.size w w'))
        case atStart => exact ⟨(a1_8), (0), (by first | rfl | (simp; done) | (simp [*]; done)), (by first | rfl | (simp; done) | (simp [*]; done)), H', ⟨Nat.le_refl _⟩, ⟨by (with_reducible repeat (first | refine blk_drewN ?_ _ | refine blk_drew ?_ | refine blk_alloc ?_ _)); refine blk_far ?_ NB183_188.out _; (with_reducible repeat (first | refine blk_drewN ?_ _ | refine blk_drew ?_ | refine blk_alloc ?_ _)); refine blk_far ?_ NB183_188.out _; (with_reducible repeat (first | refine blk_drewN ?_ _ | refine blk_drew ?_ | refine blk_alloc ?_ _)); refine blk_far ?_ NB183_188.out _; (with_reducible repeat (first | refine blk_drewN ?_ _ | refine blk_drew ?_ | refine blk_alloc ?_ _)); exact BK183.out⟩, ⟨by (with_reducible repeat (first | refine blk_drewN ?_ _ | refine blk_drew ?_ | refine blk_alloc ?_ _)); refine blk_far ?_ NB184_188.out _; (with_reducible repeat (first | refine blk_drewN ?_ _ | refine blk_drew ?_ | refine blk_alloc ?_ _)); refine blk_far ?_ NB184_188.out _; (with_reducible repeat (first | refine blk_drewN ?_ _ | refine blk_drew ?_ | refine blk_alloc ?_ _)); refine blk_far ?_ NB184_188.out _; (with_reducible repeat (first | refine blk_drewN ?_ _ | refine blk_drew ?_ | refine blk_alloc ?_ _)); exact BK184.out⟩, ⟨by (with_reducible repeat (first | refine blk_drewN ?_ _ | refine blk_drew ?_ | refine blk_alloc ?_ _)); refine blk_far ?_ NB185_188.out _; (with_reducible repeat (first | refine blk_drewN ?_ _ | refine blk_drew ?_ | refine blk_alloc ?_ _)); refine blk_far ?_ NB185_188.out _; (with_reducible repeat (first | refine blk_drewN ?_ _ | refine blk_drew ?_ | refine blk_alloc ?_ _)); refine blk_far ?_ NB185_188.out _; (with_reducible repeat (first | refine blk_drewN ?_ _ | refine blk_drew ?_ | refine blk_alloc ?_ _)); exact BK185.out⟩, ⟨by (with_reducible repeat (first | refine blk_drewN ?_ _ | refine blk_drew ?_ | refine blk_alloc ?_ _)); refine blk_put (cs := #[.int .i64 0, .int .i64 t187, .int .i64 0]) ?_ 2 _ rfl; (with_reducible repeat (first | refine blk_drewN ?_ _ | refine blk_drew ?_ | refine blk_alloc ?_ _)); refine blk_put (cs := #[.int .i64 0, .int .i64 0, .int .i64 0]) ?_ 1 _ rfl; (with_reducible repeat (first | refine blk_drewN ?_ _ | refine blk_drew ?_ | refine blk_alloc ?_ _)); refine blk_put (cs := #[.int .i64 0, .int .i64 0, .int .i64 0]) ?_ 0 _ rfl; (with_reducible repeat (first | refine blk_drewN ?_ _ | refine blk_drew ?_ | refine blk_alloc ?_ _)); exact BK188.out⟩, ⟨by repeat (first | (with_reducible first | exact HB.out | apply below_alloc | apply pw_below_drewN | apply below_drew1 | refine below_set ?_ GE183.out | refine below_set ?_ GE184.out | refine below_set ?_ GE185.out | refine below_set ?_ GE188.out) | exact HB.out)⟩⟩
        case round =>
          clear H'
          try clear c1
          try clear c2
          try clear p2
          try clear c3
          try clear c9
          try clear c11
          try clear c12
          try clear c14
          try clear c17
          try clear c18
          try clear c20
          try clear c21
          try clear c22
          try clear c28
          try clear c31
          try clear c32
          try clear c33
          try clear hcz13_0
          try clear hcz13_1
          try clear hcz13_10
          try clear hcz13_11
          try clear hcz13_2
          try clear hcz13_3
          try clear hcz13_4
          try clear hcz13_5
          try clear hcz13_6
          try clear hcz13_7
          try clear hcz13_8
          try clear hcz13_9
          try clear hcz15_0
          try clear hcz15_1
          try clear hcz15_2
          try clear hcz15_3
          try clear hcz15_4
          try clear hcz15_5
          try clear hcz15_6
          try clear hcz15_7
          try clear hcz19_0
          try clear hcz19_1
          try clear hcz19_10
          try clear hcz19_11
          try clear hcz19_2
          try clear hcz19_3
          try clear hcz19_4
          try clear hcz19_5
          try clear hcz19_6
          try clear hcz19_7
          try clear hcz19_8
          try clear hcz19_9
          try clear hcz23_0
          try clear hcz23_1
          try clear hcz23_2
          try clear hcz34_0
          try clear hcz34_1
          try clear hcz34_10
          try clear hcz34_11
          try clear hcz34_2
          try clear hcz34_3
          try clear hcz34_4
          try clear hcz34_5
          try clear hcz34_6
          try clear hcz34_7
          try clear hcz34_8
          try clear hcz34_9
          try clear hfz13_0
          try clear hfz13_1
          try clear hfz13_10
          try clear hfz13_11
          try clear hfz13_2
          try clear hfz13_3
          try clear hfz13_4
          try clear hfz13_5
          try clear hfz13_6
          try clear hfz13_7
          try clear hfz13_8
          try clear hfz13_9
          try clear hfz15_0
          try clear hfz15_1
          try clear hfz15_2
          try clear hfz15_3
          try clear hfz15_4
          try clear hfz15_5
          try clear hfz15_6
          try clear hfz15_7
          try clear hfz19_0
          try clear hfz19_1
          try clear hfz19_10
          try clear hfz19_11
          try clear hfz19_2
          try clear hfz19_3
          try clear hfz19_4
          try clear hfz19_5
          try clear hfz19_6
          try clear hfz19_7
          try clear hfz19_8
          try clear hfz19_9
          try clear hfz23_0
          try clear hfz23_1
          try clear hfz23_2
          try clear hfz34_0
          try clear hfz34_1
          try clear hfz34_10
          try clear hfz34_11
          try clear hfz34_2
          try clear hfz34_3
          try clear hfz34_4
          try clear hfz34_5
          try clear hfz34_6
          try clear hfz34_7
          try clear hfz34_8
          try clear hfz34_9
          try clear p2
          obtain ⟨x10_2, x11_2, rfl, rfl, HA, HK2, BK183, BK184, BK185, BK188, HB⟩ := hrel
          cases gk with
          | zero => exact absurd HA.out (by simp [atlasref07_Check.l0])
          | succ k2 =>
            have H := HA.out
            clear HA
            simp only [atlasref07_Check.l0] at H
            by_cases c35 : x11_2 < a0_3
            · rw [if_pos c35] at H
              have c35b0 : decide (x11_2 < a0_3) = true := decide_eq_true c35
              clear c35
              have H' := Aside0.mk H
              clear H
              have hnb36 := NB183_184.out
              have hnc36 := NB184_183.out
              have hnb37 := NB183_185.out
              have hnc37 := NB185_183.out
              have hnb38 := NB183_188.out
              have hnc38 := NB188_183.out
              have hcz39_0 : wr.cell? ⟨gb183, 0, none⟩ = some (.int .i64 a0_0) := (blk_cell BK183.out 0).trans rfl
              have hcz39_1 : wr.cell? ⟨gb183, 1, none⟩ = some (.int .u32 a0_1) := (blk_cell BK183.out 1).trans rfl
              have hcz39_2 : wr.cell? ⟨gb183, 2, none⟩ = some (.int .u64 a0_2) := (blk_cell BK183.out 2).trans rfl
              have hcz39_3 : wr.cell? ⟨gb183, 3, none⟩ = some (.int .i64 a0_3) := (blk_cell BK183.out 3).trans rfl
              have hcz39_4 : wr.cell? ⟨gb183, 4, none⟩ = some (.int .i64 a0_4) := (blk_cell BK183.out 4).trans rfl
              have hcz39_5 : wr.cell? ⟨gb183, 5, none⟩ = some (.int .u32 a0_5) := (blk_cell BK183.out 5).trans rfl
              have hcz39_6 : wr.cell? ⟨gb183, 6, none⟩ = some (.bool a0_6) := (blk_cell BK183.out 6).trans rfl
              have hcz39_7 : wr.cell? ⟨gb183, 7, none⟩ = some (.bool a0_7) := (blk_cell BK183.out 7).trans rfl
              have hfz39_0 := blk_frozen BK183.out 0
              have hfz39_1 := blk_frozen BK183.out 1
              have hfz39_2 := blk_frozen BK183.out 2
              have hfz39_3 := blk_frozen BK183.out 3
              have hfz39_4 := blk_frozen BK183.out 4
              have hfz39_5 := blk_frozen BK183.out 5
              have hfz39_6 := blk_frozen BK183.out 6
              have hfz39_7 := blk_frozen BK183.out 7
              go_wp2
              go_roundg k2
              case measure => have := HJ4.out; have := HK2.out; omega
              case rel => exact ⟨((Int.tdiv x10_2 4) % 4294967296), (wrap64 (x11_2 + 1)), (by first | rfl | (simp; done) | (simp [*]; done)), (by first | rfl | (simp; done) | (simp [*]; done)), H', ⟨by have := HJ4.out; have := HK2.out; omega⟩, ⟨by (with_reducible repeat (first | refine blk_drewN ?_ _ | refine blk_drew ?_ | refine blk_alloc ?_ _)); exact BK183.out⟩, ⟨by (with_reducible repeat (first | refine blk_drewN ?_ _ | refine blk_drew ?_ | refine blk_alloc ?_ _)); exact BK184.out⟩, ⟨by (with_reducible repeat (first | refine blk_drewN ?_ _ | refine blk_drew ?_ | refine blk_alloc ?_ _)); exact BK185.out⟩, ⟨by (with_reducible repeat (first | refine blk_drewN ?_ _ | refine blk_drew ?_ | refine blk_alloc ?_ _)); exact BK188.out⟩, ⟨by repeat (first | (with_reducible first | exact HB.out | apply below_alloc | apply pw_below_drewN | apply below_drew1 | refine below_set ?_ GE183.out | refine below_set ?_ GE184.out | refine below_set ?_ GE185.out | refine below_set ?_ GE188.out) | exact HB.out)⟩⟩
            · rw [if_neg c35] at H
              have c35b0 : decide (x11_2 < a0_3) = false := decide_eq_false c35
              clear c35
              have HC40 := Aside0.mk H
              clear H
              have hnb41 := NB183_184.out
              have hnc41 := NB184_183.out
              have hnb42 := NB183_185.out
              have hnc42 := NB185_183.out
              have hnb43 := NB183_188.out
              have hnc43 := NB188_183.out
              have hcz44_0 : wr.cell? ⟨gb183, 0, none⟩ = some (.int .i64 a0_0) := (blk_cell BK183.out 0).trans rfl
              have hcz44_1 : wr.cell? ⟨gb183, 1, none⟩ = some (.int .u32 a0_1) := (blk_cell BK183.out 1).trans rfl
              have hcz44_2 : wr.cell? ⟨gb183, 2, none⟩ = some (.int .u64 a0_2) := (blk_cell BK183.out 2).trans rfl
              have hcz44_3 : wr.cell? ⟨gb183, 3, none⟩ = some (.int .i64 a0_3) := (blk_cell BK183.out 3).trans rfl
              have hcz44_4 : wr.cell? ⟨gb183, 4, none⟩ = some (.int .i64 a0_4) := (blk_cell BK183.out 4).trans rfl
              have hcz44_5 : wr.cell? ⟨gb183, 5, none⟩ = some (.int .u32 a0_5) := (blk_cell BK183.out 5).trans rfl
              have hcz44_6 : wr.cell? ⟨gb183, 6, none⟩ = some (.bool a0_6) := (blk_cell BK183.out 6).trans rfl
              have hcz44_7 : wr.cell? ⟨gb183, 7, none⟩ = some (.bool a0_7) := (blk_cell BK183.out 7).trans rfl
              have hfz44_0 := blk_frozen BK183.out 0
              have hfz44_1 := blk_frozen BK183.out 1
              have hfz44_2 := blk_frozen BK183.out 2
              have hfz44_3 := blk_frozen BK183.out 3
              have hfz44_4 := blk_frozen BK183.out 4
              have hfz44_5 := blk_frozen BK183.out 5
              have hfz44_6 := blk_frozen BK183.out 6
              have hfz44_7 := blk_frozen BK183.out 7
              go_upto_region 10 with (fail)
              go_cut [38] (fun v38 wc => ∃ (kq : Nat) (x38_39 : Bool), v38 = .bool x38_39 ∧ Aside0 (atlasref07_Check.j2 kq a2 a3 x10_2 x38_39 a0_0 a0_1 a0_2 a0_3 a0_4 a0_5 a0_6 a0_7 a1_0 a1_1 a1_2 a1_3 a1_4 a1_5 a1_6 a1_7 a1_8 a1_9 a1_10 a1_11 0 t187 a0_3 = some (r1, r2, r3)) ∧ Aside0 (kq ≤ k2) ∧ Aside0 (wc.heap[gb183]? = some (.cells #[.int .i64 a0_0, .int .u32 a0_1, .int .u64 a0_2, .int .i64 a0_3, .int .i64 a0_4, .int .u32 a0_5, .bool a0_6, .bool a0_7] 36 (0, 0))) ∧ Aside0 (wc.heap[gb184]? = some (.cells #[.bool a1_0, .bool a1_1, .bool a1_2, .int .i64 a1_3, .bool a1_4, .bool a1_5, .int .u64 a1_6, .int .u64 a1_7, .int .u32 a1_8, .int .u32 a1_9, .int .u32 a1_10, .int .i64 a1_11] 38 (0, 0))) ∧ Aside0 (wc.heap[gb185]? = some (.cells #[.int .i64 0, .int .i64 0, .int .i64 0] 40 (0, 0))) ∧ Aside0 (wc.heap[gb188]? = some (.cells #[.int .i64 0, .int .i64 t187, .int .i64 a0_3] 40 (0, 0))) ∧ Aside0 (Below w.heap.size w wc))
              case first =>
                have H := HC40.out
                clear HC40
                by_cases c45 : a1_2 = true
                · subst c45
                  have H1 : (atlasref07_Check.j2 k2 a2 a3 x10_2 ((Int.tmod a0_4 2) == 0) a0_0 a0_1 a0_2 a0_3 a0_4 a0_5 a0_6 a0_7 a1_0 a1_1 true a1_3 a1_4 a1_5 a1_6 a1_7 a1_8 a1_9 a1_10 a1_11 0 t187 a0_3) = some (r1, r2, r3) := by rw [if_pos rfl] at H; exact H
                  clear H
                  have H := H1
                  clear H1
                  have H' := Aside0.mk H
                  clear H
                  have hnb46 := NB184_183.out
                  have hnc46 := NB183_184.out
                  have hnb47 := NB184_185.out
                  have hnc47 := NB185_184.out
                  have hnb48 := NB184_188.out
                  have hnc48 := NB188_184.out
                  have hcz49_0 : wr.cell? ⟨gb184, 0, none⟩ = some (.bool a1_0) := (blk_cell BK184.out 0).trans rfl
                  have hcz49_1 : wr.cell? ⟨gb184, 1, none⟩ = some (.bool a1_1) := (blk_cell BK184.out 1).trans rfl
                  have hcz49_2 : wr.cell? ⟨gb184, 2, none⟩ = some (.bool true) := (blk_cell BK184.out 2).trans rfl
                  have hcz49_3 : wr.cell? ⟨gb184, 3, none⟩ = some (.int .i64 a1_3) := (blk_cell BK184.out 3).trans rfl
                  have hcz49_4 : wr.cell? ⟨gb184, 4, none⟩ = some (.bool a1_4) := (blk_cell BK184.out 4).trans rfl
                  have hcz49_5 : wr.cell? ⟨gb184, 5, none⟩ = some (.bool a1_5) := (blk_cell BK184.out 5).trans rfl
                  have hcz49_6 : wr.cell? ⟨gb184, 6, none⟩ = some (.int .u64 a1_6) := (blk_cell BK184.out 6).trans rfl
                  have hcz49_7 : wr.cell? ⟨gb184, 7, none⟩ = some (.int .u64 a1_7) := (blk_cell BK184.out 7).trans rfl
                  have hcz49_8 : wr.cell? ⟨gb184, 8, none⟩ = some (.int .u32 a1_8) := (blk_cell BK184.out 8).trans rfl
                  have hcz49_9 : wr.cell? ⟨gb184, 9, none⟩ = some (.int .u32 a1_9) := (blk_cell BK184.out 9).trans rfl
                  have hcz49_10 : wr.cell? ⟨gb184, 10, none⟩ = some (.int .u32 a1_10) := (blk_cell BK184.out 10).trans rfl
                  have hcz49_11 : wr.cell? ⟨gb184, 11, none⟩ = some (.int .i64 a1_11) := (blk_cell BK184.out 11).trans rfl
                  have hfz49_0 := blk_frozen BK184.out 0
                  have hfz49_1 := blk_frozen BK184.out 1
                  have hfz49_2 := blk_frozen BK184.out 2
                  have hfz49_3 := blk_frozen BK184.out 3
                  have hfz49_4 := blk_frozen BK184.out 4
                  have hfz49_5 := blk_frozen BK184.out 5
                  have hfz49_6 := blk_frozen BK184.out 6
                  have hfz49_7 := blk_frozen BK184.out 7
                  have hfz49_8 := blk_frozen BK184.out 8
                  have hfz49_9 := blk_frozen BK184.out 9
                  have hfz49_10 := blk_frozen BK184.out 10
                  have hfz49_11 := blk_frozen BK184.out 11
                  have hnb50 := NB183_185.out
                  have hnc50 := NB185_183.out
                  have hnb51 := NB183_188.out
                  have hnc51 := NB188_183.out
                  have hcz52_0 : wr.cell? ⟨gb183, 0, none⟩ = some (.int .i64 a0_0) := (blk_cell BK183.out 0).trans rfl
                  have hcz52_1 : wr.cell? ⟨gb183, 1, none⟩ = some (.int .u32 a0_1) := (blk_cell BK183.out 1).trans rfl
                  have hcz52_2 : wr.cell? ⟨gb183, 2, none⟩ = some (.int .u64 a0_2) := (blk_cell BK183.out 2).trans rfl
                  have hcz52_3 : wr.cell? ⟨gb183, 3, none⟩ = some (.int .i64 a0_3) := (blk_cell BK183.out 3).trans rfl
                  have hcz52_4 : wr.cell? ⟨gb183, 4, none⟩ = some (.int .i64 a0_4) := (blk_cell BK183.out 4).trans rfl
                  have hcz52_5 : wr.cell? ⟨gb183, 5, none⟩ = some (.int .u32 a0_5) := (blk_cell BK183.out 5).trans rfl
                  have hcz52_6 : wr.cell? ⟨gb183, 6, none⟩ = some (.bool a0_6) := (blk_cell BK183.out 6).trans rfl
                  have hcz52_7 : wr.cell? ⟨gb183, 7, none⟩ = some (.bool a0_7) := (blk_cell BK183.out 7).trans rfl
                  have hfz52_0 := blk_frozen BK183.out 0
                  have hfz52_1 := blk_frozen BK183.out 1
                  have hfz52_2 := blk_frozen BK183.out 2
                  have hfz52_3 := blk_frozen BK183.out 3
                  have hfz52_4 := blk_frozen BK183.out 4
                  have hfz52_5 := blk_frozen BK183.out 5
                  have hfz52_6 := blk_frozen BK183.out 6
                  have hfz52_7 := blk_frozen BK183.out 7
                  go_wp2
                  go_meet
                  case rel => exact ⟨_, (((Int.tmod a0_4 2) == 0)), (by first | rfl | (simp; done) | (simp [*]; done)), H', ⟨by have := HJ4.out; have := HK2.out; first | omega | exact Nat.le_refl _⟩, ⟨by (with_reducible repeat (first | refine blk_drewN ?_ _ | refine blk_drew ?_ | refine blk_alloc ?_ _)); exact BK183.out⟩, ⟨by (with_reducible repeat (first | refine blk_drewN ?_ _ | refine blk_drew ?_ | refine blk_alloc ?_ _)); exact BK184.out⟩, ⟨by (with_reducible repeat (first | refine blk_drewN ?_ _ | refine blk_drew ?_ | refine blk_alloc ?_ _)); exact BK185.out⟩, ⟨by (with_reducible repeat (first | refine blk_drewN ?_ _ | refine blk_drew ?_ | refine blk_alloc ?_ _)); exact BK188.out⟩, ⟨by repeat (first | (with_reducible first | exact HB.out | apply below_alloc | apply pw_below_drewN | apply below_drew1 | refine below_set ?_ GE183.out | refine below_set ?_ GE184.out | refine below_set ?_ GE185.out | refine below_set ?_ GE188.out) | exact HB.out)⟩⟩
                · replace c45 := Bool.eq_false_iff.mpr c45
                  subst c45
                  have H1 : (atlasref07_Check.j2 k2 a2 a3 x10_2 false a0_0 a0_1 a0_2 a0_3 a0_4 a0_5 a0_6 a0_7 a1_0 a1_1 false a1_3 a1_4 a1_5 a1_6 a1_7 a1_8 a1_9 a1_10 a1_11 0 t187 a0_3) = some (r1, r2, r3) := by rw [if_neg (show ¬ (false = true) by decide)] at H; exact H
                  clear H
                  have H := H1
                  clear H1
                  have H' := Aside0.mk H
                  clear H
                  have hnb53 := NB184_183.out
                  have hnc53 := NB183_184.out
                  have hnb54 := NB184_185.out
                  have hnc54 := NB185_184.out
                  have hnb55 := NB184_188.out
                  have hnc55 := NB188_184.out
                  have hcz56_0 : wr.cell? ⟨gb184, 0, none⟩ = some (.bool a1_0) := (blk_cell BK184.out 0).trans rfl
                  have hcz56_1 : wr.cell? ⟨gb184, 1, none⟩ = some (.bool a1_1) := (blk_cell BK184.out 1).trans rfl
                  have hcz56_2 : wr.cell? ⟨gb184, 2, none⟩ = some (.bool false) := (blk_cell BK184.out 2).trans rfl
                  have hcz56_3 : wr.cell? ⟨gb184, 3, none⟩ = some (.int .i64 a1_3) := (blk_cell BK184.out 3).trans rfl
                  have hcz56_4 : wr.cell? ⟨gb184, 4, none⟩ = some (.bool a1_4) := (blk_cell BK184.out 4).trans rfl
                  have hcz56_5 : wr.cell? ⟨gb184, 5, none⟩ = some (.bool a1_5) := (blk_cell BK184.out 5).trans rfl
                  have hcz56_6 : wr.cell? ⟨gb184, 6, none⟩ = some (.int .u64 a1_6) := (blk_cell BK184.out 6).trans rfl
                  have hcz56_7 : wr.cell? ⟨gb184, 7, none⟩ = some (.int .u64 a1_7) := (blk_cell BK184.out 7).trans rfl
                  have hcz56_8 : wr.cell? ⟨gb184, 8, none⟩ = some (.int .u32 a1_8) := (blk_cell BK184.out 8).trans rfl
                  have hcz56_9 : wr.cell? ⟨gb184, 9, none⟩ = some (.int .u32 a1_9) := (blk_cell BK184.out 9).trans rfl
                  have hcz56_10 : wr.cell? ⟨gb184, 10, none⟩ = some (.int .u32 a1_10) := (blk_cell BK184.out 10).trans rfl
                  have hcz56_11 : wr.cell? ⟨gb184, 11, none⟩ = some (.int .i64 a1_11) := (blk_cell BK184.out 11).trans rfl
                  have hfz56_0 := blk_frozen BK184.out 0
                  have hfz56_1 := blk_frozen BK184.out 1
                  have hfz56_2 := blk_frozen BK184.out 2
                  have hfz56_3 := blk_frozen BK184.out 3
                  have hfz56_4 := blk_frozen BK184.out 4
                  have hfz56_5 := blk_frozen BK184.out 5
                  have hfz56_6 := blk_frozen BK184.out 6
                  have hfz56_7 := blk_frozen BK184.out 7
                  have hfz56_8 := blk_frozen BK184.out 8
                  have hfz56_9 := blk_frozen BK184.out 9
                  have hfz56_10 := blk_frozen BK184.out 10
                  have hfz56_11 := blk_frozen BK184.out 11
                  go_wp2
                  go_meet
                  case rel => exact ⟨_, (false), (by first | rfl | (simp; done) | (simp [*]; done)), H', ⟨by have := HJ4.out; have := HK2.out; first | omega | exact Nat.le_refl _⟩, ⟨by (with_reducible repeat (first | refine blk_drewN ?_ _ | refine blk_drew ?_ | refine blk_alloc ?_ _)); exact BK183.out⟩, ⟨by (with_reducible repeat (first | refine blk_drewN ?_ _ | refine blk_drew ?_ | refine blk_alloc ?_ _)); exact BK184.out⟩, ⟨by (with_reducible repeat (first | refine blk_drewN ?_ _ | refine blk_drew ?_ | refine blk_alloc ?_ _)); exact BK185.out⟩, ⟨by (with_reducible repeat (first | refine blk_drewN ?_ _ | refine blk_drew ?_ | refine blk_alloc ?_ _)); exact BK188.out⟩, ⟨by repeat (first | (with_reducible first | exact HB.out | apply below_alloc | apply pw_below_drewN | apply below_drew1 | refine below_set ?_ GE183.out | refine below_set ?_ GE184.out | refine below_set ?_ GE185.out | refine below_set ?_ GE188.out) | exact HB.out)⟩⟩
              case rest =>
                clear HC40
                try clear c1
                try clear c2
                try clear p2
                try clear c3
                try clear c4
                try clear c5
                try clear p6
                try clear c9
                try clear c11
                try clear c12
                try clear c14
                try clear c17
                try clear c18
                try clear c20
                try clear c21
                try clear c22
                try clear c28
                try clear c31
                try clear c32
                try clear c33
                try clear c35
                try clear c35b0
                try clear c36
                try clear c37
                try clear c38
                try clear c41
                try clear c42
                try clear c43
                try clear c45
                try clear c46
                try clear c47
                try clear c48
                try clear c50
                try clear c51
                try clear c53
                try clear c54
                try clear c55
                try clear hcz13_0
                try clear hcz13_1
                try clear hcz13_10
                try clear hcz13_11
                try clear hcz13_2
                try clear hcz13_3
                try clear hcz13_4
                try clear hcz13_5
                try clear hcz13_6
                try clear hcz13_7
                try clear hcz13_8
                try clear hcz13_9
                try clear hcz15_0
                try clear hcz15_1
                try clear hcz15_2
                try clear hcz15_3
                try clear hcz15_4
                try clear hcz15_5
                try clear hcz15_6
                try clear hcz15_7
                try clear hcz19_0
                try clear hcz19_1
                try clear hcz19_10
                try clear hcz19_11
                try clear hcz19_2
                try clear hcz19_3
                try clear hcz19_4
                try clear hcz19_5
                try clear hcz19_6
                try clear hcz19_7
                try clear hcz19_8
                try clear hcz19_9
                try clear hcz23_0
                try clear hcz23_1
                try clear hcz23_2
                try clear hcz34_0
                try clear hcz34_1
                try clear hcz34_10
                try clear hcz34_11
                try clear hcz34_2
                try clear hcz34_3
                try clear hcz34_4
                try clear hcz34_5
                try clear hcz34_6
                try clear hcz34_7
                try clear hcz34_8
                try clear hcz34_9
                try clear hcz39_0
                try clear hcz39_1
                try clear hcz39_2
                try clear hcz39_3
                try clear hcz39_4
                try clear hcz39_5
                try clear hcz39_6
                try clear hcz39_7
                try clear hcz44_0
                try clear hcz44_1
                try clear hcz44_2
                try clear hcz44_3
                try clear hcz44_4
                try clear hcz44_5
                try clear hcz44_6
                try clear hcz44_7
                try clear hcz49_0
                try clear hcz49_1
                try clear hcz49_10
                try clear hcz49_11
                try clear hcz49_2
                try clear hcz49_3
                try clear hcz49_4
                try clear hcz49_5
                try clear hcz49_6
                try clear hcz49_7
                try clear hcz49_8
                try clear hcz49_9
                try clear hcz52_0
                try clear hcz52_1
                try clear hcz52_2
                try clear hcz52_3
                try clear hcz52_4
                try clear hcz52_5
                try clear hcz52_6
                try clear hcz52_7
                try clear hcz56_0
                try clear hcz56_1
                try clear hcz56_10
                try clear hcz56_11
                try clear hcz56_2
                try clear hcz56_3
                try clear hcz56_4
                try clear hcz56_5
                try clear hcz56_6
                try clear hcz56_7
                try clear hcz56_8
                try clear hcz56_9
                try clear hfz13_0
                try clear hfz13_1
                try clear hfz13_10
                try clear hfz13_11
                try clear hfz13_2
                try clear hfz13_3
                try clear hfz13_4
                try clear hfz13_5
                try clear hfz13_6
                try clear hfz13_7
                try clear hfz13_8
                try clear hfz13_9
                try clear hfz15_0
                try clear hfz15_1
                try clear hfz15_2
                try clear hfz15_3
                try clear hfz15_4
                try clear hfz15_5
                try clear hfz15_6
                try clear hfz15_7
                try clear hfz19_0
                try clear hfz19_1
                try clear hfz19_10
                try clear hfz19_11
                try clear hfz19_2
                try clear hfz19_3
                try clear hfz19_4
                try clear hfz19_5
                try clear hfz19_6
                try clear hfz19_7
                try clear hfz19_8
                try clear hfz19_9
                try clear hfz23_0
                try clear hfz23_1
                try clear hfz23_2
                try clear hfz34_0
                try clear hfz34_1
                try clear hfz34_10
                try clear hfz34_11
                try clear hfz34_2
                try clear hfz34_3
                try clear hfz34_4
                try clear hfz34_5
                try clear hfz34_6
                try clear hfz34_7
                try clear hfz34_8
                try clear hfz34_9
                try clear hfz39_0
                try clear hfz39_1
                try clear hfz39_2
                try clear hfz39_3
                try clear hfz39_4
                try clear hfz39_5
                try clear hfz39_6
                try clear hfz39_7
                try clear hfz44_0
                try clear hfz44_1
                try clear hfz44_2
                try clear hfz44_3
                try clear hfz44_4
                try clear hfz44_5
                try clear hfz44_6
                try clear hfz44_7
                try clear hfz49_0
                try clear hfz49_1
                try clear hfz49_10
                try clear hfz49_11
                try clear hfz49_2
                try clear hfz49_3
                try clear hfz49_4
                try clear hfz49_5
                try clear hfz49_6
                try clear hfz49_7
                try clear hfz49_8
                try clear hfz49_9
                try clear hfz52_0
                try clear hfz52_1
                try clear hfz52_2
                try clear hfz52_3
                try clear hfz52_4
                try clear hfz52_5
                try clear hfz52_6
                try clear hfz52_7
                try clear hfz56_0
                try clear hfz56_1
                try clear hfz56_10
                try clear hfz56_11
                try clear hfz56_2
                try clear hfz56_3
                try clear hfz56_4
                try clear hfz56_5
                try clear hfz56_6
                try clear hfz56_7
                try clear hfz56_8
                try clear hfz56_9
                try clear p2
                obtain ⟨kq, x38_39, rfl, HA, HJ39, BK183, BK184, BK185, BK188, HB⟩ := hcut
                cases kq with
                | zero => exact absurd HA.out (by simp [atlasref07_Check.j2])
                | succ kj39 =>
                  have H := HA.out
                  clear HA
                  simp only [atlasref07_Check.j2] at H
                  by_cases c57 : x38_39 = true
                  · subst c57
                    have H1 : (some (7, t187, a0_3)) = some (r1, r2, r3) := by rw [if_pos rfl] at H; exact H
                    clear H
                    have H := H1
                    clear H1
                    simp only [Option.some.injEq, Prod.mk.injEq] at H
                    obtain ⟨rfl, rfl, rfl⟩ := H
                    have hnb58 := NB188_183.out
                    have hnc58 := NB183_188.out
                    have hnb59 := NB188_184.out
                    have hnc59 := NB184_188.out
                    have hnb60 := NB188_185.out
                    have hnc60 := NB185_188.out
                    have hcz61_0 : wc.cell? ⟨gb188, 0, none⟩ = some (.int .i64 0) := (blk_cell BK188.out 0).trans rfl
                    have hcz61_1 : wc.cell? ⟨gb188, 1, none⟩ = some (.int .i64 t187) := (blk_cell BK188.out 1).trans rfl
                    have hcz61_2 : wc.cell? ⟨gb188, 2, none⟩ = some (.int .i64 a0_3) := (blk_cell BK188.out 2).trans rfl
                    have hfz61_0 := blk_frozen BK188.out 0
                    have hfz61_1 := blk_frozen BK188.out 1
                    have hfz61_2 := blk_frozen BK188.out 2
                    have hnb62 := NB185_183.out
                    have hnc62 := NB183_185.out
                    have hnb63 := NB185_184.out
                    have hnc63 := NB184_185.out
                    have hcz64_0 : wc.cell? ⟨gb185, 0, none⟩ = some (.int .i64 0) := (blk_cell BK185.out 0).trans rfl
                    have hcz64_1 : wc.cell? ⟨gb185, 1, none⟩ = some (.int .i64 0) := (blk_cell BK185.out 1).trans rfl
                    have hcz64_2 : wc.cell? ⟨gb185, 2, none⟩ = some (.int .i64 0) := (blk_cell BK185.out 2).trans rfl
                    have hfz64_0 := blk_frozen BK185.out 0
                    have hfz64_1 := blk_frozen BK185.out 1
                    have hfz64_2 := blk_frozen BK185.out 2
                    go_wp2
                    refine bodyPost_ret (results_cell_row rfl _ _ gb185 40 #[.int .i64 7, .int .i64 t187, .int .i64 a0_3] (0, 0) _ rfl (by (with_reducible repeat (first | refine blk_drewN ?_ _ | refine blk_drew ?_ | refine blk_alloc ?_ _)); refine blk_put (cs := #[.int .i64 7, .int .i64 t187, .int .i64 0]) ?_ 2 _ rfl; (with_reducible repeat (first | refine blk_drewN ?_ _ | refine blk_drew ?_ | refine blk_alloc ?_ _)); refine blk_put (cs := #[.int .i64 7, .int .i64 0, .int .i64 0]) ?_ 1 _ rfl; (with_reducible repeat (first | refine blk_drewN ?_ _ | refine blk_drew ?_ | refine blk_alloc ?_ _)); refine blk_put (cs := #[.int .i64 0, .int .i64 0, .int .i64 0]) ?_ 0 _ rfl; (with_reducible repeat (first | refine blk_drewN ?_ _ | refine blk_drew ?_ | refine blk_alloc ?_ _)); refine blk_far ?_ NB185_188.out _; (with_reducible repeat (first | refine blk_drewN ?_ _ | refine blk_drew ?_ | refine blk_alloc ?_ _)); exact BK185.out) Tryd.underlying40 rfl (by kernel_rfl)) rfl ?_
                    exact ⟨by first | rfl | (simp [errW_none, errW_some] <;> rfl) | (simp [*, errW_none, errW_some] <;> rfl) | (simp [*, errW_none, errW_some] <;> exact isEmpty_ne _), by repeat (first | (with_reducible first | exact HB.out | apply below_alloc | apply pw_below_drewN | apply below_drew1 | refine below_set ?_ GE183.out | refine below_set ?_ GE184.out | refine below_set ?_ GE185.out | refine below_set ?_ GE188.out) | exact HB.out)⟩
                  · replace c57 := Bool.eq_false_iff.mpr c57
                    subst c57
                    have H1 : (if (Int.tmod x10_2 2) = 0 then (some (8, t187, a0_3)) else (if (Int.tmod x10_2 4) = 3 then (some (0, 0, 0)) else ((atlasref07_Allows.f kj39 a0_4 a0_5 a0_6 a0_7 a1_2 a2 a3).bind fun t189 => (if t189 = true then (some (0, 0, 0)) else (some (9, t187, a0_3)))))) = some (r1, r2, r3) := by rw [if_neg (show ¬ (false = true) by decide)] at H; exact H
                    clear H
                    have H := H1
                    clear H1
                    by_cases c65 : (Int.tmod x10_2 2) = 0
                    · rw [if_pos c65] at H
                      have c65b0 : ((Int.tmod x10_2 2) == 0) = true := beq_iff_eq.mpr c65
                      have c65b1 : ((Int.tmod x10_2 2) != 0) = false := bne_eq_false_iff_eq.mpr c65
                      clear c65
                      simp only [Option.some.injEq, Prod.mk.injEq] at H
                      obtain ⟨rfl, rfl, rfl⟩ := H
                      have hnb66 := NB188_183.out
                      have hnc66 := NB183_188.out
                      have hnb67 := NB188_184.out
                      have hnc67 := NB184_188.out
                      have hnb68 := NB188_185.out
                      have hnc68 := NB185_188.out
                      have hcz69_0 : wc.cell? ⟨gb188, 0, none⟩ = some (.int .i64 0) := (blk_cell BK188.out 0).trans rfl
                      have hcz69_1 : wc.cell? ⟨gb188, 1, none⟩ = some (.int .i64 t187) := (blk_cell BK188.out 1).trans rfl
                      have hcz69_2 : wc.cell? ⟨gb188, 2, none⟩ = some (.int .i64 a0_3) := (blk_cell BK188.out 2).trans rfl
                      have hfz69_0 := blk_frozen BK188.out 0
                      have hfz69_1 := blk_frozen BK188.out 1
                      have hfz69_2 := blk_frozen BK188.out 2
                      have hnb70 := NB185_183.out
                      have hnc70 := NB183_185.out
                      have hnb71 := NB185_184.out
                      have hnc71 := NB184_185.out
                      have hcz72_0 : wc.cell? ⟨gb185, 0, none⟩ = some (.int .i64 0) := (blk_cell BK185.out 0).trans rfl
                      have hcz72_1 : wc.cell? ⟨gb185, 1, none⟩ = some (.int .i64 0) := (blk_cell BK185.out 1).trans rfl
                      have hcz72_2 : wc.cell? ⟨gb185, 2, none⟩ = some (.int .i64 0) := (blk_cell BK185.out 2).trans rfl
                      have hfz72_0 := blk_frozen BK185.out 0
                      have hfz72_1 := blk_frozen BK185.out 1
                      have hfz72_2 := blk_frozen BK185.out 2
                      go_wp2
                      refine bodyPost_ret (results_cell_row rfl _ _ gb185 40 #[.int .i64 8, .int .i64 t187, .int .i64 a0_3] (0, 0) _ rfl (by (with_reducible repeat (first | refine blk_drewN ?_ _ | refine blk_drew ?_ | refine blk_alloc ?_ _)); refine blk_put (cs := #[.int .i64 8, .int .i64 t187, .int .i64 0]) ?_ 2 _ rfl; (with_reducible repeat (first | refine blk_drewN ?_ _ | refine blk_drew ?_ | refine blk_alloc ?_ _)); refine blk_put (cs := #[.int .i64 8, .int .i64 0, .int .i64 0]) ?_ 1 _ rfl; (with_reducible repeat (first | refine blk_drewN ?_ _ | refine blk_drew ?_ | refine blk_alloc ?_ _)); refine blk_put (cs := #[.int .i64 0, .int .i64 0, .int .i64 0]) ?_ 0 _ rfl; (with_reducible repeat (first | refine blk_drewN ?_ _ | refine blk_drew ?_ | refine blk_alloc ?_ _)); refine blk_far ?_ NB185_188.out _; (with_reducible repeat (first | refine blk_drewN ?_ _ | refine blk_drew ?_ | refine blk_alloc ?_ _)); exact BK185.out) Tryd.underlying40 rfl (by kernel_rfl)) rfl ?_
                      exact ⟨by first | rfl | (simp [errW_none, errW_some] <;> rfl) | (simp [*, errW_none, errW_some] <;> rfl) | (simp [*, errW_none, errW_some] <;> exact isEmpty_ne _), by repeat (first | (with_reducible first | exact HB.out | apply below_alloc | apply pw_below_drewN | apply below_drew1 | refine below_set ?_ GE183.out | refine below_set ?_ GE184.out | refine below_set ?_ GE185.out | refine below_set ?_ GE188.out) | exact HB.out)⟩
                    · rw [if_neg c65] at H
                      have c65b0 : ((Int.tmod x10_2 2) == 0) = false := beq_eq_false_iff_ne.mpr c65
                      have c65b1 : ((Int.tmod x10_2 2) != 0) = true := bne_iff_ne.mpr c65
                      by_cases c73 : (Int.tmod x10_2 4) = 3
                      · rw [if_pos c73] at H
                        have c73b0 : ((Int.tmod x10_2 4) == 3) = true := beq_iff_eq.mpr c73
                        have c73b1 : ((Int.tmod x10_2 4) != 3) = false := bne_eq_false_iff_eq.mpr c73
                        clear c73
                        simp only [Option.some.injEq, Prod.mk.injEq] at H
                        obtain ⟨rfl, rfl, rfl⟩ := H
                        have hnb74 := NB185_183.out
                        have hnc74 := NB183_185.out
                        have hnb75 := NB185_184.out
                        have hnc75 := NB184_185.out
                        have hnb76 := NB185_188.out
                        have hnc76 := NB188_185.out
                        have hcz77_0 : wc.cell? ⟨gb185, 0, none⟩ = some (.int .i64 0) := (blk_cell BK185.out 0).trans rfl
                        have hcz77_1 : wc.cell? ⟨gb185, 1, none⟩ = some (.int .i64 0) := (blk_cell BK185.out 1).trans rfl
                        have hcz77_2 : wc.cell? ⟨gb185, 2, none⟩ = some (.int .i64 0) := (blk_cell BK185.out 2).trans rfl
                        have hfz77_0 := blk_frozen BK185.out 0
                        have hfz77_1 := blk_frozen BK185.out 1
                        have hfz77_2 := blk_frozen BK185.out 2
                        go_wp2
                        refine bodyPost_ret (results_cell_row rfl _ _ gb185 40 #[.int .i64 0, .int .i64 0, .int .i64 0] (0, 0) _ rfl (by (with_reducible repeat (first | refine blk_drewN ?_ _ | refine blk_drew ?_ | refine blk_alloc ?_ _)); refine blk_put (cs := #[.int .i64 0, .int .i64 0, .int .i64 0]) ?_ 2 _ rfl; (with_reducible repeat (first | refine blk_drewN ?_ _ | refine blk_drew ?_ | refine blk_alloc ?_ _)); refine blk_put (cs := #[.int .i64 0, .int .i64 0, .int .i64 0]) ?_ 1 _ rfl; (with_reducible repeat (first | refine blk_drewN ?_ _ | refine blk_drew ?_ | refine blk_alloc ?_ _)); refine blk_put (cs := #[.int .i64 0, .int .i64 0, .int .i64 0]) ?_ 0 _ rfl; (with_reducible repeat (first | refine blk_drewN ?_ _ | refine blk_drew ?_ | refine blk_alloc ?_ _)); exact BK185.out) Tryd.underlying40 rfl (by kernel_rfl)) rfl ?_
                        exact ⟨by first | rfl | (simp [errW_none, errW_some] <;> rfl) | (simp [*, errW_none, errW_some] <;> rfl) | (simp [*, errW_none, errW_some] <;> exact isEmpty_ne _), by repeat (first | (with_reducible first | exact HB.out | apply below_alloc | apply pw_below_drewN | apply below_drew1 | refine below_set ?_ GE183.out | refine below_set ?_ GE184.out | refine below_set ?_ GE185.out | refine below_set ?_ GE188.out) | exact HB.out)⟩
                      · rw [if_neg c73] at H
                        have c73b0 : ((Int.tmod x10_2 4) == 3) = false := beq_eq_false_iff_ne.mpr c73
                        have c73b1 : ((Int.tmod x10_2 4) != 3) = true := bne_iff_ne.mpr c73
                        replace H := Option.bind_eq_some_iff.mp H
                        obtain ⟨t189, A780, H⟩ := H
                        replace H : (if t189 = true then (some (0, 0, 0)) else (some (9, t187, a0_3))) = some (r1, r2, r3) := H
                        have A78 := Aside0.mk A780
                        clear A780
                        by_cases c79 : t189 = true
                        · subst c79
                          have H1 : (some (0, 0, 0)) = some (r1, r2, r3) := by rw [if_pos rfl] at H; exact H
                          clear H
                          have H := H1
                          clear H1
                          simp only [Option.some.injEq, Prod.mk.injEq] at H
                          obtain ⟨rfl, rfl, rfl⟩ := H
                          have hnb80 := NB183_184.out
                          have hnc80 := NB184_183.out
                          have hnb81 := NB183_185.out
                          have hnc81 := NB185_183.out
                          have hnb82 := NB183_188.out
                          have hnc82 := NB188_183.out
                          have hcz83_0 : wc.cell? ⟨gb183, 0, none⟩ = some (.int .i64 a0_0) := (blk_cell BK183.out 0).trans rfl
                          have hcz83_1 : wc.cell? ⟨gb183, 1, none⟩ = some (.int .u32 a0_1) := (blk_cell BK183.out 1).trans rfl
                          have hcz83_2 : wc.cell? ⟨gb183, 2, none⟩ = some (.int .u64 a0_2) := (blk_cell BK183.out 2).trans rfl
                          have hcz83_3 : wc.cell? ⟨gb183, 3, none⟩ = some (.int .i64 a0_3) := (blk_cell BK183.out 3).trans rfl
                          have hcz83_4 : wc.cell? ⟨gb183, 4, none⟩ = some (.int .i64 a0_4) := (blk_cell BK183.out 4).trans rfl
                          have hcz83_5 : wc.cell? ⟨gb183, 5, none⟩ = some (.int .u32 a0_5) := (blk_cell BK183.out 5).trans rfl
                          have hcz83_6 : wc.cell? ⟨gb183, 6, none⟩ = some (.bool a0_6) := (blk_cell BK183.out 6).trans rfl
                          have hcz83_7 : wc.cell? ⟨gb183, 7, none⟩ = some (.bool a0_7) := (blk_cell BK183.out 7).trans rfl
                          have hfz83_0 := blk_frozen BK183.out 0
                          have hfz83_1 := blk_frozen BK183.out 1
                          have hfz83_2 := blk_frozen BK183.out 2
                          have hfz83_3 := blk_frozen BK183.out 3
                          have hfz83_4 := blk_frozen BK183.out 4
                          have hfz83_5 := blk_frozen BK183.out 5
                          have hfz83_6 := blk_frozen BK183.out 6
                          have hfz83_7 := blk_frozen BK183.out 7
                          have hnb84 := NB184_185.out
                          have hnc84 := NB185_184.out
                          have hnb85 := NB184_188.out
                          have hnc85 := NB188_184.out
                          have hcz86_0 : wc.cell? ⟨gb184, 0, none⟩ = some (.bool a1_0) := (blk_cell BK184.out 0).trans rfl
                          have hcz86_1 : wc.cell? ⟨gb184, 1, none⟩ = some (.bool a1_1) := (blk_cell BK184.out 1).trans rfl
                          have hcz86_2 : wc.cell? ⟨gb184, 2, none⟩ = some (.bool a1_2) := (blk_cell BK184.out 2).trans rfl
                          have hcz86_3 : wc.cell? ⟨gb184, 3, none⟩ = some (.int .i64 a1_3) := (blk_cell BK184.out 3).trans rfl
                          have hcz86_4 : wc.cell? ⟨gb184, 4, none⟩ = some (.bool a1_4) := (blk_cell BK184.out 4).trans rfl
                          have hcz86_5 : wc.cell? ⟨gb184, 5, none⟩ = some (.bool a1_5) := (blk_cell BK184.out 5).trans rfl
                          have hcz86_6 : wc.cell? ⟨gb184, 6, none⟩ = some (.int .u64 a1_6) := (blk_cell BK184.out 6).trans rfl
                          have hcz86_7 : wc.cell? ⟨gb184, 7, none⟩ = some (.int .u64 a1_7) := (blk_cell BK184.out 7).trans rfl
                          have hcz86_8 : wc.cell? ⟨gb184, 8, none⟩ = some (.int .u32 a1_8) := (blk_cell BK184.out 8).trans rfl
                          have hcz86_9 : wc.cell? ⟨gb184, 9, none⟩ = some (.int .u32 a1_9) := (blk_cell BK184.out 9).trans rfl
                          have hcz86_10 : wc.cell? ⟨gb184, 10, none⟩ = some (.int .u32 a1_10) := (blk_cell BK184.out 10).trans rfl
                          have hcz86_11 : wc.cell? ⟨gb184, 11, none⟩ = some (.int .i64 a1_11) := (blk_cell BK184.out 11).trans rfl
                          have hfz86_0 := blk_frozen BK184.out 0
                          have hfz86_1 := blk_frozen BK184.out 1
                          have hfz86_2 := blk_frozen BK184.out 2
                          have hfz86_3 := blk_frozen BK184.out 3
                          have hfz86_4 := blk_frozen BK184.out 4
                          have hfz86_5 := blk_frozen BK184.out 5
                          have hfz86_6 := blk_frozen BK184.out 6
                          have hfz86_7 := blk_frozen BK184.out 7
                          have hfz86_8 := blk_frozen BK184.out 8
                          have hfz86_9 := blk_frozen BK184.out 9
                          have hfz86_10 := blk_frozen BK184.out 10
                          have hfz86_11 := blk_frozen BK184.out 11
                          go_wp2_with (first | ((with_reducible refine gate_callee (f := 11) rfl ?_); refine goesL_ (some 66) rfl rfl Tryd.func11 (by kernel_rfl) rfl #[.agg #[.int .i64 a0_4, .int .u32 a0_5, .bool a0_6, .bool a0_7], .bool a1_2, .bool a2, .int .i64 a3] rfl (by (try simp only [List.map_toArray, List.map_cons, List.map_nil]); first | done | rfl | (simp only [List.length_drop, List.length_take]; rfl)) ?_; (with_reducible refine (atlasref07_Allows.calls kj39 a0_4 a0_5 a0_6 a0_7 a1_2 a2 a3 true _ A78.out).mono ?_); rintro e w87 ⟨rfl, hb⟩; refine ⟨_, rfl, ?_⟩; have n0_ := Aside0.mk (blk_below (g := gb183) (o := .cells #[.int .i64 a0_0, .int .u32 a0_1, .int .u64 a0_2, .int .i64 a0_3, .int .i64 a0_4, .int .u32 a0_5, .bool a0_6, .bool a0_7] 36 (0, 0)) (by (with_reducible repeat (first | refine blk_drewN ?_ _ | refine blk_drew ?_ | refine blk_alloc ?_ _)); exact BK183.out) hb); have n1_ := Aside0.mk (blk_below (g := gb184) (o := .cells #[.bool a1_0, .bool a1_1, .bool a1_2, .int .i64 a1_3, .bool a1_4, .bool a1_5, .int .u64 a1_6, .int .u64 a1_7, .int .u32 a1_8, .int .u32 a1_9, .int .u32 a1_10, .int .i64 a1_11] 38 (0, 0)) (by (with_reducible repeat (first | refine blk_drewN ?_ _ | refine blk_drew ?_ | refine blk_alloc ?_ _)); exact BK184.out) hb); have n2_ := Aside0.mk (blk_below (g := gb185) (o := .cells #[.int .i64 0, .int .i64 0, .int .i64 0] 40 (0, 0)) (by (with_reducible repeat (first | refine blk_drewN ?_ _ | refine blk_drew ?_ | refine blk_alloc ?_ _)); exact BK185.out) hb); have n3_ := Aside0.mk (blk_below (g := gb188) (o := .cells #[.int .i64 0, .int .i64 t187, .int .i64 a0_3] 40 (0, 0)) (by (with_reducible repeat (first | refine blk_drewN ?_ _ | refine blk_drew ?_ | refine blk_alloc ?_ _)); exact BK188.out) hb); have n4_ := Aside0.mk (below_step (by repeat (first | (with_reducible first | exact HB.out | apply below_alloc | apply pw_below_drewN | apply below_drew1 | refine below_set ?_ GE183.out | refine below_set ?_ GE184.out | refine below_set ?_ GE185.out | refine below_set ?_ GE188.out) | exact HB.out)) hb); clear BK183; clear BK184; clear BK185; clear BK188; clear HB; have BK183 := n0_; have BK184 := n1_; have BK185 := n2_; have BK188 := n3_; have HB := n4_; clear n0_ n1_ n2_ n3_ n4_; (try clear hb); (try clear hb2); (try clear hk); (try clear hi); have hnb88 := NB185_188.out; have hnc88 := NB188_185.out; have hcz89_0 : w87.cell? ⟨gb185, 0, none⟩ = some (.int .i64 0) := (blk_cell BK185.out 0).trans rfl; have hcz89_1 : w87.cell? ⟨gb185, 1, none⟩ = some (.int .i64 0) := (blk_cell BK185.out 1).trans rfl; have hcz89_2 : w87.cell? ⟨gb185, 2, none⟩ = some (.int .i64 0) := (blk_cell BK185.out 2).trans rfl; have hfz89_0 := blk_frozen BK185.out 0; have hfz89_1 := blk_frozen BK185.out 1; have hfz89_2 := blk_frozen BK185.out 2))
                          refine bodyPost_ret (results_cell_row rfl _ _ gb185 40 #[.int .i64 0, .int .i64 0, .int .i64 0] (0, 0) _ rfl (by (with_reducible repeat (first | refine blk_drewN ?_ _ | refine blk_drew ?_ | refine blk_alloc ?_ _)); refine blk_put (cs := #[.int .i64 0, .int .i64 0, .int .i64 0]) ?_ 2 _ rfl; (with_reducible repeat (first | refine blk_drewN ?_ _ | refine blk_drew ?_ | refine blk_alloc ?_ _)); refine blk_put (cs := #[.int .i64 0, .int .i64 0, .int .i64 0]) ?_ 1 _ rfl; (with_reducible repeat (first | refine blk_drewN ?_ _ | refine blk_drew ?_ | refine blk_alloc ?_ _)); refine blk_put (cs := #[.int .i64 0, .int .i64 0, .int .i64 0]) ?_ 0 _ rfl; (with_reducible repeat (first | refine blk_drewN ?_ _ | refine blk_drew ?_ | refine blk_alloc ?_ _)); exact BK185.out) Tryd.underlying40 rfl (by kernel_rfl)) rfl ?_
                          exact ⟨by first | rfl | (simp [errW_none, errW_some] <;> rfl) | (simp [*, errW_none, errW_some] <;> rfl) | (simp [*, errW_none, errW_some] <;> exact isEmpty_ne _), by repeat (first | (with_reducible first | exact HB.out | apply below_alloc | apply pw_below_drewN | apply below_drew1 | refine below_set ?_ GE183.out | refine below_set ?_ GE184.out | refine below_set ?_ GE185.out | refine below_set ?_ GE188.out) | exact HB.out)⟩
                        · replace c79 := Bool.eq_false_iff.mpr c79
                          subst c79
                          have H1 : (some (9, t187, a0_3)) = some (r1, r2, r3) := by rw [if_neg (show ¬ (false = true) by decide)] at H; exact H
                          clear H
                          have H := H1
                          clear H1
                          simp only [Option.some.injEq, Prod.mk.injEq] at H
                          obtain ⟨rfl, rfl, rfl⟩ := H
                          have hnb90 := NB183_184.out
                          have hnc90 := NB184_183.out
                          have hnb91 := NB183_185.out
                          have hnc91 := NB185_183.out
                          have hnb92 := NB183_188.out
                          have hnc92 := NB188_183.out
                          have hcz93_0 : wc.cell? ⟨gb183, 0, none⟩ = some (.int .i64 a0_0) := (blk_cell BK183.out 0).trans rfl
                          have hcz93_1 : wc.cell? ⟨gb183, 1, none⟩ = some (.int .u32 a0_1) := (blk_cell BK183.out 1).trans rfl
                          have hcz93_2 : wc.cell? ⟨gb183, 2, none⟩ = some (.int .u64 a0_2) := (blk_cell BK183.out 2).trans rfl
                          have hcz93_3 : wc.cell? ⟨gb183, 3, none⟩ = some (.int .i64 a0_3) := (blk_cell BK183.out 3).trans rfl
                          have hcz93_4 : wc.cell? ⟨gb183, 4, none⟩ = some (.int .i64 a0_4) := (blk_cell BK183.out 4).trans rfl
                          have hcz93_5 : wc.cell? ⟨gb183, 5, none⟩ = some (.int .u32 a0_5) := (blk_cell BK183.out 5).trans rfl
                          have hcz93_6 : wc.cell? ⟨gb183, 6, none⟩ = some (.bool a0_6) := (blk_cell BK183.out 6).trans rfl
                          have hcz93_7 : wc.cell? ⟨gb183, 7, none⟩ = some (.bool a0_7) := (blk_cell BK183.out 7).trans rfl
                          have hfz93_0 := blk_frozen BK183.out 0
                          have hfz93_1 := blk_frozen BK183.out 1
                          have hfz93_2 := blk_frozen BK183.out 2
                          have hfz93_3 := blk_frozen BK183.out 3
                          have hfz93_4 := blk_frozen BK183.out 4
                          have hfz93_5 := blk_frozen BK183.out 5
                          have hfz93_6 := blk_frozen BK183.out 6
                          have hfz93_7 := blk_frozen BK183.out 7
                          have hnb94 := NB184_185.out
                          have hnc94 := NB185_184.out
                          have hnb95 := NB184_188.out
                          have hnc95 := NB188_184.out
                          have hcz96_0 : wc.cell? ⟨gb184, 0, none⟩ = some (.bool a1_0) := (blk_cell BK184.out 0).trans rfl
                          have hcz96_1 : wc.cell? ⟨gb184, 1, none⟩ = some (.bool a1_1) := (blk_cell BK184.out 1).trans rfl
                          have hcz96_2 : wc.cell? ⟨gb184, 2, none⟩ = some (.bool a1_2) := (blk_cell BK184.out 2).trans rfl
                          have hcz96_3 : wc.cell? ⟨gb184, 3, none⟩ = some (.int .i64 a1_3) := (blk_cell BK184.out 3).trans rfl
                          have hcz96_4 : wc.cell? ⟨gb184, 4, none⟩ = some (.bool a1_4) := (blk_cell BK184.out 4).trans rfl
                          have hcz96_5 : wc.cell? ⟨gb184, 5, none⟩ = some (.bool a1_5) := (blk_cell BK184.out 5).trans rfl
                          have hcz96_6 : wc.cell? ⟨gb184, 6, none⟩ = some (.int .u64 a1_6) := (blk_cell BK184.out 6).trans rfl
                          have hcz96_7 : wc.cell? ⟨gb184, 7, none⟩ = some (.int .u64 a1_7) := (blk_cell BK184.out 7).trans rfl
                          have hcz96_8 : wc.cell? ⟨gb184, 8, none⟩ = some (.int .u32 a1_8) := (blk_cell BK184.out 8).trans rfl
                          have hcz96_9 : wc.cell? ⟨gb184, 9, none⟩ = some (.int .u32 a1_9) := (blk_cell BK184.out 9).trans rfl
                          have hcz96_10 : wc.cell? ⟨gb184, 10, none⟩ = some (.int .u32 a1_10) := (blk_cell BK184.out 10).trans rfl
                          have hcz96_11 : wc.cell? ⟨gb184, 11, none⟩ = some (.int .i64 a1_11) := (blk_cell BK184.out 11).trans rfl
                          have hfz96_0 := blk_frozen BK184.out 0
                          have hfz96_1 := blk_frozen BK184.out 1
                          have hfz96_2 := blk_frozen BK184.out 2
                          have hfz96_3 := blk_frozen BK184.out 3
                          have hfz96_4 := blk_frozen BK184.out 4
                          have hfz96_5 := blk_frozen BK184.out 5
                          have hfz96_6 := blk_frozen BK184.out 6
                          have hfz96_7 := blk_frozen BK184.out 7
                          have hfz96_8 := blk_frozen BK184.out 8
                          have hfz96_9 := blk_frozen BK184.out 9
                          have hfz96_10 := blk_frozen BK184.out 10
                          have hfz96_11 := blk_frozen BK184.out 11
                          go_wp2_with (first | ((with_reducible refine gate_callee (f := 11) rfl ?_); refine goesL_ (some 66) rfl rfl Tryd.func11 (by kernel_rfl) rfl #[.agg #[.int .i64 a0_4, .int .u32 a0_5, .bool a0_6, .bool a0_7], .bool a1_2, .bool a2, .int .i64 a3] rfl (by (try simp only [List.map_toArray, List.map_cons, List.map_nil]); first | done | rfl | (simp only [List.length_drop, List.length_take]; rfl)) ?_; (with_reducible refine (atlasref07_Allows.calls kj39 a0_4 a0_5 a0_6 a0_7 a1_2 a2 a3 false _ A78.out).mono ?_); rintro e w97 ⟨rfl, hb⟩; refine ⟨_, rfl, ?_⟩; have n0_ := Aside0.mk (blk_below (g := gb183) (o := .cells #[.int .i64 a0_0, .int .u32 a0_1, .int .u64 a0_2, .int .i64 a0_3, .int .i64 a0_4, .int .u32 a0_5, .bool a0_6, .bool a0_7] 36 (0, 0)) (by (with_reducible repeat (first | refine blk_drewN ?_ _ | refine blk_drew ?_ | refine blk_alloc ?_ _)); exact BK183.out) hb); have n1_ := Aside0.mk (blk_below (g := gb184) (o := .cells #[.bool a1_0, .bool a1_1, .bool a1_2, .int .i64 a1_3, .bool a1_4, .bool a1_5, .int .u64 a1_6, .int .u64 a1_7, .int .u32 a1_8, .int .u32 a1_9, .int .u32 a1_10, .int .i64 a1_11] 38 (0, 0)) (by (with_reducible repeat (first | refine blk_drewN ?_ _ | refine blk_drew ?_ | refine blk_alloc ?_ _)); exact BK184.out) hb); have n2_ := Aside0.mk (blk_below (g := gb185) (o := .cells #[.int .i64 0, .int .i64 0, .int .i64 0] 40 (0, 0)) (by (with_reducible repeat (first | refine blk_drewN ?_ _ | refine blk_drew ?_ | refine blk_alloc ?_ _)); exact BK185.out) hb); have n3_ := Aside0.mk (blk_below (g := gb188) (o := .cells #[.int .i64 0, .int .i64 t187, .int .i64 a0_3] 40 (0, 0)) (by (with_reducible repeat (first | refine blk_drewN ?_ _ | refine blk_drew ?_ | refine blk_alloc ?_ _)); exact BK188.out) hb); have n4_ := Aside0.mk (below_step (by repeat (first | (with_reducible first | exact HB.out | apply below_alloc | apply pw_below_drewN | apply below_drew1 | refine below_set ?_ GE183.out | refine below_set ?_ GE184.out | refine below_set ?_ GE185.out | refine below_set ?_ GE188.out) | exact HB.out)) hb); clear BK183; clear BK184; clear BK185; clear BK188; clear HB; have BK183 := n0_; have BK184 := n1_; have BK185 := n2_; have BK188 := n3_; have HB := n4_; clear n0_ n1_ n2_ n3_ n4_; (try clear hb); (try clear hb2); (try clear hk); (try clear hi); have hnb98 := NB188_185.out; have hnc98 := NB185_188.out; have hcz99_0 : w97.cell? ⟨gb188, 0, none⟩ = some (.int .i64 0) := (blk_cell BK188.out 0).trans rfl; have hcz99_1 : w97.cell? ⟨gb188, 1, none⟩ = some (.int .i64 t187) := (blk_cell BK188.out 1).trans rfl; have hcz99_2 : w97.cell? ⟨gb188, 2, none⟩ = some (.int .i64 a0_3) := (blk_cell BK188.out 2).trans rfl; have hfz99_0 := blk_frozen BK188.out 0; have hfz99_1 := blk_frozen BK188.out 1; have hfz99_2 := blk_frozen BK188.out 2; have hcz100_0 : w97.cell? ⟨gb185, 0, none⟩ = some (.int .i64 0) := (blk_cell BK185.out 0).trans rfl; have hcz100_1 : w97.cell? ⟨gb185, 1, none⟩ = some (.int .i64 0) := (blk_cell BK185.out 1).trans rfl; have hcz100_2 : w97.cell? ⟨gb185, 2, none⟩ = some (.int .i64 0) := (blk_cell BK185.out 2).trans rfl; have hfz100_0 := blk_frozen BK185.out 0; have hfz100_1 := blk_frozen BK185.out 1; have hfz100_2 := blk_frozen BK185.out 2))
                          refine bodyPost_ret (results_cell_row rfl _ _ gb185 40 #[.int .i64 9, .int .i64 t187, .int .i64 a0_3] (0, 0) _ rfl (by (with_reducible repeat (first | refine blk_drewN ?_ _ | refine blk_drew ?_ | refine blk_alloc ?_ _)); refine blk_put (cs := #[.int .i64 9, .int .i64 t187, .int .i64 0]) ?_ 2 _ rfl; (with_reducible repeat (first | refine blk_drewN ?_ _ | refine blk_drew ?_ | refine blk_alloc ?_ _)); refine blk_put (cs := #[.int .i64 9, .int .i64 0, .int .i64 0]) ?_ 1 _ rfl; (with_reducible repeat (first | refine blk_drewN ?_ _ | refine blk_drew ?_ | refine blk_alloc ?_ _)); refine blk_put (cs := #[.int .i64 0, .int .i64 0, .int .i64 0]) ?_ 0 _ rfl; (with_reducible repeat (first | refine blk_drewN ?_ _ | refine blk_drew ?_ | refine blk_alloc ?_ _)); refine blk_far ?_ NB185_188.out _; (with_reducible repeat (first | refine blk_drewN ?_ _ | refine blk_drew ?_ | refine blk_alloc ?_ _)); exact BK185.out) Tryd.underlying40 rfl (by kernel_rfl)) rfl ?_
                          exact ⟨by first | rfl | (simp [errW_none, errW_some] <;> rfl) | (simp [*, errW_none, errW_some] <;> rfl) | (simp [*, errW_none, errW_some] <;> exact isEmpty_ne _), by repeat (first | (with_reducible first | exact HB.out | apply below_alloc | apply pw_below_drewN | apply below_drew1 | refine below_set ?_ GE183.out | refine below_set ?_ GE184.out | refine below_set ?_ GE185.out | refine below_set ?_ GE188.out) | exact HB.out)⟩

end Go.Proofs.YtglafffghbhnbaaDoor.S
