-- Written by a program of this session (wip/xprint.py), over the kit's print. Not trusted: Lean checks it.
import Derived.Test.YtglafffghbhnbaaDoorS0
import Derived.Test.YtglafffghbhnbaaDoorS1
import Derived.Test.YtglafffghbhnbaaDoorS2
import Derived.Test.YtglafffghbhnbaaDoorS3
namespace Go.Proofs.YtglafffghbhnbaaDoor.S
open Go.Proofs.YtglafffghbhnbaaDoorG
open Go.RowKit Go.Proofs.YtglafffghbhnbaaDoorW.PrintWords Go.Proofs.YtglafffghbhnbaaDoorW.PrintLast Go.Proofs.YtglafffghbhnbaaDoorW.PrintMore
attribute [local go_sem] max2_int min2_int max_two min_two max_three min_three max_four min_four   -- for this text's walks alone
set_option linter.unusedVariables false
set_option linter.unusedSimpArgs false

attribute [local go_sem high] eqA40
/-! ### rights_Text: function 21 -/
def rights_Text.j0 : Nat → ByteArray → Int → Int → Int → Option (ByteArray)
 | 0, _, _, _, _ => none
 | k + 1, x3, x103000, x103001, x103002 => if x103000 = 4 then ((strconv_Itoa.f x103002).bind fun t107 => (if 8 + t107.size ≤ 9223372036854775807 then (if x3.size + ((⟨#[32, 100, 111, 109, 97, 105, 110, 32]⟩ : ByteArray) ++ t107).size ≤ 9223372036854775807 then (some (x3 ++ ((⟨#[32, 100, 111, 109, 97, 105, 110, 32]⟩ : ByteArray) ++ t107))) else (none)) else (none))) else (if x103000 = 5 then ((strconv_Itoa.f x103002).bind fun t108 => (if 8 + t108.size ≤ 9223372036854775807 then (if x3.size + ((⟨#[32, 100, 111, 109, 97, 105, 110, 32]⟩ : ByteArray) ++ t108).size ≤ 9223372036854775807 then (some (x3 ++ ((⟨#[32, 100, 111, 109, 97, 105, 110, 32]⟩ : ByteArray) ++ t108))) else (none)) else (none))) else (if x103000 = 7 then ((strconv_Itoa.f x103002).bind fun t109 => (if 8 + t109.size ≤ 9223372036854775807 then (if x3.size + ((⟨#[32, 100, 111, 109, 97, 105, 110, 32]⟩ : ByteArray) ++ t109).size ≤ 9223372036854775807 then (some (x3 ++ ((⟨#[32, 100, 111, 109, 97, 105, 110, 32]⟩ : ByteArray) ++ t109))) else (none)) else (none))) else (if x103000 = 8 then ((strconv_Itoa.f x103002).bind fun t110 => (if 8 + t110.size ≤ 9223372036854775807 then (if x3.size + ((⟨#[32, 100, 111, 109, 97, 105, 110, 32]⟩ : ByteArray) ++ t110).size ≤ 9223372036854775807 then (some (x3 ++ ((⟨#[32, 100, 111, 109, 97, 105, 110, 32]⟩ : ByteArray) ++ t110))) else (none)) else (none))) else (if x103000 = 9 then ((strconv_Itoa.f x103002).bind fun t111 => (if 8 + t111.size ≤ 9223372036854775807 then (if x3.size + ((⟨#[32, 100, 111, 109, 97, 105, 110, 32]⟩ : ByteArray) ++ t111).size ≤ 9223372036854775807 then (some (x3 ++ ((⟨#[32, 100, 111, 109, 97, 105, 110, 32]⟩ : ByteArray) ++ t111))) else (none)) else (none))) else (some x3)))))
def rights_Text.f (k : Nat) (a0_0 : Int) (a0_1 : Int) (a0_2 : Int) : Option (ByteArray) := if (a0_0 == 0 && (a0_1 == 0 && (a0_2 == 0))) = true then (if 0 < 11 then (some (rdOf ByteArray.empty gt2_0 0)) else (none)) else ((rights_right.f k a0_0 a0_1 a0_2).bind fun t104 => (if t104 = true then (if 0 ≤ a0_0 then (if a0_0 < 11 then (if a0_1 > 0 then ((strconv_Itoa.f a0_1).bind fun t106 => (if 1 + t106.size ≤ 9223372036854775807 then (if (rdOf ByteArray.empty gt2_0 a0_0).size + ((⟨#[32]⟩ : ByteArray) ++ t106).size ≤ 9223372036854775807 then (rights_Text.j0 k ((rdOf ByteArray.empty gt2_0 a0_0) ++ ((⟨#[32]⟩ : ByteArray) ++ t106)) a0_0 a0_1 a0_2) else (none)) else (none))) else (rights_Text.j0 k (rdOf ByteArray.empty gt2_0 a0_0) a0_0 a0_1 a0_2)) else (none)) else (none)) else (some (⟨#[]⟩ : ByteArray))))
theorem rights_Text.mono_l : ∀ k, (∀ y0 y1 y2 y3, LeO (rights_Text.j0 k y0 y1 y2 y3) (rights_Text.j0 (k + 1) y0 y1 y2 y3))
 | 0 => fun _ _ _ _ r h => by simp [rights_Text.j0] at h
 | k + 1 => by
  have ih0 := rights_Text.mono_l k
  ·
   intro y0 y1 y2 y3
   unfold rights_Text.j0
   repeat' first
   | (with_reducible exact ih0 _ _ _ _)
   | (with_reducible exact rights_right.mono _ _ _ _)
   | (with_reducible exact LeO.refl _)
   | (with_reducible exact LeO.none _)
   | (with_reducible refine LeO.ite ?_ ?_)
   | (with_reducible refine LeO.bind ?_ (fun _ => ?_))
   | exact ih0 _ _ _ _
   | exact rights_right.mono _ _ _ _
   | exact LeO.none _
   | refine LeO.ite ?_ ?_
   | refine LeO.bind ?_ (fun _ => ?_)
theorem rights_Text.mono : ∀ a0 a1 a2 k, LeO (rights_Text.f k a0 a1 a2) (rights_Text.f (k + 1) a0 a1 a2) := by
 intro a0 a1 a2 k
 have ih0 := rights_Text.mono_l k
 unfold rights_Text.f
 repeat' first
   | (with_reducible exact ih0 _ _ _ _)
   | (with_reducible exact rights_right.mono _ _ _ _)
   | (with_reducible exact LeO.refl _)
   | (with_reducible exact LeO.none _)
   | (with_reducible refine LeO.ite ?_ ?_)
   | (with_reducible refine LeO.bind ?_ (fun _ => ?_))
   | exact ih0 _ _ _ _
   | exact rights_right.mono _ _ _ _
   | exact LeO.none _
   | refine LeO.ite ?_ ?_
   | refine LeO.bind ?_ (fun _ => ?_)
set_option maxHeartbeats 8000000 in
set_option maxRecDepth 100000 in
theorem rights_Text.calls (k : Nat) (a0_0 : Int) (a0_1 : Int) (a0_2 : Int) (r : ByteArray) (w : World) (hG2 : Aside0 (G2 w)) (h : rights_Text.f k a0_0 a0_1 a0_2 = some r) :
  Calls Tryd.prog 21 #[.agg #[.int .i64 a0_0, .int .i64 a0_1, .int .i64 a0_2]] w fun e w' => e = .returned (.string r) ∧ Below w.heap.size w w' := by
 have hu40 := Tryd.underlying40
 have HB := Aside0.mk (Below.refl w.heap.size w)
 have H : (if (a0_0 == 0 && (a0_1 == 0 && (a0_2 == 0))) = true then (if 0 < 11 then (some (rdOf ByteArray.empty gt2_0 0)) else (none)) else ((rights_right.f k a0_0 a0_1 a0_2).bind fun t104 => (if t104 = true then (if 0 ≤ a0_0 then (if a0_0 < 11 then (if a0_1 > 0 then ((strconv_Itoa.f a0_1).bind fun t106 => (if 1 + t106.size ≤ 9223372036854775807 then (if (rdOf ByteArray.empty gt2_0 a0_0).size + ((⟨#[32]⟩ : ByteArray) ++ t106).size ≤ 9223372036854775807 then (rights_Text.j0 k ((rdOf ByteArray.empty gt2_0 a0_0) ++ ((⟨#[32]⟩ : ByteArray) ++ t106)) a0_0 a0_1 a0_2) else (none)) else (none))) else (rights_Text.j0 k (rdOf ByteArray.empty gt2_0 a0_0) a0_0 a0_1 a0_2)) else (none)) else (none)) else (some (⟨#[]⟩ : ByteArray))))) = some r := h
 clear h
 by_cases c2 : (a0_0 == 0 && (a0_1 == 0 && (a0_2 == 0))) = true
 ·
  rw [if_pos c2] at H
  have c2b0 : (a0_0 == 0 && (a0_1 == 0 && (a0_2 == 0))) = true := c2
  (try (have c2b1 : decide (a0_0 = 0 && (a0_1 == 0 && (a0_2 == 0))) = true := by simpa using c2))
  (try (have c2b2 : (a0_0 == 0 && (a0_1 == 0 && (a0_2 == 0))) = true := by simpa using c2))
  clear c2
  by_cases c3 : 0 < 11
  ·
   rw [if_pos c3] at H
   have c3b0 : decide (0 < 11) = true := decide_eq_true c3
   clear c3
   obtain rfl := Option.some.inj H
   go_enter Tryd.func21, Tryd.ntmps21
   go_wp2_with (first | ((with_reducible refine gate_dst (N := 1) rfl ?_); refine box_event ?hg (N := 1) ?hd (cs := #[.int .i64 a0_0, .int .i64 a0_1, .int .i64 a0_2]) (t := 40) ?hr ?_; (case hd => rfl); (case hg => rfl); (case hr => first | (go_simp; done) | (go_simp; rfl)); intro gb102 hg w4 hbox hb; have n0_ := Aside0.mk (below_step (by repeat (first | (with_reducible first | exact HB.out | apply below_alloc | apply pw_below_drewN | apply below_drew1) | exact HB.out)) hb); have n1_ := Aside0.mk (hbox); have n2_ := Aside0.mk ((by rw [hg]; exact (below_size (by repeat (first | (with_reducible first | exact HB.out | apply below_alloc | apply pw_below_drewN | apply below_drew1) | exact HB.out))) : w.heap.size ≤ gb102)); have n3_ := Aside0.mk ((by rw [hg]; exact (below_size (by repeat (first | (with_reducible first | exact HB.out | apply below_alloc | apply pw_below_drewN | apply below_drew1) | exact HB.out))) : w.heap.size ≤ gb102)); clear HB; have HB := n0_; have BK102 := n1_; have GW102 := n2_; have GE102 := n3_; clear n0_ n1_ n2_ n3_; clear hb hbox hg; have hcz5_0 : w4.cell? ⟨gb102, 0, none⟩ = some (.int .i64 a0_0) := (blk_cell BK102.out 0).trans rfl; have hcz5_1 : w4.cell? ⟨gb102, 1, none⟩ = some (.int .i64 a0_1) := (blk_cell BK102.out 1).trans rfl; have hcz5_2 : w4.cell? ⟨gb102, 2, none⟩ = some (.int .i64 a0_2) := (blk_cell BK102.out 2).trans rfl; have hfz5_0 := blk_frozen BK102.out 0; have hfz5_1 := blk_frozen BK102.out 1; have hfz5_2 := blk_frozen BK102.out 2; have p1036_0 : 0 ≤ (0 : Int) := (by omega); have q1036_0 : (0 : Int) < 11 := (by omega); have hx1036_0 := hG2.out.c0 (0 : Int) p1036_0 q1036_0; (try rw [show ((0 : Int)).toNat = 0 from rfl] at hx1036_0); (try simp only [Nat.reduceMul, Nat.zero_mul, Nat.zero_add, Nat.add_zero, Nat.reduceAdd] at hx1036_0); replace hx1036_0 := pw_cell_below HB.out hx1036_0; replace p1036_0 := eq_true p1036_0; replace q1036_0 := eq_true q1036_0))
   go_ret
   exact ⟨by first | rfl | (simp [errW_none, errW_some] <;> rfl) | (simp [*, errW_none, errW_some] <;> rfl) | (simp [*, errW_none, errW_some] <;> exact isEmpty_ne _), by repeat (first | (with_reducible first | exact HB.out | apply below_alloc | apply pw_below_drewN | apply below_drew1 | refine below_set ?_ GE102.out) | exact HB.out)⟩
  ·
   rw [if_neg c3] at H
   exact absurd H (by simp)
 ·
  rw [if_neg c2] at H
  have c2b0 : (a0_0 == 0 && (a0_1 == 0 && (a0_2 == 0))) = false := by simpa using c2
  (try (have c2b1 : decide (a0_0 = 0 && (a0_1 == 0 && (a0_2 == 0))) = false := by simpa using c2))
  (try (have c2b2 : (a0_0 == 0 && (a0_1 == 0 && (a0_2 == 0))) = false := by simpa using c2))
  (try (have c2b3 : ¬ (a0_0 = 0 && (a0_1 == 0 && (a0_2 == 0))) := by simpa using c2))
  clear c2
  replace H := Option.bind_eq_some_iff.mp H
  obtain ⟨t104, A70, H⟩ := H
  replace H : (if t104 = true then (if 0 ≤ a0_0 then (if a0_0 < 11 then (if a0_1 > 0 then ((strconv_Itoa.f a0_1).bind fun t106 => (if 1 + t106.size ≤ 9223372036854775807 then (if (rdOf ByteArray.empty gt2_0 a0_0).size + ((⟨#[32]⟩ : ByteArray) ++ t106).size ≤ 9223372036854775807 then (rights_Text.j0 k ((rdOf ByteArray.empty gt2_0 a0_0) ++ ((⟨#[32]⟩ : ByteArray) ++ t106)) a0_0 a0_1 a0_2) else (none)) else (none))) else (rights_Text.j0 k (rdOf ByteArray.empty gt2_0 a0_0) a0_0 a0_1 a0_2)) else (none)) else (none)) else (some (⟨#[]⟩ : ByteArray))) = some r := H
  have A7 := Aside0.mk A70
  clear A70
  by_cases c8 : t104 = true
  ·
   subst c8
   have H1 : (if 0 ≤ a0_0 then (if a0_0 < 11 then (if a0_1 > 0 then ((strconv_Itoa.f a0_1).bind fun t106 => (if 1 + t106.size ≤ 9223372036854775807 then (if (rdOf ByteArray.empty gt2_0 a0_0).size + ((⟨#[32]⟩ : ByteArray) ++ t106).size ≤ 9223372036854775807 then (rights_Text.j0 k ((rdOf ByteArray.empty gt2_0 a0_0) ++ ((⟨#[32]⟩ : ByteArray) ++ t106)) a0_0 a0_1 a0_2) else (none)) else (none))) else (rights_Text.j0 k (rdOf ByteArray.empty gt2_0 a0_0) a0_0 a0_1 a0_2)) else (none)) else (none)) = some r := by rw [if_pos rfl] at H; exact H
   clear H
   have H := H1
   clear H1
   by_cases c9 : 0 ≤ a0_0
   ·
    rw [if_pos c9] at H
    have c9b0 : decide (0 ≤ a0_0) = true := decide_eq_true c9
    clear c9
    by_cases c10 : a0_0 < 11
    ·
     rw [if_pos c10] at H
     have c10b0 : decide (a0_0 < 11) = true := decide_eq_true c10
     clear c10
     have HC11 := Aside0.mk H
     clear H
     go_enter Tryd.func21, Tryd.ntmps21
     go_upto_if 18 with (first | ((with_reducible refine gate_dst (N := 1) rfl ?_); refine box_event ?hg (N := 1) ?hd (cs := #[.int .i64 a0_0, .int .i64 a0_1, .int .i64 a0_2]) (t := 40) ?hr ?_; (case hd => rfl); (case hg => rfl); (case hr => first | (go_simp; done) | (go_simp; rfl)); intro gb102 hg w12 hbox hb; have n0_ := Aside0.mk (below_step (by repeat (first | (with_reducible first | exact HB.out | apply below_alloc | apply pw_below_drewN | apply below_drew1) | exact HB.out)) hb); have n1_ := Aside0.mk (hbox); have n2_ := Aside0.mk ((by rw [hg]; exact (below_size (by repeat (first | (with_reducible first | exact HB.out | apply below_alloc | apply pw_below_drewN | apply below_drew1) | exact HB.out))) : w.heap.size ≤ gb102)); have n3_ := Aside0.mk ((by rw [hg]; exact (below_size (by repeat (first | (with_reducible first | exact HB.out | apply below_alloc | apply pw_below_drewN | apply below_drew1) | exact HB.out))) : w.heap.size ≤ gb102)); clear HB; have HB := n0_; have BK102 := n1_; have GW102 := n2_; have GE102 := n3_; clear n0_ n1_ n2_ n3_; clear hb hbox hg; have hcz13_0 : w12.cell? ⟨gb102, 0, none⟩ = some (.int .i64 a0_0) := (blk_cell BK102.out 0).trans rfl; have hcz13_1 : w12.cell? ⟨gb102, 1, none⟩ = some (.int .i64 a0_1) := (blk_cell BK102.out 1).trans rfl; have hcz13_2 : w12.cell? ⟨gb102, 2, none⟩ = some (.int .i64 a0_2) := (blk_cell BK102.out 2).trans rfl; have hfz13_0 := blk_frozen BK102.out 0; have hfz13_1 := blk_frozen BK102.out 1; have hfz13_2 := blk_frozen BK102.out 2) | ((with_reducible refine gate_callee (f := 29) rfl ?_); refine goesL_ (some 10) rfl rfl Tryd.func29 (by kernel_rfl) rfl #[.agg #[.int .i64 a0_0, .int .i64 a0_1, .int .i64 a0_2]] rfl (by (try simp only [List.map_toArray, List.map_cons, List.map_nil]); first | done | rfl | (simp only [List.length_drop, List.length_take]; rfl)) ?_; (with_reducible refine (rights_right.calls k a0_0 a0_1 a0_2 true _ A7.out).mono ?_); rintro e w14 ⟨rfl, hb⟩; refine ⟨_, rfl, ?_⟩; have n0_ := Aside0.mk (blk_below (g := gb102) (o := .cells #[.int .i64 a0_0, .int .i64 a0_1, .int .i64 a0_2] 40 (0, 0)) (by (with_reducible repeat (first | refine blk_drewN ?_ _ | refine blk_drew ?_ | refine blk_alloc ?_ _)); exact BK102.out) hb); have n1_ := Aside0.mk (below_step (by repeat (first | (with_reducible first | exact HB.out | apply below_alloc | apply pw_below_drewN | apply below_drew1 | refine below_set ?_ GE102.out) | exact HB.out)) hb); clear BK102; clear HB; have BK102 := n0_; have HB := n1_; clear n0_ n1_; (try clear hb); (try clear hb2); (try clear hk); (try clear hi); have hcz15_0 : w14.cell? ⟨gb102, 0, none⟩ = some (.int .i64 a0_0) := (blk_cell BK102.out 0).trans rfl; have hcz15_1 : w14.cell? ⟨gb102, 1, none⟩ = some (.int .i64 a0_1) := (blk_cell BK102.out 1).trans rfl; have hcz15_2 : w14.cell? ⟨gb102, 2, none⟩ = some (.int .i64 a0_2) := (blk_cell BK102.out 2).trans rfl; have hfz15_0 := blk_frozen BK102.out 0; have hfz15_1 := blk_frozen BK102.out 1; have hfz15_2 := blk_frozen BK102.out 2; have p10516_0 : 0 ≤ (a0_0 : Int) := of_decide_eq_true (by first | (with_reducible assumption) | assumption); have q10516_0 : (a0_0 : Int) < 11 := of_decide_eq_true (by first | (with_reducible assumption) | assumption); have hx10516_0 := hG2.out.c0 (a0_0 : Int) p10516_0 q10516_0; replace hx10516_0 := pw_cell_below HB.out hx10516_0; replace p10516_0 := eq_true p10516_0; replace q10516_0 := eq_true q10516_0))
     (try simp only [Act.put, List.setIfInBounds_toArray, List.set_cons_zero, List.set_cons_succ])
     go_cut [3] (fun v3 wc => ∃ (kq : Nat) (x3_10 : ByteArray), v3 = .string x3_10 ∧ Aside0 (rights_Text.j0 kq x3_10 a0_0 a0_1 a0_2 = some r) ∧ Aside0 (kq ≤ k) ∧ Aside0 (wc.heap[gb102]? = some (.cells #[.int .i64 a0_0, .int .i64 a0_1, .int .i64 a0_2] 40 (0, 0))) ∧ Aside0 (Below w.heap.size w wc))
     case first =>
      have H := HC11.out
      clear HC11
      by_cases c17 : a0_1 > 0
      ·
       rw [if_pos c17] at H
       have c17b0 : decide (0 < a0_1) = true := decide_eq_true c17
       clear c17
       (first | rw [c17b0] | (simp only [i64_w, i32_w]; rw [c17b0]) | skip)
       replace H := Option.bind_eq_some_iff.mp H
       obtain ⟨t106, A180, H⟩ := H
       replace H : (if 1 + t106.size ≤ 9223372036854775807 then (if (rdOf ByteArray.empty gt2_0 a0_0).size + ((⟨#[32]⟩ : ByteArray) ++ t106).size ≤ 9223372036854775807 then (rights_Text.j0 k ((rdOf ByteArray.empty gt2_0 a0_0) ++ ((⟨#[32]⟩ : ByteArray) ++ t106)) a0_0 a0_1 a0_2) else (none)) else (none)) = some r := H
       have A18 := Aside0.mk A180
       clear A180
       by_cases c19 : 1 + t106.size ≤ 9223372036854775807
       ·
        rw [if_pos c19] at H
        have c19b0 := eq_true c19
        have c19b1 : decide (1 + t106.size ≤ 9223372036854775807) = true := decide_eq_true c19
        try have c19b2 : (9223372036854775807 < 1 + t106.size) = False := eq_false (Nat.not_lt.2 c19)
        by_cases c20 : (rdOf ByteArray.empty gt2_0 a0_0).size + ((⟨#[32]⟩ : ByteArray) ++ t106).size ≤ 9223372036854775807
        ·
         rw [if_pos c20] at H
         have c20b0 := eq_true c20
         have c20b1 : decide ((rdOf ByteArray.empty gt2_0 a0_0).size + ((⟨#[32]⟩ : ByteArray) ++ t106).size ≤ 9223372036854775807) = true := decide_eq_true c20
         try have c20b2 : (9223372036854775807 < (rdOf ByteArray.empty gt2_0 a0_0).size + ((⟨#[32]⟩ : ByteArray) ++ t106).size) = False := eq_false (Nat.not_lt.2 c20)
         (try have c20b3 : (9223372036854775807 < (rdOf ByteArray.empty gt2_0 a0_0).size + 1 + t106.size) = False := (by have h_ := c20; simp only [ByteArray.size_append] at h_; exact eq_false (Nat.not_lt.2 h_)))
         (try have c20b4 : ((rdOf ByteArray.empty gt2_0 a0_0).size + 1 + t106.size ≤ 9223372036854775807) = True := (by have h_ := c20; simp only [ByteArray.size_append] at h_; exact eq_true h_))
         (try have c20b50 : (9223372036854775807 < (rdOf ByteArray.empty gt2_0 a0_0).size + (1 + t106.size)) = False := (by have h_ := c20; simp only [ByteArray.size_append, ba_lit, List.length_cons, List.length_nil] at h_; exact eq_false (by omega)))
         (try have c20b60 : ((rdOf ByteArray.empty gt2_0 a0_0).size + (1 + t106.size) ≤ 9223372036854775807) = True := (by have h_ := c20; simp only [ByteArray.size_append, ba_lit, List.length_cons, List.length_nil] at h_; exact eq_true (by omega)))
         have H' := Aside0.mk H
         clear H
         have hcz21_0 : w14.cell? ⟨gb102, 0, none⟩ = some (.int .i64 a0_0) := (blk_cell BK102.out 0).trans rfl
         have hcz21_1 : w14.cell? ⟨gb102, 1, none⟩ = some (.int .i64 a0_1) := (blk_cell BK102.out 1).trans rfl
         have hcz21_2 : w14.cell? ⟨gb102, 2, none⟩ = some (.int .i64 a0_2) := (blk_cell BK102.out 2).trans rfl
         have hfz21_0 := blk_frozen BK102.out 0
         have hfz21_1 := blk_frozen BK102.out 1
         have hfz21_2 := blk_frozen BK102.out 2
         go_wp2_with (first | ((with_reducible refine gate_callee (f := 31) rfl ?_); refine goesL_ (some 22) rfl rfl Tryd.func31 (by kernel_rfl) rfl #[.int .i64 a0_1] rfl (by (try simp only [List.map_toArray, List.map_cons, List.map_nil]); first | done | rfl | (simp only [List.length_drop, List.length_take]; rfl)) ?_; (with_reducible refine (strconv_Itoa.calls a0_1 t106 _ A18.out).mono ?_); rintro e w' ⟨rfl, ⟨nd, rfl⟩⟩; refine ⟨_, rfl, ?_⟩))
         go_meet
         case rel => exact ⟨_, ((rdOf ByteArray.empty gt2_0 a0_0) ++ ((⟨#[32]⟩ : ByteArray) ++ t106)), (by first | rfl | (simp; done) | (simp [*]; done)), H', ⟨by first | omega | exact Nat.le_refl _⟩, ⟨by (with_reducible repeat (first | refine blk_drewN ?_ _ | refine blk_drew ?_ | refine blk_alloc ?_ _)); exact BK102.out⟩, ⟨by repeat (first | (with_reducible first | exact HB.out | apply below_alloc | apply pw_below_drewN | apply below_drew1 | refine below_set ?_ GE102.out) | exact HB.out)⟩⟩
        ·
         rw [if_neg c20] at H
         exact absurd H (by simp)
       ·
        rw [if_neg c19] at H
        exact absurd H (by simp)
      ·
       rw [if_neg c17] at H
       have c17b0 : decide (0 < a0_1) = false := decide_eq_false c17
       clear c17
       (first | rw [c17b0] | (simp only [i64_w, i32_w]; rw [c17b0]) | skip)
       have H' := Aside0.mk H
       clear H
       go_wp2
       go_meet
       case rel => exact ⟨_, (rdOf ByteArray.empty gt2_0 a0_0), (by first | rfl | (simp; done) | (simp [*]; done)), H', ⟨by first | omega | exact Nat.le_refl _⟩, ⟨by (with_reducible repeat (first | refine blk_drewN ?_ _ | refine blk_drew ?_ | refine blk_alloc ?_ _)); exact BK102.out⟩, ⟨by repeat (first | (with_reducible first | exact HB.out | apply below_alloc | apply pw_below_drewN | apply below_drew1 | refine below_set ?_ GE102.out) | exact HB.out)⟩⟩
     case rest =>
      clear HC11
      try clear c1
      try clear p1
      try clear q1
      try clear hx1
      try clear c2
      try clear c2b0
      try clear c2b1
      try clear c2b2
      try clear p2
      try clear c3
      try clear c3b0
      try clear c8
      try clear c9
      try clear c9b0
      try clear c10
      try clear c10b0
      try clear p10
      try clear q10
      try clear hx10
      try clear c17
      try clear c17b0
      try clear c19
      try clear c19b0
      try clear c19b1
      try clear c19b2
      try clear c20
      try clear c20b0
      try clear c20b1
      try clear c20b2
      try clear c21
      try clear hcz13_0
      try clear hcz13_1
      try clear hcz13_2
      try clear hcz15_0
      try clear hcz15_1
      try clear hcz15_2
      try clear hcz21_0
      try clear hcz21_1
      try clear hcz21_2
      try clear hcz5_0
      try clear hcz5_1
      try clear hcz5_2
      try clear hfz13_0
      try clear hfz13_1
      try clear hfz13_2
      try clear hfz15_0
      try clear hfz15_1
      try clear hfz15_2
      try clear hfz21_0
      try clear hfz21_1
      try clear hfz21_2
      try clear hfz5_0
      try clear hfz5_1
      try clear hfz5_2
      try clear hx1036_0
      try clear hx10516_0
      obtain ⟨kq, x3_10, rfl, HA, HJ10, BK102, HB⟩ := hcut
      cases kq with
      | zero => exact absurd HA.out (by simp [rights_Text.j0])
      | succ kj10 =>
       have H := HA.out
       clear HA
       simp only [rights_Text.j0] at H
       by_cases c22 : a0_0 = 4
       ·
        rw [if_pos c22] at H
        have c22b0 : (a0_0 == 4) = true := beq_iff_eq.mpr c22
        have c22b1 : (a0_0 != 4) = false := bne_eq_false_iff_eq.mpr c22
        clear c22
        replace H := Option.bind_eq_some_iff.mp H
        obtain ⟨t107, A230, H⟩ := H
        replace H : (if 8 + t107.size ≤ 9223372036854775807 then (if x3_10.size + ((⟨#[32, 100, 111, 109, 97, 105, 110, 32]⟩ : ByteArray) ++ t107).size ≤ 9223372036854775807 then (some (x3_10 ++ ((⟨#[32, 100, 111, 109, 97, 105, 110, 32]⟩ : ByteArray) ++ t107))) else (none)) else (none)) = some r := H
        have A23 := Aside0.mk A230
        clear A230
        by_cases c24 : 8 + t107.size ≤ 9223372036854775807
        ·
         rw [if_pos c24] at H
         have c24b0 := eq_true c24
         have c24b1 : decide (8 + t107.size ≤ 9223372036854775807) = true := decide_eq_true c24
         try have c24b2 : (9223372036854775807 < 8 + t107.size) = False := eq_false (Nat.not_lt.2 c24)
         by_cases c25 : x3_10.size + ((⟨#[32, 100, 111, 109, 97, 105, 110, 32]⟩ : ByteArray) ++ t107).size ≤ 9223372036854775807
         ·
          rw [if_pos c25] at H
          have c25b0 := eq_true c25
          have c25b1 : decide (x3_10.size + ((⟨#[32, 100, 111, 109, 97, 105, 110, 32]⟩ : ByteArray) ++ t107).size ≤ 9223372036854775807) = true := decide_eq_true c25
          try have c25b2 : (9223372036854775807 < x3_10.size + ((⟨#[32, 100, 111, 109, 97, 105, 110, 32]⟩ : ByteArray) ++ t107).size) = False := eq_false (Nat.not_lt.2 c25)
          (try have c25b3 : (9223372036854775807 < x3_10.size + 8 + t107.size) = False := (by have h_ := c25; simp only [ByteArray.size_append] at h_; exact eq_false (Nat.not_lt.2 h_)))
          (try have c25b4 : (x3_10.size + 8 + t107.size ≤ 9223372036854775807) = True := (by have h_ := c25; simp only [ByteArray.size_append] at h_; exact eq_true h_))
          (try have c25b50 : (9223372036854775807 < x3_10.size + (8 + t107.size)) = False := (by have h_ := c25; simp only [ByteArray.size_append, ba_lit, List.length_cons, List.length_nil] at h_; exact eq_false (by omega)))
          (try have c25b60 : (x3_10.size + (8 + t107.size) ≤ 9223372036854775807) = True := (by have h_ := c25; simp only [ByteArray.size_append, ba_lit, List.length_cons, List.length_nil] at h_; exact eq_true (by omega)))
          obtain rfl := Option.some.inj H
          have hcz26_0 : wc.cell? ⟨gb102, 0, none⟩ = some (.int .i64 a0_0) := (blk_cell BK102.out 0).trans rfl
          have hcz26_1 : wc.cell? ⟨gb102, 1, none⟩ = some (.int .i64 a0_1) := (blk_cell BK102.out 1).trans rfl
          have hcz26_2 : wc.cell? ⟨gb102, 2, none⟩ = some (.int .i64 a0_2) := (blk_cell BK102.out 2).trans rfl
          have hfz26_0 := blk_frozen BK102.out 0
          have hfz26_1 := blk_frozen BK102.out 1
          have hfz26_2 := blk_frozen BK102.out 2
          go_wp2_with (first | ((with_reducible refine gate_callee (f := 31) rfl ?_); refine goesL_ (some 36) rfl rfl Tryd.func31 (by kernel_rfl) rfl #[.int .i64 a0_2] rfl (by (try simp only [List.map_toArray, List.map_cons, List.map_nil]); first | done | rfl | (simp only [List.length_drop, List.length_take]; rfl)) ?_; (with_reducible refine (strconv_Itoa.calls a0_2 t107 _ A23.out).mono ?_); rintro e w' ⟨rfl, ⟨nd, rfl⟩⟩; refine ⟨_, rfl, ?_⟩))
          go_ret
          exact ⟨by first | rfl | (simp [errW_none, errW_some] <;> rfl) | (simp [*, errW_none, errW_some] <;> rfl) | (simp [*, errW_none, errW_some] <;> exact isEmpty_ne _), by repeat (first | (with_reducible first | exact HB.out | apply below_alloc | apply pw_below_drewN | apply below_drew1 | refine below_set ?_ GE102.out) | exact HB.out)⟩
         ·
          rw [if_neg c25] at H
          exact absurd H (by simp)
        ·
         rw [if_neg c24] at H
         exact absurd H (by simp)
       ·
        rw [if_neg c22] at H
        have c22b0 : (a0_0 == 4) = false := beq_eq_false_iff_ne.mpr c22
        have c22b1 : (a0_0 != 4) = true := bne_iff_ne.mpr c22
        by_cases c27 : a0_0 = 5
        ·
         rw [if_pos c27] at H
         have c27b0 : (a0_0 == 5) = true := beq_iff_eq.mpr c27
         have c27b1 : (a0_0 != 5) = false := bne_eq_false_iff_eq.mpr c27
         clear c27
         replace H := Option.bind_eq_some_iff.mp H
         obtain ⟨t108, A280, H⟩ := H
         replace H : (if 8 + t108.size ≤ 9223372036854775807 then (if x3_10.size + ((⟨#[32, 100, 111, 109, 97, 105, 110, 32]⟩ : ByteArray) ++ t108).size ≤ 9223372036854775807 then (some (x3_10 ++ ((⟨#[32, 100, 111, 109, 97, 105, 110, 32]⟩ : ByteArray) ++ t108))) else (none)) else (none)) = some r := H
         have A28 := Aside0.mk A280
         clear A280
         by_cases c29 : 8 + t108.size ≤ 9223372036854775807
         ·
          rw [if_pos c29] at H
          have c29b0 := eq_true c29
          have c29b1 : decide (8 + t108.size ≤ 9223372036854775807) = true := decide_eq_true c29
          try have c29b2 : (9223372036854775807 < 8 + t108.size) = False := eq_false (Nat.not_lt.2 c29)
          by_cases c30 : x3_10.size + ((⟨#[32, 100, 111, 109, 97, 105, 110, 32]⟩ : ByteArray) ++ t108).size ≤ 9223372036854775807
          ·
           rw [if_pos c30] at H
           have c30b0 := eq_true c30
           have c30b1 : decide (x3_10.size + ((⟨#[32, 100, 111, 109, 97, 105, 110, 32]⟩ : ByteArray) ++ t108).size ≤ 9223372036854775807) = true := decide_eq_true c30
           try have c30b2 : (9223372036854775807 < x3_10.size + ((⟨#[32, 100, 111, 109, 97, 105, 110, 32]⟩ : ByteArray) ++ t108).size) = False := eq_false (Nat.not_lt.2 c30)
           (try have c30b3 : (9223372036854775807 < x3_10.size + 8 + t108.size) = False := (by have h_ := c30; simp only [ByteArray.size_append] at h_; exact eq_false (Nat.not_lt.2 h_)))
           (try have c30b4 : (x3_10.size + 8 + t108.size ≤ 9223372036854775807) = True := (by have h_ := c30; simp only [ByteArray.size_append] at h_; exact eq_true h_))
           (try have c30b50 : (9223372036854775807 < x3_10.size + (8 + t108.size)) = False := (by have h_ := c30; simp only [ByteArray.size_append, ba_lit, List.length_cons, List.length_nil] at h_; exact eq_false (by omega)))
           (try have c30b60 : (x3_10.size + (8 + t108.size) ≤ 9223372036854775807) = True := (by have h_ := c30; simp only [ByteArray.size_append, ba_lit, List.length_cons, List.length_nil] at h_; exact eq_true (by omega)))
           obtain rfl := Option.some.inj H
           have hcz31_0 : wc.cell? ⟨gb102, 0, none⟩ = some (.int .i64 a0_0) := (blk_cell BK102.out 0).trans rfl
           have hcz31_1 : wc.cell? ⟨gb102, 1, none⟩ = some (.int .i64 a0_1) := (blk_cell BK102.out 1).trans rfl
           have hcz31_2 : wc.cell? ⟨gb102, 2, none⟩ = some (.int .i64 a0_2) := (blk_cell BK102.out 2).trans rfl
           have hfz31_0 := blk_frozen BK102.out 0
           have hfz31_1 := blk_frozen BK102.out 1
           have hfz31_2 := blk_frozen BK102.out 2
           go_wp2_with (first | ((with_reducible refine gate_callee (f := 31) rfl ?_); refine goesL_ (some 36) rfl rfl Tryd.func31 (by kernel_rfl) rfl #[.int .i64 a0_2] rfl (by (try simp only [List.map_toArray, List.map_cons, List.map_nil]); first | done | rfl | (simp only [List.length_drop, List.length_take]; rfl)) ?_; (with_reducible refine (strconv_Itoa.calls a0_2 t108 _ A28.out).mono ?_); rintro e w' ⟨rfl, ⟨nd, rfl⟩⟩; refine ⟨_, rfl, ?_⟩))
           go_ret
           exact ⟨by first | rfl | (simp [errW_none, errW_some] <;> rfl) | (simp [*, errW_none, errW_some] <;> rfl) | (simp [*, errW_none, errW_some] <;> exact isEmpty_ne _), by repeat (first | (with_reducible first | exact HB.out | apply below_alloc | apply pw_below_drewN | apply below_drew1 | refine below_set ?_ GE102.out) | exact HB.out)⟩
          ·
           rw [if_neg c30] at H
           exact absurd H (by simp)
         ·
          rw [if_neg c29] at H
          exact absurd H (by simp)
        ·
         rw [if_neg c27] at H
         have c27b0 : (a0_0 == 5) = false := beq_eq_false_iff_ne.mpr c27
         have c27b1 : (a0_0 != 5) = true := bne_iff_ne.mpr c27
         by_cases c32 : a0_0 = 7
         ·
          rw [if_pos c32] at H
          have c32b0 : (a0_0 == 7) = true := beq_iff_eq.mpr c32
          have c32b1 : (a0_0 != 7) = false := bne_eq_false_iff_eq.mpr c32
          clear c32
          replace H := Option.bind_eq_some_iff.mp H
          obtain ⟨t109, A330, H⟩ := H
          replace H : (if 8 + t109.size ≤ 9223372036854775807 then (if x3_10.size + ((⟨#[32, 100, 111, 109, 97, 105, 110, 32]⟩ : ByteArray) ++ t109).size ≤ 9223372036854775807 then (some (x3_10 ++ ((⟨#[32, 100, 111, 109, 97, 105, 110, 32]⟩ : ByteArray) ++ t109))) else (none)) else (none)) = some r := H
          have A33 := Aside0.mk A330
          clear A330
          by_cases c34 : 8 + t109.size ≤ 9223372036854775807
          ·
           rw [if_pos c34] at H
           have c34b0 := eq_true c34
           have c34b1 : decide (8 + t109.size ≤ 9223372036854775807) = true := decide_eq_true c34
           try have c34b2 : (9223372036854775807 < 8 + t109.size) = False := eq_false (Nat.not_lt.2 c34)
           by_cases c35 : x3_10.size + ((⟨#[32, 100, 111, 109, 97, 105, 110, 32]⟩ : ByteArray) ++ t109).size ≤ 9223372036854775807
           ·
            rw [if_pos c35] at H
            have c35b0 := eq_true c35
            have c35b1 : decide (x3_10.size + ((⟨#[32, 100, 111, 109, 97, 105, 110, 32]⟩ : ByteArray) ++ t109).size ≤ 9223372036854775807) = true := decide_eq_true c35
            try have c35b2 : (9223372036854775807 < x3_10.size + ((⟨#[32, 100, 111, 109, 97, 105, 110, 32]⟩ : ByteArray) ++ t109).size) = False := eq_false (Nat.not_lt.2 c35)
            (try have c35b3 : (9223372036854775807 < x3_10.size + 8 + t109.size) = False := (by have h_ := c35; simp only [ByteArray.size_append] at h_; exact eq_false (Nat.not_lt.2 h_)))
            (try have c35b4 : (x3_10.size + 8 + t109.size ≤ 9223372036854775807) = True := (by have h_ := c35; simp only [ByteArray.size_append] at h_; exact eq_true h_))
            (try have c35b50 : (9223372036854775807 < x3_10.size + (8 + t109.size)) = False := (by have h_ := c35; simp only [ByteArray.size_append, ba_lit, List.length_cons, List.length_nil] at h_; exact eq_false (by omega)))
            (try have c35b60 : (x3_10.size + (8 + t109.size) ≤ 9223372036854775807) = True := (by have h_ := c35; simp only [ByteArray.size_append, ba_lit, List.length_cons, List.length_nil] at h_; exact eq_true (by omega)))
            obtain rfl := Option.some.inj H
            have hcz36_0 : wc.cell? ⟨gb102, 0, none⟩ = some (.int .i64 a0_0) := (blk_cell BK102.out 0).trans rfl
            have hcz36_1 : wc.cell? ⟨gb102, 1, none⟩ = some (.int .i64 a0_1) := (blk_cell BK102.out 1).trans rfl
            have hcz36_2 : wc.cell? ⟨gb102, 2, none⟩ = some (.int .i64 a0_2) := (blk_cell BK102.out 2).trans rfl
            have hfz36_0 := blk_frozen BK102.out 0
            have hfz36_1 := blk_frozen BK102.out 1
            have hfz36_2 := blk_frozen BK102.out 2
            go_wp2_with (first | ((with_reducible refine gate_callee (f := 31) rfl ?_); refine goesL_ (some 36) rfl rfl Tryd.func31 (by kernel_rfl) rfl #[.int .i64 a0_2] rfl (by (try simp only [List.map_toArray, List.map_cons, List.map_nil]); first | done | rfl | (simp only [List.length_drop, List.length_take]; rfl)) ?_; (with_reducible refine (strconv_Itoa.calls a0_2 t109 _ A33.out).mono ?_); rintro e w' ⟨rfl, ⟨nd, rfl⟩⟩; refine ⟨_, rfl, ?_⟩))
            go_ret
            exact ⟨by first | rfl | (simp [errW_none, errW_some] <;> rfl) | (simp [*, errW_none, errW_some] <;> rfl) | (simp [*, errW_none, errW_some] <;> exact isEmpty_ne _), by repeat (first | (with_reducible first | exact HB.out | apply below_alloc | apply pw_below_drewN | apply below_drew1 | refine below_set ?_ GE102.out) | exact HB.out)⟩
           ·
            rw [if_neg c35] at H
            exact absurd H (by simp)
          ·
           rw [if_neg c34] at H
           exact absurd H (by simp)
         ·
          rw [if_neg c32] at H
          have c32b0 : (a0_0 == 7) = false := beq_eq_false_iff_ne.mpr c32
          have c32b1 : (a0_0 != 7) = true := bne_iff_ne.mpr c32
          by_cases c37 : a0_0 = 8
          ·
           rw [if_pos c37] at H
           have c37b0 : (a0_0 == 8) = true := beq_iff_eq.mpr c37
           have c37b1 : (a0_0 != 8) = false := bne_eq_false_iff_eq.mpr c37
           clear c37
           replace H := Option.bind_eq_some_iff.mp H
           obtain ⟨t110, A380, H⟩ := H
           replace H : (if 8 + t110.size ≤ 9223372036854775807 then (if x3_10.size + ((⟨#[32, 100, 111, 109, 97, 105, 110, 32]⟩ : ByteArray) ++ t110).size ≤ 9223372036854775807 then (some (x3_10 ++ ((⟨#[32, 100, 111, 109, 97, 105, 110, 32]⟩ : ByteArray) ++ t110))) else (none)) else (none)) = some r := H
           have A38 := Aside0.mk A380
           clear A380
           by_cases c39 : 8 + t110.size ≤ 9223372036854775807
           ·
            rw [if_pos c39] at H
            have c39b0 := eq_true c39
            have c39b1 : decide (8 + t110.size ≤ 9223372036854775807) = true := decide_eq_true c39
            try have c39b2 : (9223372036854775807 < 8 + t110.size) = False := eq_false (Nat.not_lt.2 c39)
            by_cases c40 : x3_10.size + ((⟨#[32, 100, 111, 109, 97, 105, 110, 32]⟩ : ByteArray) ++ t110).size ≤ 9223372036854775807
            ·
             rw [if_pos c40] at H
             have c40b0 := eq_true c40
             have c40b1 : decide (x3_10.size + ((⟨#[32, 100, 111, 109, 97, 105, 110, 32]⟩ : ByteArray) ++ t110).size ≤ 9223372036854775807) = true := decide_eq_true c40
             try have c40b2 : (9223372036854775807 < x3_10.size + ((⟨#[32, 100, 111, 109, 97, 105, 110, 32]⟩ : ByteArray) ++ t110).size) = False := eq_false (Nat.not_lt.2 c40)
             (try have c40b3 : (9223372036854775807 < x3_10.size + 8 + t110.size) = False := (by have h_ := c40; simp only [ByteArray.size_append] at h_; exact eq_false (Nat.not_lt.2 h_)))
             (try have c40b4 : (x3_10.size + 8 + t110.size ≤ 9223372036854775807) = True := (by have h_ := c40; simp only [ByteArray.size_append] at h_; exact eq_true h_))
             (try have c40b50 : (9223372036854775807 < x3_10.size + (8 + t110.size)) = False := (by have h_ := c40; simp only [ByteArray.size_append, ba_lit, List.length_cons, List.length_nil] at h_; exact eq_false (by omega)))
             (try have c40b60 : (x3_10.size + (8 + t110.size) ≤ 9223372036854775807) = True := (by have h_ := c40; simp only [ByteArray.size_append, ba_lit, List.length_cons, List.length_nil] at h_; exact eq_true (by omega)))
             obtain rfl := Option.some.inj H
             have hcz41_0 : wc.cell? ⟨gb102, 0, none⟩ = some (.int .i64 a0_0) := (blk_cell BK102.out 0).trans rfl
             have hcz41_1 : wc.cell? ⟨gb102, 1, none⟩ = some (.int .i64 a0_1) := (blk_cell BK102.out 1).trans rfl
             have hcz41_2 : wc.cell? ⟨gb102, 2, none⟩ = some (.int .i64 a0_2) := (blk_cell BK102.out 2).trans rfl
             have hfz41_0 := blk_frozen BK102.out 0
             have hfz41_1 := blk_frozen BK102.out 1
             have hfz41_2 := blk_frozen BK102.out 2
             go_wp2_with (first | ((with_reducible refine gate_callee (f := 31) rfl ?_); refine goesL_ (some 36) rfl rfl Tryd.func31 (by kernel_rfl) rfl #[.int .i64 a0_2] rfl (by (try simp only [List.map_toArray, List.map_cons, List.map_nil]); first | done | rfl | (simp only [List.length_drop, List.length_take]; rfl)) ?_; (with_reducible refine (strconv_Itoa.calls a0_2 t110 _ A38.out).mono ?_); rintro e w' ⟨rfl, ⟨nd, rfl⟩⟩; refine ⟨_, rfl, ?_⟩))
             go_ret
             exact ⟨by first | rfl | (simp [errW_none, errW_some] <;> rfl) | (simp [*, errW_none, errW_some] <;> rfl) | (simp [*, errW_none, errW_some] <;> exact isEmpty_ne _), by repeat (first | (with_reducible first | exact HB.out | apply below_alloc | apply pw_below_drewN | apply below_drew1 | refine below_set ?_ GE102.out) | exact HB.out)⟩
            ·
             rw [if_neg c40] at H
             exact absurd H (by simp)
           ·
            rw [if_neg c39] at H
            exact absurd H (by simp)
          ·
           rw [if_neg c37] at H
           have c37b0 : (a0_0 == 8) = false := beq_eq_false_iff_ne.mpr c37
           have c37b1 : (a0_0 != 8) = true := bne_iff_ne.mpr c37
           by_cases c42 : a0_0 = 9
           ·
            rw [if_pos c42] at H
            have c42b0 : (a0_0 == 9) = true := beq_iff_eq.mpr c42
            have c42b1 : (a0_0 != 9) = false := bne_eq_false_iff_eq.mpr c42
            clear c42
            replace H := Option.bind_eq_some_iff.mp H
            obtain ⟨t111, A430, H⟩ := H
            replace H : (if 8 + t111.size ≤ 9223372036854775807 then (if x3_10.size + ((⟨#[32, 100, 111, 109, 97, 105, 110, 32]⟩ : ByteArray) ++ t111).size ≤ 9223372036854775807 then (some (x3_10 ++ ((⟨#[32, 100, 111, 109, 97, 105, 110, 32]⟩ : ByteArray) ++ t111))) else (none)) else (none)) = some r := H
            have A43 := Aside0.mk A430
            clear A430
            by_cases c44 : 8 + t111.size ≤ 9223372036854775807
            ·
             rw [if_pos c44] at H
             have c44b0 := eq_true c44
             have c44b1 : decide (8 + t111.size ≤ 9223372036854775807) = true := decide_eq_true c44
             try have c44b2 : (9223372036854775807 < 8 + t111.size) = False := eq_false (Nat.not_lt.2 c44)
             by_cases c45 : x3_10.size + ((⟨#[32, 100, 111, 109, 97, 105, 110, 32]⟩ : ByteArray) ++ t111).size ≤ 9223372036854775807
             ·
              rw [if_pos c45] at H
              have c45b0 := eq_true c45
              have c45b1 : decide (x3_10.size + ((⟨#[32, 100, 111, 109, 97, 105, 110, 32]⟩ : ByteArray) ++ t111).size ≤ 9223372036854775807) = true := decide_eq_true c45
              try have c45b2 : (9223372036854775807 < x3_10.size + ((⟨#[32, 100, 111, 109, 97, 105, 110, 32]⟩ : ByteArray) ++ t111).size) = False := eq_false (Nat.not_lt.2 c45)
              (try have c45b3 : (9223372036854775807 < x3_10.size + 8 + t111.size) = False := (by have h_ := c45; simp only [ByteArray.size_append] at h_; exact eq_false (Nat.not_lt.2 h_)))
              (try have c45b4 : (x3_10.size + 8 + t111.size ≤ 9223372036854775807) = True := (by have h_ := c45; simp only [ByteArray.size_append] at h_; exact eq_true h_))
              (try have c45b50 : (9223372036854775807 < x3_10.size + (8 + t111.size)) = False := (by have h_ := c45; simp only [ByteArray.size_append, ba_lit, List.length_cons, List.length_nil] at h_; exact eq_false (by omega)))
              (try have c45b60 : (x3_10.size + (8 + t111.size) ≤ 9223372036854775807) = True := (by have h_ := c45; simp only [ByteArray.size_append, ba_lit, List.length_cons, List.length_nil] at h_; exact eq_true (by omega)))
              obtain rfl := Option.some.inj H
              have hcz46_0 : wc.cell? ⟨gb102, 0, none⟩ = some (.int .i64 a0_0) := (blk_cell BK102.out 0).trans rfl
              have hcz46_1 : wc.cell? ⟨gb102, 1, none⟩ = some (.int .i64 a0_1) := (blk_cell BK102.out 1).trans rfl
              have hcz46_2 : wc.cell? ⟨gb102, 2, none⟩ = some (.int .i64 a0_2) := (blk_cell BK102.out 2).trans rfl
              have hfz46_0 := blk_frozen BK102.out 0
              have hfz46_1 := blk_frozen BK102.out 1
              have hfz46_2 := blk_frozen BK102.out 2
              go_wp2_with (first | ((with_reducible refine gate_callee (f := 31) rfl ?_); refine goesL_ (some 36) rfl rfl Tryd.func31 (by kernel_rfl) rfl #[.int .i64 a0_2] rfl (by (try simp only [List.map_toArray, List.map_cons, List.map_nil]); first | done | rfl | (simp only [List.length_drop, List.length_take]; rfl)) ?_; (with_reducible refine (strconv_Itoa.calls a0_2 t111 _ A43.out).mono ?_); rintro e w' ⟨rfl, ⟨nd, rfl⟩⟩; refine ⟨_, rfl, ?_⟩))
              go_ret
              exact ⟨by first | rfl | (simp [errW_none, errW_some] <;> rfl) | (simp [*, errW_none, errW_some] <;> rfl) | (simp [*, errW_none, errW_some] <;> exact isEmpty_ne _), by repeat (first | (with_reducible first | exact HB.out | apply below_alloc | apply pw_below_drewN | apply below_drew1 | refine below_set ?_ GE102.out) | exact HB.out)⟩
             ·
              rw [if_neg c45] at H
              exact absurd H (by simp)
            ·
             rw [if_neg c44] at H
             exact absurd H (by simp)
           ·
            rw [if_neg c42] at H
            have c42b0 : (a0_0 == 9) = false := beq_eq_false_iff_ne.mpr c42
            have c42b1 : (a0_0 != 9) = true := bne_iff_ne.mpr c42
            obtain rfl := Option.some.inj H
            have hcz47_0 : wc.cell? ⟨gb102, 0, none⟩ = some (.int .i64 a0_0) := (blk_cell BK102.out 0).trans rfl
            have hcz47_1 : wc.cell? ⟨gb102, 1, none⟩ = some (.int .i64 a0_1) := (blk_cell BK102.out 1).trans rfl
            have hcz47_2 : wc.cell? ⟨gb102, 2, none⟩ = some (.int .i64 a0_2) := (blk_cell BK102.out 2).trans rfl
            have hfz47_0 := blk_frozen BK102.out 0
            have hfz47_1 := blk_frozen BK102.out 1
            have hfz47_2 := blk_frozen BK102.out 2
            go_wp2
            go_ret
            exact ⟨by first | rfl | (simp [errW_none, errW_some] <;> rfl) | (simp [*, errW_none, errW_some] <;> rfl) | (simp [*, errW_none, errW_some] <;> exact isEmpty_ne _), by repeat (first | (with_reducible first | exact HB.out | apply below_alloc | apply pw_below_drewN | apply below_drew1 | refine below_set ?_ GE102.out) | exact HB.out)⟩
    ·
     rw [if_neg c10] at H
     exact absurd H (by simp)
   ·
    rw [if_neg c9] at H
    exact absurd H (by simp)
  ·
   replace c8 := Bool.eq_false_iff.mpr c8
   subst c8
   have H1 : (some (⟨#[]⟩ : ByteArray)) = some r := by rw [if_neg (show ¬ (false = true) by decide)] at H; exact H
   clear H
   have H := H1
   clear H1
   obtain rfl := Option.some.inj H
   go_enter Tryd.func21, Tryd.ntmps21
   go_wp2_with (first | ((with_reducible refine gate_dst (N := 1) rfl ?_); refine box_event ?hg (N := 1) ?hd (cs := #[.int .i64 a0_0, .int .i64 a0_1, .int .i64 a0_2]) (t := 40) ?hr ?_; (case hd => rfl); (case hg => rfl); (case hr => first | (go_simp; done) | (go_simp; rfl)); intro gb102 hg w48 hbox hb; have n0_ := Aside0.mk (below_step (by repeat (first | (with_reducible first | exact HB.out | apply below_alloc | apply pw_below_drewN | apply below_drew1) | exact HB.out)) hb); have n1_ := Aside0.mk (hbox); have n2_ := Aside0.mk ((by rw [hg]; exact (below_size (by repeat (first | (with_reducible first | exact HB.out | apply below_alloc | apply pw_below_drewN | apply below_drew1) | exact HB.out))) : w.heap.size ≤ gb102)); have n3_ := Aside0.mk ((by rw [hg]; exact (below_size (by repeat (first | (with_reducible first | exact HB.out | apply below_alloc | apply pw_below_drewN | apply below_drew1) | exact HB.out))) : w.heap.size ≤ gb102)); clear HB; have HB := n0_; have BK102 := n1_; have GW102 := n2_; have GE102 := n3_; clear n0_ n1_ n2_ n3_; clear hb hbox hg; have hcz49_0 : w48.cell? ⟨gb102, 0, none⟩ = some (.int .i64 a0_0) := (blk_cell BK102.out 0).trans rfl; have hcz49_1 : w48.cell? ⟨gb102, 1, none⟩ = some (.int .i64 a0_1) := (blk_cell BK102.out 1).trans rfl; have hcz49_2 : w48.cell? ⟨gb102, 2, none⟩ = some (.int .i64 a0_2) := (blk_cell BK102.out 2).trans rfl; have hfz49_0 := blk_frozen BK102.out 0; have hfz49_1 := blk_frozen BK102.out 1; have hfz49_2 := blk_frozen BK102.out 2) | ((with_reducible refine gate_callee (f := 29) rfl ?_); refine goesL_ (some 10) rfl rfl Tryd.func29 (by kernel_rfl) rfl #[.agg #[.int .i64 a0_0, .int .i64 a0_1, .int .i64 a0_2]] rfl (by (try simp only [List.map_toArray, List.map_cons, List.map_nil]); first | done | rfl | (simp only [List.length_drop, List.length_take]; rfl)) ?_; (with_reducible refine (rights_right.calls k a0_0 a0_1 a0_2 false _ A7.out).mono ?_); rintro e w50 ⟨rfl, hb⟩; refine ⟨_, rfl, ?_⟩; have n0_ := Aside0.mk (blk_below (g := gb102) (o := .cells #[.int .i64 a0_0, .int .i64 a0_1, .int .i64 a0_2] 40 (0, 0)) (by (with_reducible repeat (first | refine blk_drewN ?_ _ | refine blk_drew ?_ | refine blk_alloc ?_ _)); exact BK102.out) hb); have n1_ := Aside0.mk (below_step (by repeat (first | (with_reducible first | exact HB.out | apply below_alloc | apply pw_below_drewN | apply below_drew1 | refine below_set ?_ GE102.out) | exact HB.out)) hb); clear BK102; clear HB; have BK102 := n0_; have HB := n1_; clear n0_ n1_; (try clear hb); (try clear hb2); (try clear hk); (try clear hi)))
   go_ret
   exact ⟨by first | rfl | (simp [errW_none, errW_some] <;> rfl) | (simp [*, errW_none, errW_some] <;> rfl) | (simp [*, errW_none, errW_some] <;> exact isEmpty_ne _), by repeat (first | (with_reducible first | exact HB.out | apply below_alloc | apply pw_below_drewN | apply below_drew1 | refine below_set ?_ GE102.out) | exact HB.out)⟩

end Go.Proofs.YtglafffghbhnbaaDoor.S
