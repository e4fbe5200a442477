-- Written by a program of this session (wip/xprint.py), over the kit's print. Not trusted: Lean checks it.
import Derived.Test.YtihjlkdobdffjaaDoorS0
import Derived.Test.YtihjlkdobdffjaaDoorS2
import Derived.Test.YtihjlkdobdffjaaDoorS6
import Derived.Test.YtihjlkdobdffjaaDoorS12
namespace Go.Proofs.YtihjlkdobdffjaaDoor.S
open Go.Proofs.YtihjlkdobdffjaaDoorG
open Go.RowKit Go.Proofs.YtihjlkdobdffjaaDoorW.PrintWords Go.Proofs.YtihjlkdobdffjaaDoorW.PrintLast Go.Proofs.YtihjlkdobdffjaaDoorW.PrintMore
attribute [local go_sem] max2_int min2_int max_two min_two max_three min_three max_four min_four   -- for this text's walks alone
set_option linter.unusedVariables false
set_option linter.unusedSimpArgs false

/-! ### atlaslaw01_WordsAgain: function 4 -/
mutual
def atlaslaw01_WordsAgain.j0 : Nat → Int → Int → ByteArray → Bool → Option (Bool)
 | 0, _, _, _, _ => none
 | k + 1, x0, x1, x5, x29 => if x29 = true then (some false) else (atlaslaw01_WordsAgain.l0 k x0 x1 x5 (⟨#[]⟩ : ByteArray) 0)
def atlaslaw01_WordsAgain.l0 : Nat → Int → Int → ByteArray → ByteArray → Int → Option (Bool)
 | 0, _, _, _, _, _ => none
 | k + 1, x0, x1, x5, x6, x7 => if x7 < (Int.tmod x1 40) then (if x6.size + 1 ≤ 9223372036854775807 then (atlaslaw01_WordsAgain.l0 k x0 x1 x5 (x6 ++ (⟨#[48]⟩ : ByteArray)) (wrap64 (x7 + 1))) else (none)) else (atlaslaw01_WordsAgain.l1 k x0 x5 x6 (⟨#[48, 120]⟩ : ByteArray) 2)
def atlaslaw01_WordsAgain.l1 : Nat → Int → ByteArray → ByteArray → ByteArray → Int → Option (Bool)
 | 0, _, _, _, _, _ => none
 | k + 1, x0, x5, x6, x8, x9 => if x9 < (x5.size : Int) then (if x9 > 2 then (if x8.size + 1 ≤ 9223372036854775807 then (if 0 ≤ x9 then (if x9 ≤ (wrap64 (x9 + 1)) then (if (wrap64 (x9 + 1)) ≤ (x5.size : Int) then (if (x8 ++ (⟨#[95]⟩ : ByteArray)).size + (x5.extract (x9 : Int).toNat ((wrap64 (x9 + 1)) : Int).toNat).size ≤ 9223372036854775807 then (atlaslaw01_WordsAgain.l1 k x0 x5 x6 ((x8 ++ (⟨#[95]⟩ : ByteArray)) ++ (x5.extract (x9 : Int).toNat ((wrap64 (x9 + 1)) : Int).toNat)) (wrap64 (x9 + 1))) else (none)) else (none)) else (none)) else (none)) else (none)) else (if 0 ≤ x9 then (if x9 ≤ (wrap64 (x9 + 1)) then (if (wrap64 (x9 + 1)) ≤ (x5.size : Int) then (if x8.size + (x5.extract (x9 : Int).toNat ((wrap64 (x9 + 1)) : Int).toNat).size ≤ 9223372036854775807 then (atlaslaw01_WordsAgain.l1 k x0 x5 x6 (x8 ++ (x5.extract (x9 : Int).toNat ((wrap64 (x9 + 1)) : Int).toNat)) (wrap64 (x9 + 1))) else (none)) else (none)) else (none)) else (none))) else (atlaslaw01_WordsAgain.l2 k x0 x5 x6 x8 (⟨#[]⟩ : ByteArray) x0)
def atlaslaw01_WordsAgain.l2 : Nat → Int → ByteArray → ByteArray → ByteArray → ByteArray → Int → Option (Bool)
 | 0, _, _, _, _, _, _ => none
 | k + 1, x0, x5, x6, x8, x10, x11 => (some (([(IntKind.u64.wrap (48 + (Int.tmod x11 10))) % 256] : List Int) : List Int)).bind fun y119 => (if (strOfNums y119).size + x10.size ≤ 9223372036854775807 then (if x11 < 10 then (if 2 + x6.size ≤ 9223372036854775807 then (if 2 ≤ (x5.size : Int) then (if ((⟨#[48, 120]⟩ : ByteArray) ++ x6).size + (x5.extract 2 x5.size).size ≤ 9223372036854775807 then (if x6.size + ((strOfNums y119) ++ x10).size ≤ 9223372036854775807 then (atlaslaw01_WordsAgain.l3 k x0 x5 (([x5, ((⟨#[48, 120]⟩ : ByteArray) ++ x6) ++ (x5.extract 2 x5.size), x8, (strOfNums y119) ++ x10, x6 ++ ((strOfNums y119) ++ x10)] : List ByteArray)) 0) else (none)) else (none)) else (none)) else (none)) else (atlaslaw01_WordsAgain.l2 k x0 x5 x6 x8 ((strOfNums y119) ++ x10) (IntKind.u64.wrap (Int.tdiv x11 10)))) else (none))
def atlaslaw01_WordsAgain.l3 : Nat → Int → ByteArray → List ByteArray → Int → Option (Bool)
 | 0, _, _, _, _ => none
 | k + 1, x0, x5, x12, x13 => if x13 < (x12.length : Int) then (if 0 ≤ x13 then ((words_Number.f k (rdOf ByteArray.empty x12 x13)).bind fun bt126 => (if x0 < 1099511627776 then (if bt126.1 = x0 then (if bt126.2 = 0 then (if x0 ≥ 1099511627776 then (if bt126.1 = 0 then (if bt126.2 = 11 then (atlaslaw01_WordsAgain.l3 k x0 x5 x12 (wrap64 (x13 + 1))) else (some false)) else (some false)) else (atlaslaw01_WordsAgain.l3 k x0 x5 x12 (wrap64 (x13 + 1)))) else (some false)) else (some false)) else (if x0 ≥ 1099511627776 then (if bt126.1 = 0 then (if bt126.2 = 11 then (atlaslaw01_WordsAgain.l3 k x0 x5 x12 (wrap64 (x13 + 1))) else (some false)) else (some false)) else (atlaslaw01_WordsAgain.l3 k x0 x5 x12 (wrap64 (x13 + 1)))))) else (none)) else (if x5.size + 1 ≤ 9223372036854775807 then ((words_Number.f k (x5 ++ (⟨#[95]⟩ : ByteArray))).bind fun bt128 => (if bt128.1 = 0 then (some (bt128.2 == 11)) else (some false))) else (none))
end
def atlaslaw01_WordsAgain.f (k : Nat) (a0 : Int) (a1 : Int) : Option (Bool) := (atlaslaw01_alive.f k).bind fun t117 => (if t117 = true then ((words_Hex.f k a0).bind fun t118 => (if (t118.size : Int) < 3 then (atlaslaw01_WordsAgain.j0 k a0 a1 t118 true) else (if 0 ≤ 2 then (if 2 ≤ (t118.size : Int) then (atlaslaw01_WordsAgain.j0 k a0 a1 t118 ((t118.extract 0 2).toList != ([48, 120] : List UInt8))) else (none)) else (none)))) else (some false))
theorem atlaslaw01_WordsAgain.mono_l : ∀ k, (∀ y0 y1 y2 y3, LeO (atlaslaw01_WordsAgain.j0 k y0 y1 y2 y3) (atlaslaw01_WordsAgain.j0 (k + 1) y0 y1 y2 y3)) ∧ (∀ y0 y1 y2 y3 y4, LeO (atlaslaw01_WordsAgain.l0 k y0 y1 y2 y3 y4) (atlaslaw01_WordsAgain.l0 (k + 1) y0 y1 y2 y3 y4)) ∧ (∀ y0 y1 y2 y3 y4, LeO (atlaslaw01_WordsAgain.l1 k y0 y1 y2 y3 y4) (atlaslaw01_WordsAgain.l1 (k + 1) y0 y1 y2 y3 y4)) ∧ (∀ y0 y1 y2 y3 y4 y5, LeO (atlaslaw01_WordsAgain.l2 k y0 y1 y2 y3 y4 y5) (atlaslaw01_WordsAgain.l2 (k + 1) y0 y1 y2 y3 y4 y5)) ∧ (∀ y0 y1 y2 y3, LeO (atlaslaw01_WordsAgain.l3 k y0 y1 y2 y3) (atlaslaw01_WordsAgain.l3 (k + 1) y0 y1 y2 y3))
 | 0 => ⟨fun _ _ _ _ r h => by simp [atlaslaw01_WordsAgain.j0] at h, fun _ _ _ _ _ r h => by simp [atlaslaw01_WordsAgain.l0] at h, fun _ _ _ _ _ r h => by simp [atlaslaw01_WordsAgain.l1] at h, fun _ _ _ _ _ _ r h => by simp [atlaslaw01_WordsAgain.l2] at h, fun _ _ _ _ r h => by simp [atlaslaw01_WordsAgain.l3] at h⟩
 | k + 1 => by
  obtain ⟨ih0, ih1, ih2, ih3, ih4⟩ := atlaslaw01_WordsAgain.mono_l k
  refine ⟨?_, ?_, ?_, ?_, ?_⟩
  ·
   intro y0 y1 y2 y3
   unfold atlaslaw01_WordsAgain.j0
   repeat' first
   | (with_reducible exact ih0 _ _ _ _)
   | (with_reducible exact ih1 _ _ _ _ _)
   | (with_reducible exact ih2 _ _ _ _ _)
   | (with_reducible exact ih3 _ _ _ _ _ _)
   | (with_reducible exact ih4 _ _ _ _)
   | (with_reducible exact atlaslaw01_alive.mono _)
   | (with_reducible exact words_Hex.mono _ _)
   | (with_reducible exact words_Number.mono _ _)
   | (with_reducible exact LeO.refl _)
   | (with_reducible exact LeO.none _)
   | (with_reducible refine LeO.ite ?_ ?_)
   | (with_reducible refine LeO.bind ?_ (fun _ => ?_))
   | exact ih0 _ _ _ _
   | exact ih1 _ _ _ _ _
   | exact ih2 _ _ _ _ _
   | exact ih3 _ _ _ _ _ _
   | exact ih4 _ _ _ _
   | exact atlaslaw01_alive.mono _
   | exact words_Hex.mono _ _
   | exact words_Number.mono _ _
   | exact LeO.none _
   | refine LeO.ite ?_ ?_
   | refine LeO.bind ?_ (fun _ => ?_)
  ·
   intro y0 y1 y2 y3 y4
   unfold atlaslaw01_WordsAgain.l0
   repeat' first
   | (with_reducible exact ih0 _ _ _ _)
   | (with_reducible exact ih1 _ _ _ _ _)
   | (with_reducible exact ih2 _ _ _ _ _)
   | (with_reducible exact ih3 _ _ _ _ _ _)
   | (with_reducible exact ih4 _ _ _ _)
   | (with_reducible exact atlaslaw01_alive.mono _)
   | (with_reducible exact words_Hex.mono _ _)
   | (with_reducible exact words_Number.mono _ _)
   | (with_reducible exact LeO.refl _)
   | (with_reducible exact LeO.none _)
   | (with_reducible refine LeO.ite ?_ ?_)
   | (with_reducible refine LeO.bind ?_ (fun _ => ?_))
   | exact ih0 _ _ _ _
   | exact ih1 _ _ _ _ _
   | exact ih2 _ _ _ _ _
   | exact ih3 _ _ _ _ _ _
   | exact ih4 _ _ _ _
   | exact atlaslaw01_alive.mono _
   | exact words_Hex.mono _ _
   | exact words_Number.mono _ _
   | exact LeO.none _
   | refine LeO.ite ?_ ?_
   | refine LeO.bind ?_ (fun _ => ?_)
  ·
   intro y0 y1 y2 y3 y4
   unfold atlaslaw01_WordsAgain.l1
   repeat' first
   | (with_reducible exact ih0 _ _ _ _)
   | (with_reducible exact ih1 _ _ _ _ _)
   | (with_reducible exact ih2 _ _ _ _ _)
   | (with_reducible exact ih3 _ _ _ _ _ _)
   | (with_reducible exact ih4 _ _ _ _)
   | (with_reducible exact atlaslaw01_alive.mono _)
   | (with_reducible exact words_Hex.mono _ _)
   | (with_reducible exact words_Number.mono _ _)
   | (with_reducible exact LeO.refl _)
   | (with_reducible exact LeO.none _)
   | (with_reducible refine LeO.ite ?_ ?_)
   | (with_reducible refine LeO.bind ?_ (fun _ => ?_))
   | exact ih0 _ _ _ _
   | exact ih1 _ _ _ _ _
   | exact ih2 _ _ _ _ _
   | exact ih3 _ _ _ _ _ _
   | exact ih4 _ _ _ _
   | exact atlaslaw01_alive.mono _
   | exact words_Hex.mono _ _
   | exact words_Number.mono _ _
   | exact LeO.none _
   | refine LeO.ite ?_ ?_
   | refine LeO.bind ?_ (fun _ => ?_)
  ·
   intro y0 y1 y2 y3 y4 y5
   unfold atlaslaw01_WordsAgain.l2
   repeat' first
   | (with_reducible exact ih0 _ _ _ _)
   | (with_reducible exact ih1 _ _ _ _ _)
   | (with_reducible exact ih2 _ _ _ _ _)
   | (with_reducible exact ih3 _ _ _ _ _ _)
   | (with_reducible exact ih4 _ _ _ _)
   | (with_reducible exact atlaslaw01_alive.mono _)
   | (with_reducible exact words_Hex.mono _ _)
   | (with_reducible exact words_Number.mono _ _)
   | (with_reducible exact LeO.refl _)
   | (with_reducible exact LeO.none _)
   | (with_reducible refine LeO.ite ?_ ?_)
   | (with_reducible refine LeO.bind ?_ (fun _ => ?_))
   | exact ih0 _ _ _ _
   | exact ih1 _ _ _ _ _
   | exact ih2 _ _ _ _ _
   | exact ih3 _ _ _ _ _ _
   | exact ih4 _ _ _ _
   | exact atlaslaw01_alive.mono _
   | exact words_Hex.mono _ _
   | exact words_Number.mono _ _
   | exact LeO.none _
   | refine LeO.ite ?_ ?_
   | refine LeO.bind ?_ (fun _ => ?_)
  ·
   intro y0 y1 y2 y3
   unfold atlaslaw01_WordsAgain.l3
   repeat' first
   | (with_reducible exact ih0 _ _ _ _)
   | (with_reducible exact ih1 _ _ _ _ _)
   | (with_reducible exact ih2 _ _ _ _ _)
   | (with_reducible exact ih3 _ _ _ _ _ _)
   | (with_reducible exact ih4 _ _ _ _)
   | (with_reducible exact atlaslaw01_alive.mono _)
   | (with_reducible exact words_Hex.mono _ _)
   | (with_reducible exact words_Number.mono _ _)
   | (with_reducible exact LeO.refl _)
   | (with_reducible exact LeO.none _)
   | (with_reducible refine LeO.ite ?_ ?_)
   | (with_reducible refine LeO.bind ?_ (fun _ => ?_))
   | exact ih0 _ _ _ _
   | exact ih1 _ _ _ _ _
   | exact ih2 _ _ _ _ _
   | exact ih3 _ _ _ _ _ _
   | exact ih4 _ _ _ _
   | exact atlaslaw01_alive.mono _
   | exact words_Hex.mono _ _
   | exact words_Number.mono _ _
   | exact LeO.none _
   | refine LeO.ite ?_ ?_
   | refine LeO.bind ?_ (fun _ => ?_)
theorem atlaslaw01_WordsAgain.mono : ∀ a0 a1 k, LeO (atlaslaw01_WordsAgain.f k a0 a1) (atlaslaw01_WordsAgain.f (k + 1) a0 a1) := by
 intro a0 a1 k
 obtain ⟨ih0, ih1, ih2, ih3, ih4⟩ := atlaslaw01_WordsAgain.mono_l k
 unfold atlaslaw01_WordsAgain.f
 repeat' first
   | (with_reducible exact ih0 _ _ _ _)
   | (with_reducible exact ih1 _ _ _ _ _)
   | (with_reducible exact ih2 _ _ _ _ _)
   | (with_reducible exact ih3 _ _ _ _ _ _)
   | (with_reducible exact ih4 _ _ _ _)
   | (with_reducible exact atlaslaw01_alive.mono _)
   | (with_reducible exact words_Hex.mono _ _)
   | (with_reducible exact words_Number.mono _ _)
   | (with_reducible exact LeO.refl _)
   | (with_reducible exact LeO.none _)
   | (with_reducible refine LeO.ite ?_ ?_)
   | (with_reducible refine LeO.bind ?_ (fun _ => ?_))
   | exact ih0 _ _ _ _
   | exact ih1 _ _ _ _ _
   | exact ih2 _ _ _ _ _
   | exact ih3 _ _ _ _ _ _
   | exact ih4 _ _ _ _
   | exact atlaslaw01_alive.mono _
   | exact words_Hex.mono _ _
   | exact words_Number.mono _ _
   | exact LeO.none _
   | refine LeO.ite ?_ ?_
   | refine LeO.bind ?_ (fun _ => ?_)
set_option maxHeartbeats 8000000 in
set_option maxRecDepth 100000 in
theorem atlaslaw01_WordsAgain.calls (k : Nat) (a0 : Int) (a1 : Int) (r : Bool) (w : World) (hG2 : Aside0 (G2 w)) (h : atlaslaw01_WordsAgain.f k a0 a1 = some r) :
  Calls Tryd.prog 4 #[.int .u64 a0, .int .i64 a1] w fun e w' => e = .returned (.bool r) ∧ Below w.heap.size w w' := by
 have HB := Aside0.mk (Below.refl w.heap.size w)
 have H : ((atlaslaw01_alive.f k).bind fun t117 => (if t117 = true then ((words_Hex.f k a0).bind fun t118 => (if (t118.size : Int) < 3 then (atlaslaw01_WordsAgain.j0 k a0 a1 t118 true) else (if 0 ≤ 2 then (if 2 ≤ (t118.size : Int) then (atlaslaw01_WordsAgain.j0 k a0 a1 t118 ((t118.extract 0 2).toList != ([48, 120] : List UInt8))) else (none)) else (none)))) else (some false))) = some r := h
 clear h
 replace H := Option.bind_eq_some_iff.mp H
 obtain ⟨t117, A30, H⟩ := H
 replace H : (if t117 = true then ((words_Hex.f k a0).bind fun t118 => (if (t118.size : Int) < 3 then (atlaslaw01_WordsAgain.j0 k a0 a1 t118 true) else (if 0 ≤ 2 then (if 2 ≤ (t118.size : Int) then (atlaslaw01_WordsAgain.j0 k a0 a1 t118 ((t118.extract 0 2).toList != ([48, 120] : List UInt8))) else (none)) else (none)))) else (some false)) = some r := H
 have A3 := Aside0.mk A30
 clear A30
 by_cases c4 : t117 = true
 ·
  subst c4
  have H1 : ((words_Hex.f k a0).bind fun t118 => (if (t118.size : Int) < 3 then (atlaslaw01_WordsAgain.j0 k a0 a1 t118 true) else (if 0 ≤ 2 then (if 2 ≤ (t118.size : Int) then (atlaslaw01_WordsAgain.j0 k a0 a1 t118 ((t118.extract 0 2).toList != ([48, 120] : List UInt8))) else (none)) else (none)))) = some r := by rw [if_pos rfl] at H; exact H
  clear H
  have H := H1
  clear H1
  replace H := Option.bind_eq_some_iff.mp H
  obtain ⟨t118, A50, H⟩ := H
  replace H : (if (t118.size : Int) < 3 then (atlaslaw01_WordsAgain.j0 k a0 a1 t118 true) else (if 0 ≤ 2 then (if 2 ≤ (t118.size : Int) then (atlaslaw01_WordsAgain.j0 k a0 a1 t118 ((t118.extract 0 2).toList != ([48, 120] : List UInt8))) else (none)) else (none))) = some r := H
  have A5 := Aside0.mk A50
  clear A50
  have HC6 := Aside0.mk H
  clear H
  go_enter Tryd.func4, Tryd.ntmps4
  go_upto_region 4 with (first | ((with_reducible refine gate_callee (f := 7) rfl ?_); refine goesL_ (some 18) rfl rfl Tryd.func7 (by kernel_rfl) rfl #[] rfl (by (try simp only [List.map_toArray, List.map_cons, List.map_nil]); first | done | rfl | (simp only [List.length_drop, List.length_take]; rfl)) ?_; (with_reducible refine (atlaslaw01_alive.calls k  true _ A3.out).mono ?_); rintro e w7 ⟨rfl, hb⟩; refine ⟨_, rfl, ?_⟩; have n0_ := Aside0.mk (below_step (by repeat (first | (with_reducible first | exact HB.out | apply below_alloc | apply pw_below_drewN | apply below_drew1) | exact HB.out)) hb); clear HB; have HB := n0_; clear n0_; (try clear hb); (try clear hb2); (try clear hk); (try clear hi)) | ((with_reducible refine gate_callee (f := 5) rfl ?_); refine goesL_ (some 21) rfl rfl Tryd.func5 (by kernel_rfl) rfl #[.int .u64 a0] rfl (by (try simp only [List.map_toArray, List.map_cons, List.map_nil]); first | done | rfl | (simp only [List.length_drop, List.length_take]; rfl)) ?_; (with_reducible refine (words_Hex.calls k a0 t118 _ ?side1 A5.out).mono ?_); (case side1 => exact ⟨G2.below hG2.out (by repeat (first | (with_reducible first | exact HB.out | apply below_alloc | apply pw_below_drewN | apply below_drew1) | exact HB.out))⟩); rintro e w8 ⟨rfl, hb⟩; refine ⟨_, rfl, ?_⟩; have n0_ := Aside0.mk (below_step (by repeat (first | (with_reducible first | exact HB.out | apply below_alloc | apply pw_below_drewN | apply below_drew1) | exact HB.out)) hb); clear HB; have HB := n0_; clear n0_; (try clear hb); (try clear hb2); (try clear hk); (try clear hi)))
  (try simp only [Act.put, List.setIfInBounds_toArray, List.set_cons_zero, List.set_cons_succ])
  go_cut [29] (fun v29 wc => ∃ (kq : Nat) (x29_5 : Bool), v29 = .bool x29_5 ∧ Aside0 (atlaslaw01_WordsAgain.j0 kq a0 a1 t118 x29_5 = some r) ∧ Aside0 (kq ≤ k) ∧ Aside0 (Below w.heap.size w wc))
  case first =>
   have H := HC6.out
   clear HC6
   by_cases c9 : (t118.size : Int) < 3
   ·
    rw [if_pos c9] at H
    have c9b0 : decide ((t118.size : Int) < 3) = true := decide_eq_true c9
    have c9b1 : decide (t118.size < 3) = true := decide_eq_true (by omega)
    clear c9
    (first | rw [c9b0] | (simp only [i64_w, i32_w]; rw [c9b0]) | skip)
    have H' := Aside0.mk H
    clear H
    go_wp2
    go_meet
    case rel => exact ⟨_, (true), (by first | rfl | (simp; done) | (simp [*]; done)), H', ⟨by first | omega | exact Nat.le_refl _⟩, ⟨by repeat (first | (with_reducible first | exact HB.out | apply below_alloc | apply pw_below_drewN | apply below_drew1) | exact HB.out)⟩⟩
   ·
    rw [if_neg c9] at H
    have c9b0 : decide ((t118.size : Int) < 3) = false := decide_eq_false c9
    have c9b1 : decide (t118.size < 3) = false := decide_eq_false (by omega)
    clear c9
    (first | rw [c9b0] | (simp only [i64_w, i32_w]; rw [c9b0]) | skip)
    by_cases c10 : 0 ≤ 2
    ·
     rw [if_pos c10] at H
     have c10b0 := eq_true c10
     have c10b1 : decide (0 ≤ 2) = true := decide_eq_true c10
     clear c10
     by_cases c11 : 2 ≤ (t118.size : Int)
     ·
      rw [if_pos c11] at H
      have c11b0 := eq_true c11
      have c11b1 : decide (2 ≤ (t118.size : Int)) = true := decide_eq_true c11
      clear c11
      have H' := Aside0.mk H
      clear H
      go_wp2
      go_meet
      case rel => exact ⟨_, (((t118.extract 0 2).toList != ([48, 120] : List UInt8))), (by first | rfl | (simp; done) | (simp [*]; done)), H', ⟨by first | omega | exact Nat.le_refl _⟩, ⟨by repeat (first | (with_reducible first | exact HB.out | apply below_alloc | apply pw_below_drewN | apply below_drew1) | exact HB.out)⟩⟩
     ·
      rw [if_neg c11] at H
      exact absurd H (by simp)
    ·
     rw [if_neg c10] at H
     exact absurd H (by simp)
  case rest =>
   clear HC6
   try clear c1
   try clear p2
   try clear c4
   try clear c5
   try clear c7
   try clear c9
   try clear c9b0
   try clear c9b1
   try clear c10
   try clear c10b0
   try clear c10b1
   try clear c11
   try clear c11b0
   try clear c11b1
   obtain ⟨kq, x29_5, rfl, HA, HJ5, HB⟩ := hcut
   cases kq with
   | zero => exact absurd HA.out (by simp [atlaslaw01_WordsAgain.j0])
   | succ kj5 =>
    have H := HA.out
    clear HA
    simp only [atlaslaw01_WordsAgain.j0] at H
    by_cases c12 : x29_5 = true
    ·
     subst c12
     have H1 : (some false) = some r := by rw [if_pos rfl] at H; exact H
     clear H
     have H := H1
     clear H1
     obtain rfl := Option.some.inj H
     go_wp2
     go_ret
     exact ⟨by first | rfl | (simp [errW_none, errW_some] <;> rfl) | (simp [*, errW_none, errW_some] <;> rfl) | (simp [*, errW_none, errW_some] <;> exact isEmpty_ne _), by repeat (first | (with_reducible first | exact HB.out | apply below_alloc | apply pw_below_drewN | apply below_drew1) | exact HB.out)⟩
    ·
     replace c12 := Bool.eq_false_iff.mpr c12
     subst c12
     have H1 : (atlaslaw01_WordsAgain.l0 kj5 a0 a1 t118 (⟨#[]⟩ : ByteArray) 0) = some r := by rw [if_neg (show ¬ (false = true) by decide)] at H; exact H
     clear H
     have H := H1
     clear H1
     have H' := Aside0.mk H
     clear H
     go_wp2
     go_loopg [6, 7] kj5 (fun kq v6 v7 w' => ∃ (x6_2 : ByteArray) (x7_2 : Int), v6 = .string x6_2 ∧ v7 = .int .i64 x7_2 ∧ Aside0 (atlaslaw01_WordsAgain.l0 kq a0 a1 t118 x6_2 x7_2 = some r) ∧ Aside0 (kq ≤ kj5) ∧ Aside0 (Below w.heap.size w w'))
     case atStart => exact ⟨((⟨#[]⟩ : ByteArray)), (0), (by first | rfl | (simp; done) | (simp [*]; done)), (by first | rfl | (simp; done) | (simp [*]; done)), H', ⟨Nat.le_refl _⟩, ⟨by repeat (first | (with_reducible first | exact HB.out | apply below_alloc | apply pw_below_drewN | apply below_drew1) | exact HB.out)⟩⟩
     case round =>
      clear H'
      try clear c1
      try clear p2
      try clear c4
      try clear c5
      try clear c7
      try clear c9
      try clear c9b0
      try clear c9b1
      try clear c10
      try clear c10b0
      try clear c10b1
      try clear c11
      try clear c11b0
      try clear c11b1
      try clear c12
      try clear p2
      obtain ⟨x6_2, x7_2, rfl, rfl, HA, HK2, HB⟩ := hrel
      cases gk with
      | zero => exact absurd HA.out (by simp [atlaslaw01_WordsAgain.l0])
      | succ k2 =>
       have H := HA.out
       clear HA
       simp only [atlaslaw01_WordsAgain.l0] at H
       by_cases c13 : x7_2 < (Int.tmod a1 40)
       ·
        rw [if_pos c13] at H
        have c13b0 : decide (x7_2 < (Int.tmod a1 40)) = true := decide_eq_true c13
        clear c13
        by_cases c14 : x6_2.size + 1 ≤ 9223372036854775807
        ·
         rw [if_pos c14] at H
         have c14b0 := eq_true c14
         have c14b1 : decide (x6_2.size + 1 ≤ 9223372036854775807) = true := decide_eq_true c14
         try have c14b2 : (9223372036854775807 < x6_2.size + 1) = False := eq_false (Nat.not_lt.2 c14)
         have H' := Aside0.mk H
         clear H
         go_wp2
         go_roundg k2
         case measure => have := HJ5.out; have := HK2.out; omega
         case rel => exact ⟨(x6_2 ++ (⟨#[48]⟩ : ByteArray)), (wrap64 (x7_2 + 1)), (by first | rfl | (simp; done) | (simp [*]; done)), (by first | rfl | (simp; done) | (simp [*]; done)), H', ⟨by have := HJ5.out; have := HK2.out; omega⟩, ⟨by repeat (first | (with_reducible first | exact HB.out | apply below_alloc | apply pw_below_drewN | apply below_drew1) | exact HB.out)⟩⟩
        ·
         rw [if_neg c14] at H
         exact absurd H (by simp)
       ·
        rw [if_neg c13] at H
        have c13b0 : decide (x7_2 < (Int.tmod a1 40)) = false := decide_eq_false c13
        clear c13
        have H' := Aside0.mk H
        clear H
        go_wp2
        go_loopg [8, 9] k2 (fun kq v8 v9 w' => ∃ (x8_3 : ByteArray) (x9_3 : Int), v8 = .string x8_3 ∧ v9 = .int .i64 x9_3 ∧ Aside0 (atlaslaw01_WordsAgain.l1 kq a0 t118 x6_2 x8_3 x9_3 = some r) ∧ Aside0 (kq ≤ k2) ∧ Aside0 (Below w.heap.size w w'))
        case atStart => exact ⟨((⟨#[48, 120]⟩ : ByteArray)), (2), (by first | rfl | (simp; done) | (simp [*]; done)), (by first | rfl | (simp; done) | (simp [*]; done)), H', ⟨Nat.le_refl _⟩, ⟨by repeat (first | (with_reducible first | exact HB.out | apply below_alloc | apply pw_below_drewN | apply below_drew1) | exact HB.out)⟩⟩
        case round =>
         clear H'
         try clear c1
         try clear p2
         try clear c4
         try clear c5
         try clear p6
         try clear c7
         try clear c9
         try clear c9b0
         try clear c9b1
         try clear c10
         try clear c10b0
         try clear c10b1
         try clear c11
         try clear c11b0
         try clear c11b1
         try clear c12
         try clear c13
         try clear c13b0
         try clear c14
         try clear c14b0
         try clear c14b1
         try clear c14b2
         try clear p2
         obtain ⟨x8_3, x9_3, rfl, rfl, HA, HK3, HB⟩ := hrel
         cases gk with
         | zero => exact absurd HA.out (by simp [atlaslaw01_WordsAgain.l1])
         | succ k3 =>
          have H := HA.out
          clear HA
          simp only [atlaslaw01_WordsAgain.l1] at H
          by_cases c15 : x9_3 < (t118.size : Int)
          ·
           rw [if_pos c15] at H
           have c15b0 : decide (x9_3 < (t118.size : Int)) = true := decide_eq_true c15
           clear c15
           by_cases c16 : x9_3 > 2
           ·
            rw [if_pos c16] at H
            have c16b0 : decide (2 < x9_3) = true := decide_eq_true c16
            clear c16
            by_cases c17 : x8_3.size + 1 ≤ 9223372036854775807
            ·
             rw [if_pos c17] at H
             have c17b0 := eq_true c17
             have c17b1 : decide (x8_3.size + 1 ≤ 9223372036854775807) = true := decide_eq_true c17
             try have c17b2 : (9223372036854775807 < x8_3.size + 1) = False := eq_false (Nat.not_lt.2 c17)
             by_cases c18 : 0 ≤ x9_3
             ·
              rw [if_pos c18] at H
              have c18b0 := eq_true c18
              have c18b1 : decide (0 ≤ x9_3) = true := decide_eq_true c18
              clear c18
              by_cases c19 : x9_3 ≤ (wrap64 (x9_3 + 1))
              ·
               rw [if_pos c19] at H
               have c19b0 := eq_true c19
               have c19b1 : decide (x9_3 ≤ (wrap64 (x9_3 + 1))) = true := decide_eq_true c19
               by_cases c20 : (wrap64 (x9_3 + 1)) ≤ (t118.size : Int)
               ·
                rw [if_pos c20] at H
                have c20b0 := eq_true c20
                have c20b1 : decide ((wrap64 (x9_3 + 1)) ≤ (t118.size : Int)) = true := decide_eq_true c20
                by_cases c21 : (x8_3 ++ (⟨#[95]⟩ : ByteArray)).size + (t118.extract (x9_3 : Int).toNat ((wrap64 (x9_3 + 1)) : Int).toNat).size ≤ 9223372036854775807
                ·
                 rw [if_pos c21] at H
                 have c21b0 := eq_true c21
                 have c21b1 : decide ((x8_3 ++ (⟨#[95]⟩ : ByteArray)).size + (t118.extract (x9_3 : Int).toNat ((wrap64 (x9_3 + 1)) : Int).toNat).size ≤ 9223372036854775807) = true := decide_eq_true c21
                 try have c21b2 : (9223372036854775807 < (x8_3 ++ (⟨#[95]⟩ : ByteArray)).size + (t118.extract (x9_3 : Int).toNat ((wrap64 (x9_3 + 1)) : Int).toNat).size) = False := eq_false (Nat.not_lt.2 c21)
                 (try have c21b3 : (9223372036854775807 < x8_3.size + 1 + (t118.extract (x9_3 : Int).toNat ((wrap64 (x9_3 + 1)) : Int).toNat).size) = False := (by have h_ := c21; simp only [ByteArray.size_append] at h_; exact eq_false (Nat.not_lt.2 h_)))
                 (try have c21b4 : (x8_3.size + 1 + (t118.extract (x9_3 : Int).toNat ((wrap64 (x9_3 + 1)) : Int).toNat).size ≤ 9223372036854775807) = True := (by have h_ := c21; simp only [ByteArray.size_append] at h_; exact eq_true h_))
                 (try (have c21h := c21; simp only [ByteArray.size_append] at c21h; have c21b6 := eq_false (Nat.not_lt.2 c21h); have c21b7 := eq_true c21h; clear c21h))
                 (try have c21b50 : (9223372036854775807 < x8_3.size + (1 + (t118.extract (x9_3 : Int).toNat ((wrap64 (x9_3 + 1)) : Int).toNat).size)) = False := (by have h_ := c21; simp only [ByteArray.size_append, ba_lit, List.length_cons, List.length_nil] at h_; exact eq_false (by omega)))
                 (try have c21b60 : (x8_3.size + (1 + (t118.extract (x9_3 : Int).toNat ((wrap64 (x9_3 + 1)) : Int).toNat).size) ≤ 9223372036854775807) = True := (by have h_ := c21; simp only [ByteArray.size_append, ba_lit, List.length_cons, List.length_nil] at h_; exact eq_true (by omega)))
                 have H' := Aside0.mk H
                 clear H
                 go_wp2
                 go_roundg k3
                 case measure => have := HJ5.out; have := HK2.out; have := HK3.out; omega
                 case rel => exact ⟨((x8_3 ++ (⟨#[95]⟩ : ByteArray)) ++ (t118.extract (x9_3 : Int).toNat ((wrap64 (x9_3 + 1)) : Int).toNat)), (wrap64 (x9_3 + 1)), (by first | rfl | (simp; done) | (simp [*]; done)), (by first | rfl | (simp; done) | (simp [*]; done)), H', ⟨by have := HJ5.out; have := HK2.out; have := HK3.out; omega⟩, ⟨by repeat (first | (with_reducible first | exact HB.out | apply below_alloc | apply pw_below_drewN | apply below_drew1) | exact HB.out)⟩⟩
                ·
                 rw [if_neg c21] at H
                 exact absurd H (by simp)
               ·
                rw [if_neg c20] at H
                exact absurd H (by simp)
              ·
               rw [if_neg c19] at H
               exact absurd H (by simp)
             ·
              rw [if_neg c18] at H
              exact absurd H (by simp)
            ·
             rw [if_neg c17] at H
             exact absurd H (by simp)
           ·
            rw [if_neg c16] at H
            have c16b0 : decide (2 < x9_3) = false := decide_eq_false c16
            clear c16
            by_cases c22 : 0 ≤ x9_3
            ·
             rw [if_pos c22] at H
             have c22b0 := eq_true c22
             have c22b1 : decide (0 ≤ x9_3) = true := decide_eq_true c22
             clear c22
             by_cases c23 : x9_3 ≤ (wrap64 (x9_3 + 1))
             ·
              rw [if_pos c23] at H
              have c23b0 := eq_true c23
              have c23b1 : decide (x9_3 ≤ (wrap64 (x9_3 + 1))) = true := decide_eq_true c23
              by_cases c24 : (wrap64 (x9_3 + 1)) ≤ (t118.size : Int)
              ·
               rw [if_pos c24] at H
               have c24b0 := eq_true c24
               have c24b1 : decide ((wrap64 (x9_3 + 1)) ≤ (t118.size : Int)) = true := decide_eq_true c24
               by_cases c25 : x8_3.size + (t118.extract (x9_3 : Int).toNat ((wrap64 (x9_3 + 1)) : Int).toNat).size ≤ 9223372036854775807
               ·
                rw [if_pos c25] at H
                have c25b0 := eq_true c25
                have c25b1 : decide (x8_3.size + (t118.extract (x9_3 : Int).toNat ((wrap64 (x9_3 + 1)) : Int).toNat).size ≤ 9223372036854775807) = true := decide_eq_true c25
                try have c25b2 : (9223372036854775807 < x8_3.size + (t118.extract (x9_3 : Int).toNat ((wrap64 (x9_3 + 1)) : Int).toNat).size) = False := eq_false (Nat.not_lt.2 c25)
                have H' := Aside0.mk H
                clear H
                go_wp2
                go_roundg k3
                case measure => have := HJ5.out; have := HK2.out; have := HK3.out; omega
                case rel => exact ⟨(x8_3 ++ (t118.extract (x9_3 : Int).toNat ((wrap64 (x9_3 + 1)) : Int).toNat)), (wrap64 (x9_3 + 1)), (by first | rfl | (simp; done) | (simp [*]; done)), (by first | rfl | (simp; done) | (simp [*]; done)), H', ⟨by have := HJ5.out; have := HK2.out; have := HK3.out; omega⟩, ⟨by repeat (first | (with_reducible first | exact HB.out | apply below_alloc | apply pw_below_drewN | apply below_drew1) | exact HB.out)⟩⟩
               ·
                rw [if_neg c25] at H
                exact absurd H (by simp)
              ·
               rw [if_neg c24] at H
               exact absurd H (by simp)
             ·
              rw [if_neg c23] at H
              exact absurd H (by simp)
            ·
             rw [if_neg c22] at H
             exact absurd H (by simp)
          ·
           rw [if_neg c15] at H
           have c15b0 : decide (x9_3 < (t118.size : Int)) = false := decide_eq_false c15
           clear c15
           have H' := Aside0.mk H
           clear H
           go_wp2
           go_loopg [10, 11] k3 (fun kq v10 v11 w' => ∃ (x10_4 : ByteArray) (x11_4 : Int), v10 = .string x10_4 ∧ v11 = .int .u64 x11_4 ∧ Aside0 (atlaslaw01_WordsAgain.l2 kq a0 t118 x6_2 x8_3 x10_4 x11_4 = some r) ∧ Aside0 (kq ≤ k3) ∧ Aside0 (Below w.heap.size w w'))
           case atStart => exact ⟨((⟨#[]⟩ : ByteArray)), (a0), (by first | rfl | (simp; done) | (simp [*]; done)), (by first | rfl | (simp; done) | (simp [*]; done)), H', ⟨Nat.le_refl _⟩, ⟨by repeat (first | (with_reducible first | exact HB.out | apply below_alloc | apply pw_below_drewN | apply below_drew1) | exact HB.out)⟩⟩
           case round =>
            clear H'
            try clear c1
            try clear c2
            try clear p2
            try clear c4
            try clear c5
            try clear p6
            try clear c7
            try clear c9
            try clear c9b0
            try clear c9b1
            try clear c10
            try clear c10b0
            try clear c10b1
            try clear c11
            try clear c11b0
            try clear c11b1
            try clear c12
            try clear c13
            try clear c13b0
            try clear c14
            try clear c14b0
            try clear c14b1
            try clear c14b2
            try clear c15
            try clear c15b0
            try clear c16
            try clear c16b0
            try clear c17
            try clear c17b0
            try clear c17b1
            try clear c17b2
            try clear c18
            try clear c18b0
            try clear c18b1
            try clear c19
            try clear c19b0
            try clear c19b1
            try clear c20
            try clear c20b0
            try clear c20b1
            try clear c21
            try clear c21b0
            try clear c21b1
            try clear c21b2
            try clear c22
            try clear c22b0
            try clear c22b1
            try clear c23
            try clear c23b0
            try clear c23b1
            try clear c24
            try clear c24b0
            try clear c24b1
            try clear c25
            try clear c25b0
            try clear c25b1
            try clear c25b2
            try clear p2
            try clear p6
            obtain ⟨x10_4, x11_4, rfl, rfl, HA, HK4, HB⟩ := hrel
            cases gk with
            | zero => exact absurd HA.out (by simp [atlaslaw01_WordsAgain.l2])
            | succ k4 =>
             have H := HA.out
             clear HA
             simp only [atlaslaw01_WordsAgain.l2] at H
             obtain ⟨y119, hy119⟩ : ∃ y_ : List Int, y_ = (([(IntKind.u64.wrap (48 + (Int.tmod x11_4 10))) % 256] : List Int)) := ⟨_, rfl⟩
             replace H : (if (strOfNums y119).size + x10_4.size ≤ 9223372036854775807 then (if x11_4 < 10 then (if 2 + x6_2.size ≤ 9223372036854775807 then (if 2 ≤ (t118.size : Int) then (if ((⟨#[48, 120]⟩ : ByteArray) ++ x6_2).size + (t118.extract 2 t118.size).size ≤ 9223372036854775807 then (if x6_2.size + ((strOfNums y119) ++ x10_4).size ≤ 9223372036854775807 then (atlaslaw01_WordsAgain.l3 k4 a0 t118 (([t118, ((⟨#[48, 120]⟩ : ByteArray) ++ x6_2) ++ (t118.extract 2 t118.size), x8_3, (strOfNums y119) ++ x10_4, x6_2 ++ ((strOfNums y119) ++ x10_4)] : List ByteArray)) 0) else (none)) else (none)) else (none)) else (none)) else (atlaslaw01_WordsAgain.l2 k4 a0 t118 x6_2 x8_3 ((strOfNums y119) ++ x10_4) (IntKind.u64.wrap (Int.tdiv x11_4 10)))) else (none)) = some r := by first | (rw [hy119]; with_reducible exact H) | (have H2_ := (Option.bind_some _ _).symm.trans H; rw [hy119]; with_reducible exact H2_) | (have H2_ := (Option.bind_some _ _).symm.trans H; with_reducible exact H2_) | with_reducible exact H | (rw [hy119]; exact H) | exact H
             have Ny119 := Aside0.mk hy119
             clear hy119
             by_cases c26 : (strOfNums y119).size + x10_4.size ≤ 9223372036854775807
             ·
              rw [if_pos c26] at H
              have c26b0 := eq_true c26
              have c26b1 : decide ((strOfNums y119).size + x10_4.size ≤ 9223372036854775807) = true := decide_eq_true c26
              try have c26b2 : (9223372036854775807 < (strOfNums y119).size + x10_4.size) = False := eq_false (Nat.not_lt.2 c26)
              by_cases c27 : x11_4 < 10
              ·
               rw [if_pos c27] at H
               have c27b0 : decide (x11_4 < 10) = true := decide_eq_true c27
               clear c27
               by_cases c28 : 2 + x6_2.size ≤ 9223372036854775807
               ·
                rw [if_pos c28] at H
                have c28b0 := eq_true c28
                have c28b1 : decide (2 + x6_2.size ≤ 9223372036854775807) = true := decide_eq_true c28
                try have c28b2 : (9223372036854775807 < 2 + x6_2.size) = False := eq_false (Nat.not_lt.2 c28)
                by_cases c29 : 2 ≤ (t118.size : Int)
                ·
                 rw [if_pos c29] at H
                 have c29b0 := eq_true c29
                 have c29b1 : decide (2 ≤ (t118.size : Int)) = true := decide_eq_true c29
                 clear c29
                 by_cases c30 : ((⟨#[48, 120]⟩ : ByteArray) ++ x6_2).size + (t118.extract 2 t118.size).size ≤ 9223372036854775807
                 ·
                  rw [if_pos c30] at H
                  have c30b0 := eq_true c30
                  have c30b1 : decide (((⟨#[48, 120]⟩ : ByteArray) ++ x6_2).size + (t118.extract 2 t118.size).size ≤ 9223372036854775807) = true := decide_eq_true c30
                  try have c30b2 : (9223372036854775807 < ((⟨#[48, 120]⟩ : ByteArray) ++ x6_2).size + (t118.extract 2 t118.size).size) = False := eq_false (Nat.not_lt.2 c30)
                  (try have c30b3 : (9223372036854775807 < 2 + x6_2.size + (t118.extract 2 t118.size).size) = False := (by have h_ := c30; simp only [ByteArray.size_append] at h_; exact eq_false (Nat.not_lt.2 h_)))
                  (try have c30b4 : (2 + x6_2.size + (t118.extract 2 t118.size).size ≤ 9223372036854775807) = True := (by have h_ := c30; simp only [ByteArray.size_append] at h_; exact eq_true h_))
                  (try (have c30h := c30; simp only [ByteArray.size_append] at c30h; have c30b6 := eq_false (Nat.not_lt.2 c30h); have c30b7 := eq_true c30h; clear c30h))
                  (try have c30b50 : (9223372036854775807 < 2 + (x6_2.size + (t118.extract 2 t118.size).size)) = False := (by have h_ := c30; simp only [ByteArray.size_append, ba_lit, List.length_cons, List.length_nil] at h_; exact eq_false (by omega)))
                  (try have c30b60 : (2 + (x6_2.size + (t118.extract 2 t118.size).size) ≤ 9223372036854775807) = True := (by have h_ := c30; simp only [ByteArray.size_append, ba_lit, List.length_cons, List.length_nil] at h_; exact eq_true (by omega)))
                  by_cases c31 : x6_2.size + ((strOfNums y119) ++ x10_4).size ≤ 9223372036854775807
                  ·
                   rw [if_pos c31] at H
                   have c31b0 := eq_true c31
                   have c31b1 : decide (x6_2.size + ((strOfNums y119) ++ x10_4).size ≤ 9223372036854775807) = true := decide_eq_true c31
                   try have c31b2 : (9223372036854775807 < x6_2.size + ((strOfNums y119) ++ x10_4).size) = False := eq_false (Nat.not_lt.2 c31)
                   (try have c31b3 : (9223372036854775807 < x6_2.size + (strOfNums y119).size + x10_4.size) = False := (by have h_ := c31; simp only [ByteArray.size_append] at h_; exact eq_false (Nat.not_lt.2 h_)))
                   (try have c31b4 : (x6_2.size + (strOfNums y119).size + x10_4.size ≤ 9223372036854775807) = True := (by have h_ := c31; simp only [ByteArray.size_append] at h_; exact eq_true h_))
                   (try (have c31h := c31; simp only [ByteArray.size_append] at c31h; have c31b6 := eq_false (Nat.not_lt.2 c31h); have c31b7 := eq_true c31h; clear c31h))
                   obtain ⟨y122, hy122⟩ : ∃ y_ : List ByteArray, y_ = (([t118, ((⟨#[48, 120]⟩ : ByteArray) ++ x6_2) ++ (t118.extract 2 t118.size), x8_3, (strOfNums y119) ++ x10_4, x6_2 ++ ((strOfNums y119) ++ x10_4)] : List ByteArray)) := ⟨_, rfl⟩
                   replace H : (atlaslaw01_WordsAgain.l3 k4 a0 t118 y122 0) = some r := by first | (rw [hy122]; with_reducible exact H) | (have H2_ := (Option.bind_some _ _).symm.trans H; rw [hy122]; with_reducible exact H2_) | (have H2_ := (Option.bind_some _ _).symm.trans H; with_reducible exact H2_) | with_reducible exact H | (rw [hy122]; exact H) | exact H
                   have Ny122 := Aside0.mk hy122
                   clear hy122
                   have H' := Aside0.mk H
                   clear H
                   go_wp2_with (first | ((with_reducible refine gate_dst (N := 62) rfl ?_); refine Kd.R_lit (Kd.int .u8) _ 5 ?hg (N := 62) ?hd (xs := ([(IntKind.u64.wrap (48 + (Int.tmod x11_4 10))) % 256] : List Int)) (inner := [.int .u8 ((IntKind.u64.wrap (48 + (Int.tmod x11_4 10))) % 256)]) (ok := fun _ => True) (okp := fun _ => True) ?hr ?hp (fun _ hk => hk) trivial (Below.refl _ _) (Nat.le_refl _) (by simp) ?_; (case hd => rfl); (case hg => rfl); (case hr => first | (go_simp; done) | (go_simp; rfl)); (case hp => exact (Reps.one (show Kd.M (Kd.int .u8) _ _ _ ((IntKind.u64.wrap (48 + (Int.tmod x11_4 10))) % 256) [.int .u8 ((IntKind.u64.wrap (48 + (Int.tmod x11_4 10))) % 256)] from rfl) (Reps.none _ _))); intro v120 w32 ho33 hb hg_ hnew_; clear hg_ hnew_; (first | rw [← Ny119.out] at ho33 | (simp only [Int.reduceToNat] at ho33; rw [← Ny119.out] at ho33)); have n0_ := Aside0.mk (Kd.R_lower ho33 (below_size (by repeat (first | (with_reducible first | exact HB.out | apply below_alloc | apply pw_below_drewN | apply below_drew1) | exact HB.out)))); have n1_ := Aside0.mk (below_step (by repeat (first | (with_reducible first | exact HB.out | apply below_alloc | apply pw_below_drewN | apply below_drew1) | exact HB.out)) hb); clear HB; have HO121 := n0_; have HB := n1_; clear n0_ n1_; clear hb ho33; have hcv34 := own_string (P := Tryd.prog) Tryd.underlying26 Tryd.underlying5 Tryd.underlying9 (Kd.own_of_R HO121.out)) | ((with_reducible refine gate_dst (N := 79) rfl ?_); refine Kd.R_lit Kd.string _ 9 ?hg (N := 79) ?hd (xs := ([t118, ((⟨#[48, 120]⟩ : ByteArray) ++ x6_2) ++ (t118.extract 2 t118.size), x8_3, (strOfNums y119) ++ x10_4, x6_2 ++ ((strOfNums y119) ++ x10_4)] : List ByteArray)) (inner := [.string t118, .string (((⟨#[48, 120]⟩ : ByteArray) ++ x6_2) ++ (t118.extract 2 t118.size)), .string x8_3, .string ((strOfNums y119) ++ x10_4), .string (x6_2 ++ ((strOfNums y119) ++ x10_4))]) (ok := fun _ => True) (okp := fun _ => True) ?hr ?hp (fun _ hk => hk) trivial (Below.refl _ _) (Nat.le_refl _) (by simp) ?_; (case hd => rfl); (case hg => rfl); (case hr => first | (go_simp; done) | (go_simp; rfl)); (case hp => exact (Reps.one (show Kd.M Kd.string _ _ _ t118 [.string t118] from rfl) (Reps.one (show Kd.M Kd.string _ _ _ (((⟨#[48, 120]⟩ : ByteArray) ++ x6_2) ++ (t118.extract 2 t118.size)) [.string (((⟨#[48, 120]⟩ : ByteArray) ++ x6_2) ++ (t118.extract 2 t118.size))] from rfl) (Reps.one (show Kd.M Kd.string _ _ _ x8_3 [.string x8_3] from rfl) (Reps.one (show Kd.M Kd.string _ _ _ ((strOfNums y119) ++ x10_4) [.string ((strOfNums y119) ++ x10_4)] from rfl) (Reps.one (show Kd.M Kd.string _ _ _ (x6_2 ++ ((strOfNums y119) ++ x10_4)) [.string (x6_2 ++ ((strOfNums y119) ++ x10_4))] from rfl) (Reps.none _ _))))))); intro v123 w35 ho36 hb hg_ hnew_; clear hg_ hnew_; (first | rw [← Ny122.out] at ho36 | (simp only [Int.reduceToNat] at ho36; rw [← Ny122.out] at ho36)); have n0_ := Aside0.mk (Kd.R_below (by (with_reducible repeat (first | apply Kd.R_alloc | apply Kd.R_drewN | apply Kd.R_drew)); exact HO121.out) hb); have n1_ := Aside0.mk (Kd.R_lower ho36 (below_size (by repeat (first | (with_reducible first | exact HB.out | apply below_alloc | apply pw_below_drewN | apply below_drew1) | exact HB.out)))); have n2_ := Aside0.mk (below_step (by repeat (first | (with_reducible first | exact HB.out | apply below_alloc | apply pw_below_drewN | apply below_drew1) | exact HB.out)) hb); clear HO121; clear HB; have HO121 := n0_; have HO124 := n1_; have HB := n2_; clear n0_ n1_ n2_; clear hb ho36))
                   go_loopg [13] k4 (fun kq v13 w' => ∃ (x13_5 : Int), v13 = .int .i64 x13_5 ∧ Aside0 (atlaslaw01_WordsAgain.l3 kq a0 t118 y122 x13_5 = some r) ∧ Aside0 (kq ≤ k4) ∧ Aside0 (Kd.R Kd.string 9 w' w.heap.size (fun _ => True) v123 y122) ∧ Aside0 (Below w.heap.size w w'))
                   case atStart => exact ⟨(0), (by first | rfl | (simp; done) | (simp [*]; done)), H', ⟨Nat.le_refl _⟩, ⟨by (with_reducible repeat (first | apply Kd.R_alloc | apply Kd.R_drewN | apply Kd.R_drew)); exact HO124.out⟩, ⟨by repeat (first | (with_reducible first | exact HB.out | apply below_alloc | apply pw_below_drewN | apply below_drew1) | exact HB.out)⟩⟩
                   case round =>
                    clear H'
                    try clear c1
                    try clear c2
                    try clear p2
                    try clear c3
                    try clear hcv3
                    try clear c4
                    try clear c5
                    try clear p6
                    try clear c7
                    try clear c9
                    try clear c9b0
                    try clear c9b1
                    try clear c10
                    try clear c10b0
                    try clear c10b1
                    try clear c11
                    try clear c11b0
                    try clear c11b1
                    try clear c12
                    try clear c13
                    try clear c13b0
                    try clear c14
                    try clear c14b0
                    try clear c14b1
                    try clear c14b2
                    try clear c15
                    try clear c15b0
                    try clear c16
                    try clear c16b0
                    try clear c17
                    try clear c17b0
                    try clear c17b1
                    try clear c17b2
                    try clear c18
                    try clear c18b0
                    try clear c18b1
                    try clear c19
                    try clear c19b0
                    try clear c19b1
                    try clear c20
                    try clear c20b0
                    try clear c20b1
                    try clear c21
                    try clear c21b0
                    try clear c21b1
                    try clear c21b2
                    try clear c22
                    try clear c22b0
                    try clear c22b1
                    try clear c23
                    try clear c23b0
                    try clear c23b1
                    try clear c24
                    try clear c24b0
                    try clear c24b1
                    try clear c25
                    try clear c25b0
                    try clear c25b1
                    try clear c25b2
                    try clear c26
                    try clear c26b0
                    try clear c26b1
                    try clear c26b2
                    try clear c27
                    try clear c27b0
                    try clear c28
                    try clear c28b0
                    try clear c28b1
                    try clear c28b2
                    try clear c29
                    try clear c29b0
                    try clear c29b1
                    try clear c30
                    try clear c30b0
                    try clear c30b1
                    try clear c30b2
                    try clear c31
                    try clear c31b0
                    try clear c31b1
                    try clear c31b2
                    try clear hcv34
                    try clear p2
                    try clear p6
                    obtain ⟨x13_5, rfl, HA, HK5, HO_12, HB⟩ := hrel
                    cases gk with
                    | zero => exact absurd HA.out (by simp [atlaslaw01_WordsAgain.l3])
                    | succ k5 =>
                     have H := HA.out
                     clear HA
                     simp only [atlaslaw01_WordsAgain.l3] at H
                     by_cases c37 : x13_5 < (y122.length : Int)
                     ·
                      rw [if_pos c37] at H
                      have c37b0 : decide (x13_5 < (y122.length : Int)) = true := decide_eq_true c37
                      clear c37
                      by_cases c38 : 0 ≤ x13_5
                      ·
                       rw [if_pos c38] at H
                       have c38b0 : decide (0 ≤ x13_5) = true := decide_eq_true c38
                       clear c38
                       replace H := Option.bind_eq_some_iff.mp H
                       obtain ⟨⟨t126, t127⟩, A390, H⟩ := H
                       replace H : (if a0 < 1099511627776 then (if t126 = a0 then (if t127 = 0 then (if a0 ≥ 1099511627776 then (if t126 = 0 then (if t127 = 11 then (atlaslaw01_WordsAgain.l3 k5 a0 t118 y122 (wrap64 (x13_5 + 1))) else (some false)) else (some false)) else (atlaslaw01_WordsAgain.l3 k5 a0 t118 y122 (wrap64 (x13_5 + 1)))) else (some false)) else (some false)) else (if a0 ≥ 1099511627776 then (if t126 = 0 then (if t127 = 11 then (atlaslaw01_WordsAgain.l3 k5 a0 t118 y122 (wrap64 (x13_5 + 1))) else (some false)) else (some false)) else (atlaslaw01_WordsAgain.l3 k5 a0 t118 y122 (wrap64 (x13_5 + 1))))) = some r := H
                       have A39 := Aside0.mk A390
                       clear A390
                       by_cases c40 : a0 < 1099511627776
                       ·
                        rw [if_pos c40] at H
                        have c40b0 : decide (a0 < 1099511627776) = true := decide_eq_true c40
                        clear c40
                        by_cases c41 : t126 = a0
                        ·
                         rw [if_pos c41] at H
                         have c41b0 : (t126 == a0) = true := beq_iff_eq.mpr c41
                         have c41b1 : (t126 != a0) = false := bne_eq_false_iff_eq.mpr c41
                         clear c41
                         by_cases c42 : t127 = 0
                         ·
                          rw [if_pos c42] at H
                          have c42b0 : (t127 == 0) = true := beq_iff_eq.mpr c42
                          have c42b1 : (t127 != 0) = false := bne_eq_false_iff_eq.mpr c42
                          clear c42
                          by_cases c43 : a0 ≥ 1099511627776
                          ·
                           rw [if_pos c43] at H
                           have c43b0 : decide (1099511627776 ≤ a0) = true := decide_eq_true c43
                           clear c43
                           by_cases c44 : t126 = 0
                           ·
                            rw [if_pos c44] at H
                            have c44b0 : (t126 == 0) = true := beq_iff_eq.mpr c44
                            have c44b1 : (t126 != 0) = false := bne_eq_false_iff_eq.mpr c44
                            clear c44
                            by_cases c45 : t127 = 11
                            ·
                             rw [if_pos c45] at H
                             have c45b0 : (t127 == 11) = true := beq_iff_eq.mpr c45
                             have c45b1 : (t127 != 11) = false := bne_eq_false_iff_eq.mpr c45
                             clear c45
                             have H' := Aside0.mk H
                             clear H
                             obtain ⟨Ao46, co46, eo46⟩ := Kd.R_slice HO_12.out
                             subst eo46
                             have p125 : 0 ≤ (x13_5 : Int) := of_decide_eq_true (by first | (with_reducible assumption) | assumption)
                             have q125 : x13_5 < (y122.length : Int) := of_decide_eq_true (by first | (with_reducible assumption) | assumption)
                             obtain ⟨ad125, e125, hx125_0⟩ := Kd.at_string (Kd.R_reads' HO_12.out).2.2 x13_5 p125 q125
                             cases e125
                             replace p125 := eq_true p125
                             replace q125 := eq_true q125
                             go_wp2_with (first | ((with_reducible refine gate_callee (f := 8) rfl ?_); refine goesL_ (some 91) rfl rfl Tryd.func8 (by kernel_rfl) rfl #[.string (rdOf ByteArray.empty y122 x13_5)] rfl (by (try simp only [List.map_toArray, List.map_cons, List.map_nil]); first | done | rfl | (simp only [List.length_drop, List.length_take]; rfl)) ?_; (with_reducible refine (words_Number.calls k5 (rdOf ByteArray.empty y122 x13_5) t126 t127 _ A39.out).mono ?_); rintro e w' ⟨rfl, ⟨nd, rfl⟩⟩; refine ⟨_, rfl, ?_⟩))
                             go_roundg k5
                             case measure => have := HJ5.out; have := HK2.out; have := HK3.out; have := HK4.out; have := HK5.out; omega
                             case rel => exact ⟨(wrap64 (x13_5 + 1)), (by first | rfl | (simp; done) | (simp [*]; done)), H', ⟨by have := HJ5.out; have := HK2.out; have := HK3.out; have := HK4.out; have := HK5.out; omega⟩, ⟨by (with_reducible repeat (first | apply Kd.R_alloc | apply Kd.R_drewN | apply Kd.R_drew)); exact HO_12.out⟩, ⟨by repeat (first | (with_reducible first | exact HB.out | apply below_alloc | apply pw_below_drewN | apply below_drew1) | exact HB.out)⟩⟩
                            ·
                             rw [if_neg c45] at H
                             have c45b0 : (t127 == 11) = false := beq_eq_false_iff_ne.mpr c45
                             have c45b1 : (t127 != 11) = true := bne_iff_ne.mpr c45
                             obtain rfl := Option.some.inj H
                             obtain ⟨Ao47, co47, eo47⟩ := Kd.R_slice HO_12.out
                             subst eo47
                             have p125 : 0 ≤ (x13_5 : Int) := of_decide_eq_true (by first | (with_reducible assumption) | assumption)
                             have q125 : x13_5 < (y122.length : Int) := of_decide_eq_true (by first | (with_reducible assumption) | assumption)
                             obtain ⟨ad125, e125, hx125_0⟩ := Kd.at_string (Kd.R_reads' HO_12.out).2.2 x13_5 p125 q125
                             cases e125
                             replace p125 := eq_true p125
                             replace q125 := eq_true q125
                             go_wp2_with (first | ((with_reducible refine gate_callee (f := 8) rfl ?_); refine goesL_ (some 91) rfl rfl Tryd.func8 (by kernel_rfl) rfl #[.string (rdOf ByteArray.empty y122 x13_5)] rfl (by (try simp only [List.map_toArray, List.map_cons, List.map_nil]); first | done | rfl | (simp only [List.length_drop, List.length_take]; rfl)) ?_; (with_reducible refine (words_Number.calls k5 (rdOf ByteArray.empty y122 x13_5) t126 t127 _ A39.out).mono ?_); rintro e w' ⟨rfl, ⟨nd, rfl⟩⟩; refine ⟨_, rfl, ?_⟩))
                             go_ret
                             exact ⟨by first | rfl | (simp [errW_none, errW_some] <;> rfl) | (simp [*, errW_none, errW_some] <;> rfl) | (simp [*, errW_none, errW_some] <;> exact isEmpty_ne _), by repeat (first | (with_reducible first | exact HB.out | apply below_alloc | apply pw_below_drewN | apply below_drew1) | exact HB.out)⟩
                           ·
                            rw [if_neg c44] at H
                            have c44b0 : (t126 == 0) = false := beq_eq_false_iff_ne.mpr c44
                            have c44b1 : (t126 != 0) = true := bne_iff_ne.mpr c44
                            obtain rfl := Option.some.inj H
                            obtain ⟨Ao48, co48, eo48⟩ := Kd.R_slice HO_12.out
                            subst eo48
                            have p125 : 0 ≤ (x13_5 : Int) := of_decide_eq_true (by first | (with_reducible assumption) | assumption)
                            have q125 : x13_5 < (y122.length : Int) := of_decide_eq_true (by first | (with_reducible assumption) | assumption)
                            obtain ⟨ad125, e125, hx125_0⟩ := Kd.at_string (Kd.R_reads' HO_12.out).2.2 x13_5 p125 q125
                            cases e125
                            replace p125 := eq_true p125
                            replace q125 := eq_true q125
                            go_wp2_with (first | ((with_reducible refine gate_callee (f := 8) rfl ?_); refine goesL_ (some 91) rfl rfl Tryd.func8 (by kernel_rfl) rfl #[.string (rdOf ByteArray.empty y122 x13_5)] rfl (by (try simp only [List.map_toArray, List.map_cons, List.map_nil]); first | done | rfl | (simp only [List.length_drop, List.length_take]; rfl)) ?_; (with_reducible refine (words_Number.calls k5 (rdOf ByteArray.empty y122 x13_5) t126 t127 _ A39.out).mono ?_); rintro e w' ⟨rfl, ⟨nd, rfl⟩⟩; refine ⟨_, rfl, ?_⟩))
                            go_ret
                            exact ⟨by first | rfl | (simp [errW_none, errW_some] <;> rfl) | (simp [*, errW_none, errW_some] <;> rfl) | (simp [*, errW_none, errW_some] <;> exact isEmpty_ne _), by repeat (first | (with_reducible first | exact HB.out | apply below_alloc | apply pw_below_drewN | apply below_drew1) | exact HB.out)⟩
                          ·
                           rw [if_neg c43] at H
                           have c43b0 : decide (1099511627776 ≤ a0) = false := decide_eq_false c43
                           clear c43
                           have H' := Aside0.mk H
                           clear H
                           obtain ⟨Ao49, co49, eo49⟩ := Kd.R_slice HO_12.out
                           subst eo49
                           have p125 : 0 ≤ (x13_5 : Int) := of_decide_eq_true (by first | (with_reducible assumption) | assumption)
                           have q125 : x13_5 < (y122.length : Int) := of_decide_eq_true (by first | (with_reducible assumption) | assumption)
                           obtain ⟨ad125, e125, hx125_0⟩ := Kd.at_string (Kd.R_reads' HO_12.out).2.2 x13_5 p125 q125
                           cases e125
                           replace p125 := eq_true p125
                           replace q125 := eq_true q125
                           go_wp2_with (first | ((with_reducible refine gate_callee (f := 8) rfl ?_); refine goesL_ (some 91) rfl rfl Tryd.func8 (by kernel_rfl) rfl #[.string (rdOf ByteArray.empty y122 x13_5)] rfl (by (try simp only [List.map_toArray, List.map_cons, List.map_nil]); first | done | rfl | (simp only [List.length_drop, List.length_take]; rfl)) ?_; (with_reducible refine (words_Number.calls k5 (rdOf ByteArray.empty y122 x13_5) t126 t127 _ A39.out).mono ?_); rintro e w' ⟨rfl, ⟨nd, rfl⟩⟩; refine ⟨_, rfl, ?_⟩))
                           go_roundg k5
                           case measure => have := HJ5.out; have := HK2.out; have := HK3.out; have := HK4.out; have := HK5.out; omega
                           case rel => exact ⟨(wrap64 (x13_5 + 1)), (by first | rfl | (simp; done) | (simp [*]; done)), H', ⟨by have := HJ5.out; have := HK2.out; have := HK3.out; have := HK4.out; have := HK5.out; omega⟩, ⟨by (with_reducible repeat (first | apply Kd.R_alloc | apply Kd.R_drewN | apply Kd.R_drew)); exact HO_12.out⟩, ⟨by repeat (first | (with_reducible first | exact HB.out | apply below_alloc | apply pw_below_drewN | apply below_drew1) | exact HB.out)⟩⟩
                         ·
                          rw [if_neg c42] at H
                          have c42b0 : (t127 == 0) = false := beq_eq_false_iff_ne.mpr c42
                          have c42b1 : (t127 != 0) = true := bne_iff_ne.mpr c42
                          obtain rfl := Option.some.inj H
                          obtain ⟨Ao50, co50, eo50⟩ := Kd.R_slice HO_12.out
                          subst eo50
                          have p125 : 0 ≤ (x13_5 : Int) := of_decide_eq_true (by first | (with_reducible assumption) | assumption)
                          have q125 : x13_5 < (y122.length : Int) := of_decide_eq_true (by first | (with_reducible assumption) | assumption)
                          obtain ⟨ad125, e125, hx125_0⟩ := Kd.at_string (Kd.R_reads' HO_12.out).2.2 x13_5 p125 q125
                          cases e125
                          replace p125 := eq_true p125
                          replace q125 := eq_true q125
                          go_wp2_with (first | ((with_reducible refine gate_callee (f := 8) rfl ?_); refine goesL_ (some 91) rfl rfl Tryd.func8 (by kernel_rfl) rfl #[.string (rdOf ByteArray.empty y122 x13_5)] rfl (by (try simp only [List.map_toArray, List.map_cons, List.map_nil]); first | done | rfl | (simp only [List.length_drop, List.length_take]; rfl)) ?_; (with_reducible refine (words_Number.calls k5 (rdOf ByteArray.empty y122 x13_5) t126 t127 _ A39.out).mono ?_); rintro e w' ⟨rfl, ⟨nd, rfl⟩⟩; refine ⟨_, rfl, ?_⟩))
                          go_ret
                          exact ⟨by first | rfl | (simp [errW_none, errW_some] <;> rfl) | (simp [*, errW_none, errW_some] <;> rfl) | (simp [*, errW_none, errW_some] <;> exact isEmpty_ne _), by repeat (first | (with_reducible first | exact HB.out | apply below_alloc | apply pw_below_drewN | apply below_drew1) | exact HB.out)⟩
                        ·
                         rw [if_neg c41] at H
                         have c41b0 : (t126 == a0) = false := beq_eq_false_iff_ne.mpr c41
                         have c41b1 : (t126 != a0) = true := bne_iff_ne.mpr c41
                         obtain rfl := Option.some.inj H
                         obtain ⟨Ao51, co51, eo51⟩ := Kd.R_slice HO_12.out
                         subst eo51
                         have p125 : 0 ≤ (x13_5 : Int) := of_decide_eq_true (by first | (with_reducible assumption) | assumption)
                         have q125 : x13_5 < (y122.length : Int) := of_decide_eq_true (by first | (with_reducible assumption) | assumption)
                         obtain ⟨ad125, e125, hx125_0⟩ := Kd.at_string (Kd.R_reads' HO_12.out).2.2 x13_5 p125 q125
                         cases e125
                         replace p125 := eq_true p125
                         replace q125 := eq_true q125
                         go_wp2_with (first | ((with_reducible refine gate_callee (f := 8) rfl ?_); refine goesL_ (some 91) rfl rfl Tryd.func8 (by kernel_rfl) rfl #[.string (rdOf ByteArray.empty y122 x13_5)] rfl (by (try simp only [List.map_toArray, List.map_cons, List.map_nil]); first | done | rfl | (simp only [List.length_drop, List.length_take]; rfl)) ?_; (with_reducible refine (words_Number.calls k5 (rdOf ByteArray.empty y122 x13_5) t126 t127 _ A39.out).mono ?_); rintro e w' ⟨rfl, ⟨nd, rfl⟩⟩; refine ⟨_, rfl, ?_⟩))
                         go_ret
                         exact ⟨by first | rfl | (simp [errW_none, errW_some] <;> rfl) | (simp [*, errW_none, errW_some] <;> rfl) | (simp [*, errW_none, errW_some] <;> exact isEmpty_ne _), by repeat (first | (with_reducible first | exact HB.out | apply below_alloc | apply pw_below_drewN | apply below_drew1) | exact HB.out)⟩
                       ·
                        rw [if_neg c40] at H
                        have c40b0 : decide (a0 < 1099511627776) = false := decide_eq_false c40
                        clear c40
                        by_cases c52 : a0 ≥ 1099511627776
                        ·
                         rw [if_pos c52] at H
                         have c52b0 : decide (1099511627776 ≤ a0) = true := decide_eq_true c52
                         clear c52
                         by_cases c53 : t126 = 0
                         ·
                          rw [if_pos c53] at H
                          have c53b0 : (t126 == 0) = true := beq_iff_eq.mpr c53
                          have c53b1 : (t126 != 0) = false := bne_eq_false_iff_eq.mpr c53
                          clear c53
                          by_cases c54 : t127 = 11
                          ·
                           rw [if_pos c54] at H
                           have c54b0 : (t127 == 11) = true := beq_iff_eq.mpr c54
                           have c54b1 : (t127 != 11) = false := bne_eq_false_iff_eq.mpr c54
                           clear c54
                           have H' := Aside0.mk H
                           clear H
                           obtain ⟨Ao55, co55, eo55⟩ := Kd.R_slice HO_12.out
                           subst eo55
                           have p125 : 0 ≤ (x13_5 : Int) := of_decide_eq_true (by first | (with_reducible assumption) | assumption)
                           have q125 : x13_5 < (y122.length : Int) := of_decide_eq_true (by first | (with_reducible assumption) | assumption)
                           obtain ⟨ad125, e125, hx125_0⟩ := Kd.at_string (Kd.R_reads' HO_12.out).2.2 x13_5 p125 q125
                           cases e125
                           replace p125 := eq_true p125
                           replace q125 := eq_true q125
                           go_wp2_with (first | ((with_reducible refine gate_callee (f := 8) rfl ?_); refine goesL_ (some 91) rfl rfl Tryd.func8 (by kernel_rfl) rfl #[.string (rdOf ByteArray.empty y122 x13_5)] rfl (by (try simp only [List.map_toArray, List.map_cons, List.map_nil]); first | done | rfl | (simp only [List.length_drop, List.length_take]; rfl)) ?_; (with_reducible refine (words_Number.calls k5 (rdOf ByteArray.empty y122 x13_5) t126 t127 _ A39.out).mono ?_); rintro e w' ⟨rfl, ⟨nd, rfl⟩⟩; refine ⟨_, rfl, ?_⟩))
                           go_roundg k5
                           case measure => have := HJ5.out; have := HK2.out; have := HK3.out; have := HK4.out; have := HK5.out; omega
                           case rel => exact ⟨(wrap64 (x13_5 + 1)), (by first | rfl | (simp; done) | (simp [*]; done)), H', ⟨by have := HJ5.out; have := HK2.out; have := HK3.out; have := HK4.out; have := HK5.out; omega⟩, ⟨by (with_reducible repeat (first | apply Kd.R_alloc | apply Kd.R_drewN | apply Kd.R_drew)); exact HO_12.out⟩, ⟨by repeat (first | (with_reducible first | exact HB.out | apply below_alloc | apply pw_below_drewN | apply below_drew1) | exact HB.out)⟩⟩
                          ·
                           rw [if_neg c54] at H
                           have c54b0 : (t127 == 11) = false := beq_eq_false_iff_ne.mpr c54
                           have c54b1 : (t127 != 11) = true := bne_iff_ne.mpr c54
                           obtain rfl := Option.some.inj H
                           obtain ⟨Ao56, co56, eo56⟩ := Kd.R_slice HO_12.out
                           subst eo56
                           have p125 : 0 ≤ (x13_5 : Int) := of_decide_eq_true (by first | (with_reducible assumption) | assumption)
                           have q125 : x13_5 < (y122.length : Int) := of_decide_eq_true (by first | (with_reducible assumption) | assumption)
                           obtain ⟨ad125, e125, hx125_0⟩ := Kd.at_string (Kd.R_reads' HO_12.out).2.2 x13_5 p125 q125
                           cases e125
                           replace p125 := eq_true p125
                           replace q125 := eq_true q125
                           go_wp2_with (first | ((with_reducible refine gate_callee (f := 8) rfl ?_); refine goesL_ (some 91) rfl rfl Tryd.func8 (by kernel_rfl) rfl #[.string (rdOf ByteArray.empty y122 x13_5)] rfl (by (try simp only [List.map_toArray, List.map_cons, List.map_nil]); first | done | rfl | (simp only [List.length_drop, List.length_take]; rfl)) ?_; (with_reducible refine (words_Number.calls k5 (rdOf ByteArray.empty y122 x13_5) t126 t127 _ A39.out).mono ?_); rintro e w' ⟨rfl, ⟨nd, rfl⟩⟩; refine ⟨_, rfl, ?_⟩))
                           go_ret
                           exact ⟨by first | rfl | (simp [errW_none, errW_some] <;> rfl) | (simp [*, errW_none, errW_some] <;> rfl) | (simp [*, errW_none, errW_some] <;> exact isEmpty_ne _), by repeat (first | (with_reducible first | exact HB.out | apply below_alloc | apply pw_below_drewN | apply below_drew1) | exact HB.out)⟩
                         ·
                          rw [if_neg c53] at H
                          have c53b0 : (t126 == 0) = false := beq_eq_false_iff_ne.mpr c53
                          have c53b1 : (t126 != 0) = true := bne_iff_ne.mpr c53
                          obtain rfl := Option.some.inj H
                          obtain ⟨Ao57, co57, eo57⟩ := Kd.R_slice HO_12.out
                          subst eo57
                          have p125 : 0 ≤ (x13_5 : Int) := of_decide_eq_true (by first | (with_reducible assumption) | assumption)
                          have q125 : x13_5 < (y122.length : Int) := of_decide_eq_true (by first | (with_reducible assumption) | assumption)
                          obtain ⟨ad125, e125, hx125_0⟩ := Kd.at_string (Kd.R_reads' HO_12.out).2.2 x13_5 p125 q125
                          cases e125
                          replace p125 := eq_true p125
                          replace q125 := eq_true q125
                          go_wp2_with (first | ((with_reducible refine gate_callee (f := 8) rfl ?_); refine goesL_ (some 91) rfl rfl Tryd.func8 (by kernel_rfl) rfl #[.string (rdOf ByteArray.empty y122 x13_5)] rfl (by (try simp only [List.map_toArray, List.map_cons, List.map_nil]); first | done | rfl | (simp only [List.length_drop, List.length_take]; rfl)) ?_; (with_reducible refine (words_Number.calls k5 (rdOf ByteArray.empty y122 x13_5) t126 t127 _ A39.out).mono ?_); rintro e w' ⟨rfl, ⟨nd, rfl⟩⟩; refine ⟨_, rfl, ?_⟩))
                          go_ret
                          exact ⟨by first | rfl | (simp [errW_none, errW_some] <;> rfl) | (simp [*, errW_none, errW_some] <;> rfl) | (simp [*, errW_none, errW_some] <;> exact isEmpty_ne _), by repeat (first | (with_reducible first | exact HB.out | apply below_alloc | apply pw_below_drewN | apply below_drew1) | exact HB.out)⟩
                        ·
                         rw [if_neg c52] at H
                         have c52b0 : decide (1099511627776 ≤ a0) = false := decide_eq_false c52
                         clear c52
                         have H' := Aside0.mk H
                         clear H
                         obtain ⟨Ao58, co58, eo58⟩ := Kd.R_slice HO_12.out
                         subst eo58
                         have p125 : 0 ≤ (x13_5 : Int) := of_decide_eq_true (by first | (with_reducible assumption) | assumption)
                         have q125 : x13_5 < (y122.length : Int) := of_decide_eq_true (by first | (with_reducible assumption) | assumption)
                         obtain ⟨ad125, e125, hx125_0⟩ := Kd.at_string (Kd.R_reads' HO_12.out).2.2 x13_5 p125 q125
                         cases e125
                         replace p125 := eq_true p125
                         replace q125 := eq_true q125
                         go_wp2_with (first | ((with_reducible refine gate_callee (f := 8) rfl ?_); refine goesL_ (some 91) rfl rfl Tryd.func8 (by kernel_rfl) rfl #[.string (rdOf ByteArray.empty y122 x13_5)] rfl (by (try simp only [List.map_toArray, List.map_cons, List.map_nil]); first | done | rfl | (simp only [List.length_drop, List.length_take]; rfl)) ?_; (with_reducible refine (words_Number.calls k5 (rdOf ByteArray.empty y122 x13_5) t126 t127 _ A39.out).mono ?_); rintro e w' ⟨rfl, ⟨nd, rfl⟩⟩; refine ⟨_, rfl, ?_⟩))
                         go_roundg k5
                         case measure => have := HJ5.out; have := HK2.out; have := HK3.out; have := HK4.out; have := HK5.out; omega
                         case rel => exact ⟨(wrap64 (x13_5 + 1)), (by first | rfl | (simp; done) | (simp [*]; done)), H', ⟨by have := HJ5.out; have := HK2.out; have := HK3.out; have := HK4.out; have := HK5.out; omega⟩, ⟨by (with_reducible repeat (first | apply Kd.R_alloc | apply Kd.R_drewN | apply Kd.R_drew)); exact HO_12.out⟩, ⟨by repeat (first | (with_reducible first | exact HB.out | apply below_alloc | apply pw_below_drewN | apply below_drew1) | exact HB.out)⟩⟩
                      ·
                       rw [if_neg c38] at H
                       exact absurd H (by simp)
                     ·
                      rw [if_neg c37] at H
                      have c37b0 : decide (x13_5 < (y122.length : Int)) = false := decide_eq_false c37
                      clear c37
                      by_cases c59 : t118.size + 1 ≤ 9223372036854775807
                      ·
                       rw [if_pos c59] at H
                       have c59b0 := eq_true c59
                       have c59b1 : decide (t118.size + 1 ≤ 9223372036854775807) = true := decide_eq_true c59
                       try have c59b2 : (9223372036854775807 < t118.size + 1) = False := eq_false (Nat.not_lt.2 c59)
                       replace H := Option.bind_eq_some_iff.mp H
                       obtain ⟨⟨t128, t129⟩, A600, H⟩ := H
                       replace H : (if t128 = 0 then (some (t129 == 11)) else (some false)) = some r := H
                       have A60 := Aside0.mk A600
                       clear A600
                       by_cases c61 : t128 = 0
                       ·
                        rw [if_pos c61] at H
                        have c61b0 : (t128 == 0) = true := beq_iff_eq.mpr c61
                        have c61b1 : (t128 != 0) = false := bne_eq_false_iff_eq.mpr c61
                        clear c61
                        obtain rfl := Option.some.inj H
                        obtain ⟨Ao62, co62, eo62⟩ := Kd.R_slice HO_12.out
                        subst eo62
                        go_wp2_with (first | ((with_reducible refine gate_callee (f := 8) rfl ?_); refine goesL_ (some 120) rfl rfl Tryd.func8 (by kernel_rfl) rfl #[.string (t118 ++ (⟨#[95]⟩ : ByteArray))] rfl (by (try simp only [List.map_toArray, List.map_cons, List.map_nil]); first | done | rfl | (simp only [List.length_drop, List.length_take]; rfl)) ?_; (with_reducible refine (words_Number.calls k5 (t118 ++ (⟨#[95]⟩ : ByteArray)) t128 t129 _ A60.out).mono ?_); rintro e w' ⟨rfl, ⟨nd, rfl⟩⟩; refine ⟨_, rfl, ?_⟩))
                        go_ret
                        exact ⟨by first | rfl | (simp [errW_none, errW_some] <;> rfl) | (simp [*, errW_none, errW_some] <;> rfl) | (simp [*, errW_none, errW_some] <;> exact isEmpty_ne _), by repeat (first | (with_reducible first | exact HB.out | apply below_alloc | apply pw_below_drewN | apply below_drew1) | exact HB.out)⟩
                       ·
                        rw [if_neg c61] at H
                        have c61b0 : (t128 == 0) = false := beq_eq_false_iff_ne.mpr c61
                        have c61b1 : (t128 != 0) = true := bne_iff_ne.mpr c61
                        obtain rfl := Option.some.inj H
                        obtain ⟨Ao63, co63, eo63⟩ := Kd.R_slice HO_12.out
                        subst eo63
                        go_wp2_with (first | ((with_reducible refine gate_callee (f := 8) rfl ?_); refine goesL_ (some 120) rfl rfl Tryd.func8 (by kernel_rfl) rfl #[.string (t118 ++ (⟨#[95]⟩ : ByteArray))] rfl (by (try simp only [List.map_toArray, List.map_cons, List.map_nil]); first | done | rfl | (simp only [List.length_drop, List.length_take]; rfl)) ?_; (with_reducible refine (words_Number.calls k5 (t118 ++ (⟨#[95]⟩ : ByteArray)) t128 t129 _ A60.out).mono ?_); rintro e w' ⟨rfl, ⟨nd, rfl⟩⟩; refine ⟨_, rfl, ?_⟩))
                        go_ret
                        exact ⟨by first | rfl | (simp [errW_none, errW_some] <;> rfl) | (simp [*, errW_none, errW_some] <;> rfl) | (simp [*, errW_none, errW_some] <;> exact isEmpty_ne _), by repeat (first | (with_reducible first | exact HB.out | apply below_alloc | apply pw_below_drewN | apply below_drew1) | exact HB.out)⟩
                      ·
                       rw [if_neg c59] at H
                       exact absurd H (by simp)
                  ·
                   rw [if_neg c31] at H
                   exact absurd H (by simp)
                 ·
                  rw [if_neg c30] at H
                  exact absurd H (by simp)
                ·
                 rw [if_neg c29] at H
                 exact absurd H (by simp)
               ·
                rw [if_neg c28] at H
                exact absurd H (by simp)
              ·
               rw [if_neg c27] at H
               have c27b0 : decide (x11_4 < 10) = false := decide_eq_false c27
               clear c27
               have H' := Aside0.mk H
               clear H
               go_wp2_with (first | ((with_reducible refine gate_dst (N := 62) rfl ?_); refine Kd.R_lit (Kd.int .u8) _ 5 ?hg (N := 62) ?hd (xs := ([(IntKind.u64.wrap (48 + (Int.tmod x11_4 10))) % 256] : List Int)) (inner := [.int .u8 ((IntKind.u64.wrap (48 + (Int.tmod x11_4 10))) % 256)]) (ok := fun _ => True) (okp := fun _ => True) ?hr ?hp (fun _ hk => hk) trivial (Below.refl _ _) (Nat.le_refl _) (by simp) ?_; (case hd => rfl); (case hg => rfl); (case hr => first | (go_simp; done) | (go_simp; rfl)); (case hp => exact (Reps.one (show Kd.M (Kd.int .u8) _ _ _ ((IntKind.u64.wrap (48 + (Int.tmod x11_4 10))) % 256) [.int .u8 ((IntKind.u64.wrap (48 + (Int.tmod x11_4 10))) % 256)] from rfl) (Reps.none _ _))); intro v120 w64 ho65 hb hg_ hnew_; clear hg_ hnew_; (first | rw [← Ny119.out] at ho65 | (simp only [Int.reduceToNat] at ho65; rw [← Ny119.out] at ho65)); have n0_ := Aside0.mk (Kd.R_lower ho65 (below_size (by repeat (first | (with_reducible first | exact HB.out | apply below_alloc | apply pw_below_drewN | apply below_drew1) | exact HB.out)))); have n1_ := Aside0.mk (below_step (by repeat (first | (with_reducible first | exact HB.out | apply below_alloc | apply pw_below_drewN | apply below_drew1) | exact HB.out)) hb); clear HB; have HO121 := n0_; have HB := n1_; clear n0_ n1_; clear hb ho65; have hcv66 := own_string (P := Tryd.prog) Tryd.underlying26 Tryd.underlying5 Tryd.underlying9 (Kd.own_of_R HO121.out)))
               go_roundg k4
               case measure => have := HJ5.out; have := HK2.out; have := HK3.out; have := HK4.out; omega
               case rel => exact ⟨((strOfNums y119) ++ x10_4), (IntKind.u64.wrap (Int.tdiv x11_4 10)), (by first | rfl | (simp; done) | (simp [*]; done)), (by first | rfl | (simp; done) | (simp [*]; done)), H', ⟨by have := HJ5.out; have := HK2.out; have := HK3.out; have := HK4.out; omega⟩, ⟨by repeat (first | (with_reducible first | exact HB.out | apply below_alloc | apply pw_below_drewN | apply below_drew1) | exact HB.out)⟩⟩
             ·
              rw [if_neg c26] at H
              exact absurd H (by simp)
 ·
  replace c4 := Bool.eq_false_iff.mpr c4
  subst c4
  have H1 : (some false) = some r := by rw [if_neg (show ¬ (false = true) by decide)] at H; exact H
  clear H
  have H := H1
  clear H1
  obtain rfl := Option.some.inj H
  go_enter Tryd.func4, Tryd.ntmps4
  go_wp2_with (first | ((with_reducible refine gate_callee (f := 7) rfl ?_); refine goesL_ (some 18) rfl rfl Tryd.func7 (by kernel_rfl) rfl #[] rfl (by (try simp only [List.map_toArray, List.map_cons, List.map_nil]); first | done | rfl | (simp only [List.length_drop, List.length_take]; rfl)) ?_; (with_reducible refine (atlaslaw01_alive.calls k  false _ A3.out).mono ?_); rintro e w67 ⟨rfl, hb⟩; refine ⟨_, rfl, ?_⟩; have n0_ := Aside0.mk (below_step (by repeat (first | (with_reducible first | exact HB.out | apply below_alloc | apply pw_below_drewN | apply below_drew1) | exact HB.out)) hb); clear HB; have HB := n0_; clear n0_; (try clear hb); (try clear hb2); (try clear hk); (try clear hi)))
  go_ret
  exact ⟨by first | rfl | (simp [errW_none, errW_some] <;> rfl) | (simp [*, errW_none, errW_some] <;> rfl) | (simp [*, errW_none, errW_some] <;> exact isEmpty_ne _), by repeat (first | (with_reducible first | exact HB.out | apply below_alloc | apply pw_below_drewN | apply below_drew1) | exact HB.out)⟩

end Go.Proofs.YtihjlkdobdffjaaDoor.S
