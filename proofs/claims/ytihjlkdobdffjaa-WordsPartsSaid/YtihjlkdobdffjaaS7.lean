-- Written by a program of this session (wip/xprint.py), over the kit's print. Not trusted: Lean checks it.
import Derived.Test.YtihjlkdobdffjaaS0
import Derived.Test.YtihjlkdobdffjaaS4
import Derived.Test.YtihjlkdobdffjaaS5
import Derived.Test.YtihjlkdobdffjaaS6
namespace Go.Proofs.Ytihjlkdobdffjaa.S
open Go.Proofs.YtihjlkdobdffjaaG
open Go.RowKit Go.Proofs.YtihjlkdobdffjaaW.PrintWords Go.Proofs.YtihjlkdobdffjaaW.PrintLast Go.Proofs.YtihjlkdobdffjaaW.PrintMore
attribute [local go_sem] max2_int min2_int max_two min_two max_three min_three max_four min_four   -- for this text's walks alone
set_option linter.unusedVariables false
set_option linter.unusedSimpArgs false

/-! ### atlasref01_Name: function 14 -/
def atlasref01_Name.l0 : Nat → ByteArray → Int → Int → Option (Bool)
 | 0, _, _, _ => none
 | k + 1, x0, x3, x4 => if x4 < (x0.size : Int) then ((atlasref01_Rune.f k x0 x4).bind fun bt107 => ((atlasref01_letter.f k bt107.1).bind fun t109 => (if t109 = true then (atlasref01_Name.l0 k x0 (wrap64 (x3 + 1)) (wrap64 (x4 + bt107.2))) else (if x3 = 0 then (some false) else ((atlasref01_digit.f bt107.1).bind fun t110 => (if t110 = true then (atlasref01_Name.l0 k x0 (wrap64 (x3 + 1)) (wrap64 (x4 + bt107.2))) else (if bt107.1 = 95 then (atlasref01_Name.l0 k x0 (wrap64 (x3 + 1)) (wrap64 (x4 + bt107.2))) else (some false)))))))) else (if x3 ≥ 1 then (some (decide (x3 ≤ 16))) else (some false))
def atlasref01_Name.f (k : Nat) (a0 : ByteArray) : Option (Bool) := atlasref01_Name.l0 k a0 0 0
theorem atlasref01_Name.mono_l : ∀ k, (∀ y0 y1 y2, LeO (atlasref01_Name.l0 k y0 y1 y2) (atlasref01_Name.l0 (k + 1) y0 y1 y2))
 | 0 => fun _ _ _ r h => by simp [atlasref01_Name.l0] at h
 | k + 1 => by
  have ih0 := atlasref01_Name.mono_l k
  ·
   intro y0 y1 y2
   unfold atlasref01_Name.l0
   repeat' first
   | (with_reducible exact ih0 _ _ _)
   | (with_reducible exact atlasref01_Rune.mono _ _ _)
   | (with_reducible exact atlasref01_letter.mono _ _)
   | (with_reducible exact LeO.refl _)
   | (with_reducible exact LeO.none _)
   | (with_reducible refine LeO.ite ?_ ?_)
   | (with_reducible refine LeO.bind ?_ (fun _ => ?_))
   | exact ih0 _ _ _
   | exact atlasref01_Rune.mono _ _ _
   | exact atlasref01_letter.mono _ _
   | exact LeO.none _
   | refine LeO.ite ?_ ?_
   | refine LeO.bind ?_ (fun _ => ?_)
theorem atlasref01_Name.mono : ∀ a0 k, LeO (atlasref01_Name.f k a0) (atlasref01_Name.f (k + 1) a0) := by
 intro a0 k
 have ih0 := atlasref01_Name.mono_l k
 unfold atlasref01_Name.f
 repeat' first
   | (with_reducible exact ih0 _ _ _)
   | (with_reducible exact atlasref01_Rune.mono _ _ _)
   | (with_reducible exact atlasref01_letter.mono _ _)
   | (with_reducible exact LeO.refl _)
   | (with_reducible exact LeO.none _)
   | (with_reducible refine LeO.ite ?_ ?_)
   | (with_reducible refine LeO.bind ?_ (fun _ => ?_))
   | exact ih0 _ _ _
   | exact atlasref01_Rune.mono _ _ _
   | exact atlasref01_letter.mono _ _
   | exact LeO.none _
   | refine LeO.ite ?_ ?_
   | refine LeO.bind ?_ (fun _ => ?_)
set_option maxHeartbeats 8000000 in
set_option maxRecDepth 100000 in
theorem atlasref01_Name.calls (k : Nat) (a0 : ByteArray) (r : Bool) (w : World) (h : atlasref01_Name.f k a0 = some r) :
  Calls Try.prog 14 #[.string a0] w fun e w' => e = .returned (.bool r) ∧ Drawn0 w w' := by
 have H : (atlasref01_Name.l0 k a0 0 0) = some r := h
 clear h
 have H' := Aside0.mk H
 clear H
 go_enter Try.func14, Try.ntmps14
 go_wp2
 go_loopg [3, 4] k (fun kq v3 v4 w' => ∃ (x3_1 : Int) (x4_1 : Int), v3 = .int .i64 x3_1 ∧ v4 = .int .i64 x4_1 ∧ Aside0 (atlasref01_Name.l0 kq a0 x3_1 x4_1 = some r) ∧ Aside0 (kq ≤ k) ∧ Drawn0 w w')
 case atStart => exact ⟨(0), (0), (by first | rfl | (simp; done) | (simp [*]; done)), (by first | rfl | (simp; done) | (simp [*]; done)), H', ⟨Nat.le_refl _⟩, by repeat (first | exact Drawn0.refl _ | apply Drawn0.step)⟩
 case round =>
  clear H'
  try clear c1
  obtain ⟨x3_1, x4_1, rfl, rfl, HA, HK1, ⟨m1, rfl⟩⟩ := hrel
  cases gk with
  | zero => exact absurd HA.out (by simp [atlasref01_Name.l0])
  | succ k1 =>
   have H := HA.out
   clear HA
   simp only [atlasref01_Name.l0] at H
   by_cases c2 : x4_1 < (a0.size : Int)
   ·
    rw [if_pos c2] at H
    have c2b0 : decide (x4_1 < (a0.size : Int)) = true := decide_eq_true c2
    clear c2
    replace H := Option.bind_eq_some_iff.mp H
    obtain ⟨⟨t107, t108⟩, A30, H⟩ := H
    replace H : ((atlasref01_letter.f k1 t107).bind fun t109 => (if t109 = true then (atlasref01_Name.l0 k1 a0 (wrap64 (x3_1 + 1)) (wrap64 (x4_1 + t108))) else (if x3_1 = 0 then (some false) else ((atlasref01_digit.f t107).bind fun t110 => (if t110 = true then (atlasref01_Name.l0 k1 a0 (wrap64 (x3_1 + 1)) (wrap64 (x4_1 + t108))) else (if t107 = 95 then (atlasref01_Name.l0 k1 a0 (wrap64 (x3_1 + 1)) (wrap64 (x4_1 + t108))) else (some false))))))) = some r := H
    have A3 := Aside0.mk A30
    clear A30
    replace H := Option.bind_eq_some_iff.mp H
    obtain ⟨t109, A40, H⟩ := H
    replace H : (if t109 = true then (atlasref01_Name.l0 k1 a0 (wrap64 (x3_1 + 1)) (wrap64 (x4_1 + t108))) else (if x3_1 = 0 then (some false) else ((atlasref01_digit.f t107).bind fun t110 => (if t110 = true then (atlasref01_Name.l0 k1 a0 (wrap64 (x3_1 + 1)) (wrap64 (x4_1 + t108))) else (if t107 = 95 then (atlasref01_Name.l0 k1 a0 (wrap64 (x3_1 + 1)) (wrap64 (x4_1 + t108))) else (some false)))))) = some r := H
    have A4 := Aside0.mk A40
    clear A40
    by_cases c5 : t109 = true
    ·
     subst c5
     have H1 : (atlasref01_Name.l0 k1 a0 (wrap64 (x3_1 + 1)) (wrap64 (x4_1 + t108))) = some r := by rw [if_pos rfl] at H; exact H
     clear H
     have H := H1
     clear H1
     have H' := Aside0.mk H
     clear H
     go_wp2_with (first | ((with_reducible refine gate_callee (f := 29) rfl ?_); refine goesL_ (some 14) rfl rfl Try.func29 (by kernel_rfl) rfl #[.string a0, .int .i64 x4_1] rfl (by (try simp only [List.map_toArray, List.map_cons, List.map_nil]); first | done | rfl | (simp only [List.length_drop, List.length_take]; rfl)) ?_; (with_reducible refine (atlasref01_Rune.calls k1 a0 x4_1 t107 t108 _ A3.out).mono ?_); rintro e w' ⟨rfl, ⟨nd, rfl⟩⟩; refine ⟨_, rfl, ?_⟩) | ((with_reducible refine gate_callee (f := 31) rfl ?_); refine goesL_ (some 18) rfl rfl Try.func31 (by kernel_rfl) rfl #[.int .i64 t107] rfl (by (try simp only [List.map_toArray, List.map_cons, List.map_nil]); first | done | rfl | (simp only [List.length_drop, List.length_take]; rfl)) ?_; (with_reducible refine (atlasref01_letter.calls k1 t107 true _ A4.out).mono ?_); rintro e w' ⟨rfl, ⟨nd, rfl⟩⟩; refine ⟨_, rfl, ?_⟩))
     go_roundg k1
     case measure => have := HK1.out; omega
     case rel => exact ⟨(wrap64 (x3_1 + 1)), (wrap64 (x4_1 + t108)), (by first | rfl | (simp; done) | (simp [*]; done)), (by first | rfl | (simp; done) | (simp [*]; done)), H', ⟨by have := HK1.out; omega⟩, by repeat (first | exact Drawn0.refl _ | apply Drawn0.step)⟩
    ·
     replace c5 := Bool.eq_false_iff.mpr c5
     subst c5
     have H1 : (if x3_1 = 0 then (some false) else ((atlasref01_digit.f t107).bind fun t110 => (if t110 = true then (atlasref01_Name.l0 k1 a0 (wrap64 (x3_1 + 1)) (wrap64 (x4_1 + t108))) else (if t107 = 95 then (atlasref01_Name.l0 k1 a0 (wrap64 (x3_1 + 1)) (wrap64 (x4_1 + t108))) else (some false))))) = some r := by rw [if_neg (show ¬ (false = true) by decide)] at H; exact H
     clear H
     have H := H1
     clear H1
     by_cases c6 : x3_1 = 0
     ·
      rw [if_pos c6] at H
      have c6b0 : (x3_1 == 0) = true := beq_iff_eq.mpr c6
      have c6b1 : (x3_1 != 0) = false := bne_eq_false_iff_eq.mpr c6
      clear c6
      obtain rfl := Option.some.inj H
      go_wp2_with (first | ((with_reducible refine gate_callee (f := 29) rfl ?_); refine goesL_ (some 14) rfl rfl Try.func29 (by kernel_rfl) rfl #[.string a0, .int .i64 x4_1] rfl (by (try simp only [List.map_toArray, List.map_cons, List.map_nil]); first | done | rfl | (simp only [List.length_drop, List.length_take]; rfl)) ?_; (with_reducible refine (atlasref01_Rune.calls k1 a0 x4_1 t107 t108 _ A3.out).mono ?_); rintro e w' ⟨rfl, ⟨nd, rfl⟩⟩; refine ⟨_, rfl, ?_⟩) | ((with_reducible refine gate_callee (f := 31) rfl ?_); refine goesL_ (some 18) rfl rfl Try.func31 (by kernel_rfl) rfl #[.int .i64 t107] rfl (by (try simp only [List.map_toArray, List.map_cons, List.map_nil]); first | done | rfl | (simp only [List.length_drop, List.length_take]; rfl)) ?_; (with_reducible refine (atlasref01_letter.calls k1 t107 false _ A4.out).mono ?_); rintro e w' ⟨rfl, ⟨nd, rfl⟩⟩; refine ⟨_, rfl, ?_⟩))
      go_ret
      exact ⟨by first | rfl | (simp; done) | (simp [*]; done), by repeat (first | exact Drawn0.refl _ | apply Drawn0.step)⟩
     ·
      rw [if_neg c6] at H
      have c6b0 : (x3_1 == 0) = false := beq_eq_false_iff_ne.mpr c6
      have c6b1 : (x3_1 != 0) = true := bne_iff_ne.mpr c6
      replace H := Option.bind_eq_some_iff.mp H
      obtain ⟨t110, A70, H⟩ := H
      replace H : (if t110 = true then (atlasref01_Name.l0 k1 a0 (wrap64 (x3_1 + 1)) (wrap64 (x4_1 + t108))) else (if t107 = 95 then (atlasref01_Name.l0 k1 a0 (wrap64 (x3_1 + 1)) (wrap64 (x4_1 + t108))) else (some false))) = some r := H
      have A7 := Aside0.mk A70
      clear A70
      by_cases c8 : t110 = true
      ·
       subst c8
       have H1 : (atlasref01_Name.l0 k1 a0 (wrap64 (x3_1 + 1)) (wrap64 (x4_1 + t108))) = some r := by rw [if_pos rfl] at H; exact H
       clear H
       have H := H1
       clear H1
       have H' := Aside0.mk H
       clear H
       go_wp2_with (first | ((with_reducible refine gate_callee (f := 29) rfl ?_); refine goesL_ (some 14) rfl rfl Try.func29 (by kernel_rfl) rfl #[.string a0, .int .i64 x4_1] rfl (by (try simp only [List.map_toArray, List.map_cons, List.map_nil]); first | done | rfl | (simp only [List.length_drop, List.length_take]; rfl)) ?_; (with_reducible refine (atlasref01_Rune.calls k1 a0 x4_1 t107 t108 _ A3.out).mono ?_); rintro e w' ⟨rfl, ⟨nd, rfl⟩⟩; refine ⟨_, rfl, ?_⟩) | ((with_reducible refine gate_callee (f := 31) rfl ?_); refine goesL_ (some 18) rfl rfl Try.func31 (by kernel_rfl) rfl #[.int .i64 t107] rfl (by (try simp only [List.map_toArray, List.map_cons, List.map_nil]); first | done | rfl | (simp only [List.length_drop, List.length_take]; rfl)) ?_; (with_reducible refine (atlasref01_letter.calls k1 t107 false _ A4.out).mono ?_); rintro e w' ⟨rfl, ⟨nd, rfl⟩⟩; refine ⟨_, rfl, ?_⟩) | (go_at_call 32; (with_reducible refine (atlasref01_digit.calls t107 true _ A7.out).mono ?_); rintro e w' ⟨rfl, ⟨nd, rfl⟩⟩))
       go_roundg k1
       case measure => have := HK1.out; omega
       case rel => exact ⟨(wrap64 (x3_1 + 1)), (wrap64 (x4_1 + t108)), (by first | rfl | (simp; done) | (simp [*]; done)), (by first | rfl | (simp; done) | (simp [*]; done)), H', ⟨by have := HK1.out; omega⟩, by repeat (first | exact Drawn0.refl _ | apply Drawn0.step)⟩
      ·
       replace c8 := Bool.eq_false_iff.mpr c8
       subst c8
       have H1 : (if t107 = 95 then (atlasref01_Name.l0 k1 a0 (wrap64 (x3_1 + 1)) (wrap64 (x4_1 + t108))) else (some false)) = some r := by rw [if_neg (show ¬ (false = true) by decide)] at H; exact H
       clear H
       have H := H1
       clear H1
       by_cases c9 : t107 = 95
       ·
        rw [if_pos c9] at H
        have c9b0 : (t107 == 95) = true := beq_iff_eq.mpr c9
        have c9b1 : (t107 != 95) = false := bne_eq_false_iff_eq.mpr c9
        clear c9
        have H' := Aside0.mk H
        clear H
        go_wp2_with (first | ((with_reducible refine gate_callee (f := 29) rfl ?_); refine goesL_ (some 14) rfl rfl Try.func29 (by kernel_rfl) rfl #[.string a0, .int .i64 x4_1] rfl (by (try simp only [List.map_toArray, List.map_cons, List.map_nil]); first | done | rfl | (simp only [List.length_drop, List.length_take]; rfl)) ?_; (with_reducible refine (atlasref01_Rune.calls k1 a0 x4_1 t107 t108 _ A3.out).mono ?_); rintro e w' ⟨rfl, ⟨nd, rfl⟩⟩; refine ⟨_, rfl, ?_⟩) | ((with_reducible refine gate_callee (f := 31) rfl ?_); refine goesL_ (some 18) rfl rfl Try.func31 (by kernel_rfl) rfl #[.int .i64 t107] rfl (by (try simp only [List.map_toArray, List.map_cons, List.map_nil]); first | done | rfl | (simp only [List.length_drop, List.length_take]; rfl)) ?_; (with_reducible refine (atlasref01_letter.calls k1 t107 false _ A4.out).mono ?_); rintro e w' ⟨rfl, ⟨nd, rfl⟩⟩; refine ⟨_, rfl, ?_⟩) | (go_at_call 32; (with_reducible refine (atlasref01_digit.calls t107 false _ A7.out).mono ?_); rintro e w' ⟨rfl, ⟨nd, rfl⟩⟩))
        go_roundg k1
        case measure => have := HK1.out; omega
        case rel => exact ⟨(wrap64 (x3_1 + 1)), (wrap64 (x4_1 + t108)), (by first | rfl | (simp; done) | (simp [*]; done)), (by first | rfl | (simp; done) | (simp [*]; done)), H', ⟨by have := HK1.out; omega⟩, by repeat (first | exact Drawn0.refl _ | apply Drawn0.step)⟩
       ·
        rw [if_neg c9] at H
        have c9b0 : (t107 == 95) = false := beq_eq_false_iff_ne.mpr c9
        have c9b1 : (t107 != 95) = true := bne_iff_ne.mpr c9
        obtain rfl := Option.some.inj H
        go_wp2_with (first | ((with_reducible refine gate_callee (f := 29) rfl ?_); refine goesL_ (some 14) rfl rfl Try.func29 (by kernel_rfl) rfl #[.string a0, .int .i64 x4_1] rfl (by (try simp only [List.map_toArray, List.map_cons, List.map_nil]); first | done | rfl | (simp only [List.length_drop, List.length_take]; rfl)) ?_; (with_reducible refine (atlasref01_Rune.calls k1 a0 x4_1 t107 t108 _ A3.out).mono ?_); rintro e w' ⟨rfl, ⟨nd, rfl⟩⟩; refine ⟨_, rfl, ?_⟩) | ((with_reducible refine gate_callee (f := 31) rfl ?_); refine goesL_ (some 18) rfl rfl Try.func31 (by kernel_rfl) rfl #[.int .i64 t107] rfl (by (try simp only [List.map_toArray, List.map_cons, List.map_nil]); first | done | rfl | (simp only [List.length_drop, List.length_take]; rfl)) ?_; (with_reducible refine (atlasref01_letter.calls k1 t107 false _ A4.out).mono ?_); rintro e w' ⟨rfl, ⟨nd, rfl⟩⟩; refine ⟨_, rfl, ?_⟩) | (go_at_call 32; (with_reducible refine (atlasref01_digit.calls t107 false _ A7.out).mono ?_); rintro e w' ⟨rfl, ⟨nd, rfl⟩⟩))
        go_ret
        exact ⟨by first | rfl | (simp; done) | (simp [*]; done), by repeat (first | exact Drawn0.refl _ | apply Drawn0.step)⟩
   ·
    rw [if_neg c2] at H
    have c2b0 : decide (x4_1 < (a0.size : Int)) = false := decide_eq_false c2
    clear c2
    by_cases c10 : x3_1 ≥ 1
    ·
     rw [if_pos c10] at H
     have c10b0 : decide (1 ≤ x3_1) = true := decide_eq_true c10
     clear c10
     obtain rfl := Option.some.inj H
     go_wp2
     go_ret
     exact ⟨by first | rfl | (simp; done) | (simp [*]; done), by repeat (first | exact Drawn0.refl _ | apply Drawn0.step)⟩
    ·
     rw [if_neg c10] at H
     have c10b0 : decide (1 ≤ x3_1) = false := decide_eq_false c10
     clear c10
     obtain rfl := Option.some.inj H
     go_wp2
     go_ret
     exact ⟨by first | rfl | (simp; done) | (simp [*]; done), by repeat (first | exact Drawn0.refl _ | apply Drawn0.step)⟩

end Go.Proofs.Ytihjlkdobdffjaa.S
