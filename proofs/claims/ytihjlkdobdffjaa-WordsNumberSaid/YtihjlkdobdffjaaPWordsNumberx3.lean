-- PRINTED BY print.sh 35421559b90ae4d0a3588c463048766b98c2df88dd9212a6774a882060cdf62d: not written by this session
import Derived.Test.YtihjlkdobdffjaaPWordsNumberx0
import Derived.Test.YtihjlkdobdffjaaPWordsNumberx1
import Derived.Test.YtihjlkdobdffjaaPWordsNumberx2
namespace Go.Proofs.Ytihjlkdobdffjaa.PWordsNumber
open Go.RowKit Go.Proofs.YtihjlkdobdffjaaW.PrintWords Go.Proofs.YtihjlkdobdffjaaW.PrintLast Go.Proofs.YtihjlkdobdffjaaW.PrintMore
attribute [local go_sem] max2_int min2_int max_two min_two max_three min_three max_four min_four   -- for this text's walks alone
set_option linter.unusedVariables false
set_option linter.unusedSimpArgs false

/-! ### atlaslaw01_WordsNumber: function 7 -/
def atlaslaw01_WordsNumber.f (k : Nat) (a0 : ByteArray) : Option (Bool) := (words_Number.f k a0).bind fun bt106 => ((atlasref01_Number.f k a0).bind fun bt108 => (if bt106.1 = bt108.1 then (some (bt106.2 == bt108.2)) else (some false)))
theorem atlaslaw01_WordsNumber.mono : ∀ a0 k, LeO (atlaslaw01_WordsNumber.f k a0) (atlaslaw01_WordsNumber.f (k + 1) a0) := by
  intro a0 k
  unfold atlaslaw01_WordsNumber.f
  repeat' first
      | (with_reducible exact atlasref01_Number.mono _ _)
      | (with_reducible exact words_Number.mono _ _)
      | (with_reducible exact LeO.refl _)
      | (with_reducible exact LeO.none _)
      | (with_reducible refine LeO.ite ?_ ?_)
      | (with_reducible refine LeO.bind ?_ (fun _ => ?_))
      | exact atlasref01_Number.mono _ _
      | exact words_Number.mono _ _
      | exact LeO.none _
      | refine LeO.ite ?_ ?_
      | refine LeO.bind ?_ (fun _ => ?_)
set_option maxHeartbeats 8000000 in
set_option maxRecDepth 100000 in
theorem atlaslaw01_WordsNumber.calls (k : Nat) (a0 : ByteArray) (r : Bool) (w : World) (h : atlaslaw01_WordsNumber.f k a0 = some r) :
    Calls Try.prog 7 #[.string a0] w fun e w' => e = .returned (.bool r) ∧ Drawn0 w w' := by
  have H : ((words_Number.f k a0).bind fun bt106 => ((atlasref01_Number.f k a0).bind fun bt108 => (if bt106.1 = bt108.1 then (some (bt106.2 == bt108.2)) else (some false)))) = some r := h
  clear h
  replace H := Option.bind_eq_some_iff.mp H
  obtain ⟨⟨t106, t107⟩, A20, H⟩ := H
  replace H : ((atlasref01_Number.f k a0).bind fun bt108 => (if t106 = bt108.1 then (some (t107 == bt108.2)) else (some false))) = some r := H
  have A2 := Aside0.mk A20
  clear A20
  replace H := Option.bind_eq_some_iff.mp H
  obtain ⟨⟨t108, t109⟩, A30, H⟩ := H
  replace H : (if t106 = t108 then (some (t107 == t109)) else (some false)) = some r := H
  have A3 := Aside0.mk A30
  clear A30
  by_cases c4 : t106 = t108
  · rw [if_pos c4] at H
    have c4b0 : (t106 == t108) = true := beq_iff_eq.mpr c4
    have c4b1 : (t106 != t108) = false := bne_eq_false_iff_eq.mpr c4
    clear c4
    obtain rfl := Option.some.inj H
    go_enter Try.func7, Try.ntmps7
    go_wp2_with (first | ((with_reducible refine gate_callee (f := 18) rfl ?_); refine goesL_ (some 9) rfl rfl Try.func18 (by kernel_rfl) rfl #[.string a0] rfl (by (try simp only [List.map_toArray, List.map_cons, List.map_nil]); first | done | rfl | (simp only [List.length_drop, List.length_take]; rfl)) ?_; (with_reducible refine (words_Number.calls k a0 t106 t107 _ A2.out).mono ?_); rintro e w' ⟨rfl, ⟨nd, rfl⟩⟩; refine ⟨_, rfl, ?_⟩) | ((with_reducible refine gate_callee (f := 19) rfl ?_); refine goesL_ (some 14) rfl rfl Try.func19 (by kernel_rfl) rfl #[.string a0] rfl (by (try simp only [List.map_toArray, List.map_cons, List.map_nil]); first | done | rfl | (simp only [List.length_drop, List.length_take]; rfl)) ?_; (with_reducible refine (atlasref01_Number.calls k a0 t108 t109 _ A3.out).mono ?_); rintro e w' ⟨rfl, ⟨nd, rfl⟩⟩; refine ⟨_, rfl, ?_⟩))
    go_ret
    exact ⟨by first | rfl | (simp; done) | (simp [*]; done), by repeat (first | exact Drawn0.refl _ | apply Drawn0.step)⟩
  · rw [if_neg c4] at H
    have c4b0 : (t106 == t108) = false := beq_eq_false_iff_ne.mpr c4
    have c4b1 : (t106 != t108) = true := bne_iff_ne.mpr c4
    obtain rfl := Option.some.inj H
    go_enter Try.func7, Try.ntmps7
    go_wp2_with (first | ((with_reducible refine gate_callee (f := 18) rfl ?_); refine goesL_ (some 9) rfl rfl Try.func18 (by kernel_rfl) rfl #[.string a0] rfl (by (try simp only [List.map_toArray, List.map_cons, List.map_nil]); first | done | rfl | (simp only [List.length_drop, List.length_take]; rfl)) ?_; (with_reducible refine (words_Number.calls k a0 t106 t107 _ A2.out).mono ?_); rintro e w' ⟨rfl, ⟨nd, rfl⟩⟩; refine ⟨_, rfl, ?_⟩) | ((with_reducible refine gate_callee (f := 19) rfl ?_); refine goesL_ (some 14) rfl rfl Try.func19 (by kernel_rfl) rfl #[.string a0] rfl (by (try simp only [List.map_toArray, List.map_cons, List.map_nil]); first | done | rfl | (simp only [List.length_drop, List.length_take]; rfl)) ?_; (with_reducible refine (atlasref01_Number.calls k a0 t108 t109 _ A3.out).mono ?_); rintro e w' ⟨rfl, ⟨nd, rfl⟩⟩; refine ⟨_, rfl, ?_⟩))
    go_ret
    exact ⟨by first | rfl | (simp; done) | (simp [*]; done), by repeat (first | exact Drawn0.refl _ | apply Drawn0.step)⟩

/-- THE ONE PURE STATEMENT of atlaslaw01_WordsNumber: yours. -/
def atlaslaw01_WordsNumber.Pure : Prop := ∀ (a0 : ByteArray), a0.size ≤ 140737488351232 → ∃ k, atlaslaw01_WordsNumber.f k a0 = some true
theorem atlaslaw01_WordsNumber.walk (P : atlaslaw01_WordsNumber.Pure) (a0 : ByteArray) (w : World) (w0 : a0.size ≤ 140737488351232) :
    Calls Try.prog 7 #[.string a0] w fun e w' => e = .returned (.bool true) ∧ Below w.heap.size w w' := by
  obtain ⟨k, h⟩ := P a0 w0
  refine (atlaslaw01_WordsNumber.calls k a0 true w h).mono ?_
  rintro e w' ⟨rfl, hd⟩
  exact ⟨rfl, hd.below⟩

end Go.Proofs.Ytihjlkdobdffjaa.PWordsNumber
