-- Written by a program of this session (wip/xprint.py), over the kit's print. Not trusted: Lean checks it.
import Derived.Test.YtihjlkdobdffjaaS0
import Derived.Test.YtihjlkdobdffjaaS2
import Derived.Test.YtihjlkdobdffjaaS8
import Derived.Test.YtihjlkdobdffjaaS14
namespace Go.Proofs.Ytihjlkdobdffjaa.S
open Go.Proofs.YtihjlkdobdffjaaG
open Go.RowKit Go.Proofs.YtihjlkdobdffjaaW.PrintWords Go.Proofs.YtihjlkdobdffjaaW.PrintLast Go.Proofs.YtihjlkdobdffjaaW.PrintMore
attribute [local go_sem] max2_int min2_int max_two min_two max_three min_three max_four min_four   -- for this text's walks alone
set_option linter.unusedVariables false
set_option linter.unusedSimpArgs false

/-! ### atlaslaw01_WordsParts: function 10 -/
/-- A place at which a rune begins, or the end. -/
inductive atlaslaw01_WordsParts.Bnd (s : ByteArray) : Nat → Prop
  | zero : atlaslaw01_WordsParts.Bnd s 0
  | step {p : Nat} : atlaslaw01_WordsParts.Bnd s p → p < s.size → atlaslaw01_WordsParts.Bnd s (p + (Utf8.decode s p).2)
/-- All that the law asks of the program's answers, by rounds. -/
def atlaslaw01_WordsParts.ok (k : Nat) (s : ByteArray) : Prop :=
  atlaslaw01_alive.f k = some true ∧ s.size ≤ 140737488351232 ∧ ((words_Name.f k s = some false ∧ words_Name.f k (s ++ ⟨#[45]⟩) = some false) ∨
    (words_Name.f k s = some true ∧ ∃ n : Int, words_Width.f k s = some n ∧ 1 ≤ n ∧ n ≤ 16 ∧ words_Name.f k (s ++ ⟨#[55]⟩) = some (decide (n < 16)) ∧ words_Name.f k (s ++ ⟨#[95]⟩) = some (decide (n < 16)) ∧
      words_Name.f k (s ++ ⟨#[255]⟩) = some false ∧ words_Name.f k (s ++ ⟨#[32]⟩) = some false ∧ words_Name.f k (s ++ ⟨#[45]⟩) = some false ∧ words_Name.f k (⟨#[55]⟩ ++ s) = some false ∧
      ∀ p, atlaslaw01_WordsParts.Bnd s p → 0 < p → p < s.size → words_Name.f k (s.extract 0 p) = some true))
open Classical in
noncomputable def atlaslaw01_WordsParts.f (k : Nat) (a0 : ByteArray) : Option (Bool) := if atlaslaw01_WordsParts.ok k a0 then some true else none
set_option maxHeartbeats 8000000 in
set_option maxRecDepth 100000 in
theorem atlaslaw01_WordsParts.calls (k : Nat) (a0 : ByteArray) (r : Bool) (w : World) (h : atlaslaw01_WordsParts.f k a0 = some r) :
    Calls Try.prog 10 #[.string a0] w fun e w' => e = .returned (.bool r) ∧ Below w.heap.size w w' := by
  unfold atlaslaw01_WordsParts.f at h
  by_cases hk : atlaslaw01_WordsParts.ok k a0
  case neg => rw [if_neg hk] at h; exact absurd h (by simp)
  rw [if_pos hk] at h
  obtain rfl := Option.some.inj h
  clear h
  obtain ⟨ha, hs, hc⟩ := hk
  have HA := Aside0.mk ha
  clear ha
  have HB0 := Aside0.mk (Below.refl w.heap.size w)
  have s1 : (a0.size + 1 ≤ 9223372036854775807) = True := eq_true (by omega)
  have s2 : decide (a0.size + 1 ≤ 9223372036854775807) = true := decide_eq_true (by omega)
  have s3 : (9223372036854775807 < a0.size + 1) = False := eq_false (by omega)
  have s4 : (1 + a0.size ≤ 9223372036854775807) = True := eq_true (by omega)
  have s5 : decide (1 + a0.size ≤ 9223372036854775807) = true := decide_eq_true (by omega)
  have s6 : (9223372036854775807 < 1 + a0.size) = False := eq_false (by omega)
  rcases hc with ⟨h1, h2⟩ | ⟨h1, n, hw, n1, n2, g1, g2, g3, g4, g5, g6, g7⟩
  · have H1 := Aside0.mk h1
    have H2 := Aside0.mk h2
    clear h1 h2
    go_enter Try.func10, Try.ntmps10
    go_wp2_with (first
      | (go_at_call 28; (with_reducible refine (atlaslaw01_alive.calls k true _ HA.out).mono ?_); rintro e w1 ⟨rfl, hb1⟩; have HB1 := Aside0.mk (below_step HB0.out hb1); clear hb1)
      | (go_at_call 13; (with_reducible refine (words_Name.calls k a0 false _ H1.out).mono ?_); rintro e w2 ⟨rfl, hb2⟩; have HB2 := Aside0.mk (below_step HB1.out hb2); clear hb2)
      | (go_at_call 13; (with_reducible refine (words_Name.calls k (a0 ++ ⟨#[45]⟩) false _ H2.out).mono ?_); rintro e w3 ⟨rfl, hb3⟩; have HB3 := Aside0.mk (below_step HB2.out hb3); clear hb3))
    go_ret
    exact ⟨rfl, HB3.out⟩
  · have H1 := Aside0.mk h1
    have HW := Aside0.mk hw
    have G1 := Aside0.mk g1
    have G2 := Aside0.mk g2
    have G3 := Aside0.mk g3
    have G4 := Aside0.mk g4
    have G5 := Aside0.mk g5
    have G6 := Aside0.mk g6
    have G7 := Aside0.mk g7
    clear h1 hw g1 g2 g3 g4 g5 g6 g7
    have t1 : decide (n < 1) = false := decide_eq_false (by omega)
    have t2 : decide (16 < n) = false := decide_eq_false (by omega)
    obtain ⟨b, hb⟩ : ∃ b, decide (n < 16) = b := ⟨_, rfl⟩
    rw [hb] at G1 G2
    have NN := Aside0.mk n1
    clear n1 n2
    have HWl : Aside0 (words_Width.l0 k a0 0 0 = some n) := HW
    go_enter Try.func10, Try.ntmps10
    go_wp2_with (first
      | (go_at_call 28; (with_reducible refine (atlaslaw01_alive.calls k true _ HA.out).mono ?_); rintro e w1 ⟨rfl, hb1⟩; have HB1 := Aside0.mk (below_step HB0.out hb1); clear hb1)
      | (go_at_call 13; (with_reducible refine (words_Name.calls k a0 true _ H1.out).mono ?_); rintro e w2 ⟨rfl, hb2⟩; have HB2 := Aside0.mk (below_step HB1.out hb2); clear hb2)
      | (go_at_call 11; (with_reducible refine (words_Width.calls k a0 n _ HW.out).mono ?_); rintro e w3 ⟨rfl, hb3⟩; have HB3 := Aside0.mk (below_step HB2.out hb3); clear hb3)
      | (go_at_call 13; (with_reducible refine (words_Name.calls k (a0 ++ ⟨#[55]⟩) b _ G1.out).mono ?_); rintro e w4 ⟨rfl, hb4⟩; have HB4 := Aside0.mk (below_step HB3.out hb4); clear hb4)
      | (go_at_call 13; (with_reducible refine (words_Name.calls k (a0 ++ ⟨#[95]⟩) b _ G2.out).mono ?_); rintro e w5 ⟨rfl, hb5⟩; have HB5 := Aside0.mk (below_step HB4.out hb5); clear hb5)
      | (go_at_call 13; (with_reducible refine (words_Name.calls k (a0 ++ ⟨#[255]⟩) false _ G3.out).mono ?_); rintro e w6 ⟨rfl, hb6⟩; have HB6 := Aside0.mk (below_step HB5.out hb6); clear hb6)
      | (go_at_call 13; (with_reducible refine (words_Name.calls k (a0 ++ ⟨#[32]⟩) false _ G4.out).mono ?_); rintro e w7 ⟨rfl, hb7⟩; have HB7 := Aside0.mk (below_step HB6.out hb7); clear hb7)
      | (go_at_call 13; (with_reducible refine (words_Name.calls k (a0 ++ ⟨#[45]⟩) false _ G5.out).mono ?_); rintro e w8 ⟨rfl, hb8⟩; have HB8 := Aside0.mk (below_step HB7.out hb8); clear hb8)
      | (go_at_call 13; (with_reducible refine (words_Name.calls k (⟨#[55]⟩ ++ a0) false _ G6.out).mono ?_); rintro e w9 ⟨rfl, hb9⟩; have HB9 := Aside0.mk (below_step HB8.out hb9); clear hb9))
    go_loopg [4] k (fun kq v4 w' => ∃ (pos : Nat) (cnt : Int), v4 = .int .i64 cnt ∧ Aside0 (words_Width.l0 kq a0 pos cnt = some n) ∧ Aside0 (atlaslaw01_WordsParts.Bnd a0 pos) ∧ Aside0 (w'.heap[w9.heap.size]? = some (.stringIter a0 pos)) ∧ Aside0 (Below w9.heap.size w9 w'))
    case atStart => exact ⟨0, 0, rfl, HWl, ⟨.zero⟩, ⟨World.iter_heap w9 a0 0⟩, ⟨below_alloc (Below.refl _ _) _⟩⟩
    case round =>
      clear HWl
      obtain ⟨pos, cnt, rfl, HL, HP, HI, HB⟩ := hrel
      cases gk with
      | zero => exact absurd HL.out (by simp [words_Width.l0])
      | succ k1 =>
        by_cases hp : pos < a0.size
        · have hnx := fun ty => Lib.run_next_any_at (P := Try.prog) wr w9.heap.size a0 pos ty HI.out hp
          have HA1 := HL.out
          rw [words_Width.l0, if_pos hp] at HA1
          clear HL
          have HL := Aside0.mk HA1
          have HP1 := Aside0.mk (atlaslaw01_WordsParts.Bnd.step HP.out hp)
          have HI1 := Aside0.mk (Lib.iterAt_heap wr w9.heap.size a0 pos (pos + (Utf8.decode a0 pos).2) HI.out)
          have HC1 := Aside0.mk (Lib.below_iterAt HB.out (Nat.le_refl _) a0 (pos + (Utf8.decode a0 pos).2))
          clear HA1
          by_cases h0 : pos = 0
          · subst h0
            simp only [Nat.zero_add] at HL HP1 HI1 HC1
            go_wp2
            go_roundg k1
            case measure => omega
            case rel => exact ⟨_, _, rfl, HL, HP1, HI1, HC1⟩
          · have HN := Aside0.mk (G7.out pos HP.out (by omega) hp)
            have q1 : (0 < pos) = True := eq_true (by omega)
            have q2 : decide (0 < pos) = true := decide_eq_true (by omega)
            have q3 : (pos ≤ a0.size) = True := eq_true (by omega)
            have q4 : decide (pos ≤ a0.size) = true := decide_eq_true (by omega)
            have q5 : ((0 : Int) < (pos : Int)) = True := eq_true (by omega)
            have q6 : decide ((0 : Int) < (pos : Int)) = true := decide_eq_true (by omega)
            have q7 : ((pos : Int) ≤ (a0.size : Int)) = True := eq_true (by omega)
            have q8 : (0 ≤ (pos : Int)) = True := eq_true (by omega)
            clear hp h0
            go_wp2_with (go_at_call 13; (with_reducible refine (words_Name.calls k (a0.extract 0 pos) true _ HN.out).mono ?_); rintro e w10 ⟨rfl, hb10⟩; have HC2 := Aside0.mk (below_step HC1.out hb10); have HI2 := Aside0.mk ((hb10.block _ (blk_lt HI1.out)).trans HI1.out); clear hb10)
            go_roundg k1
            case measure => omega
            case rel => exact ⟨_, _, rfl, HL, HP1, HI2, HC2⟩
        · have hnx := fun ty => Lib.run_next_end_at (P := Try.prog) wr w9.heap.size a0 pos ty HI.out hp
          have HA1 := HL.out
          rw [words_Width.l0, if_neg hp] at HA1
          obtain rfl := Option.some.inj HA1
          go_wp2
          go_ret
          exact ⟨by simp, below_step HB9.out HB.out⟩

end Go.Proofs.Ytihjlkdobdffjaa.S
