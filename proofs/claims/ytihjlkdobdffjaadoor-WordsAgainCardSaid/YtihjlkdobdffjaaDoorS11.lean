-- Written by a program of this session (wip/xprint.py), over the kit's print. Not trusted: Lean checks it.
import Derived.Test.YtihjlkdobdffjaaDoorS0
import Derived.Test.YtihjlkdobdffjaaDoorS10
namespace Go.Proofs.YtihjlkdobdffjaaDoor.S
open Go.Proofs.YtihjlkdobdffjaaDoorG
open Go.RowKit Go.Proofs.YtihjlkdobdffjaaDoorW.PrintWords Go.Proofs.YtihjlkdobdffjaaDoorW.PrintLast Go.Proofs.YtihjlkdobdffjaaDoorW.PrintMore
attribute [local go_sem] max2_int min2_int max_two min_two max_three min_three max_four min_four   -- for this text's walks alone
set_option linter.unusedVariables false
set_option linter.unusedSimpArgs false

/-! ### words_Name: function 12 -/
/-- What a rune that is no letter may be in a name, behind n runes. -/
def words_Name.bad (l : Bool) (n r : Int) : Bool := !l && (n == 0 || (r != 95 && (decide (r < 48) || decide (r > 57))))
def words_Name.l0 : Nat → ByteArray → Nat → Int → Option (Bool)
  | 0, _, _, _ => none
  | k + 1, s, p, n => if p < s.size then ((words_letter.f k ((Utf8.decode s p).1 : Int)).bind fun t => (if words_Name.bad t n ((Utf8.decode s p).1 : Int) = true then (some false) else (words_Name.l0 k s (p + (Utf8.decode s p).2) (wrap64 (n + 1))))) else (some (decide (1 ≤ n) && decide (n ≤ 16)))
def words_Name.f (k : Nat) (a0 : ByteArray) : Option (Bool) := words_Name.l0 k a0 0 0
theorem words_Name.mono_l : ∀ k, (∀ y0 y1 y2, LeO (words_Name.l0 k y0 y1 y2) (words_Name.l0 (k + 1) y0 y1 y2))
  | 0 => fun _ _ _ r h => by simp [words_Name.l0] at h
  | k + 1 => fun y0 y1 y2 => by
    have ih := words_Name.mono_l k
    rw [words_Name.l0, words_Name.l0]
    exact LeO.ite (LeO.bind (words_letter.mono _ _) (fun _ => LeO.ite (LeO.refl _) (ih _ _ _))) (LeO.refl _)
theorem words_Name.mono : ∀ a0 k, LeO (words_Name.f k a0) (words_Name.f (k + 1) a0) := fun a0 k => words_Name.mono_l k a0 0 0
set_option maxHeartbeats 8000000 in
set_option maxRecDepth 100000 in
theorem words_Name.calls (k : Nat) (a0 : ByteArray) (r : Bool) (w : World) (h : words_Name.f k a0 = some r) :
    Calls Tryd.prog 12 #[.string a0] w fun e w' => e = .returned (.bool r) ∧ Below w.heap.size w w' := by
  have H0 := Aside0.mk h
  clear h
  go_enter Tryd.func12, Tryd.ntmps12
  go_wp2
  go_loopg [3] k (fun kq v3 w' => ∃ (pos : Nat) (n : Int), v3 = .int .i64 n ∧ Aside0 (words_Name.l0 kq a0 pos n = some r) ∧ Aside0 (w'.heap[w.heap.size]? = some (.stringIter a0 pos)) ∧ Aside0 (Below w.heap.size w w'))
  case atStart => exact ⟨0, 0, rfl, H0, ⟨World.iter_heap w a0 0⟩, ⟨below_alloc (Below.refl _ _) _⟩⟩
  case round =>
    clear H0
    obtain ⟨pos, n, rfl, HA, HI, HB⟩ := hrel
    cases gk with
    | zero => exact absurd HA.out (by simp [words_Name.l0])
    | succ k1 =>
      by_cases hp : pos < a0.size
      · have hnx := fun ty => Lib.run_next_any_at (P := Tryd.prog) wr w.heap.size a0 pos ty HI.out hp
        have HI1 := Aside0.mk (Lib.iterAt_heap wr w.heap.size a0 pos (pos + (Utf8.decode a0 pos).2) HI.out)
        have HB1 := Aside0.mk (Lib.below_iterAt HB.out (Nat.le_refl _) a0 (pos + (Utf8.decode a0 pos).2))
        have HA1 := HA.out
        rw [words_Name.l0, if_pos hp] at HA1
        clear HA
        obtain ⟨t, HL0, HA2⟩ := Option.bind_eq_some_iff.mp HA1
        have HL := Aside0.mk HL0
        clear HL0 HA1
        obtain ⟨c, hc⟩ : ∃ c : Int, ((Utf8.decode a0 pos).1 : Int) = c := ⟨_, rfl⟩
        rw [hc] at HA2 HL
        simp only [hc] at hnx
        clear hc
        cases t with
        | true =>
          rw [if_neg (by simp [words_Name.bad])] at HA2
          have HA := Aside0.mk HA2
          clear HA2
          go_wp2_with (first | ((with_reducible refine gate_callee (f := 16) rfl ?_); (with_reducible refine (words_letter.calls k1 c true _ HL.out).mono ?_); rintro e w' ⟨rfl, ⟨nd, rfl⟩⟩) | (go_at_call 16; (with_reducible refine (words_letter.calls k1 c true _ HL.out).mono ?_); rintro e w' ⟨rfl, ⟨nd, rfl⟩⟩))
          go_roundg k1
          case measure => omega
          case rel => exact ⟨_, _, rfl, HA, HI1, ⟨pw_below_drewN HB1.out _⟩⟩
        | false =>
          by_cases h0 : n = 0
          · subst h0
            rw [if_pos (by simp [words_Name.bad])] at HA2
            obtain rfl := Option.some.inj HA2
            go_wp2_with (go_at_call 16; (with_reducible refine (words_letter.calls k1 c false _ HL.out).mono ?_); rintro e w' ⟨rfl, ⟨nd, rfl⟩⟩)
            go_ret
            exact ⟨rfl, pw_below_drewN HB1.out _⟩
          · by_cases h95 : c = 95
            · subst h95
              rw [if_neg (by simp [words_Name.bad, h0])] at HA2
              have HA := Aside0.mk HA2
              clear HA2
              have b0 : ((n : Int) == 0) = false := beq_eq_false_iff_ne.mpr h0
              go_wp2_with (go_at_call 16; (with_reducible refine (words_letter.calls k1 95 false _ HL.out).mono ?_); rintro e w' ⟨rfl, ⟨nd, rfl⟩⟩)
              go_roundg k1
              case measure => omega
              case rel => exact ⟨_, _, rfl, HA, HI1, ⟨pw_below_drewN HB1.out _⟩⟩
            · have b0 : ((n : Int) == 0) = false := beq_eq_false_iff_ne.mpr h0
              have b1 : ((c : Int) != 95) = true := bne_iff_ne.mpr h95
              by_cases hd : c < 48
              · have d0 : decide (c < 48) = true := decide_eq_true hd
                rw [if_pos (by simp [words_Name.bad, h95, hd])] at HA2
                obtain rfl := Option.some.inj HA2
                clear hd h95 h0
                go_wp2_with (go_at_call 16; (with_reducible refine (words_letter.calls k1 c false _ HL.out).mono ?_); rintro e w' ⟨rfl, ⟨nd, rfl⟩⟩)
                go_ret
                exact ⟨rfl, pw_below_drewN HB1.out _⟩
              · have d0 : decide (c < 48) = false := decide_eq_false hd
                by_cases hg : c > 57
                · have d1 : decide (57 < c) = true := decide_eq_true hg
                  rw [if_pos (by simp [words_Name.bad, h95]; omega)] at HA2
                  obtain rfl := Option.some.inj HA2
                  clear hd h95 h0 hg
                  go_wp2_with (go_at_call 16; (with_reducible refine (words_letter.calls k1 c false _ HL.out).mono ?_); rintro e w' ⟨rfl, ⟨nd, rfl⟩⟩)
                  go_ret
                  exact ⟨rfl, pw_below_drewN HB1.out _⟩
                · have d1 : decide (57 < c) = false := decide_eq_false hg
                  rw [if_neg (by simp [words_Name.bad, h0, h95]; omega)] at HA2
                  have HA := Aside0.mk HA2
                  clear HA2 hd h95 h0 hg
                  go_wp2_with (go_at_call 16; (with_reducible refine (words_letter.calls k1 c false _ HL.out).mono ?_); rintro e w' ⟨rfl, ⟨nd, rfl⟩⟩)
                  go_roundg k1
                  case measure => omega
                  case rel => exact ⟨_, _, rfl, HA, HI1, ⟨pw_below_drewN HB1.out _⟩⟩
      · have hnx := fun ty => Lib.run_next_end_at (P := Tryd.prog) wr w.heap.size a0 pos ty HI.out hp
        have HA1 := HA.out
        rw [words_Name.l0, if_neg hp] at HA1
        obtain rfl := Option.some.inj HA1
        clear HA
        by_cases h1 : 1 ≤ n
        · have d1 : decide (1 ≤ n) = true := decide_eq_true h1
          go_wp2
          go_ret
          exact ⟨by simp [d1], HB.out⟩
        · have d1 : decide (1 ≤ n) = false := decide_eq_false h1
          go_wp2
          go_ret
          exact ⟨by simp [d1], HB.out⟩

end Go.Proofs.YtihjlkdobdffjaaDoor.S
