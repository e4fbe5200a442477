-- Written by a program of this session (wip/xprint.py), over the kit's print. Not trusted: Lean checks it.
import Derived.Test.YtihjlkdobdffjaaDoorS0
namespace Go.Proofs.YtihjlkdobdffjaaDoor.S
open Go.Proofs.YtihjlkdobdffjaaDoorG
open Go.RowKit Go.Proofs.YtihjlkdobdffjaaDoorW.PrintWords Go.Proofs.YtihjlkdobdffjaaDoorW.PrintLast Go.Proofs.YtihjlkdobdffjaaDoorW.PrintMore
attribute [local go_sem] max2_int min2_int max_two min_two max_three min_three max_four min_four   -- for this text's walks alone
set_option linter.unusedVariables false
set_option linter.unusedSimpArgs false

/-! ### words_Width: function 11 -/
def words_Width.l0 : Nat → ByteArray → Nat → Int → Option (Int)
  | 0, _, _, _ => none
  | k + 1, s, p, n => if p < s.size then (words_Width.l0 k s (p + (Utf8.decode s p).2) (wrap64 (n + 1))) else (some n)
def words_Width.f (k : Nat) (a0 : ByteArray) : Option (Int) := words_Width.l0 k a0 0 0
theorem words_Width.mono_l : ∀ k, (∀ y0 y1 y2, LeO (words_Width.l0 k y0 y1 y2) (words_Width.l0 (k + 1) y0 y1 y2))
  | 0 => fun _ _ _ r h => by simp [words_Width.l0] at h
  | k + 1 => fun y0 y1 y2 => by
    have ih := words_Width.mono_l k
    rw [words_Width.l0, words_Width.l0]
    exact LeO.ite (ih _ _ _) (LeO.refl _)
theorem words_Width.mono : ∀ a0 k, LeO (words_Width.f k a0) (words_Width.f (k + 1) a0) := fun a0 k => words_Width.mono_l k a0 0 0
set_option maxHeartbeats 8000000 in
set_option maxRecDepth 100000 in
theorem words_Width.calls (k : Nat) (a0 : ByteArray) (r : Int) (w : World) (h : words_Width.f k a0 = some r) :
    Calls Tryd.prog 11 #[.string a0] w fun e w' => e = .returned (.int .i64 r) ∧ Below w.heap.size w w' := by
  have H0 := Aside0.mk h
  clear h
  go_enter Tryd.func11, Tryd.ntmps11
  go_wp2
  go_loopg [3] k (fun kq v3 w' => ∃ (pos : Nat) (n : Int), v3 = .int .i64 n ∧ Aside0 (words_Width.l0 kq a0 pos n = some r) ∧ Aside0 (w'.heap[w.heap.size]? = some (.stringIter a0 pos)) ∧ Aside0 (Below w.heap.size w w'))
  case atStart => exact ⟨0, 0, rfl, H0, ⟨World.iter_heap w a0 0⟩, ⟨below_alloc (Below.refl _ _) _⟩⟩
  case round =>
    clear H0
    obtain ⟨pos, n, rfl, HA, HI, HB⟩ := hrel
    cases gk with
    | zero => exact absurd HA.out (by simp [words_Width.l0])
    | succ k1 =>
      by_cases hp : pos < a0.size
      · have hnx := fun ty => Lib.run_next_any_at (P := Tryd.prog) wr w.heap.size a0 pos ty HI.out hp
        have HA1 := HA.out
        rw [words_Width.l0, if_pos hp] at HA1
        clear HA
        have HA := Aside0.mk HA1
        have HI1 := Aside0.mk (Lib.iterAt_heap wr w.heap.size a0 pos (pos + (Utf8.decode a0 pos).2) HI.out)
        have HB1 := Aside0.mk (Lib.below_iterAt HB.out (Nat.le_refl _) a0 (pos + (Utf8.decode a0 pos).2))
        clear HA1
        go_wp2
        go_roundg k1
        case measure => omega
        case rel => exact ⟨_, _, rfl, HA, HI1, HB1⟩
      · have hnx := fun ty => Lib.run_next_end_at (P := Tryd.prog) wr w.heap.size a0 pos ty HI.out hp
        have HA1 := HA.out
        rw [words_Width.l0, if_neg hp] at HA1
        obtain rfl := Option.some.inj HA1
        go_wp2
        go_ret
        exact ⟨rfl, HB.out⟩

end Go.Proofs.YtihjlkdobdffjaaDoor.S
