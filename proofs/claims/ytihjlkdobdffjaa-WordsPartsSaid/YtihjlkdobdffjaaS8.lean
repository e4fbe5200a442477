-- Written by a program of this session (wip/xprint.py), over the kit's print. Not trusted: Lean checks it.
import Derived.Test.YtihjlkdobdffjaaS0
import Derived.Test.YtihjlkdobdffjaaS2
import Derived.Test.YtihjlkdobdffjaaS7
namespace Go.Proofs.Ytihjlkdobdffjaa.S
open Go.Proofs.YtihjlkdobdffjaaG
open Go.RowKit Go.Proofs.YtihjlkdobdffjaaW.PrintWords Go.Proofs.YtihjlkdobdffjaaW.PrintLast Go.Proofs.YtihjlkdobdffjaaW.PrintMore
attribute [local go_sem] max2_int min2_int max_two min_two max_three min_three max_four min_four   -- for this text's walks alone
set_option linter.unusedVariables false
set_option linter.unusedSimpArgs false

/-! ### atlaslaw01_WordsName: function 4 -/
def atlaslaw01_WordsName.f (k : Nat) (a0 : ByteArray) : Option (Bool) := (words_Name.f k a0).bind fun t111 => ((atlasref01_Name.f k a0).bind fun t112 => (some (t111 == t112)))
theorem atlaslaw01_WordsName.mono : ∀ a0 k, LeO (atlaslaw01_WordsName.f k a0) (atlaslaw01_WordsName.f (k + 1) a0) := by
 intro a0 k
 unfold atlaslaw01_WordsName.f
 repeat' first
   | (with_reducible exact atlasref01_Name.mono _ _)
   | (with_reducible exact words_Name.mono _ _)
   | (with_reducible exact LeO.refl _)
   | (with_reducible exact LeO.none _)
   | (with_reducible refine LeO.ite ?_ ?_)
   | (with_reducible refine LeO.bind ?_ (fun _ => ?_))
   | exact atlasref01_Name.mono _ _
   | exact words_Name.mono _ _
   | exact LeO.none _
   | refine LeO.ite ?_ ?_
   | refine LeO.bind ?_ (fun _ => ?_)
set_option maxHeartbeats 8000000 in
set_option maxRecDepth 100000 in
theorem atlaslaw01_WordsName.calls (k : Nat) (a0 : ByteArray) (r : Bool) (w : World) (h : atlaslaw01_WordsName.f k a0 = some r) :
  Calls Try.prog 4 #[.string a0] w fun e w' => e = .returned (.bool r) ∧ Below w.heap.size w w' := by
 have HB := Aside0.mk (Below.refl w.heap.size w)
 have H : ((words_Name.f k a0).bind fun t111 => ((atlasref01_Name.f k a0).bind fun t112 => (some (t111 == t112)))) = some r := h
 clear h
 replace H := Option.bind_eq_some_iff.mp H
 obtain ⟨t111, A20, H⟩ := H
 replace H : ((atlasref01_Name.f k a0).bind fun t112 => (some (t111 == t112))) = some r := H
 have A2 := Aside0.mk A20
 clear A20
 replace H := Option.bind_eq_some_iff.mp H
 obtain ⟨t112, A30, H⟩ := H
 replace H : (some (t111 == t112)) = some r := H
 have A3 := Aside0.mk A30
 clear A30
 obtain rfl := Option.some.inj H
 go_enter Try.func4, Try.ntmps4
 go_wp2_with (first | ((with_reducible refine gate_callee (f := 13) rfl ?_); refine goesL_ (some 4) rfl rfl Try.func13 (by kernel_rfl) rfl #[.string a0] rfl (by (try simp only [List.map_toArray, List.map_cons, List.map_nil]); first | done | rfl | (simp only [List.length_drop, List.length_take]; rfl)) ?_; (with_reducible refine (words_Name.calls k a0 t111 _ A2.out).mono ?_); rintro e w4 ⟨rfl, hb⟩; refine ⟨_, rfl, ?_⟩; have n0_ := Aside0.mk (below_step (by repeat (first | (with_reducible first | exact HB.out | apply below_alloc | apply pw_below_drewN | apply below_drew1) | exact HB.out)) hb); clear HB; have HB := n0_; clear n0_; (try clear hb); (try clear hb2); (try clear hk); (try clear hi)) | ((with_reducible refine gate_callee (f := 14) rfl ?_); refine goesL_ (some 6) rfl rfl Try.func14 (by kernel_rfl) rfl #[.string a0] rfl (by (try simp only [List.map_toArray, List.map_cons, List.map_nil]); first | done | rfl | (simp only [List.length_drop, List.length_take]; rfl)) ?_; (with_reducible refine (atlasref01_Name.calls k a0 t112 _ A3.out).mono ?_); rintro e w' ⟨rfl, ⟨nd, rfl⟩⟩; refine ⟨_, rfl, ?_⟩))
 go_ret
 exact ⟨by first | rfl | (simp [errW_none, errW_some] <;> rfl) | (simp [*, errW_none, errW_some] <;> rfl) | (simp [*, errW_none, errW_some] <;> exact isEmpty_ne _), by repeat (first | (with_reducible first | exact HB.out | apply below_alloc | apply pw_below_drewN | apply below_drew1) | exact HB.out)⟩

/-- THE ONE PURE STATEMENT of atlaslaw01_WordsName: yours. -/
def atlaslaw01_WordsName.Pure : Prop := ∀ (a0 : ByteArray), a0.size ≤ 140737488351232 → ∃ k, atlaslaw01_WordsName.f k a0 = some true
theorem atlaslaw01_WordsName.walk (P : atlaslaw01_WordsName.Pure) (a0 : ByteArray) (w : World) (w0 : a0.size ≤ 140737488351232) :
  Calls Try.prog 4 #[.string a0] w fun e w' => e = .returned (.bool true) ∧ Below w.heap.size w w' := by
 obtain ⟨k, h⟩ := P a0 w0
 refine (atlaslaw01_WordsName.calls k a0 true w h).mono ?_
 rintro e w' ⟨rfl, hd⟩
 exact ⟨rfl, hd⟩

/-! ### words_Width: function 11 -/
def words_Width.l0 : Nat → ByteArray → Nat → Int → Option (Int)
  | 0, _, _, _ => none
  | k + 1, s, p, n => if p < s.size then (words_Width.l0 k s (p + (Utf8.decode s p).2) (wrap64 (n + 1))) else (some n)
def words_Width.f (k : Nat) (a0 : ByteArray) : Option (Int) := words_Width.l0 k a0 0 0
theorem words_Width.mono_l : ∀ k, (∀ y0 y1 y2, LeO (words_Width.l0 k y0 y1 y2) (words_Width.l0 (k + 1) y0 y1 y2))
  | 0 => fun _ _ _ r h => by simp [words_Width.l0] at h
  | k + 1 => fun y0 y1 y2 => by
    have ih := words_Width.mono_l k
    rw [words_Width.l0, words_Width.l0]
    exact LeO.ite (ih _ _ _) (LeO.refl _)
theorem words_Width.mono : ∀ a0 k, LeO (words_Width.f k a0) (words_Width.f (k + 1) a0) := fun a0 k => words_Width.mono_l k a0 0 0
set_option maxHeartbeats 8000000 in
set_option maxRecDepth 100000 in
theorem words_Width.calls (k : Nat) (a0 : ByteArray) (r : Int) (w : World) (h : words_Width.f k a0 = some r) :
    Calls Try.prog 11 #[.string a0] w fun e w' => e = .returned (.int .i64 r) ∧ Below w.heap.size w w' := by
  have H0 := Aside0.mk h
  clear h
  go_enter Try.func11, Try.ntmps11
  go_wp2
  go_loopg [3] k (fun kq v3 w' => ∃ (pos : Nat) (n : Int), v3 = .int .i64 n ∧ Aside0 (words_Width.l0 kq a0 pos n = some r) ∧ Aside0 (w'.heap[w.heap.size]? = some (.stringIter a0 pos)) ∧ Aside0 (Below w.heap.size w w'))
  case atStart => exact ⟨0, 0, rfl, H0, ⟨World.iter_heap w a0 0⟩, ⟨below_alloc (Below.refl _ _) _⟩⟩
  case round =>
    clear H0
    obtain ⟨pos, n, rfl, HA, HI, HB⟩ := hrel
    cases gk with
    | zero => exact absurd HA.out (by simp [words_Width.l0])
    | succ k1 =>
      by_cases hp : pos < a0.size
      · have hnx := fun ty => Lib.run_next_any_at (P := Try.prog) wr w.heap.size a0 pos ty HI.out hp
        have HA1 := HA.out
        rw [words_Width.l0, if_pos hp] at HA1
        clear HA
        have HA := Aside0.mk HA1
        have HI1 := Aside0.mk (Lib.iterAt_heap wr w.heap.size a0 pos (pos + (Utf8.decode a0 pos).2) HI.out)
        have HB1 := Aside0.mk (Lib.below_iterAt HB.out (Nat.le_refl _) a0 (pos + (Utf8.decode a0 pos).2))
        clear HA1
        go_wp2
        go_roundg k1
        case measure => omega
        case rel => exact ⟨_, _, rfl, HA, HI1, HB1⟩
      · have hnx := fun ty => Lib.run_next_end_at (P := Try.prog) wr w.heap.size a0 pos ty HI.out hp
        have HA1 := HA.out
        rw [words_Width.l0, if_neg hp] at HA1
        obtain rfl := Option.some.inj HA1
        go_wp2
        go_ret
        exact ⟨rfl, HB.out⟩

end Go.Proofs.Ytihjlkdobdffjaa.S
