-- Written by a program of this session (wip/xprint.py), over the kit's print. Not trusted: Lean checks it.
import Derived.Test.YtihjlkdobdffjaaS0
namespace Go.Proofs.Ytihjlkdobdffjaa.S
open Go.Proofs.YtihjlkdobdffjaaG
open Go.RowKit Go.Proofs.YtihjlkdobdffjaaW.PrintWords Go.Proofs.YtihjlkdobdffjaaW.PrintLast Go.Proofs.YtihjlkdobdffjaaW.PrintMore
attribute [local go_sem] max2_int min2_int max_two min_two max_three min_three max_four min_four   -- for this text's walks alone
set_option linter.unusedVariables false
set_option linter.unusedSimpArgs false

/-! ### atlaslaw01_same: function 15 -/
def atlaslaw01_same.l0 : Nat → List ByteArray → List ByteArray → Int → Option (Bool)
  | 0, _, _, _ => none
  | k + 1, x0, x1, x5 => if x5 < (x0.length : Int) then (if 0 ≤ x5 then (if x5 < (x1.length : Int) then (if (rdOf ByteArray.empty x0 x5).toList = (rdOf ByteArray.empty x1 x5).toList then (atlaslaw01_same.l0 k x0 x1 (wrap64 (x5 + 1))) else (some false)) else (none)) else (none)) else (some true)
def atlaslaw01_same.f (k : Nat) (l0 : List ByteArray) (l1 : List ByteArray) : Option (Bool) := if (l0.length : Int) = (l1.length : Int) then (atlaslaw01_same.l0 k l0 l1 0) else (some false)
theorem atlaslaw01_same.mono_l : ∀ k, (∀ y0 y1 y2, LeO (atlaslaw01_same.l0 k y0 y1 y2) (atlaslaw01_same.l0 (k + 1) y0 y1 y2))
  | 0 => fun _ _ _ r h => by simp [atlaslaw01_same.l0] at h
  | k + 1 => by
    have ih0 := atlaslaw01_same.mono_l k
    · intro y0 y1 y2
      unfold atlaslaw01_same.l0
      repeat' first
      | (with_reducible exact ih0 _ _ _)
      | (with_reducible exact LeO.refl _)
      | (with_reducible exact LeO.none _)
      | (with_reducible refine LeO.ite ?_ ?_)
      | (with_reducible refine LeO.bind ?_ (fun _ => ?_))
      | exact ih0 _ _ _
      | exact LeO.none _
      | refine LeO.ite ?_ ?_
      | refine LeO.bind ?_ (fun _ => ?_)
theorem atlaslaw01_same.mono : ∀ a0 a1 k, LeO (atlaslaw01_same.f k a0 a1) (atlaslaw01_same.f (k + 1) a0 a1) := by
  intro a0 a1 k
  have ih0 := atlaslaw01_same.mono_l k
  unfold atlaslaw01_same.f
  repeat' first
      | (with_reducible exact ih0 _ _ _)
      | (with_reducible exact LeO.refl _)
      | (with_reducible exact LeO.none _)
      | (with_reducible refine LeO.ite ?_ ?_)
      | (with_reducible refine LeO.bind ?_ (fun _ => ?_))
      | exact ih0 _ _ _
      | exact LeO.none _
      | refine LeO.ite ?_ ?_
      | refine LeO.bind ?_ (fun _ => ?_)
set_option maxHeartbeats 8000000 in
set_option maxRecDepth 100000 in
theorem atlaslaw01_same.calls (k : Nat) (A0 : Option Addr) (c0 : Nat) (l0 : List ByteArray) (A1 : Option Addr) (c1 : Nat) (l1 : List ByteArray) (r : Bool) (w : World) (hr0 : Kd.C Kd.string w A0 l0.length l0) (hc0 : l0.length ≤ c0) (hr1 : Kd.C Kd.string w A1 l1.length l1) (hc1 : l1.length ≤ c1) (h : atlaslaw01_same.f k l0 l1 = some r) :
    Calls Try.prog 15 #[.slice A0 l0.length c0, .slice A1 l1.length c1] w fun e w' => e = .returned (.bool r) ∧ Drawn0 w w' := by
  have HR0 := Aside0.mk hr0
  have HC0 := Aside0.mk hc0
  clear hr0 hc0
  have HR1 := Aside0.mk hr1
  have HC1 := Aside0.mk hc1
  clear hr1 hc1
  have H : (if (l0.length : Int) = (l1.length : Int) then (atlaslaw01_same.l0 k l0 l1 0) else (some false)) = some r := h
  clear h
  by_cases c3 : (l0.length : Int) = (l1.length : Int)
  · rw [if_pos c3] at H
    have c3b0 : ((l0.length : Int) == (l1.length : Int)) = true := beq_iff_eq.mpr c3
    have c3b1 : ((l0.length : Int) != (l1.length : Int)) = false := bne_eq_false_iff_eq.mpr c3
    have c3b2 : (l0.length == l1.length) = true := by first | simpa using c3 | (simp at c3 ⊢; omega)
    clear c3
    have H' := Aside0.mk H
    clear H
    go_enter Try.func15, Try.ntmps15
    go_wp2
    repeat (go_quiet (fail); try go_wp2)
    go_loopg [5] k (fun kq v5 w' => ∃ (x5_1 : Int), v5 = .int .i64 x5_1 ∧ Aside0 (atlaslaw01_same.l0 kq l0 l1 x5_1 = some r) ∧ Aside0 (kq ≤ k) ∧ Drawn0 w w')
    case atStart => exact ⟨(0), (by first | rfl | (simp; done) | (simp [*]; done)), H', ⟨Nat.le_refl _⟩, by repeat (first | exact Drawn0.refl _ | apply Drawn0.step)⟩
    case round =>
      clear H'
      try clear c1
      try clear p2
      try clear c3
      try clear c3b0
      try clear c3b1
      try clear c3b2
      obtain ⟨x5_1, rfl, HA, HK1, ⟨m1, rfl⟩⟩ := hrel
      cases gk with
      | zero => exact absurd HA.out (by simp [atlaslaw01_same.l0])
      | succ k1 =>
        have H := HA.out
        clear HA
        simp only [atlaslaw01_same.l0] at H
        by_cases c4 : x5_1 < (l0.length : Int)
        · rw [if_pos c4] at H
          have c4b0 : decide (x5_1 < (l0.length : Int)) = true := decide_eq_true c4
          clear c4
          by_cases c5 : 0 ≤ x5_1
          · rw [if_pos c5] at H
            have c5b0 : decide (0 ≤ x5_1) = true := decide_eq_true c5
            clear c5
            by_cases c6 : x5_1 < (l1.length : Int)
            · rw [if_pos c6] at H
              have c6b0 : decide (x5_1 < (l1.length : Int)) = true := decide_eq_true c6
              clear c6
              by_cases c7 : (rdOf ByteArray.empty l0 x5_1).toList = (rdOf ByteArray.empty l1 x5_1).toList
              · rw [if_pos c7] at H
                have c7b0 : ((rdOf ByteArray.empty l0 x5_1).toList == (rdOf ByteArray.empty l1 x5_1).toList) = true := beq_iff_eq.mpr c7
                have c7b1 : ((rdOf ByteArray.empty l0 x5_1).toList != (rdOf ByteArray.empty l1 x5_1).toList) = false := bne_eq_false_iff_eq.mpr c7
                clear c7
                have H' := Aside0.mk H
                clear H
                have p101 : 0 ≤ (x5_1 : Int) := of_decide_eq_true (by first | (with_reducible assumption) | assumption)
                have q101 : x5_1 < (l0.length : Int) := of_decide_eq_true (by first | (with_reducible assumption) | assumption)
                obtain ⟨ad101, e101, hx101_0⟩ := Kd.at_string HR0.out x5_1 p101 q101
                cases e101
                replace p101 := eq_true p101
                replace q101 := eq_true q101
                have p102 : 0 ≤ (x5_1 : Int) := of_decide_eq_true (by first | (with_reducible assumption) | assumption)
                have q102 : x5_1 < (l1.length : Int) := of_decide_eq_true (by first | (with_reducible assumption) | assumption)
                obtain ⟨ad102, e102, hx102_0⟩ := Kd.at_string HR1.out x5_1 p102 q102
                cases e102
                replace p102 := eq_true p102
                replace q102 := eq_true q102
                go_wp2
                repeat (go_quiet (fail); try go_wp2)
                go_roundg k1
                case measure => have := HK1.out; omega
                case rel => exact ⟨(wrap64 (x5_1 + 1)), (by first | rfl | (simp; done) | (simp [*]; done)), H', ⟨by have := HK1.out; omega⟩, by repeat (first | exact Drawn0.refl _ | apply Drawn0.step)⟩
              · rw [if_neg c7] at H
                have c7b0 : ((rdOf ByteArray.empty l0 x5_1).toList == (rdOf ByteArray.empty l1 x5_1).toList) = false := beq_eq_false_iff_ne.mpr c7
                have c7b1 : ((rdOf ByteArray.empty l0 x5_1).toList != (rdOf ByteArray.empty l1 x5_1).toList) = true := bne_iff_ne.mpr c7
                obtain rfl := Option.some.inj H
                have p101 : 0 ≤ (x5_1 : Int) := of_decide_eq_true (by first | (with_reducible assumption) | assumption)
                have q101 : x5_1 < (l0.length : Int) := of_decide_eq_true (by first | (with_reducible assumption) | assumption)
                obtain ⟨ad101, e101, hx101_0⟩ := Kd.at_string HR0.out x5_1 p101 q101
                cases e101
                replace p101 := eq_true p101
                replace q101 := eq_true q101
                have p102 : 0 ≤ (x5_1 : Int) := of_decide_eq_true (by first | (with_reducible assumption) | assumption)
                have q102 : x5_1 < (l1.length : Int) := of_decide_eq_true (by first | (with_reducible assumption) | assumption)
                obtain ⟨ad102, e102, hx102_0⟩ := Kd.at_string HR1.out x5_1 p102 q102
                cases e102
                replace p102 := eq_true p102
                replace q102 := eq_true q102
                go_wp2
                repeat (go_quiet (fail); try go_wp2)
                go_ret
                exact ⟨by first | rfl | (simp; done) | (simp [*]; done), by repeat (first | exact Drawn0.refl _ | apply Drawn0.step)⟩
            · rw [if_neg c6] at H
              exact absurd H (by simp)
          · rw [if_neg c5] at H
            exact absurd H (by simp)
        · rw [if_neg c4] at H
          have c4b0 : decide (x5_1 < (l0.length : Int)) = false := decide_eq_false c4
          clear c4
          obtain rfl := Option.some.inj H
          go_wp2
          repeat (go_quiet (fail); try go_wp2)
          go_ret
          exact ⟨by first | rfl | (simp; done) | (simp [*]; done), by repeat (first | exact Drawn0.refl _ | apply Drawn0.step)⟩
  · rw [if_neg c3] at H
    have c3b0 : ((l0.length : Int) == (l1.length : Int)) = false := beq_eq_false_iff_ne.mpr c3
    have c3b1 : ((l0.length : Int) != (l1.length : Int)) = true := bne_iff_ne.mpr c3
    have c3b2 : (l0.length == l1.length) = false := by first | simpa using c3 | (simp at c3 ⊢; omega)
    obtain rfl := Option.some.inj H
    go_enter Try.func15, Try.ntmps15
    go_wp2
    repeat (go_quiet (fail); try go_wp2)
    go_ret
    exact ⟨by first | rfl | (simp; done) | (simp [*]; done), by repeat (first | exact Drawn0.refl _ | apply Drawn0.step)⟩

/-! ### words_blank: function 33 -/
def words_blank.f (a0 : Int) : Option (Bool) := if a0 = 9 then (some true) else (if a0 = 13 then (some true) else (if a0 = 32 then (some true) else (if a0 = 160 then (some true) else (if a0 = 8195 then (some true) else (if a0 = 12288 then (some true) else (some false))))))
set_option maxHeartbeats 8000000 in
set_option maxRecDepth 100000 in
theorem words_blank.calls (a0 : Int) (r : Bool) (w : World) (h : words_blank.f a0 = some r) :
    Calls Try.prog 33 #[.int .i32 a0] w fun e w' => e = .returned (.bool r) ∧ Drawn0 w w' := by
  have H : (if a0 = 9 then (some true) else (if a0 = 13 then (some true) else (if a0 = 32 then (some true) else (if a0 = 160 then (some true) else (if a0 = 8195 then (some true) else (if a0 = 12288 then (some true) else (some false))))))) = some r := h
  clear h
  by_cases c2 : a0 = 9
  · rw [if_pos c2] at H
    have c2b0 : (a0 == 9) = true := beq_iff_eq.mpr c2
    have c2b1 : (a0 != 9) = false := bne_eq_false_iff_eq.mpr c2
    clear c2
    obtain rfl := Option.some.inj H
    go_enter Try.func33, Try.ntmps33
    go_wp2
    go_ret
    exact ⟨by first | rfl | (simp; done) | (simp [*]; done), by repeat (first | exact Drawn0.refl _ | apply Drawn0.step)⟩
  · rw [if_neg c2] at H
    have c2b0 : (a0 == 9) = false := beq_eq_false_iff_ne.mpr c2
    have c2b1 : (a0 != 9) = true := bne_iff_ne.mpr c2
    by_cases c3 : a0 = 13
    · rw [if_pos c3] at H
      have c3b0 : (a0 == 13) = true := beq_iff_eq.mpr c3
      have c3b1 : (a0 != 13) = false := bne_eq_false_iff_eq.mpr c3
      clear c3
      obtain rfl := Option.some.inj H
      go_enter Try.func33, Try.ntmps33
      go_wp2
      go_ret
      exact ⟨by first | rfl | (simp; done) | (simp [*]; done), by repeat (first | exact Drawn0.refl _ | apply Drawn0.step)⟩
    · rw [if_neg c3] at H
      have c3b0 : (a0 == 13) = false := beq_eq_false_iff_ne.mpr c3
      have c3b1 : (a0 != 13) = true := bne_iff_ne.mpr c3
      by_cases c4 : a0 = 32
      · rw [if_pos c4] at H
        have c4b0 : (a0 == 32) = true := beq_iff_eq.mpr c4
        have c4b1 : (a0 != 32) = false := bne_eq_false_iff_eq.mpr c4
        clear c4
        obtain rfl := Option.some.inj H
        go_enter Try.func33, Try.ntmps33
        go_wp2
        go_ret
        exact ⟨by first | rfl | (simp; done) | (simp [*]; done), by repeat (first | exact Drawn0.refl _ | apply Drawn0.step)⟩
      · rw [if_neg c4] at H
        have c4b0 : (a0 == 32) = false := beq_eq_false_iff_ne.mpr c4
        have c4b1 : (a0 != 32) = true := bne_iff_ne.mpr c4
        by_cases c5 : a0 = 160
        · rw [if_pos c5] at H
          have c5b0 : (a0 == 160) = true := beq_iff_eq.mpr c5
          have c5b1 : (a0 != 160) = false := bne_eq_false_iff_eq.mpr c5
          clear c5
          obtain rfl := Option.some.inj H
          go_enter Try.func33, Try.ntmps33
          go_wp2
          go_ret
          exact ⟨by first | rfl | (simp; done) | (simp [*]; done), by repeat (first | exact Drawn0.refl _ | apply Drawn0.step)⟩
        · rw [if_neg c5] at H
          have c5b0 : (a0 == 160) = false := beq_eq_false_iff_ne.mpr c5
          have c5b1 : (a0 != 160) = true := bne_iff_ne.mpr c5
          by_cases c6 : a0 = 8195
          · rw [if_pos c6] at H
            have c6b0 : (a0 == 8195) = true := beq_iff_eq.mpr c6
            have c6b1 : (a0 != 8195) = false := bne_eq_false_iff_eq.mpr c6
            clear c6
            obtain rfl := Option.some.inj H
            go_enter Try.func33, Try.ntmps33
            go_wp2
            go_ret
            exact ⟨by first | rfl | (simp; done) | (simp [*]; done), by repeat (first | exact Drawn0.refl _ | apply Drawn0.step)⟩
          · rw [if_neg c6] at H
            have c6b0 : (a0 == 8195) = false := beq_eq_false_iff_ne.mpr c6
            have c6b1 : (a0 != 8195) = true := bne_iff_ne.mpr c6
            by_cases c7 : a0 = 12288
            · rw [if_pos c7] at H
              have c7b0 : (a0 == 12288) = true := beq_iff_eq.mpr c7
              have c7b1 : (a0 != 12288) = false := bne_eq_false_iff_eq.mpr c7
              clear c7
              obtain rfl := Option.some.inj H
              go_enter Try.func33, Try.ntmps33
              go_wp2
              go_ret
              exact ⟨by first | rfl | (simp; done) | (simp [*]; done), by repeat (first | exact Drawn0.refl _ | apply Drawn0.step)⟩
            · rw [if_neg c7] at H
              have c7b0 : (a0 == 12288) = false := beq_eq_false_iff_ne.mpr c7
              have c7b1 : (a0 != 12288) = true := bne_iff_ne.mpr c7
              obtain rfl := Option.some.inj H
              go_enter Try.func33, Try.ntmps33
              go_wp2
              go_ret
              exact ⟨by first | rfl | (simp; done) | (simp [*]; done), by repeat (first | exact Drawn0.refl _ | apply Drawn0.step)⟩

/-! ### words_Fields: function 16 -/
theorem words_Fields.info : (Try.prog.info? 9).map (fun i => (i.zero, i.size, i.bytes)) = some (some (.string ⟨#[]⟩), 1, 16) := by kernel_rfl
theorem words_Fields.grown (w : World) (g : Nat) (s : ByteArray) (p : Nat) : w.grownBy (w.iterAt g s p) (some g) :=
  ⟨rfl, rfl, rfl, by rw [Lib.iterAt_size]; exact Nat.le_refl _, fun i _ hne => Lib.iterAt_other w g i s p (fun e => hne (by rw [e]))⟩
theorem words_Fields.R_iter {w : World} {base : Nat} {v : Value} {xs : List ByteArray} (h : Kd.R Kd.string 9 w base (fun _ => True) v xs) {g : Nat} (hg : g < base) (s : ByteArray) (p : Nat) :
    Kd.R Kd.string 9 (w.iterAt g s p) base (fun _ => True) v xs :=
  Kd.R_grown1 h rfl (words_Fields.grown w g s p) (fun he => by have := Kd.R_base h g he.symm; omega)
/-- Below, and behind an append. -/
theorem words_Fields.end_ {w W W1 : World} (h : Below w.heap.size w W) (k : Below (w.heap.size + 1) W W1) : Below w.heap.size w W1 :=
  h.trans ⟨k.os, k.tape, k.output, k.size, fun i hi => k.block i (Nat.lt_succ_of_lt hi)⟩
/-- What stands behind the loop. -/
def words_Fields.fin (s : ByteArray) (l : List ByteArray) (b e : Int) : Option (List ByteArray) := if b ≥ 0 then (if b ≤ e then (if e ≤ (s.size : Int) then (if l.length < 8796093022208 then (some (l ++ [s.extract (b : Int).toNat (e : Int).toNat])) else (none)) else (none)) else (none)) else (some l)
def words_Fields.l0 : Nat → ByteArray → List ByteArray → Int → Nat → Option (List ByteArray)
  | 0, _, _, _, _ => none
  | k + 1, s, l, b, p => if p < s.size then (if ((Utf8.decode s p).1 : Int) = 35 then (words_Fields.fin s l b p) else ((words_blank.f ((Utf8.decode s p).1 : Int)).bind fun t => (if t = true then (if b ≥ 0 then (if b ≤ (p : Int) then (if l.length < 8796093022208 then (words_Fields.l0 k s (l ++ [s.extract (b : Int).toNat ((p : Int)).toNat]) (-1) (p + (Utf8.decode s p).2)) else (none)) else (none)) else (words_Fields.l0 k s l b (p + (Utf8.decode s p).2))) else (if b < 0 then (words_Fields.l0 k s l p (p + (Utf8.decode s p).2)) else (words_Fields.l0 k s l b (p + (Utf8.decode s p).2)))))) else (words_Fields.fin s l b (s.size : Int))
def words_Fields.f (k : Nat) (a0 : ByteArray) : Option (List ByteArray) := words_Fields.l0 k a0 [] (-1) 0
theorem words_Fields.mono_l : ∀ k, (∀ y0 y1 y2 y3, LeO (words_Fields.l0 k y0 y1 y2 y3) (words_Fields.l0 (k + 1) y0 y1 y2 y3))
  | 0 => fun _ _ _ _ r h => by simp [words_Fields.l0] at h
  | k + 1 => fun y0 y1 y2 y3 => by
    have ih := words_Fields.mono_l k
    rw [words_Fields.l0, words_Fields.l0]
    repeat' first
      | (with_reducible exact ih _ _ _ _)
      | (with_reducible exact LeO.refl _)
      | (with_reducible refine LeO.ite ?_ ?_)
      | (with_reducible refine LeO.bind ?_ (fun _ => ?_))
theorem words_Fields.mono : ∀ a0 k, LeO (words_Fields.f k a0) (words_Fields.f (k + 1) a0) := fun a0 k => words_Fields.mono_l k a0 [] (-1) 0
set_option maxHeartbeats 8000000 in
set_option maxRecDepth 100000 in
theorem words_Fields.calls (k : Nat) (a0 : ByteArray) (r : List ByteArray) (w : World) (h : words_Fields.f k a0 = some r) :
    Calls Try.prog 16 #[.string a0] w fun e w' => ∃ v0_ : Value, e = .returned (v0_) ∧ Kd.R Kd.string 9 w' w.heap.size (fun _ => True) v0_ r ∧ Below w.heap.size w w' := by
  have H0 := Aside0.mk h
  clear h
  go_enter Try.func16, Try.ntmps16
  go_wp2
  go_loopg [3, 4, 5] k (fun kq v3 v4 v5 w' => ∃ (pos : Nat) (x3_1 : List ByteArray) (b : Int), v4 = .int .i64 b ∧ v5 = .int .i64 (a0.size : Int) ∧ Aside0 (words_Fields.l0 kq a0 x3_1 b pos = some r) ∧ Aside0 (w'.heap[w.heap.size]? = some (.stringIter a0 pos)) ∧ Aside0 (Kd.R Kd.string 9 w' (w.heap.size + 1) (fun _ => True) v3 x3_1) ∧ Aside0 (Below w.heap.size w w') ∧ Aside0 (w.heap.size + 1 ≤ w'.heap.size))
  case atStart => exact ⟨0, [], -1, rfl, rfl, H0, ⟨World.iter_heap w a0 0⟩, ⟨Kd.R_nil _ _ _ _ _⟩, ⟨below_alloc (Below.refl _ _) _⟩, ⟨Nat.le_of_eq (by show _ = (w.heap.push _).size; rw [Array.size_push])⟩⟩
  case round =>
    clear H0
    obtain ⟨pos, x3_1, b, rfl, rfl, HA, HI, HO, HB, HS⟩ := hrel
    cases gk with
    | zero => exact absurd HA.out (by simp [words_Fields.l0])
    | succ k1 =>
      by_cases hp : pos < a0.size
      · have hnx := fun ty => Lib.run_next_any_at (P := Try.prog) wr w.heap.size a0 pos ty HI.out hp
        have HI1 := Aside0.mk (Lib.iterAt_heap wr w.heap.size a0 pos (pos + (Utf8.decode a0 pos).2) HI.out)
        have HB1 := Aside0.mk (Lib.below_iterAt HB.out (Nat.le_refl _) a0 (pos + (Utf8.decode a0 pos).2))
        have HO1 := Aside0.mk (words_Fields.R_iter HO.out (Nat.lt_succ_self _) a0 (pos + (Utf8.decode a0 pos).2))
        have HS1 := Aside0.mk (show w.heap.size + 1 ≤ (wr.iterAt w.heap.size a0 (pos + (Utf8.decode a0 pos).2)).heap.size by rw [Lib.iterAt_size]; exact HS.out)
        have HA1 := HA.out
        rw [words_Fields.l0, if_pos hp] at HA1
        clear HA HI HB HO HS
        obtain ⟨c, hc⟩ : ∃ c : Int, ((Utf8.decode a0 pos).1 : Int) = c := ⟨_, rfl⟩
        rw [hc] at HA1
        simp only [hc] at hnx
        clear hc
        have hle0 : (pos : Int) ≤ (a0.size : Int) := by omega
        have hi0 : 0 ≤ (pos : Int) := by omega
        obtain ⟨q, hq⟩ : ∃ q : Nat, pos + (Utf8.decode a0 pos).2 = q := ⟨_, rfl⟩
        rw [hq] at HA1 HI1 HB1 HO1 HS1
        simp only [hq] at hnx
        clear hq hp
        obtain ⟨i, hi⟩ : ∃ i : Int, (pos : Int) = i := ⟨_, rfl⟩
        rw [hi] at HA1 hle0 hi0
        simp only [hi] at hnx
        clear hi
        by_cases h35 : c = 35
        · rw [if_pos h35] at HA1
          have HA2 := HA1
          have b35 : ((c : Int) == 35) = true := beq_iff_eq.mpr h35
          clear HA1 h35 hi0
          by_cases hb0 : b ≥ 0
          · rw [words_Fields.fin, if_pos hb0] at HA2
            by_cases hb1 : b ≤ i
            · rw [if_pos hb1, if_pos hle0] at HA2
              by_cases hl : x3_1.length < 8796093022208
              · rw [if_pos hl] at HA2
                have f0 : decide (0 ≤ b) = true := decide_eq_true hb0
                have f1 : (0 ≤ b) = True := eq_true hb0
                have f2 : (b ≤ i) = True := eq_true hb1
                have f3 : decide (b ≤ i) = true := decide_eq_true hb1
                have f4 : (i ≤ (a0.size : Int)) = True := eq_true hle0
                have f5 : decide (i ≤ (a0.size : Int)) = true := decide_eq_true hle0
                have LM := Aside0.mk hl
                have HR := Aside0.mk (Option.some.inj HA2)
                clear HA2 hb0 hb1 hl
                go_wp2_with (at_builtin; (refine Kd.R_append Kd.string (w0 := (wr.iterAt w.heap.size a0 q)) (w.heap.size + 1) rfl (.tmp 44) (.tmp 49) 25 9 (.string ⟨#[]⟩) 16 rfl Try.underlying25 words_Fields.info rfl (Nat.succ_pos _) (Nat.succ_pos _) u3 x3_1 (a0.extract (b : Int).toNat (i : Int).toNat) [.string (a0.extract (b : Int).toNat (i : Int).toNat)] (fun _ => True) (fun _ => False) rfl rfl ?aP (fun _ hk => hk.elim) ?aF ?aO ?aB ?aS ?aL ?_); (case aP => exact rfl); (case aB => exact (by repeat (first | exact Below.refl _ _ | apply below_alloc | apply pw_below_drewN | apply below_drew1))); (case aF => exact (fun _ _ => trivial)); (case aO => exact (by (with_reducible repeat (first | apply Kd.R_alloc | apply Kd.R_drewN | apply Kd.R_drew)); exact HO1.out)); (case aS => exact HS1.out); (case aL => have := LM.out; omega); intro v116 w15 ho hb hg hat; have HOn := Aside0.mk ho; have hbn := Aside0.mk hb; clear ho hb hg hat)
                go_ret
                refine ⟨_, rfl, ?_, ?_⟩
                · rw [← HR.out]
                  exact Kd.R_lower HOn.out (by omega)
                · exact words_Fields.end_ HB1.out hbn.out
              · rw [if_neg hl] at HA2
                exact absurd HA2 (by simp)
            · rw [if_neg hb1] at HA2
              exact absurd HA2 (by simp)
          · rw [words_Fields.fin, if_neg hb0] at HA2
            have f0 : decide (0 ≤ b) = false := decide_eq_false hb0
            have HR := Aside0.mk (Option.some.inj HA2)
            clear HA2 hb0
            go_wp2
            go_ret
            refine ⟨_, rfl, ?_, HB1.out⟩
            rw [← HR.out]
            exact Kd.R_lower HO1.out (by omega)
        · rw [if_neg h35] at HA1
          have b35 : ((c : Int) == 35) = false := beq_eq_false_iff_ne.mpr h35
          clear h35
          obtain ⟨t, HL0, HA2⟩ := Option.bind_eq_some_iff.mp HA1
          have HL := Aside0.mk HL0
          clear HL0 HA1
          cases t with
          | true =>
            rw [if_pos rfl] at HA2
            by_cases hb0 : b ≥ 0
            · rw [if_pos hb0] at HA2
              by_cases hb1 : b ≤ i
              · rw [if_pos hb1] at HA2
                by_cases hl : x3_1.length < 8796093022208
                · rw [if_pos hl] at HA2
                  have f0 : decide (0 ≤ b) = true := decide_eq_true hb0
                  have f1 : (0 ≤ b) = True := eq_true hb0
                  have f2 : (b ≤ i) = True := eq_true hb1
                  have f3 : decide (b ≤ i) = true := decide_eq_true hb1
                  have f4 : (i ≤ (a0.size : Int)) = True := eq_true hle0
                  have f5 : decide (i ≤ (a0.size : Int)) = true := decide_eq_true hle0
                  have LM := Aside0.mk hl
                  have HA := Aside0.mk HA2
                  clear HA2 hb0 hb1 hl hle0 hi0
                  go_wp2_with (first | (go_at_call 33; (with_reducible refine (words_blank.calls c true _ HL.out).mono ?_); rintro e w' ⟨rfl, ⟨nd, rfl⟩⟩) | (at_builtin; (refine Kd.R_append Kd.string (w0 := (wr.iterAt w.heap.size a0 q)) (w.heap.size + 1) rfl (.tmp 26) (.tmp 31) 25 9 (.string ⟨#[]⟩) 16 rfl Try.underlying25 words_Fields.info rfl (Nat.succ_pos _) (Nat.succ_pos _) u3 x3_1 (a0.extract (b : Int).toNat (i : Int).toNat) [.string (a0.extract (b : Int).toNat (i : Int).toNat)] (fun _ => True) (fun _ => False) rfl rfl ?aP (fun _ hk => hk.elim) ?aF ?aO ?aB ?aS ?aL ?_); (case aP => exact rfl); (case aB => exact (by repeat (first | exact Below.refl _ _ | apply below_alloc | apply pw_below_drewN | apply below_drew1))); (case aF => exact (fun _ _ => trivial)); (case aO => exact (by (with_reducible repeat (first | apply Kd.R_alloc | apply Kd.R_drewN | apply Kd.R_drew)); exact HO1.out)); (case aS => exact HS1.out); (case aL => have := LM.out; omega); intro v116 w15 ho hb hg hat; have HOn := Aside0.mk ho; have hbn := Aside0.mk hb; clear ho hb hg hat))
                  go_roundg k1
                  case measure => omega
                  case rel => exact ⟨_, _, _, rfl, rfl, HA, ⟨(hbn.out.block _ (Nat.lt_succ_self _)).trans HI1.out⟩, HOn, ⟨words_Fields.end_ HB1.out hbn.out⟩, ⟨Nat.le_trans HS1.out hbn.out.size⟩⟩
                · rw [if_neg hl] at HA2
                  exact absurd HA2 (by simp)
              · rw [if_neg hb1] at HA2
                exact absurd HA2 (by simp)
            · rw [if_neg hb0] at HA2
              have f0 : decide (0 ≤ b) = false := decide_eq_false hb0
              have HA := Aside0.mk HA2
              clear HA2 hb0 hle0 hi0
              go_wp2_with (go_at_call 33; (with_reducible refine (words_blank.calls c true _ HL.out).mono ?_); rintro e w' ⟨rfl, ⟨nd, rfl⟩⟩)
              go_roundg k1
              case measure => omega
              case rel => exact ⟨_, _, _, rfl, rfl, HA, HI1, ⟨Kd.R_drewN HO1.out _⟩, ⟨pw_below_drewN HB1.out _⟩, HS1⟩
          | false =>
            rw [if_neg (by simp)] at HA2
            by_cases hb0 : b < 0
            · rw [if_pos hb0] at HA2
              have f0 : decide (b < 0) = true := decide_eq_true hb0
              have HA := Aside0.mk HA2
              clear HA2 hb0 hle0 hi0
              go_wp2_with (go_at_call 33; (with_reducible refine (words_blank.calls c false _ HL.out).mono ?_); rintro e w' ⟨rfl, ⟨nd, rfl⟩⟩)
              go_roundg k1
              case measure => omega
              case rel => exact ⟨_, _, _, rfl, rfl, HA, HI1, ⟨Kd.R_drewN HO1.out _⟩, ⟨pw_below_drewN HB1.out _⟩, HS1⟩
            · rw [if_neg hb0] at HA2
              have f0 : decide (b < 0) = false := decide_eq_false hb0
              have HA := Aside0.mk HA2
              clear HA2 hb0 hle0 hi0
              go_wp2_with (go_at_call 33; (with_reducible refine (words_blank.calls c false _ HL.out).mono ?_); rintro e w' ⟨rfl, ⟨nd, rfl⟩⟩)
              go_roundg k1
              case measure => omega
              case rel => exact ⟨_, _, _, rfl, rfl, HA, HI1, ⟨Kd.R_drewN HO1.out _⟩, ⟨pw_below_drewN HB1.out _⟩, HS1⟩
      · have hnx := fun ty => Lib.run_next_end_at (P := Try.prog) wr w.heap.size a0 pos ty HI.out hp
        have HA2 := HA.out
        rw [words_Fields.l0, if_neg hp] at HA2
        clear HA hp
        have hle0 : (a0.size : Int) ≤ (a0.size : Int) := Int.le_refl _
        by_cases hb0 : b ≥ 0
        · rw [words_Fields.fin, if_pos hb0] at HA2
          by_cases hb1 : b ≤ (a0.size : Int)
          · rw [if_pos hb1, if_pos hle0] at HA2
            by_cases hl : x3_1.length < 8796093022208
            · rw [if_pos hl] at HA2
              have f0 : decide (0 ≤ b) = true := decide_eq_true hb0
              have f1 : (0 ≤ b) = True := eq_true hb0
              have f2 : (b ≤ (a0.size : Int)) = True := eq_true hb1
              have f3 : decide (b ≤ (a0.size : Int)) = true := decide_eq_true hb1
              have f4 : ((a0.size : Int) ≤ (a0.size : Int)) = True := eq_true hle0
              have f5 : decide ((a0.size : Int) ≤ (a0.size : Int)) = true := decide_eq_true hle0
              have LM := Aside0.mk hl
              have HR := Aside0.mk (Option.some.inj HA2)
              clear HA2 hb0 hb1 hl
              go_wp2_with (at_builtin; (refine Kd.R_append Kd.string (w0 := wr) (w.heap.size + 1) rfl (.tmp 44) (.tmp 49) 25 9 (.string ⟨#[]⟩) 16 rfl Try.underlying25 words_Fields.info rfl (Nat.succ_pos _) (Nat.succ_pos _) u3 x3_1 (a0.extract (b : Int).toNat ((a0.size : Int) : Int).toNat) [.string (a0.extract (b : Int).toNat ((a0.size : Int) : Int).toNat)] (fun _ => True) (fun _ => False) rfl rfl ?aP (fun _ hk => hk.elim) ?aF ?aO ?aB ?aS ?aL ?_); (case aP => exact rfl); (case aB => exact (by repeat (first | exact Below.refl _ _ | apply below_alloc | apply pw_below_drewN | apply below_drew1))); (case aF => exact (fun _ _ => trivial)); (case aO => exact (by (with_reducible repeat (first | apply Kd.R_alloc | apply Kd.R_drewN | apply Kd.R_drew)); exact HO.out)); (case aS => exact HS.out); (case aL => have := LM.out; omega); intro v116 w15 ho hb hg hat; have HOn := Aside0.mk ho; have hbn := Aside0.mk hb; clear ho hb hg hat)
              go_ret
              refine ⟨_, rfl, ?_, ?_⟩
              · rw [← HR.out]
                exact Kd.R_lower HOn.out (by omega)
              · exact words_Fields.end_ HB.out hbn.out
            · rw [if_neg hl] at HA2
              exact absurd HA2 (by simp)
          · rw [if_neg hb1] at HA2
            exact absurd HA2 (by simp)
        · rw [words_Fields.fin, if_neg hb0] at HA2
          have f0 : decide (0 ≤ b) = false := decide_eq_false hb0
          have HR := Aside0.mk (Option.some.inj HA2)
          clear HA2 hb0
          go_wp2
          go_ret
          refine ⟨_, rfl, ?_, HB.out⟩
          rw [← HR.out]
          exact Kd.R_lower HO.out (by omega)

/-! ### atlasref01_tail: function 37 -/
def atlasref01_tail.f (a0 : ByteArray) (a1 : Int) : Option (Bool) := if a1 < (a0.size : Int) then (if 0 ≤ a1 then (if (bt a0 a1) ≥ 128 then (some (decide ((bt a0 a1) ≤ 191))) else (some false)) else (none)) else (some false)
set_option maxHeartbeats 8000000 in
set_option maxRecDepth 100000 in
theorem atlasref01_tail.calls (a0 : ByteArray) (a1 : Int) (r : Bool) (w : World) (h : atlasref01_tail.f a0 a1 = some r) :
    Calls Try.prog 37 #[.string a0, .int .i64 a1] w fun e w' => e = .returned (.bool r) ∧ Drawn0 w w' := by
  have H : (if a1 < (a0.size : Int) then (if 0 ≤ a1 then (if (bt a0 a1) ≥ 128 then (some (decide ((bt a0 a1) ≤ 191))) else (some false)) else (none)) else (some false)) = some r := h
  clear h
  by_cases c3 : a1 < (a0.size : Int)
  · rw [if_pos c3] at H
    have c3b0 : decide (a1 < (a0.size : Int)) = true := decide_eq_true c3
    clear c3
    by_cases c4 : 0 ≤ a1
    · rw [if_pos c4] at H
      have c4b0 : decide (0 ≤ a1) = true := decide_eq_true c4
      clear c4
      by_cases c6 : (bt a0 a1) ≥ 128
      · rw [if_pos c6] at H
        have c6b0 : decide (128 ≤ (bt a0 a1)) = true := decide_eq_true c6
        clear c6
        obtain rfl := Option.some.inj H
        have p5 : 0 ≤ (a1 : Int) := of_decide_eq_true (by first | (with_reducible assumption) | assumption)
        have q5 : a1 < (a0.size : Int) := of_decide_eq_true (by first | (with_reducible assumption) | assumption)
        have hx5 := bt_at a0 a1
        replace p5 := eq_true p5
        replace q5 := eq_true q5
        have p7 : 0 ≤ (a1 : Int) := of_decide_eq_true (by first | (with_reducible assumption) | assumption)
        have q7 : a1 < (a0.size : Int) := of_decide_eq_true (by first | (with_reducible assumption) | assumption)
        have hx7 := bt_at a0 a1
        replace p7 := eq_true p7
        replace q7 := eq_true q7
        go_enter Try.func37, Try.ntmps37
        go_wp2
        go_ret
        exact ⟨by first | rfl | (simp; done) | (simp [*]; done), by repeat (first | exact Drawn0.refl _ | apply Drawn0.step)⟩
      · rw [if_neg c6] at H
        have c6b0 : decide (128 ≤ (bt a0 a1)) = false := decide_eq_false c6
        clear c6
        obtain rfl := Option.some.inj H
        have p5 : 0 ≤ (a1 : Int) := of_decide_eq_true (by first | (with_reducible assumption) | assumption)
        have q5 : a1 < (a0.size : Int) := of_decide_eq_true (by first | (with_reducible assumption) | assumption)
        have hx5 := bt_at a0 a1
        replace p5 := eq_true p5
        replace q5 := eq_true q5
        go_enter Try.func37, Try.ntmps37
        go_wp2
        go_ret
        exact ⟨by first | rfl | (simp; done) | (simp [*]; done), by repeat (first | exact Drawn0.refl _ | apply Drawn0.step)⟩
    · rw [if_neg c4] at H
      exact absurd H (by simp)
  · rw [if_neg c3] at H
    have c3b0 : decide (a1 < (a0.size : Int)) = false := decide_eq_false c3
    clear c3
    obtain rfl := Option.some.inj H
    go_enter Try.func37, Try.ntmps37
    go_wp2
    go_ret
    exact ⟨by first | rfl | (simp; done) | (simp [*]; done), by repeat (first | exact Drawn0.refl _ | apply Drawn0.step)⟩

end Go.Proofs.Ytihjlkdobdffjaa.S
