-- Written by a program of this session (wip/xprint.py), over the kit's print. Not trusted: Lean checks it.
import Derived.Test.YtnidnmhcjngmeaaDoorS0
namespace Go.Proofs.YtnidnmhcjngmeaaDoor.S
open Go.Proofs.YtnidnmhcjngmeaaDoorG
open Go.RowKit Go.Proofs.YtnidnmhcjngmeaaDoorW.PrintWords Go.Proofs.YtnidnmhcjngmeaaDoorW.PrintLast Go.Proofs.YtnidnmhcjngmeaaDoorW.PrintMore
attribute [local go_sem] max2_int min2_int max_two min_two max_three min_three max_four min_four   -- for this text's walks alone
set_option linter.unusedVariables false
set_option linter.unusedSimpArgs false

-- NOT PRINTED: function 10 (reflectlite_ValueOf)

-- NOT PRINTED: function 11 (reflectlite_Value_Type)

-- NOT PRINTED: function 12 (reflectlite_Value_IsNil)

-- NOT PRINTED: function 18 (reflectlite_TypeOf)

-- NOT PRINTED: function 19 (reflectlite_Value_Elem)

-- NOT PRINTED: function 20 (reflectlite_Value_Set)

-- NOT PRINTED: function 13 (errors_as)

-- NOT PRINTED: function 7 (errors_As)

-- NOT PRINTED: function 4 (script_Code)

-- NOT PRINTED: function 5 (errors_New)

/-! ### words_blank: function 14 -/
def words_blank.f (a0 : Int) : Option (Bool) := if a0 = 9 then (some true) else (if a0 = 13 then (some true) else (if a0 = 32 then (some true) else (if a0 = 160 then (some true) else (if a0 = 8195 then (some true) else (if a0 = 12288 then (some true) else (some false))))))
set_option maxHeartbeats 8000000 in
set_option maxRecDepth 100000 in
theorem words_blank.calls (a0 : Int) (r : Bool) (w : World) (h : words_blank.f a0 = some r) :
    Calls Tryd.prog 14 #[.int .i32 a0] w fun e w' => e = .returned (.bool r) ∧ Drawn0 w w' := by
  have H : (if a0 = 9 then (some true) else (if a0 = 13 then (some true) else (if a0 = 32 then (some true) else (if a0 = 160 then (some true) else (if a0 = 8195 then (some true) else (if a0 = 12288 then (some true) else (some false))))))) = some r := h
  clear h
  by_cases c2 : a0 = 9
  · rw [if_pos c2] at H
    have c2b0 : (a0 == 9) = true := beq_iff_eq.mpr c2
    have c2b1 : (a0 != 9) = false := bne_eq_false_iff_eq.mpr c2
    clear c2
    obtain rfl := Option.some.inj H
    go_enter Tryd.func14, Tryd.ntmps14
    go_wp2
    go_ret
    exact ⟨by first | rfl | (simp; done) | (simp [*]; done), by repeat (first | exact Drawn0.refl _ | apply Drawn0.step)⟩
  · rw [if_neg c2] at H
    have c2b0 : (a0 == 9) = false := beq_eq_false_iff_ne.mpr c2
    have c2b1 : (a0 != 9) = true := bne_iff_ne.mpr c2
    by_cases c3 : a0 = 13
    · rw [if_pos c3] at H
      have c3b0 : (a0 == 13) = true := beq_iff_eq.mpr c3
      have c3b1 : (a0 != 13) = false := bne_eq_false_iff_eq.mpr c3
      clear c3
      obtain rfl := Option.some.inj H
      go_enter Tryd.func14, Tryd.ntmps14
      go_wp2
      go_ret
      exact ⟨by first | rfl | (simp; done) | (simp [*]; done), by repeat (first | exact Drawn0.refl _ | apply Drawn0.step)⟩
    · rw [if_neg c3] at H
      have c3b0 : (a0 == 13) = false := beq_eq_false_iff_ne.mpr c3
      have c3b1 : (a0 != 13) = true := bne_iff_ne.mpr c3
      by_cases c4 : a0 = 32
      · rw [if_pos c4] at H
        have c4b0 : (a0 == 32) = true := beq_iff_eq.mpr c4
        have c4b1 : (a0 != 32) = false := bne_eq_false_iff_eq.mpr c4
        clear c4
        obtain rfl := Option.some.inj H
        go_enter Tryd.func14, Tryd.ntmps14
        go_wp2
        go_ret
        exact ⟨by first | rfl | (simp; done) | (simp [*]; done), by repeat (first | exact Drawn0.refl _ | apply Drawn0.step)⟩
      · rw [if_neg c4] at H
        have c4b0 : (a0 == 32) = false := beq_eq_false_iff_ne.mpr c4
        have c4b1 : (a0 != 32) = true := bne_iff_ne.mpr c4
        by_cases c5 : a0 = 160
        · rw [if_pos c5] at H
          have c5b0 : (a0 == 160) = true := beq_iff_eq.mpr c5
          have c5b1 : (a0 != 160) = false := bne_eq_false_iff_eq.mpr c5
          clear c5
          obtain rfl := Option.some.inj H
          go_enter Tryd.func14, Tryd.ntmps14
          go_wp2
          go_ret
          exact ⟨by first | rfl | (simp; done) | (simp [*]; done), by repeat (first | exact Drawn0.refl _ | apply Drawn0.step)⟩
        · rw [if_neg c5] at H
          have c5b0 : (a0 == 160) = false := beq_eq_false_iff_ne.mpr c5
          have c5b1 : (a0 != 160) = true := bne_iff_ne.mpr c5
          by_cases c6 : a0 = 8195
          · rw [if_pos c6] at H
            have c6b0 : (a0 == 8195) = true := beq_iff_eq.mpr c6
            have c6b1 : (a0 != 8195) = false := bne_eq_false_iff_eq.mpr c6
            clear c6
            obtain rfl := Option.some.inj H
            go_enter Tryd.func14, Tryd.ntmps14
            go_wp2
            go_ret
            exact ⟨by first | rfl | (simp; done) | (simp [*]; done), by repeat (first | exact Drawn0.refl _ | apply Drawn0.step)⟩
          · rw [if_neg c6] at H
            have c6b0 : (a0 == 8195) = false := beq_eq_false_iff_ne.mpr c6
            have c6b1 : (a0 != 8195) = true := bne_iff_ne.mpr c6
            by_cases c7 : a0 = 12288
            · rw [if_pos c7] at H
              have c7b0 : (a0 == 12288) = true := beq_iff_eq.mpr c7
              have c7b1 : (a0 != 12288) = false := bne_eq_false_iff_eq.mpr c7
              clear c7
              obtain rfl := Option.some.inj H
              go_enter Tryd.func14, Tryd.ntmps14
              go_wp2
              go_ret
              exact ⟨by first | rfl | (simp; done) | (simp [*]; done), by repeat (first | exact Drawn0.refl _ | apply Drawn0.step)⟩
            · rw [if_neg c7] at H
              have c7b0 : (a0 == 12288) = false := beq_eq_false_iff_ne.mpr c7
              have c7b1 : (a0 != 12288) = true := bne_iff_ne.mpr c7
              obtain rfl := Option.some.inj H
              go_enter Tryd.func14, Tryd.ntmps14
              go_wp2
              go_ret
              exact ⟨by first | rfl | (simp; done) | (simp [*]; done), by repeat (first | exact Drawn0.refl _ | apply Drawn0.step)⟩

/-! ### words_Fields: function 8 -/
theorem words_Fields.info : (Tryd.prog.info? 9).map (fun i => (i.zero, i.size, i.bytes)) = some (some (.string ⟨#[]⟩), 1, 16) := by kernel_rfl
theorem words_Fields.grown (w : World) (g : Nat) (s : ByteArray) (p : Nat) : w.grownBy (w.iterAt g s p) (some g) :=
  ⟨rfl, rfl, rfl, by rw [Lib.iterAt_size]; exact Nat.le_refl _, fun i _ hne => Lib.iterAt_other w g i s p (fun e => hne (by rw [e]))⟩
theorem words_Fields.R_iter {w : World} {base : Nat} {v : Value} {xs : List ByteArray} (h : Kd.R Kd.string 9 w base (fun _ => True) v xs) {g : Nat} (hg : g < base) (s : ByteArray) (p : Nat) :
    Kd.R Kd.string 9 (w.iterAt g s p) base (fun _ => True) v xs :=
  Kd.R_grown1 h rfl (words_Fields.grown w g s p) (fun he => by have := Kd.R_base h g he.symm; omega)
/-- Below, and behind an append. -/
theorem words_Fields.end_ {w W W1 : World} (h : Below w.heap.size w W) (k : Below (w.heap.size + 1) W W1) : Below w.heap.size w W1 :=
  h.trans ⟨k.os, k.tape, k.output, k.size, fun i hi => k.block i (Nat.lt_succ_of_lt hi)⟩
/-- What stands behind the loop. -/
def words_Fields.fin (s : ByteArray) (l : List ByteArray) (b e : Int) : Option (List ByteArray) := if b ≥ 0 then (if b ≤ e then (if e ≤ (s.size : Int) then (if l.length < 8796093022208 then (some (l ++ [s.extract (b : Int).toNat (e : Int).toNat])) else (none)) else (none)) else (none)) else (some l)
def words_Fields.l0 : Nat → ByteArray → List ByteArray → Int → Nat → Option (List ByteArray)
  | 0, _, _, _, _ => none
  | k + 1, s, l, b, p => if p < s.size then (if ((Utf8.decode s p).1 : Int) = 35 then (words_Fields.fin s l b p) else ((words_blank.f ((Utf8.decode s p).1 : Int)).bind fun t => (if t = true then (if b ≥ 0 then (if b ≤ (p : Int) then (if l.length < 8796093022208 then (words_Fields.l0 k s (l ++ [s.extract (b : Int).toNat ((p : Int)).toNat]) (-1) (p + (Utf8.decode s p).2)) else (none)) else (none)) else (words_Fields.l0 k s l b (p + (Utf8.decode s p).2))) else (if b < 0 then (words_Fields.l0 k s l p (p + (Utf8.decode s p).2)) else (words_Fields.l0 k s l b (p + (Utf8.decode s p).2)))))) else (words_Fields.fin s l b (s.size : Int))
def words_Fields.f (k : Nat) (a0 : ByteArray) : Option (List ByteArray) := words_Fields.l0 k a0 [] (-1) 0
theorem words_Fields.mono_l : ∀ k, (∀ y0 y1 y2 y3, LeO (words_Fields.l0 k y0 y1 y2 y3) (words_Fields.l0 (k + 1) y0 y1 y2 y3))
  | 0 => fun _ _ _ _ r h => by simp [words_Fields.l0] at h
  | k + 1 => fun y0 y1 y2 y3 => by
    have ih := words_Fields.mono_l k
    rw [words_Fields.l0, words_Fields.l0]
    repeat' first
      | (with_reducible exact ih _ _ _ _)
      | (with_reducible exact LeO.refl _)
      | (with_reducible refine LeO.ite ?_ ?_)
      | (with_reducible refine LeO.bind ?_ (fun _ => ?_))
theorem words_Fields.mono : ∀ a0 k, LeO (words_Fields.f k a0) (words_Fields.f (k + 1) a0) := fun a0 k => words_Fields.mono_l k a0 [] (-1) 0
set_option maxHeartbeats 8000000 in
set_option maxRecDepth 100000 in
theorem words_Fields.calls (k : Nat) (a0 : ByteArray) (r : List ByteArray) (w : World) (h : words_Fields.f k a0 = some r) :
    Calls Tryd.prog 8 #[.string a0] w fun e w' => ∃ v0_ : Value, e = .returned (v0_) ∧ Kd.R Kd.string 9 w' w.heap.size (fun _ => True) v0_ r ∧ Below w.heap.size w w' := by
  have H0 := Aside0.mk h
  clear h
  go_enter Tryd.func8, Tryd.ntmps8
  go_wp2
  go_loopg [3, 4, 5] k (fun kq v3 v4 v5 w' => ∃ (pos : Nat) (x3_1 : List ByteArray) (b : Int), v4 = .int .i64 b ∧ v5 = .int .i64 (a0.size : Int) ∧ Aside0 (words_Fields.l0 kq a0 x3_1 b pos = some r) ∧ Aside0 (w'.heap[w.heap.size]? = some (.stringIter a0 pos)) ∧ Aside0 (Kd.R Kd.string 9 w' (w.heap.size + 1) (fun _ => True) v3 x3_1) ∧ Aside0 (Below w.heap.size w w') ∧ Aside0 (w.heap.size + 1 ≤ w'.heap.size))
  case atStart => exact ⟨0, [], -1, rfl, rfl, H0, ⟨World.iter_heap w a0 0⟩, ⟨Kd.R_nil _ _ _ _ _⟩, ⟨below_alloc (Below.refl _ _) _⟩, ⟨Nat.le_of_eq (by show _ = (w.heap.push _).size; rw [Array.size_push])⟩⟩
  case round =>
    clear H0
    obtain ⟨pos, x3_1, b, rfl, rfl, HA, HI, HO, HB, HS⟩ := hrel
    cases gk with
    | zero => exact absurd HA.out (by simp [words_Fields.l0])
    | succ k1 =>
      by_cases hp : pos < a0.size
      · have hnx := fun ty => Lib.run_next_any_at (P := Tryd.prog) wr w.heap.size a0 pos ty HI.out hp
        have HI1 := Aside0.mk (Lib.iterAt_heap wr w.heap.size a0 pos (pos + (Utf8.decode a0 pos).2) HI.out)
        have HB1 := Aside0.mk (Lib.below_iterAt HB.out (Nat.le_refl _) a0 (pos + (Utf8.decode a0 pos).2))
        have HO1 := Aside0.mk (words_Fields.R_iter HO.out (Nat.lt_succ_self _) a0 (pos + (Utf8.decode a0 pos).2))
        have HS1 := Aside0.mk (show w.heap.size + 1 ≤ (wr.iterAt w.heap.size a0 (pos + (Utf8.decode a0 pos).2)).heap.size by rw [Lib.iterAt_size]; exact HS.out)
        have HA1 := HA.out
        rw [words_Fields.l0, if_pos hp] at HA1
        clear HA HI HB HO HS
        obtain ⟨c, hc⟩ : ∃ c : Int, ((Utf8.decode a0 pos).1 : Int) = c := ⟨_, rfl⟩
        rw [hc] at HA1
        simp only [hc] at hnx
        clear hc
        have hle0 : (pos : Int) ≤ (a0.size : Int) := by omega
        have hi0 : 0 ≤ (pos : Int) := by omega
        obtain ⟨q, hq⟩ : ∃ q : Nat, pos + (Utf8.decode a0 pos).2 = q := ⟨_, rfl⟩
        rw [hq] at HA1 HI1 HB1 HO1 HS1
        simp only [hq] at hnx
        clear hq hp
        obtain ⟨i, hi⟩ : ∃ i : Int, (pos : Int) = i := ⟨_, rfl⟩
        rw [hi] at HA1 hle0 hi0
        simp only [hi] at hnx
        clear hi
        by_cases h35 : c = 35
        · rw [if_pos h35] at HA1
          have HA2 := HA1
          have b35 : ((c : Int) == 35) = true := beq_iff_eq.mpr h35
          clear HA1 h35 hi0
          by_cases hb0 : b ≥ 0
          · rw [words_Fields.fin, if_pos hb0] at HA2
            by_cases hb1 : b ≤ i
            · rw [if_pos hb1, if_pos hle0] at HA2
              by_cases hl : x3_1.length < 8796093022208
              · rw [if_pos hl] at HA2
                have f0 : decide (0 ≤ b) = true := decide_eq_true hb0
                have f1 : (0 ≤ b) = True := eq_true hb0
                have f2 : (b ≤ i) = True := eq_true hb1
                have f3 : decide (b ≤ i) = true := decide_eq_true hb1
                have f4 : (i ≤ (a0.size : Int)) = True := eq_true hle0
                have f5 : decide (i ≤ (a0.size : Int)) = true := decide_eq_true hle0
                have LM := Aside0.mk hl
                have HR := Aside0.mk (Option.some.inj HA2)
                clear HA2 hb0 hb1 hl
                go_wp2_with (at_builtin; (refine Kd.R_append Kd.string (w0 := (wr.iterAt w.heap.size a0 q)) (w.heap.size + 1) rfl (.tmp 44) (.tmp 49) 51 9 (.string ⟨#[]⟩) 16 rfl Tryd.underlying51 words_Fields.info rfl (Nat.succ_pos _) (Nat.succ_pos _) u3 x3_1 (a0.extract (b : Int).toNat (i : Int).toNat) [.string (a0.extract (b : Int).toNat (i : Int).toNat)] (fun _ => True) (fun _ => False) rfl rfl ?aP (fun _ hk => hk.elim) ?aF ?aO ?aB ?aS ?aL ?_); (case aP => exact rfl); (case aB => exact (by repeat (first | exact Below.refl _ _ | apply below_alloc | apply pw_below_drewN | apply below_drew1))); (case aF => exact (fun _ _ => trivial)); (case aO => exact (by (with_reducible repeat (first | apply Kd.R_alloc | apply Kd.R_drewN | apply Kd.R_drew)); exact HO1.out)); (case aS => exact HS1.out); (case aL => have := LM.out; omega); intro v116 w15 ho hb hg hat; have HOn := Aside0.mk ho; have hbn := Aside0.mk hb; clear ho hb hg hat)
                go_ret
                refine ⟨_, rfl, ?_, ?_⟩
                · rw [← HR.out]
                  exact Kd.R_lower HOn.out (by omega)
                · exact words_Fields.end_ HB1.out hbn.out
              · rw [if_neg hl] at HA2
                exact absurd HA2 (by simp)
            · rw [if_neg hb1] at HA2
              exact absurd HA2 (by simp)
          · rw [words_Fields.fin, if_neg hb0] at HA2
            have f0 : decide (0 ≤ b) = false := decide_eq_false hb0
            have HR := Aside0.mk (Option.some.inj HA2)
            clear HA2 hb0
            go_wp2
            go_ret
            refine ⟨_, rfl, ?_, HB1.out⟩
            rw [← HR.out]
            exact Kd.R_lower HO1.out (by omega)
        · rw [if_neg h35] at HA1
          have b35 : ((c : Int) == 35) = false := beq_eq_false_iff_ne.mpr h35
          clear h35
          obtain ⟨t, HL0, HA2⟩ := Option.bind_eq_some_iff.mp HA1
          have HL := Aside0.mk HL0
          clear HL0 HA1
          cases t with
          | true =>
            rw [if_pos rfl] at HA2
            by_cases hb0 : b ≥ 0
            · rw [if_pos hb0] at HA2
              by_cases hb1 : b ≤ i
              · rw [if_pos hb1] at HA2
                by_cases hl : x3_1.length < 8796093022208
                · rw [if_pos hl] at HA2
                  have f0 : decide (0 ≤ b) = true := decide_eq_true hb0
                  have f1 : (0 ≤ b) = True := eq_true hb0
                  have f2 : (b ≤ i) = True := eq_true hb1
                  have f3 : decide (b ≤ i) = true := decide_eq_true hb1
                  have f4 : (i ≤ (a0.size : Int)) = True := eq_true hle0
                  have f5 : decide (i ≤ (a0.size : Int)) = true := decide_eq_true hle0
                  have LM := Aside0.mk hl
                  have HA := Aside0.mk HA2
                  clear HA2 hb0 hb1 hl hle0 hi0
                  go_wp2_with (first | (go_at_call 14; (with_reducible refine (words_blank.calls c true _ HL.out).mono ?_); rintro e w' ⟨rfl, ⟨nd, rfl⟩⟩) | (at_builtin; (refine Kd.R_append Kd.string (w0 := (wr.iterAt w.heap.size a0 q)) (w.heap.size + 1) rfl (.tmp 26) (.tmp 31) 51 9 (.string ⟨#[]⟩) 16 rfl Tryd.underlying51 words_Fields.info rfl (Nat.succ_pos _) (Nat.succ_pos _) u3 x3_1 (a0.extract (b : Int).toNat (i : Int).toNat) [.string (a0.extract (b : Int).toNat (i : Int).toNat)] (fun _ => True) (fun _ => False) rfl rfl ?aP (fun _ hk => hk.elim) ?aF ?aO ?aB ?aS ?aL ?_); (case aP => exact rfl); (case aB => exact (by repeat (first | exact Below.refl _ _ | apply below_alloc | apply pw_below_drewN | apply below_drew1))); (case aF => exact (fun _ _ => trivial)); (case aO => exact (by (with_reducible repeat (first | apply Kd.R_alloc | apply Kd.R_drewN | apply Kd.R_drew)); exact HO1.out)); (case aS => exact HS1.out); (case aL => have := LM.out; omega); intro v116 w15 ho hb hg hat; have HOn := Aside0.mk ho; have hbn := Aside0.mk hb; clear ho hb hg hat))
                  go_roundg k1
                  case measure => omega
                  case rel => exact ⟨_, _, _, rfl, rfl, HA, ⟨(hbn.out.block _ (Nat.lt_succ_self _)).trans HI1.out⟩, HOn, ⟨words_Fields.end_ HB1.out hbn.out⟩, ⟨Nat.le_trans HS1.out hbn.out.size⟩⟩
                · rw [if_neg hl] at HA2
                  exact absurd HA2 (by simp)
              · rw [if_neg hb1] at HA2
                exact absurd HA2 (by simp)
            · rw [if_neg hb0] at HA2
              have f0 : decide (0 ≤ b) = false := decide_eq_false hb0
              have HA := Aside0.mk HA2
              clear HA2 hb0 hle0 hi0
              go_wp2_with (go_at_call 14; (with_reducible refine (words_blank.calls c true _ HL.out).mono ?_); rintro e w' ⟨rfl, ⟨nd, rfl⟩⟩)
              go_roundg k1
              case measure => omega
              case rel => exact ⟨_, _, _, rfl, rfl, HA, HI1, ⟨Kd.R_drewN HO1.out _⟩, ⟨pw_below_drewN HB1.out _⟩, HS1⟩
          | false =>
            rw [if_neg (by simp)] at HA2
            by_cases hb0 : b < 0
            · rw [if_pos hb0] at HA2
              have f0 : decide (b < 0) = true := decide_eq_true hb0
              have HA := Aside0.mk HA2
              clear HA2 hb0 hle0 hi0
              go_wp2_with (go_at_call 14; (with_reducible refine (words_blank.calls c false _ HL.out).mono ?_); rintro e w' ⟨rfl, ⟨nd, rfl⟩⟩)
              go_roundg k1
              case measure => omega
              case rel => exact ⟨_, _, _, rfl, rfl, HA, HI1, ⟨Kd.R_drewN HO1.out _⟩, ⟨pw_below_drewN HB1.out _⟩, HS1⟩
            · rw [if_neg hb0] at HA2
              have f0 : decide (b < 0) = false := decide_eq_false hb0
              have HA := Aside0.mk HA2
              clear HA2 hb0 hle0 hi0
              go_wp2_with (go_at_call 14; (with_reducible refine (words_blank.calls c false _ HL.out).mono ?_); rintro e w' ⟨rfl, ⟨nd, rfl⟩⟩)
              go_roundg k1
              case measure => omega
              case rel => exact ⟨_, _, _, rfl, rfl, HA, HI1, ⟨Kd.R_drewN HO1.out _⟩, ⟨pw_below_drewN HB1.out _⟩, HS1⟩
      · have hnx := fun ty => Lib.run_next_end_at (P := Tryd.prog) wr w.heap.size a0 pos ty HI.out hp
        have HA2 := HA.out
        rw [words_Fields.l0, if_neg hp] at HA2
        clear HA hp
        have hle0 : (a0.size : Int) ≤ (a0.size : Int) := Int.le_refl _
        by_cases hb0 : b ≥ 0
        · rw [words_Fields.fin, if_pos hb0] at HA2
          by_cases hb1 : b ≤ (a0.size : Int)
          · rw [if_pos hb1, if_pos hle0] at HA2
            by_cases hl : x3_1.length < 8796093022208
            · rw [if_pos hl] at HA2
              have f0 : decide (0 ≤ b) = true := decide_eq_true hb0
              have f1 : (0 ≤ b) = True := eq_true hb0
              have f2 : (b ≤ (a0.size : Int)) = True := eq_true hb1
              have f3 : decide (b ≤ (a0.size : Int)) = true := decide_eq_true hb1
              have f4 : ((a0.size : Int) ≤ (a0.size : Int)) = True := eq_true hle0
              have f5 : decide ((a0.size : Int) ≤ (a0.size : Int)) = true := decide_eq_true hle0
              have LM := Aside0.mk hl
              have HR := Aside0.mk (Option.some.inj HA2)
              clear HA2 hb0 hb1 hl
              go_wp2_with (at_builtin; (refine Kd.R_append Kd.string (w0 := wr) (w.heap.size + 1) rfl (.tmp 44) (.tmp 49) 51 9 (.string ⟨#[]⟩) 16 rfl Tryd.underlying51 words_Fields.info rfl (Nat.succ_pos _) (Nat.succ_pos _) u3 x3_1 (a0.extract (b : Int).toNat ((a0.size : Int) : Int).toNat) [.string (a0.extract (b : Int).toNat ((a0.size : Int) : Int).toNat)] (fun _ => True) (fun _ => False) rfl rfl ?aP (fun _ hk => hk.elim) ?aF ?aO ?aB ?aS ?aL ?_); (case aP => exact rfl); (case aB => exact (by repeat (first | exact Below.refl _ _ | apply below_alloc | apply pw_below_drewN | apply below_drew1))); (case aF => exact (fun _ _ => trivial)); (case aO => exact (by (with_reducible repeat (first | apply Kd.R_alloc | apply Kd.R_drewN | apply Kd.R_drew)); exact HO.out)); (case aS => exact HS.out); (case aL => have := LM.out; omega); intro v116 w15 ho hb hg hat; have HOn := Aside0.mk ho; have hbn := Aside0.mk hb; clear ho hb hg hat)
              go_ret
              refine ⟨_, rfl, ?_, ?_⟩
              · rw [← HR.out]
                exact Kd.R_lower HOn.out (by omega)
              · exact words_Fields.end_ HB.out hbn.out
            · rw [if_neg hl] at HA2
              exact absurd HA2 (by simp)
          · rw [if_neg hb1] at HA2
            exact absurd HA2 (by simp)
        · rw [words_Fields.fin, if_neg hb0] at HA2
          have f0 : decide (0 ≤ b) = false := decide_eq_false hb0
          have HR := Aside0.mk (Option.some.inj HA2)
          clear HA2 hb0
          go_wp2
          go_ret
          refine ⟨_, rfl, ?_, HB.out⟩
          rw [← HR.out]
          exact Kd.R_lower HO.out (by omega)

/-! ### script_names: function 15 -/
def script_names.f  : Option (List ByteArray) := some (([(⟨#[]⟩ : ByteArray), (⟨#[98, 111, 111, 116]⟩ : ByteArray), (⟨#[98, 97, 114, 101]⟩ : ByteArray), (⟨#[110, 111, 105, 115, 101]⟩ : ByteArray), (⟨#[99, 114, 101, 97, 116, 101]⟩ : ByteArray), (⟨#[100, 101, 115, 116, 114, 111, 121]⟩ : ByteArray), (⟨#[115, 119, 105, 116, 99, 104]⟩ : ByteArray), (⟨#[109, 97, 112]⟩ : ByteArray), (⟨#[117, 110, 109, 97, 112]⟩ : ByteArray), (⟨#[112, 114, 111, 116, 101, 99, 116]⟩ : ByteArray), (⟨#[115, 104, 97, 114, 101]⟩ : ByteArray), (⟨#[113, 117, 101, 114, 121]⟩ : ByteArray), (⟨#[108, 111, 97, 100]⟩ : ByteArray), (⟨#[115, 116, 111, 114, 101]⟩ : ByteArray), (⟨#[102, 101, 116, 99, 104]⟩ : ByteArray), (⟨#[115, 112, 97, 99, 101, 115]⟩ : ByteArray), (⟨#[112, 111, 107, 101]⟩ : ByteArray), (⟨#[112, 101, 101, 107]⟩ : ByteArray), (⟨#[109, 99, 114]⟩ : ByteArray), (⟨#[109, 114, 99]⟩ : ByteArray), (⟨#[100, 105, 114, 116, 121]⟩ : ByteArray)] : List ByteArray))
set_option maxHeartbeats 8000000 in
set_option maxRecDepth 100000 in
theorem script_names.calls  (r : List ByteArray) (w : World) (h : script_names.f  = some r) :
    Calls Tryd.prog 15 #[] w fun e w' => ∃ v0_ : Value, e = .returned (v0_) ∧ Kd.R Kd.string 9 w' w.heap.size (fun _ => True) v0_ r ∧ Below w.heap.size w w' := by
  have HB := Aside0.mk (Below.refl w.heap.size w)
  have H : (some (([(⟨#[]⟩ : ByteArray), (⟨#[98, 111, 111, 116]⟩ : ByteArray), (⟨#[98, 97, 114, 101]⟩ : ByteArray), (⟨#[110, 111, 105, 115, 101]⟩ : ByteArray), (⟨#[99, 114, 101, 97, 116, 101]⟩ : ByteArray), (⟨#[100, 101, 115, 116, 114, 111, 121]⟩ : ByteArray), (⟨#[115, 119, 105, 116, 99, 104]⟩ : ByteArray), (⟨#[109, 97, 112]⟩ : ByteArray), (⟨#[117, 110, 109, 97, 112]⟩ : ByteArray), (⟨#[112, 114, 111, 116, 101, 99, 116]⟩ : ByteArray), (⟨#[115, 104, 97, 114, 101]⟩ : ByteArray), (⟨#[113, 117, 101, 114, 121]⟩ : ByteArray), (⟨#[108, 111, 97, 100]⟩ : ByteArray), (⟨#[115, 116, 111, 114, 101]⟩ : ByteArray), (⟨#[102, 101, 116, 99, 104]⟩ : ByteArray), (⟨#[115, 112, 97, 99, 101, 115]⟩ : ByteArray), (⟨#[112, 111, 107, 101]⟩ : ByteArray), (⟨#[112, 101, 101, 107]⟩ : ByteArray), (⟨#[109, 99, 114]⟩ : ByteArray), (⟨#[109, 114, 99]⟩ : ByteArray), (⟨#[100, 105, 114, 116, 121]⟩ : ByteArray)] : List ByteArray))) = some r := h
  clear h
  obtain ⟨y103, hy103⟩ : ∃ y_ : List ByteArray, y_ = (([(⟨#[]⟩ : ByteArray), (⟨#[98, 111, 111, 116]⟩ : ByteArray), (⟨#[98, 97, 114, 101]⟩ : ByteArray), (⟨#[110, 111, 105, 115, 101]⟩ : ByteArray), (⟨#[99, 114, 101, 97, 116, 101]⟩ : ByteArray), (⟨#[100, 101, 115, 116, 114, 111, 121]⟩ : ByteArray), (⟨#[115, 119, 105, 116, 99, 104]⟩ : ByteArray), (⟨#[109, 97, 112]⟩ : ByteArray), (⟨#[117, 110, 109, 97, 112]⟩ : ByteArray), (⟨#[112, 114, 111, 116, 101, 99, 116]⟩ : ByteArray), (⟨#[115, 104, 97, 114, 101]⟩ : ByteArray), (⟨#[113, 117, 101, 114, 121]⟩ : ByteArray), (⟨#[108, 111, 97, 100]⟩ : ByteArray), (⟨#[115, 116, 111, 114, 101]⟩ : ByteArray), (⟨#[102, 101, 116, 99, 104]⟩ : ByteArray), (⟨#[115, 112, 97, 99, 101, 115]⟩ : ByteArray), (⟨#[112, 111, 107, 101]⟩ : ByteArray), (⟨#[112, 101, 101, 107]⟩ : ByteArray), (⟨#[109, 99, 114]⟩ : ByteArray), (⟨#[109, 114, 99]⟩ : ByteArray), (⟨#[100, 105, 114, 116, 121]⟩ : ByteArray)] : List ByteArray)) := ⟨_, rfl⟩
  replace H : (some y103) = some r := by first | (rw [hy103]; with_reducible exact H) | (have H2_ := (Option.bind_some _ _).symm.trans H; rw [hy103]; with_reducible exact H2_) | (have H2_ := (Option.bind_some _ _).symm.trans H; with_reducible exact H2_) | with_reducible exact H | (rw [hy103]; exact H) | exact H
  have Ny103 := Aside0.mk hy103
  clear hy103
  obtain rfl := Option.some.inj H
  go_enter Tryd.func15, Tryd.ntmps15
  go_wp2_with (first | ((with_reducible refine gate_dst (N := 1) rfl ?_); refine Kd.R_lit Kd.string _ 9 ?hg (N := 1) ?hd (xs := ([(⟨#[]⟩ : ByteArray), (⟨#[98, 111, 111, 116]⟩ : ByteArray), (⟨#[98, 97, 114, 101]⟩ : ByteArray), (⟨#[110, 111, 105, 115, 101]⟩ : ByteArray), (⟨#[99, 114, 101, 97, 116, 101]⟩ : ByteArray), (⟨#[100, 101, 115, 116, 114, 111, 121]⟩ : ByteArray), (⟨#[115, 119, 105, 116, 99, 104]⟩ : ByteArray), (⟨#[109, 97, 112]⟩ : ByteArray), (⟨#[117, 110, 109, 97, 112]⟩ : ByteArray), (⟨#[112, 114, 111, 116, 101, 99, 116]⟩ : ByteArray), (⟨#[115, 104, 97, 114, 101]⟩ : ByteArray), (⟨#[113, 117, 101, 114, 121]⟩ : ByteArray), (⟨#[108, 111, 97, 100]⟩ : ByteArray), (⟨#[115, 116, 111, 114, 101]⟩ : ByteArray), (⟨#[102, 101, 116, 99, 104]⟩ : ByteArray), (⟨#[115, 112, 97, 99, 101, 115]⟩ : ByteArray), (⟨#[112, 111, 107, 101]⟩ : ByteArray), (⟨#[112, 101, 101, 107]⟩ : ByteArray), (⟨#[109, 99, 114]⟩ : ByteArray), (⟨#[109, 114, 99]⟩ : ByteArray), (⟨#[100, 105, 114, 116, 121]⟩ : ByteArray)] : List ByteArray)) (inner := [.string (⟨#[]⟩ : ByteArray), .string (⟨#[98, 111, 111, 116]⟩ : ByteArray), .string (⟨#[98, 97, 114, 101]⟩ : ByteArray), .string (⟨#[110, 111, 105, 115, 101]⟩ : ByteArray), .string (⟨#[99, 114, 101, 97, 116, 101]⟩ : ByteArray), .string (⟨#[100, 101, 115, 116, 114, 111, 121]⟩ : ByteArray), .string (⟨#[115, 119, 105, 116, 99, 104]⟩ : ByteArray), .string (⟨#[109, 97, 112]⟩ : ByteArray), .string (⟨#[117, 110, 109, 97, 112]⟩ : ByteArray), .string (⟨#[112, 114, 111, 116, 101, 99, 116]⟩ : ByteArray), .string (⟨#[115, 104, 97, 114, 101]⟩ : ByteArray), .string (⟨#[113, 117, 101, 114, 121]⟩ : ByteArray), .string (⟨#[108, 111, 97, 100]⟩ : ByteArray), .string (⟨#[115, 116, 111, 114, 101]⟩ : ByteArray), .string (⟨#[102, 101, 116, 99, 104]⟩ : ByteArray), .string (⟨#[115, 112, 97, 99, 101, 115]⟩ : ByteArray), .string (⟨#[112, 111, 107, 101]⟩ : ByteArray), .string (⟨#[112, 101, 101, 107]⟩ : ByteArray), .string (⟨#[109, 99, 114]⟩ : ByteArray), .string (⟨#[109, 114, 99]⟩ : ByteArray), .string (⟨#[100, 105, 114, 116, 121]⟩ : ByteArray)]) (ok := fun _ => True) (okp := fun _ => True) ?hr ?hp (fun _ hk => hk) trivial (Below.refl _ _) (Nat.le_refl _) (by simp) ?_; (case hd => rfl); (case hg => rfl); (case hr => first | (go_simp; done) | (go_simp; rfl)); (case hp => exact (Reps.one (show Kd.M Kd.string _ _ _ (⟨#[]⟩ : ByteArray) [.string (⟨#[]⟩ : ByteArray)] from rfl) (Reps.one (show Kd.M Kd.string _ _ _ (⟨#[98, 111, 111, 116]⟩ : ByteArray) [.string (⟨#[98, 111, 111, 116]⟩ : ByteArray)] from rfl) (Reps.one (show Kd.M Kd.string _ _ _ (⟨#[98, 97, 114, 101]⟩ : ByteArray) [.string (⟨#[98, 97, 114, 101]⟩ : ByteArray)] from rfl) (Reps.one (show Kd.M Kd.string _ _ _ (⟨#[110, 111, 105, 115, 101]⟩ : ByteArray) [.string (⟨#[110, 111, 105, 115, 101]⟩ : ByteArray)] from rfl) (Reps.one (show Kd.M Kd.string _ _ _ (⟨#[99, 114, 101, 97, 116, 101]⟩ : ByteArray) [.string (⟨#[99, 114, 101, 97, 116, 101]⟩ : ByteArray)] from rfl) (Reps.one (show Kd.M Kd.string _ _ _ (⟨#[100, 101, 115, 116, 114, 111, 121]⟩ : ByteArray) [.string (⟨#[100, 101, 115, 116, 114, 111, 121]⟩ : ByteArray)] from rfl) (Reps.one (show Kd.M Kd.string _ _ _ (⟨#[115, 119, 105, 116, 99, 104]⟩ : ByteArray) [.string (⟨#[115, 119, 105, 116, 99, 104]⟩ : ByteArray)] from rfl) (Reps.one (show Kd.M Kd.string _ _ _ (⟨#[109, 97, 112]⟩ : ByteArray) [.string (⟨#[109, 97, 112]⟩ : ByteArray)] from rfl) (Reps.one (show Kd.M Kd.string _ _ _ (⟨#[117, 110, 109, 97, 112]⟩ : ByteArray) [.string (⟨#[117, 110, 109, 97, 112]⟩ : ByteArray)] from rfl) (Reps.one (show Kd.M Kd.string _ _ _ (⟨#[112, 114, 111, 116, 101, 99, 116]⟩ : ByteArray) [.string (⟨#[112, 114, 111, 116, 101, 99, 116]⟩ : ByteArray)] from rfl) (Reps.one (show Kd.M Kd.string _ _ _ (⟨#[115, 104, 97, 114, 101]⟩ : ByteArray) [.string (⟨#[115, 104, 97, 114, 101]⟩ : ByteArray)] from rfl) (Reps.one (show Kd.M Kd.string _ _ _ (⟨#[113, 117, 101, 114, 121]⟩ : ByteArray) [.string (⟨#[113, 117, 101, 114, 121]⟩ : ByteArray)] from rfl) (Reps.one (show Kd.M Kd.string _ _ _ (⟨#[108, 111, 97, 100]⟩ : ByteArray) [.string (⟨#[108, 111, 97, 100]⟩ : ByteArray)] from rfl) (Reps.one (show Kd.M Kd.string _ _ _ (⟨#[115, 116, 111, 114, 101]⟩ : ByteArray) [.string (⟨#[115, 116, 111, 114, 101]⟩ : ByteArray)] from rfl) (Reps.one (show Kd.M Kd.string _ _ _ (⟨#[102, 101, 116, 99, 104]⟩ : ByteArray) [.string (⟨#[102, 101, 116, 99, 104]⟩ : ByteArray)] from rfl) (Reps.one (show Kd.M Kd.string _ _ _ (⟨#[115, 112, 97, 99, 101, 115]⟩ : ByteArray) [.string (⟨#[115, 112, 97, 99, 101, 115]⟩ : ByteArray)] from rfl) (Reps.one (show Kd.M Kd.string _ _ _ (⟨#[112, 111, 107, 101]⟩ : ByteArray) [.string (⟨#[112, 111, 107, 101]⟩ : ByteArray)] from rfl) (Reps.one (show Kd.M Kd.string _ _ _ (⟨#[112, 101, 101, 107]⟩ : ByteArray) [.string (⟨#[112, 101, 101, 107]⟩ : ByteArray)] from rfl) (Reps.one (show Kd.M Kd.string _ _ _ (⟨#[109, 99, 114]⟩ : ByteArray) [.string (⟨#[109, 99, 114]⟩ : ByteArray)] from rfl) (Reps.one (show Kd.M Kd.string _ _ _ (⟨#[109, 114, 99]⟩ : ByteArray) [.string (⟨#[109, 114, 99]⟩ : ByteArray)] from rfl) (Reps.one (show Kd.M Kd.string _ _ _ (⟨#[100, 105, 114, 116, 121]⟩ : ByteArray) [.string (⟨#[100, 105, 114, 116, 121]⟩ : ByteArray)] from rfl) (Reps.none _ _))))))))))))))))))))))); intro v104 w1 ho2 hb hg_ hnew_; clear hg_ hnew_; (first | rw [← Ny103.out] at ho2 | (simp only [Int.reduceToNat] at ho2; rw [← Ny103.out] at ho2)); have n0_ := Aside0.mk (Kd.R_lower ho2 (below_size (by repeat (first | (with_reducible first | exact HB.out | apply below_alloc | apply pw_below_drewN | apply below_drew1) | exact HB.out)))); have n1_ := Aside0.mk (below_step (by repeat (first | (with_reducible first | exact HB.out | apply below_alloc | apply pw_below_drewN | apply below_drew1) | exact HB.out)) hb); clear HB; have HO105 := n0_; have HB := n1_; clear n0_ n1_; clear hb ho2))
  go_ret
  exact ⟨_, by first | rfl | (simp [errW_none, errW_some] <;> rfl) | (simp [*, errW_none, errW_some] <;> rfl) | (simp [*, errW_none, errW_some] <;> exact isEmpty_ne _), by (with_reducible repeat (first | apply Kd.R_alloc | apply Kd.R_drewN | apply Kd.R_drew)); exact HO105.out, by repeat (first | (with_reducible first | exact HB.out | apply below_alloc | apply pw_below_drewN | apply below_drew1) | exact HB.out)⟩

-- NOT PRINTED: function 21 (script_forms_1)

-- NOT PRINTED: function 22 (script_forms_2)

-- NOT PRINTED: function 30 (script_small)

-- NOT PRINTED: function 24 (script_numbers)

-- NOT PRINTED: function 23 (script_forms_3)

-- NOT PRINTED: function 25 (script_forms_4)

-- NOT PRINTED: function 29 (script_short)

-- NOT PRINTED: function 26 (script_noise)

-- NOT PRINTED: function 40 (script_writer_put)

-- NOT PRINTED: function 27 (script_other)

-- NOT PRINTED: function 28 (script_forms_5)

-- NOT PRINTED: function 32 (script_long)

-- NOT PRINTED: function 31 (script_forms_6)

-- NOT PRINTED: function 33 (script_forms_7)

-- NOT PRINTED: function 34 (script_forms_8)

-- NOT PRINTED: function 35 (script_forms_9)

-- NOT PRINTED: function 36 (script_access)

-- NOT PRINTED: function 37 (script_forms_10)

-- NOT PRINTED: function 38 (script_forms_11)

-- NOT PRINTED: function 41 (script_not)

-- NOT PRINTED: function 39 (script_tuple)

-- NOT PRINTED: function 16 (script_forms)

-- NOT PRINTED: function 17 (script_reader_fail)

-- NOT PRINTED: function 9 (script_parsed)

-- NOT PRINTED: function 6 (script_Parse)

-- NOT PRINTED: function 3 (atlaslaw15_ScriptCode)

end Go.Proofs.YtnidnmhcjngmeaaDoor.S
