-- Written by a program of this session (wip/xprint.py), over the kit's print. Not trusted: Lean checks it.
import Derived.Test.YtihjlkdobdffjaaDoorS0
namespace Go.Proofs.YtihjlkdobdffjaaDoor.S
open Go.Proofs.YtihjlkdobdffjaaDoorG
open Go.RowKit Go.Proofs.YtihjlkdobdffjaaDoorW.PrintWords Go.Proofs.YtihjlkdobdffjaaDoorW.PrintLast Go.Proofs.YtihjlkdobdffjaaDoorW.PrintMore
attribute [local go_sem] max2_int min2_int max_two min_two max_three min_three max_four min_four   -- for this text's walks alone
set_option linter.unusedVariables false
set_option linter.unusedSimpArgs false

/-! ### strconv_FormatUint: function 9 -/
def strconv_FormatUint.tz64.f (a0 : Int) : Option (Int) := if a0 = 0 then (some 64) else (if 0 ≤ ((IntKind.u64.wrap ((Go.bits .and .u64 a0 (IntKind.u64.wrap (-a0))) * 285870213051353865)) / 288230376151711744) then (if ((IntKind.u64.wrap ((Go.bits .and .u64 a0 (IntKind.u64.wrap (-a0))) * 285870213051353865)) / 288230376151711744) < 64 then (some (wrap64 (rd gt2_0 ((IntKind.u64.wrap ((Go.bits .and .u64 a0 (IntKind.u64.wrap (-a0))) * 285870213051353865)) / 288230376151711744)))) else (none)) else (none))
set_option maxHeartbeats 8000000 in
set_option maxRecDepth 100000 in
theorem strconv_FormatUint.tz64.calls (a0 : Int) (r : Int) (w : World) (hG2 : Aside0 (G2 w)) (h : strconv_FormatUint.tz64.f a0 = some r) :
  Calls Tryd.prog 27 #[.int .u64 a0] w fun e w' => e = .returned (.int .i64 r) ∧ Drawn0 w w' := by
 have H : (if a0 = 0 then (some 64) else (if 0 ≤ ((IntKind.u64.wrap ((Go.bits .and .u64 a0 (IntKind.u64.wrap (-a0))) * 285870213051353865)) / 288230376151711744) then (if ((IntKind.u64.wrap ((Go.bits .and .u64 a0 (IntKind.u64.wrap (-a0))) * 285870213051353865)) / 288230376151711744) < 64 then (some (wrap64 (rd gt2_0 ((IntKind.u64.wrap ((Go.bits .and .u64 a0 (IntKind.u64.wrap (-a0))) * 285870213051353865)) / 288230376151711744)))) else (none)) else (none))) = some r := h
 clear h
 by_cases c2 : a0 = 0
 ·
  rw [if_pos c2] at H
  have c2b0 : (a0 == 0) = true := beq_iff_eq.mpr c2
  have c2b1 : (a0 != 0) = false := bne_eq_false_iff_eq.mpr c2
  clear c2
  obtain rfl := Option.some.inj H
  go_enter Tryd.func27, Tryd.ntmps27
  go_wp2
  go_ret
  exact ⟨by first | rfl | (simp; done) | (simp [*]; done), by repeat (first | exact Drawn0.refl _ | apply Drawn0.step)⟩
 ·
  rw [if_neg c2] at H
  have c2b0 : (a0 == 0) = false := beq_eq_false_iff_ne.mpr c2
  have c2b1 : (a0 != 0) = true := bne_iff_ne.mpr c2
  obtain ⟨ji3, hji3⟩ : ∃ j_ : Int, ((IntKind.u64.wrap ((Go.bits .and .u64 a0 (IntKind.u64.wrap (-a0))) * 285870213051353865)) / 288230376151711744) = j_ := ⟨_, rfl⟩
  replace H : (if 0 ≤ (ji3) then (if (ji3) < 64 then (some (wrap64 (rd gt2_0 (ji3)))) else (none)) else (none)) = some r := by first | (rw [hji3] at H; exact H) | (simp only [hji3] at H ⊢; exact H)
  by_cases c4 : 0 ≤ (ji3)
  ·
   rw [if_pos c4] at H
   have c4b0 : decide (0 ≤ (ji3)) = true := decide_eq_true c4
   clear c4
   by_cases c5 : (ji3) < 64
   ·
    rw [if_pos c5] at H
    have c5b0 : decide ((ji3) < 64) = true := decide_eq_true c5
    clear c5
    obtain rfl := Option.some.inj H
    have p1226_0 : 0 ≤ (ji3 : Int) := of_decide_eq_true (by first | (with_reducible assumption) | assumption)
    have q1226_0 : (ji3 : Int) < 64 := of_decide_eq_true (by first | (with_reducible assumption) | assumption)
    have hx1226_0 := hG2.out.c0 (ji3 : Int) p1226_0 q1226_0
    replace p1226_0 := eq_true p1226_0
    replace q1226_0 := eq_true q1226_0
    go_enter Tryd.func27, Tryd.ntmps27
    go_wp2
    go_ret
    exact ⟨by first | rfl | (simp; done) | (simp only [← hji3] <;> (first | rfl | simp)) | (simp [*]; done), by repeat (first | exact Drawn0.refl _ | apply Drawn0.step)⟩
   ·
    rw [if_neg c5] at H
    exact absurd H (by simp)
  ·
   rw [if_neg c4] at H
   exact absurd H (by simp)

def strconv_FormatUint.tz.f (a0 : Int) : Option (Int) := (strconv_FormatUint.tz64.f a0).bind fun t123 => (some t123)
set_option maxHeartbeats 8000000 in
set_option maxRecDepth 100000 in
theorem strconv_FormatUint.tz.calls (a0 : Int) (r : Int) (w : World) (hG2 : Aside0 (G2 w)) (h : strconv_FormatUint.tz.f a0 = some r) :
  Calls Tryd.prog 25 #[.int .u64 a0] w fun e w' => e = .returned (.int .i64 r) ∧ Drawn0 w w' := by
 have H : ((strconv_FormatUint.tz64.f a0).bind fun t123 => (some t123)) = some r := h
 clear h
 replace H := Option.bind_eq_some_iff.mp H
 obtain ⟨t123, A20, H⟩ := H
 replace H : (some t123) = some r := H
 have A2 := Aside0.mk A20
 clear A20
 obtain rfl := Option.some.inj H
 go_enter Tryd.func25, Tryd.ntmps25
 go_wp2_with (first | ((with_reducible refine gate_callee (f := 27) rfl ?_); refine goesL_ (some 7) rfl rfl Tryd.func27 (by kernel_rfl) rfl #[.int .u64 a0] rfl (by (try simp only [List.map_toArray, List.map_cons, List.map_nil]); first | done | rfl | (simp only [List.length_drop, List.length_take]; rfl)) ?_; (with_reducible refine (strconv_FormatUint.tz64.calls a0 t123 _ ?side1 A2.out).mono ?_); (case side1 => exact ⟨G2.drawn hG2.out (by repeat (first | exact Drawn0.refl _ | apply Drawn0.step))⟩); rintro e w' ⟨rfl, ⟨nd, rfl⟩⟩; refine ⟨_, rfl, ?_⟩))
 go_ret
 exact ⟨by first | rfl | (simp; done) | (simp [*]; done), by repeat (first | exact Drawn0.refl _ | apply Drawn0.step)⟩

/-- A digit at base 16. -/
def strconv_FormatUint.dg (n : Int) : UInt8 := UInt8.ofNat (if n < 10 then 48 + n.toNat else 87 + n.toNat)
/-- The digits of a number at base 16, ahead of these. -/
def strconv_FormatUint.l0 : Nat → Int → List UInt8 → Option (List UInt8)
  | 0, _, _ => none
  | k + 1, u, t => if t.length < 64 then (if u ≥ 16 then (strconv_FormatUint.l0 k (u / 16) (strconv_FormatUint.dg (u % 16) :: t)) else (some (strconv_FormatUint.dg u :: t))) else (none)
theorem strconv_FormatUint.mono_l : ∀ k, (∀ y0 y1, LeO (strconv_FormatUint.l0 k y0 y1) (strconv_FormatUint.l0 (k + 1) y0 y1))
  | 0 => fun _ _ r h => by simp [strconv_FormatUint.l0] at h
  | k + 1 => fun y0 y1 => by
    have ih := strconv_FormatUint.mono_l k
    rw [strconv_FormatUint.l0, strconv_FormatUint.l0]
    repeat' first
      | (with_reducible exact ih _ _)
      | (with_reducible exact LeO.refl _)
      | (with_reducible refine LeO.ite ?_ ?_)
def strconv_FormatUint.f (k : Nat) (a0 : Int) (a1 : Int) : Option (ByteArray) := if a1 = 16 then (if 0 ≤ a0 then (if a0 < 18446744073709551616 then ((strconv_FormatUint.l0 k a0 []).bind fun t => some ⟨t.toArray⟩) else (none)) else (none)) else (none)
theorem strconv_FormatUint.mono : ∀ a0 a1 k, LeO (strconv_FormatUint.f k a0 a1) (strconv_FormatUint.f (k + 1) a0 a1) := by
  intro a0 a1 k
  unfold strconv_FormatUint.f
  repeat' first
    | (with_reducible exact LeO.refl _)
    | (with_reducible refine LeO.ite ?_ ?_)
    | (with_reducible refine LeO.bind (strconv_FormatUint.mono_l k _ _) (fun _ => ?_))
theorem strconv_FormatUint.idx (x : Int) (h0 : 0 ≤ x) (h1 : x < 16) (w : World) :
    (Instr.index 9 (.string ⟨#[48, 49, 50, 51, 52, 53, 54, 55, 56, 57, 97, 98, 99, 100, 101, 102, 103, 104, 105, 106, 107, 108, 109, 110, 111, 112, 113, 114, 115, 116, 117, 118, 119, 120, 121, 122]⟩) (.int .u64 x)).run Tryd.prog w = .ok (.int .u8 ((strconv_FormatUint.dg x).toNat : Int)) w := by
  obtain ⟨n, rfl⟩ := Int.eq_ofNat_of_zero_le h0
  have hn : n < 16 := by omega
  match n, hn with
  | 0, _ => rfl
  | 1, _ => rfl
  | 2, _ => rfl
  | 3, _ => rfl
  | 4, _ => rfl
  | 5, _ => rfl
  | 6, _ => rfl
  | 7, _ => rfl
  | 8, _ => rfl
  | 9, _ => rfl
  | 10, _ => rfl
  | 11, _ => rfl
  | 12, _ => rfl
  | 13, _ => rfl
  | 14, _ => rfl
  | 15, _ => rfl
/-- What the loop keeps: the array's cells, the digits in it. -/
structure strconv_FormatUint.Held (w w' : World) (t : List UInt8) : Prop where
  cell : ∀ j, j < 65 → ∃ z : Int, w'.cell? ⟨w.heap.size, j, none⟩ = some (.int .u8 z)
  free : ∀ j, j < 65 → w'.frozen? ⟨w.heap.size, j, none⟩ = false
  dig : ∀ j (hj : j < t.length), w'.cell? ⟨w.heap.size, 65 - t.length + j, none⟩ = some (.int .u8 (t[j].toNat : Int))
  below : Below w.heap.size w w'
  size : w.heap.size + 1 ≤ w'.heap.size
theorem strconv_FormatUint.held_put {w w' : World} {t : List UInt8} (h : strconv_FormatUint.Held w w' t) (d : UInt8) (hl : t.length < 65) :
    strconv_FormatUint.Held w (w'.setCell ⟨w.heap.size, 65 - t.length - 1, none⟩ (.int .u8 (d.toNat : Int))) (d :: t) := by
  obtain ⟨z, hz⟩ := h.cell (65 - t.length - 1) (by omega)
  refine ⟨fun j hj => ?_, fun j hj => ?_, fun j hj => ?_, ?_, ?_⟩
  · by_cases e : j = 65 - t.length - 1
    · subst e
      exact ⟨_, World.cell?_setCell_same _ _ _ hz⟩
    · obtain ⟨y, hy⟩ := h.cell j hj
      exact ⟨y, by rw [World.cell?_setCell_other _ _ _ _ (fun e2 => e ((Addr.mk.inj e2).2.1.symm))]; exact hy⟩
  · rw [World.frozen?_setCell]
    exact h.free j hj
  · cases j with
    | zero =>
      rw [List.length_cons, List.getElem_cons_zero, show 65 - (t.length + 1) + 0 = 65 - t.length - 1 by omega]
      exact World.cell?_setCell_same _ _ _ hz
    | succ j =>
      have hj' : j < t.length := by simpa using hj
      rw [List.length_cons, List.getElem_cons_succ, World.cell?_setCell_other _ _ _ _ (fun e2 => by have e3 := (Addr.mk.inj e2).2.1; omega), show 65 - (t.length + 1) + (j + 1) = 65 - t.length + j by omega]
      exact h.dig j hj'
  · exact h.below.setCell (Nat.le_refl _) _
  · have : (w'.setCell ⟨w.heap.size, 65 - t.length - 1, none⟩ (.int .u8 (d.toNat : Int))).heap.size = w'.heap.size := by simp [World.setCell]
    rw [this]
    exact h.size
theorem strconv_FormatUint.held_drewN {w w' : World} {t : List UInt8} (h : strconv_FormatUint.Held w w' t) (n : Nat) : strconv_FormatUint.Held w (w'.drewN n) t :=
  ⟨h.cell, h.free, h.dig, pw_below_drewN h.below n, h.size⟩
def strconv_FormatUint.zs : Array Value := Array.replicate 65 (.int .u8 0)
set_option maxRecDepth 100000 in
theorem strconv_FormatUint.zero (W : World) : (zeroValue 49).run Tryd.prog W = .ok (.agg strconv_FormatUint.zs) W := rfl
theorem strconv_FormatUint.held_start (w : World) : strconv_FormatUint.Held w (w.alloc (.cells strconv_FormatUint.zs 49)) [] := by
  refine ⟨fun j hj => ⟨0, ?_⟩, fun j hj => World.frozen?_alloc_new _ _ _ _, fun j hj => absurd hj (by simp), below_alloc (Below.refl _ _) _, ?_⟩
  · rw [World.cell?_alloc_new]
    simp [strconv_FormatUint.zs, Array.getElem?_replicate, hj]
  · show _ ≤ (w.heap.push _).size
    rw [Array.size_push]
    exact Nat.le_refl _
set_option maxHeartbeats 8000000 in
set_option maxRecDepth 100000 in
theorem strconv_FormatUint.pow (w : World) : Calls Tryd.prog 24 #[.int .i64 16] w fun e w' => e = .returned (.bool true) ∧ Drawn0 w w' := by
  go_enter Tryd.func24, Tryd.ntmps24
  go_wp2
  go_ret
  exact ⟨by first | rfl | (simp; done) | decide | (simp [*]; done), by repeat (first | exact Drawn0.refl _ | apply Drawn0.step)⟩
set_option maxHeartbeats 8000000 in
set_option maxRecDepth 100000 in
theorem strconv_FormatUint.bits (k : Nat) (a0 : Int) (r : List UInt8) (w : World) (hG2 : Aside0 (G2 w)) (h0 : 0 ≤ a0) (h1 : a0 < 18446744073709551616) (h : strconv_FormatUint.l0 k a0 [] = some r) :
    Calls Tryd.prog 20 #[.slice none 0 0, .int .u64 a0, .int .i64 16, .bool false, .bool false] w fun e w' => e = .returned (.tuple #[.slice none 0 0, .string ⟨r.toArray⟩]) ∧ Below w.heap.size w w' := by
  have H0 := Aside0.mk h
  have HU := Aside0.mk (And.intro h0 h1)
  clear h h0 h1
  have i25 : strconv_FormatUint.tz.f 16 = some 4 := by decide +kernel
  have hz49 := strconv_FormatUint.zero
  go_enter Tryd.func20, Tryd.ntmps20
  go_wp2_with (first | ((with_reducible refine gate_callee (f := 24) rfl ?_); refine goesL_ (some 34) rfl rfl Tryd.func24 (by kernel_rfl) rfl #[.int .i64 16] rfl (by (try simp only [List.map_toArray, List.map_cons, List.map_nil]); first | done | rfl | (simp only [List.length_drop, List.length_take]; rfl)) ?_; (with_reducible refine (strconv_FormatUint.pow _).mono ?_); rintro e w' ⟨rfl, ⟨nd, rfl⟩⟩; refine ⟨_, rfl, ?_⟩) | ((with_reducible refine gate_callee (f := 25) rfl ?_); refine goesL_ (some 37) rfl rfl Tryd.func25 (by kernel_rfl) rfl #[.int .u64 16] rfl (by (try simp only [List.map_toArray, List.map_cons, List.map_nil]); first | done | rfl | (simp only [List.length_drop, List.length_take]; rfl)) ?_; (with_reducible refine (strconv_FormatUint.tz.calls 16 4 _ ?side1 i25).mono ?_); (case side1 => exact ⟨hG2.out.below (by repeat (first | exact Below.refl _ _ | apply below_alloc | apply pw_below_drewN | apply below_drew1))⟩); rintro e w' ⟨rfl, ⟨nd, rfl⟩⟩; refine ⟨_, rfl, ?_⟩))
  go_name_bytes DG hDG
  have hX : ∀ (x : Int), 0 ≤ x → x < 16 → ∀ W, (Instr.index 9 (.string DG) (.int .u64 x)).run Tryd.prog W = .ok (.int .u8 ((strconv_FormatUint.dg x).toNat : Int)) W := fun x a b W => by rw [← hDG]; exact strconv_FormatUint.idx x a b W
  clear hDG
  have AX := Aside0.mk hX
  clear hX
  go_loopg [1, 13] k (fun kq v1 v13 w' => ∃ (u : Int) (t : List UInt8) (j : Nat), v1 = .int .u64 u ∧ v13 = .int .i64 (j : Int) ∧ Aside0 (strconv_FormatUint.l0 kq u t = some r) ∧ Aside0 (kq ≤ k) ∧ Aside0 (0 ≤ u ∧ u < 18446744073709551616) ∧ Aside0 (j + t.length = 65) ∧ Aside0 (strconv_FormatUint.Held w w' t))
  case atStart => exact ⟨a0, [], 65, rfl, rfl, H0, ⟨Nat.le_refl _⟩, HU, ⟨rfl⟩, ⟨by repeat (first | exact strconv_FormatUint.held_start _ | apply strconv_FormatUint.held_drewN)⟩⟩
  case round =>
    clear H0 HU
    obtain ⟨u, t, j, rfl, rfl, HA, HK, HU, HJ, HH⟩ := hrel
    cases gk with
    | zero => exact absurd HA.out (by simp [strconv_FormatUint.l0])
    | succ k1 =>
      have H := HA.out
      clear HA
      simp only [strconv_FormatUint.l0] at H
      by_cases c1 : t.length < 64
      · rw [if_pos c1] at H
        have hJ := HJ.out
        obtain ⟨m, rfl⟩ : ∃ m, j = m + 1 := ⟨j - 1, by omega⟩
        have hm : (m : Int) < 65 := by omega
        have hm0 : (0 : Int) ≤ (m : Int) := by omega
        have em : m = 65 - t.length - 1 := by omega
        have hu0 := HU.out.1
        have hu1 := HU.out.2
        obtain ⟨z, hz⟩ := HH.out.cell m (by omega)
        have hf := HH.out.free m (by omega)
        by_cases c2 : u ≥ 16
        · rw [if_pos c2] at H
          have f0 : decide (u ≥ 16) = true := decide_eq_true c2
          have ea : Go.bits .and .u64 u 15 = u % 16 := bits_mask .u64 64 (by decide) (fun n a b => by rw [IntKind.wrap_u64]; omega) 4 (by decide) u hu0 hu1
          obtain ⟨x, hx⟩ : ∃ x : Int, u % 16 = x := ⟨_, rfl⟩
          rw [hx] at ea H
          have H' := Aside0.mk H
          clear H
          have hx0 : 0 ≤ x := by omega
          have hx1 : x < 16 := by omega
          have eX := AX.out x hx0 hx1
          have EM := Aside0.mk em
          clear hx c2 em
          go_wp2
          go_roundg k1
          case measure => have := HK.out; omega
          case rel =>
            have hp := strconv_FormatUint.held_put HH.out (strconv_FormatUint.dg x) (by omega)
            rw [← EM.out] at hp
            exact ⟨u / 16, strconv_FormatUint.dg x :: t, m, rfl, rfl, H', ⟨by have := HK.out; omega⟩, ⟨by omega⟩, ⟨by rw [List.length_cons]; omega⟩, ⟨hp⟩⟩
        · rw [if_neg c2] at H
          have f0 : decide (u ≥ 16) = false := decide_eq_false c2
          have eX := strconv_FormatUint.idx u hu0 (by omega)
          have hp := strconv_FormatUint.held_put HH.out (strconv_FormatUint.dg u) (by omega)
          rw [← em] at hp
          have HP := Aside0.mk hp
          have hl : 65 - m = (strconv_FormatUint.dg u :: t).length := by rw [List.length_cons]; omega
          have hcv := run_convert_bytes_back (P := Tryd.prog) (wr.setCell ⟨w.heap.size, m, none⟩ (.int .u8 ((strconv_FormatUint.dg u).toNat : Int))) 26 9 5 ⟨w.heap.size, m, none⟩ (65 - m) (strconv_FormatUint.dg u :: t) Tryd.underlying26 Tryd.underlying5 Tryd.underlying9 (fun j hj => by
            rw [Lib.add_plain]
            have := hp.dig j hj
            rw [← hl, show 65 - (65 - m) + j = m + j by omega] at this
            exact this)
          rw [← hl] at hcv
          have hsl : ∀ W, (Instr.sliceAt 49 (.pointer (some ⟨w.heap.size, 0, none⟩)) (some (.int .i64 (m : Int))) none none).run Tryd.prog W = .ok (.slice (some ⟨w.heap.size, m, none⟩) (65 - m) (65 - m)) W := fun W => by
            rw [run_sliceAt_array_l W 49 ⟨w.heap.size, 0, none⟩ (by simp [Program.arrayLen, Program.elem, Tryd.underlying49]) .i64 (m : Int) (by omega) (by simp [Program.arrayLen, Tryd.underlying49]; omega)]
            go_simp
            omega
          obtain rfl := Option.some.inj H
          clear hp hl em c2 H
          go_wp2
          go_ret2
          exact ⟨rfl, HP.out.below⟩
      · rw [if_neg c1] at H
        exact absurd H (by simp)
set_option maxHeartbeats 8000000 in
set_option maxRecDepth 100000 in
theorem strconv_FormatUint.inner (k : Nat) (a0 : Int) (r : List UInt8) (w : World) (hG2 : Aside0 (G2 w)) (h0 : 0 ≤ a0) (h1 : a0 < 18446744073709551616) (h : strconv_FormatUint.l0 k a0 [] = some r) :
    Calls Tryd.prog 14 #[.int .u64 a0, .int .i64 16] w fun e w' => e = .returned (.string ⟨r.toArray⟩) ∧ Below w.heap.size w w' := by
  have H0 := Aside0.mk h
  have HU := Aside0.mk (And.intro h0 h1)
  clear h h0 h1
  go_enter Tryd.func14, Tryd.ntmps14
  go_wp2_with (((with_reducible refine gate_callee (f := 20) rfl ?_); refine goesL_ (some 28) rfl rfl Tryd.func20 (by kernel_rfl) rfl #[.slice none 0 0, .int .u64 a0, .int .i64 16, .bool false, .bool false] rfl (by (try simp only [List.map_toArray, List.map_cons, List.map_nil]); first | done | rfl | (simp only [List.length_drop, List.length_take]; rfl)) ?_; (with_reducible refine (strconv_FormatUint.bits k a0 r _ ?side1 HU.out.1 HU.out.2 H0.out).mono ?_); (case side1 => exact ⟨hG2.out.below (by repeat (first | exact Below.refl _ _ | apply below_alloc | apply pw_below_drewN | apply below_drew1))⟩); rintro e w' ⟨rfl, hb⟩; have HB := Aside0.mk hb; clear hb; refine ⟨_, rfl, ?_⟩))
  go_ret
  exact ⟨rfl, by repeat (first | (with_reducible exact HB.out) | exact HB.out | apply below_alloc | apply pw_below_drewN | apply below_drew1)⟩
set_option maxHeartbeats 8000000 in
set_option maxRecDepth 100000 in
theorem strconv_FormatUint.calls (k : Nat) (a0 : Int) (a1 : Int) (r : ByteArray) (w : World) (hG2 : Aside0 (G2 w)) (h : strconv_FormatUint.f k a0 a1 = some r) :
    Calls Tryd.prog 9 #[.int .u64 a0, .int .i64 a1] w fun e w' => e = .returned (.string r) ∧ Below w.heap.size w w' := by
  unfold strconv_FormatUint.f at h
  by_cases c0 : a1 = 16
  · rw [if_pos c0] at h
    subst c0
    by_cases h0 : 0 ≤ a0
    · rw [if_pos h0] at h
      by_cases h1 : a0 < 18446744073709551616
      · rw [if_pos h1] at h
        obtain ⟨t, ht, hr⟩ := Option.bind_eq_some_iff.mp h
        obtain rfl := Option.some.inj hr
        have H0 := Aside0.mk ht
        have HU := Aside0.mk (And.intro h0 h1)
        clear h h0 h1 ht hr
        go_enter Tryd.func9, Tryd.ntmps9
        go_wp2_with (((with_reducible refine gate_callee (f := 14) rfl ?_); refine goesL_ (some 7) rfl rfl Tryd.func14 (by kernel_rfl) rfl #[.int .u64 a0, .int .i64 16] rfl (by (try simp only [List.map_toArray, List.map_cons, List.map_nil]); first | done | rfl | (simp only [List.length_drop, List.length_take]; rfl)) ?_; (with_reducible refine (strconv_FormatUint.inner k a0 t _ ?side1 HU.out.1 HU.out.2 H0.out).mono ?_); (case side1 => exact ⟨hG2.out.below (by repeat (first | exact Below.refl _ _ | apply below_alloc | apply pw_below_drewN | apply below_drew1))⟩); rintro e w' ⟨rfl, hb⟩; have HB := Aside0.mk hb; clear hb; refine ⟨_, rfl, ?_⟩))
        go_ret
        exact ⟨rfl, by repeat (first | (with_reducible exact HB.out) | exact HB.out | apply below_alloc | apply pw_below_drewN | apply below_drew1)⟩
      · rw [if_neg h1] at h
        exact absurd h (by simp)
    · rw [if_neg h0] at h
      exact absurd h (by simp)
  · rw [if_neg c0] at h
    exact absurd h (by simp)

end Go.Proofs.YtihjlkdobdffjaaDoor.S
