/-
  script.Parse of the word 'fly', and the law.
  Conditions: the variable errors.errorType holds the handle of the type error.
-/
import Derived.Test.YtnidnmhcjngmeaaDoorCode2
namespace Go.Proofs.YtnidnmhcjngmeaaDoor.Code
open Go.RowKit Go.Extern.Stop Go.Stop Go.Extern Go.Proofs.YtnidnmhcjngmeaaDoor.S Go.Proofs.YtnidnmhcjngmeaaDoorW.PrintWords Go.Proofs.YtnidnmhcjngmeaaDoorW.PrintLast Go.Proofs.YtnidnmhcjngmeaaDoorW.PrintMore
set_option linter.unusedVariables false
set_option linter.unusedSimpArgs false
attribute [local go_sem] max2_int min2_int max_two min_two max_three min_three max_four min_four
theorem fly_f : words_Fields.f 8 ⟨#[102, 108, 121]⟩ = some [⟨#[102, 108, 121]⟩] := by kernel_rfl
theorem fields_fly (w : World) : Calls Tryd.prog 8 #[.string ⟨#[102, 108, 121]⟩] w fun e w' => ∃ g c, e = .returned (.slice (some ⟨g, 0, none⟩) 1 c) ∧ w'.cell? ⟨g, 0, none⟩ = some (.string ⟨#[102, 108, 121]⟩) ∧ Below w.heap.size w w' := by
  refine (words_Fields.calls 8 _ _ w fly_f).mono fun e w' ⟨v, he, hr, hb⟩ => ?_
  obtain ⟨A, c, e1, _, hC⟩ := Kd.R_reads hr
  obtain ⟨inner, _, ho⟩ := Kd.R_own hr
  subst e1
  obtain ⟨ad, e2, hx⟩ := Kd.at_string hC 0 (by omega) (by decide)
  subst e2
  rcases ho with ⟨e1, e2⟩ | ⟨g, cap, cur, e1, _⟩
  · cases e2
  · obtain ⟨e3, -, -⟩ := Value.slice.inj e1
    have e3 := Option.some.inj e3
    subst e3
    have hx2 : w'.cell? ((⟨g, 0, none⟩ : Addr).add 0) = some (.string ⟨#[102, 108, 121]⟩) := by simpa [rdOf] using hx
    exact ⟨g, c, he, hx2, hb⟩
theorem put_below {w0 W : World} {b : Nat} (hb : w0.heap.size ≤ b) (h : Below w0.heap.size w0 W) (l : List Value) : Below w0.heap.size w0 (W.setCells b 0 l) := by
  obtain ⟨s1, s2, s3, s4⟩ := setCells_same b l 0 W
  refine ⟨s1.trans h.os, s2.trans h.tape, s3.trans h.output, by rw [s4]; exact h.size, fun k hk => ?_⟩
  rw [setCells_far _ _ k (by omega)]
  exact h.block k hk
theorem fresh_below (w : World) : Below w.heap.size w ((w.alloc (.cells Z32 39)).setCells w.heap.size 0 Z32.toList) := put_below (Nat.le_refl _) (below_alloc (Below.refl _ _) _) _
/-- A whole command of nothing, stored into the block that was just made. -/
theorem store_fresh {P : Program} {ops : Array Oper} {o : Oper} {a : Act} {rest : List Oper} {Q : Exit → Act → World → Prop} {w : World} (hi : (P.info? 39).map (·.size) = some Z32.size) (hgd : o.guard = none) (x y : Operand)
    (ho : o.op = .store 39 x y) (hx : a.eval x = .pointer (some ⟨w.heap.size, 0, none⟩)) (hy : a.eval y = .agg Z32) (h : ∀ w3, Below w.heap.size w w3 → wpList P ops Q rest (a.put o.dst undef) w3) : wpList P ops Q (o :: rest) a (w.alloc (.cells Z32 39)) :=
  wpList_store_mid hgd 39 x y ho w.heap.size 0 Z32 hx hy (there_block (blk_new w (.cells Z32 39 (0, 0)))) hi Z32_one (h _ (fresh_below w))
/-- The same, into a block that holds one. -/
theorem store_old {P : Program} {ops : Array Oper} {o : Oper} {a : Act} {rest : List Oper} {Q : Exit → Act → World → Prop} {w : World} (hi : (P.info? 39).map (·.size) = some Z32.size) (hgd : o.guard = none) (x y : Operand) (b : Nat) (w0 : World)
    (ho : o.op = .store 39 x y) (hx : a.eval x = .pointer (some ⟨b, 0, none⟩)) (hy : a.eval y = .agg Z32) (hb : w.heap[b]? = some (.cells Z32 39 (0, 0))) (h0 : w0.heap.size ≤ b) (hw : Below w0.heap.size w0 w)
    (h : ∀ w3, Below w0.heap.size w0 w3 → w3.rangeAt b 0 Z32.toList → (∀ k, k ≠ b → w3.heap[k]? = w.heap[k]?) → wpList P ops Q rest (a.put o.dst undef) w3) : wpList P ops Q (o :: rest) a w :=
  wpList_store_mid hgd 39 x y ho b 0 Z32 hx hy (there_block hb) hi Z32_one (h _ (put_below h0 hw _) (World.rangeAt_setCells_same w b 0 Z32.toList (by simpa using there_block hb)) (fun k hk => setCells_far _ _ k hk))
theorem info39 : (Tryd.prog.info? 39).map (·.size) = some Z32.size := by kernel_rfl
set_option maxHeartbeats 1000000 in
set_option maxRecDepth 100000 in
theorem parse_fly (w : World) :
    Calls Tryd.prog 6 #[.string ⟨#[102, 108, 121]⟩] w fun e w' => ∃ F, e = .returned (.tuple #[.agg Z32, .iface 43 (.pointer (some ⟨F, 0, none⟩))]) ∧ w'.cell? ⟨F, 0, none⟩ = some (.int .i64 151) ∧ w'.cell? ⟨F, 1, none⟩ = some (.int .i64 0) ∧ Below w.heap.size w w' := by
  have hz0 := blk_new w (.cells Z32 39 (0, 0))
  go_enter Tryd.func6, Tryd.ntmps6
  go_wp2_with (first
    | (go_at_call 8; refine (fields_fly _).mono ?_; rintro e w1 ⟨g, c, rfl, hl, hb1⟩)
    | (go_at_call 9; refine (parsed_fly g c _ hl).mono ?_; rintro e w2 ⟨F, rfl, hF0, hF1, hb2⟩)
    | ((with_reducible refine gate_store (t := 39) (p := 5) rfl ?_); go_loud (refine store_fresh info39 rfl (.tmp 5) (.tmp 23) rfl rfl rfl ?_); intro w3 hb3
       have l0 : w.heap.size < w1.heap.size := (by have := hb1.size; simp at this; omega)
       have hk : w3.heap[w.heap.size]? = some (.cells Z32 39 (0, 0)) := (hb3.block _ (Nat.lt_of_lt_of_le l0 hb2.size)).trans ((hb2.block _ l0).trans ((hb1.block _ (by simp)).trans hz0))
       have hB3 : Below w.heap.size w w3 := below_step (below_step (below_step (below_alloc (Below.refl _ _) _) hb1) hb2) hb3
       have lF : F < w2.heap.size := World.block_lt_of_cell? w2 ⟨F, 0, none⟩ hF0
       have hG0 : w3.cell? ⟨F, 0, none⟩ = some (.int .i64 151) := (by simpa [World.cell?, hb3.block F lF] using hF0)
       have hG1 : w3.cell? ⟨F, 1, none⟩ = some (.int .i64 0) := (by simpa [World.cell?, hb3.block F lF] using hF1)
       have hFw : F ≠ w.heap.size := (fun e => by rw [e] at hG0; simp [World.cell?, hk, Z32] at hG0))
    | ((with_reducible refine gate_store (t := 39) (p := 2) rfl ?_); go_loud (refine store_old info39 rfl (.tmp 2) (.tmp 27) w.heap.size w rfl rfl rfl hk (Nat.le_refl _) hB3 ?_); intro w4 hb4 hr4 hk4))
  try simp only [Exit.inBlock, Exit.then]
  refine bodyPost_ret (v := .tuple #[.agg Z32, .iface 43 (.pointer (some ⟨F, 0, none⟩))]) ?_ rfl ⟨F, rfl, by simpa [World.cell?, hk4 F hFw] using hG0, by simpa [World.cell?, hk4 F hFw] using hG1, hb4⟩
  rw [results_cell_tmp rfl]
  have hl := run_loadVar_mid (P := Tryd.prog) w4 w.heap.size 0 39 Z32.toList _ hr4 Tryd.underlying39 rfl (by kernel_rfl)
  show ((loadVar 39 ⟨w.heap.size, 0, none⟩).run Tryd.prog w4).andThen _ = _
  rw [hl]
  rfl

theorem errNew (s : ByteArray) (w : World) : Calls Tryd.prog 5 #[.string s] w fun e w' => e = .returned (.iface 48 (.pointer (some ⟨w.heap.size, 0, none⟩))) ∧ w' = w.alloc (.cells #[.string s] 50) := by
  go_enter Tryd.func5, Tryd.ntmps5
  go_wp2
  go_ret
  exact ⟨rfl, rfl⟩
set_option maxHeartbeats 2000000 in
set_option maxRecDepth 100000 in
theorem law (s : ByteArray) (w : World) (hg : w.cell? ⟨0, 0, none⟩ = some (.iface 79 (.agg #[.pointer (some ⟨4, 26, none⟩)]))) :
    Calls Tryd.prog 3 #[.string s] w fun e w' => e = .returned (.bool true) ∧ Below w.heap.size w w' := by
  have h0 : 0 < w.heap.size := World.block_lt_of_cell? w ⟨0, 0, none⟩ hg
  have hgB : ∀ W : World, Below w.heap.size w W → W.cell? ⟨0, 0, none⟩ = some (.iface 79 (.agg #[.pointer (some ⟨4, 26, none⟩)])) := fun W hb => by simpa [World.cell?, hb.block 0 h0] using hg
  go_enter Tryd.func3, Tryd.ntmps3
  go_wp2_with (first
    | (go_at_call 4; with_reducible refine (code_nil _).mono ?_; rintro e w1 ⟨rfl, rfl⟩)
    | (go_at_call 5; with_reducible refine (errNew s _).mono ?_; rintro e w2 ⟨rfl, rfl⟩)
    | (go_at_call 4; with_reducible refine (code_other _ _ (hgB _ (below_alloc (Below.refl _ _) _))).mono ?_; rintro e w3 ⟨rfl, hb3⟩)
    | (go_at_call 6; with_reducible refine (parse_fly _).mono ?_; rintro e w4 ⟨F, rfl, hF0, hF1, hb4⟩)
    | ((with_reducible refine gate_store (t := 39) (p := 7) rfl ?_); go_loud (refine store_fresh info39 rfl (.tmp 7) (.tmp 23) rfl rfl rfl ?_); intro w5 hb5
       have hB5 := below_step (below_step (below_step (below_alloc (Below.refl _ _) _) hb3) hb4) hb5
       have lF : F < w4.heap.size := World.block_lt_of_cell? w4 ⟨F, 0, none⟩ hF0
       have hG0 : w5.cell? ⟨F, 0, none⟩ = some (.int .i64 151) := (by simpa [World.cell?, hb5.block F lF] using hF0)
       have hG1 : w5.cell? ⟨F, 1, none⟩ = some (.int .i64 0) := (by simpa [World.cell?, hb5.block F lF] using hF1))
    | (go_at_call 4; with_reducible refine (code_flaw F 151 0 _ (hgB _ hB5) hG0 hG1).mono ?_; rintro e w6 ⟨rfl, hb6⟩))

  go_ret
  exact ⟨rfl, below_step hB5 hb6⟩
end Go.Proofs.YtnidnmhcjngmeaaDoor.Code
