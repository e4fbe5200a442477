/-
  Two commands compared; the document's Parse and the program's, as contracts (printed by gen18.py).
  Conditions: none.
-/
import Derived.Test.YtnidnmhcjngmeaaGreatDoorScrE
import Derived.Test.YtnidnmhcjngmeaaGreatDoorPureScrC
import Derived.Test.YtnidnmhcjngmeaaGreatDoorVaBin

set_option linter.unusedVariables false
set_option linter.unusedSimpArgs false
set_option autoImplicit false
namespace Go.Proofs.YtnidnmhcjngmeaaGreatDoor.Scr
open Go.RowKit Go.Proofs.YtnidnmhcjngmeaaGreatDoorW.PrintWords Go.Proofs.YtnidnmhcjngmeaaGreatDoorW.PrintLast Go.Proofs.YtnidnmhcjngmeaaGreatDoorW.PrintMore
open Go.Va (GOk SimP AV Out VRel Cells cx0 cells_cons cells_nil CT gt vg fieldsP fields_eq eqVal eq_sound)
/-- Are two commands the same, field by field? -/
def eqC (c d : Cmd) : Bool := ((c.f0 == d.f0) && (((c.f1 == d.f1) && ((c.f2 == d.f2) && ((c.f3 == d.f3) && ((c.f4 == d.f4) && ((c.f5 == d.f5) && ((c.f6 == d.f6) && true)))))) && (((c.f7 == d.f7) && ((c.f8 == d.f8) && ((c.f9 == d.f9) && ((c.f10 == d.f10) && ((c.f11 == d.f11) && ((c.f12 == d.f12) && ((c.f13 == d.f13) && true))))))) && ((c.f14.toList == d.f14.toList) && ((c.f15.toList == d.f15.toList) && ((c.f16 == d.f16) && ((c.f17 == d.f17) && ((c.f18 == d.f18) && ((c.f19 == d.f19) && ((c.f20 == d.f20) && (((c.f21 == d.f21) && ((c.f22 == d.f22) && ((c.f23 == d.f23) && true))) && ((c.f24 == d.f24) && ((c.f25 == d.f25) && ((c.f26 == d.f26) && ((c.f27 == d.f27) && (((c.f28 == d.f28) && ((c.f29 == d.f29) && ((c.f30 == d.f30) && ((c.f31 == d.f31) && true)))) && true))))))))))))))))
theorem eqC_val (c d : Cmd) : eqVal Tryz.prog Op.maxDepth 33 (.agg (enc c)) (.agg (enc d)) = some (eqC c d) := by kernel_rfl
theorem eqC_self (c : Cmd) : eqC c c = true := by simp [eqC]
theorem eq_run (op : BinOp) (hop : op = .eql ∨ op = .neq) (xo yo : Operand) (c d : Cmd) (w : World) : (do eqGuard op 33 xo yo (.agg (enc c)) (.agg (enc d)); binOp op 33 (.agg (enc c)) (.agg (enc d)) : Sem Value).run Tryz.prog w = .ok (.bool (if op = .eql then eqC c d else !eqC c d)) w := by
  have hq : (Op.equal 33 (.agg (enc c)) (.agg (enc d))).run Tryz.prog w = .ok (eqC c d) w := (eq_sound Tryz.prog w _).1 33 _ _ _ _ (Nat.le_refl _) (eqC_val c d)
  have hg := Go.Va.run_eqGuard_agg (P := Tryz.prog) op 33 xo yo (enc c) (enc d) (by kernel_rfl) w
  rcases hop with rfl | rfl
  · simp only [Sem.run_bind, hg, Result.andThen_ok, binOp, hq, Sem.run_pure, if_true]
  · simp only [Sem.run_bind, hg, Result.andThen_ok, binOp, hq, Sem.run_pure, reduceCtorEq, if_false]
/-- In a plain region: two commands are compared. -/
theorem eql_cmd {ops : Array Oper} {o : Oper} {a : Act} {rest : List Oper} {Q : Exit → Act → World → Prop} {w : World} (hgd : o.guard = none) (op : BinOp) (hop : op = .eql ∨ op = .neq) (x y : Operand) (rt : TypeId) (c d : Cmd)
    (ho : o.op = .binOp op 33 x y rt) (hx : a.eval x = .agg (enc c)) (hy : a.eval y = .agg (enc d))
    (h : wpList Tryz.prog ops Q rest (a.put o.dst (.bool (if op = .eql then eqC c d else !eqC c d))) w) : wpList Tryz.prog ops Q (o :: rest) a w :=
  wpList_plain hgd fun _ hK => by
    have e := eq_run op hop x y c d w
    unfold Oper.wp execOp
    simp only [ho, hx, hy]
    have e2 := e
    simp only [Sem.run_bind] at e2 ⊢
    rw [e2]
    exact hK _ _ h
/-! ### A row of plain values -/
theorem vals_inv {C : Go.Va.Cx} {m : Bool} (L : List Value) {c : Value} (h : VRel C m (.agg (L.map AV.val)) c) : c = .agg L.toArray := by
  cases h with
  | agg vs hl hr =>
    have : vs = L := by
      apply List.ext_getElem
      · simpa using hl
      · intro j h1 h2
        have hj := hr j
        have e1 : gt (L.map AV.val) j = AV.val L[j] := by
          have : ∀ (L : List Value) (j : Nat) (h : j < L.length), gt (L.map AV.val) j = AV.val (L[j]'h) := by
            intro L
            induction L with
            | nil => intro j h; cases h
            | cons a L ih =>
              intro j h
              cases j with
              | zero => rfl
              | succ j => exact ih j (by simpa using h)
          exact this L j h2
        rw [e1] at hj
        have := hj.inv_val
        have e2 : vg vs j = vs[j] := by
          show vs.getD j undef = _
          rw [List.getD_eq_getElem?_getD, List.getElem?_eq_getElem h1]; rfl
        rw [e2] at this
        exact this
    rw [this]
theorem cmd_inv {C : Go.Va.Cx} {m : Bool} (x : Cmd) {c : Value} (h : VRel C m (Va.T32.av x) c) : c = .agg (enc x) := vals_inv (enc x).toList h
theorem tup3 {C : Go.Va.Cx} {v : AV} {n m' : Int} {c : Value} (h : VRel C false (.tup [v, .val (.int .i64 n), .val (.int .i64 m')]) c) : ∃ u, c = .tuple #[u, .int .i64 n, .int .i64 m'] ∧ VRel C false v u := by
  cases h with
  | tup us hl hr =>
    rcases us with _ | ⟨c1, _ | ⟨c2, _ | ⟨c3, _ | ⟨c4, us⟩⟩⟩⟩
    · simp at hl
    · simp at hl
    · simp at hl
    · have e2 : c2 = .int .i64 n := (hr 1).inv_val
      have e3 : c3 = .int .i64 m' := (hr 2).inv_val
      subst e2 e3
      exact ⟨c1, rfl, hr 0⟩
    · simp at hl
theorem con_ref (line : ByteArray) (q : Cmd × Int × Int) (k : Nat) (h : Va.atlasref15_Parse.f k line = some q) (w : World) : Calls Tryz.prog 6 #[.string line] w fun e w' => e = .returned (.tuple #[.agg (enc q.1), .int .i64 q.2.1, .int .i64 q.2.2]) ∧ Fr (fun _ => False) w w' := by
  have hs := sim_of (Va.atlasref15_Parse.ok k) (args := [.val (.string line)]) (out := .ret (.tup [Va.T32.av q.1, .val (.int .i64 q.2.1), .val (.int .i64 q.2.2)])) (by
    show (Va.atlasref15_Parse.f k line).bind _ = _
    rw [h]; rfl)
  refine (hs w (fun _ => False) [.string line] (fun _ h => h.elim) (cells_cons (.val _) cells_nil)).mono fun e w' ⟨hf, c, he, hv⟩ => ?_
  obtain ⟨u, rfl, hu⟩ := tup3 hv
  exact ⟨by rw [he, cmd_inv _ hu], .of_below hf.b⟩
/-- script.Parse of any line. -/
theorem parse_line (line : ByteArray) (w : World) : Calls Tryz.prog 5 #[.string line] w fun e w' => ∃ v, e = .returned (.tuple #[.agg (enc (parseR SS line (fieldsP line)).1), v]) ∧ ErrP w' (parseR SS line (fieldsP line)).2 v ∧ Fr (fun _ => False) w w' := by
  by_cases h : line.size > 256
  · have e : parseR SS line (fieldsP line) = parseR SS line [] := by unfold parseR; rw [if_pos h, if_pos h]
    rw [e]
    exact parse_ok SS line [] 0 w (SS_ok [] (fun x hx => by cases hx)) (by decide) (fun h2 => absurd h2 (by omega))
  · obtain ⟨h1, _, h2, h3⟩ := fields_eq line (by omega) 1000 (by omega)
    exact parse_ok SS line (fieldsP line) 1000 w (SS_ok _ (fun x hx => by have := h3 x hx; omega)) (by omega) (fun _ => h1)
end Go.Proofs.YtnidnmhcjngmeaaGreatDoor.Scr

/-
  The law: the command of any line; or the error's number, and its word.
  Conditions: the variable errors.errorType holds the handle of the type error.
-/
namespace Go.Proofs.YtnidnmhcjngmeaaGreatDoor.Scr
open Go.RowKit Go.Proofs.YtnidnmhcjngmeaaGreatDoorW.PrintWords Go.Proofs.YtnidnmhcjngmeaaGreatDoorW.PrintLast Go.Proofs.YtnidnmhcjngmeaaGreatDoorW.PrintMore
open Go.Va (fieldsP)
attribute [local go_sem] max2_int min2_int max_two min_two max_three min_three max_four min_four
theorem fr_cell {A : Nat → Prop} {w w' : World} (h : Fr A w w') {a : Addr} {v : Value} (hg : w.cell? a = some v) (hA : ¬ A a.block) : w'.cell? a = some v := by
  have := h.block a.block (World.block_lt_of_cell? w a hg) hA
  simpa [World.cell?, this] using hg
set_option maxRecDepth 100000 in
set_option maxHeartbeats 8000000 in
theorem law_ok (line : ByteArray) (w : World) (hg : w.cell? ⟨0, 0, none⟩ = some (.iface 134 (.agg #[.pointer (some ⟨5, 35, none⟩)]))) :
    Calls Tryz.prog 3 #[.string line] w fun e w' => e = .returned (.bool true) ∧ Below w.heap.size w w' := by
  have h0 : 0 < w.heap.size := World.block_lt_of_cell? w ⟨0, 0, none⟩ hg
  obtain ⟨q, hq, hm⟩ := ref_parse line 2000 (by omega)
  have hpl := parse_line line
  generalize parseR SS line (fieldsP line) = r at hm hpl
  obtain ⟨c, bad⟩ := r
  simp only at hpl hm
  rcases bad with _ | ⟨e1, a1⟩
  · have hm : q = (c, 0, -1) := hm
    subst hm
    go_enter Tryz.func3, Tryz.ntmps3
    go_wp2_with (first
      | (go_at_call 5; (with_reducible refine (hpl _).mono ?_); rintro e w1 ⟨v1, rfl, hv1, hf1⟩
         obtain rfl : v1 = .nilIface := hv1
         have hn1 := blk_new w1 (.cells (enc zc) 33 (0, 0)))
      | ((with_reducible refine gate_store (t := 33) (p := 3) rfl ?_); go_loud (refine store_cmd rfl (.tmp 3) (.tmp 13) w1.heap.size c zc rfl rfl rfl hn1 ?_); intro w2 hz2 hf2
         have l2 := blk_lt hz2)
      | (go_at_call 6; (with_reducible refine (con_ref line _ 2000 hq _).mono ?_); rintro e w3 ⟨rfl, hf3⟩
         have hz3 := hf3.blk hz2 (fun h => h)
         have l3 := blk_lt hz3
         have hn3 := blk_new w3 (.cells (enc zc) 33 (0, 0)))
      | ((with_reducible refine gate_store (t := 33) (p := 5) rfl ?_); go_loud (refine store_cmd rfl (.tmp 5) (.tmp 18) w3.heap.size c zc rfl rfl rfl hn3 ?_); intro w4 hz4 hf4
         have hy4 := hf4.blk (blk_alloc hz3 (.cells (enc zc) 33 (0, 0))) (by omega))
      | (go_at_call 7; (with_reducible refine (code_nil _).mono ?_); rintro e w5 ⟨rfl, rfl⟩)
      | ((with_reducible refine gate_dst (N := 26) rfl ?_); go_loud (refine load_cmd rfl (.tmp 3) w1.heap.size c rfl rfl hy4 ?_))
      | ((with_reducible refine gate_dst (N := 27) rfl ?_); go_loud (refine load_cmd rfl (.tmp 5) w3.heap.size c rfl rfl hz4 ?_))
      | ((with_reducible refine gate_dst (N := 28) rfl ?_); go_loud (refine eql_cmd rfl .eql (.inl rfl) (.tmp 26) (.tmp 27) 33 c c rfl rfl rfl ?_); rw [if_pos rfl, eqC_self]))
    go_ret
    exact ⟨rfl, (((((hf1.alloc _).then hf2 (fun k hk e => by have := hf1.size; omega)).trans hf3).alloc _).then hf4 (fun k hk e => by have := hf1.size; have := hf2.size; have := hf3.size; simp at *; omega)).below (Nat.le_refl _) (fun _ h => h.elim)⟩
  · obtain ⟨hm, he1⟩ : q = (c, e1, a1) ∧ e1 ≠ 0 := hm
    subst hm
    have q0 : (e1 == 0) = false := by rw [beq_eq_false_iff_ne]; exact he1
    go_enter Tryz.func3, Tryz.ntmps3
    go_wp2_with (first
      | (go_at_call 5; (with_reducible refine (hpl _).mono ?_); rintro e w1 ⟨v1, rfl, hv1, hf1⟩
         obtain ⟨F, rfl, hF1⟩ : ∃ F, v1 = .iface 49 (.pointer (some ⟨F, 0, none⟩)) ∧ w1.heap[F]? = some (.cells #[.int .i64 e1, .int .i64 a1] 51 (0, 0)) := hv1
         have lF := blk_lt hF1
         have hn1 := blk_new w1 (.cells (enc zc) 33 (0, 0)))
      | ((with_reducible refine gate_store (t := 33) (p := 3) rfl ?_); go_loud (refine store_cmd rfl (.tmp 3) (.tmp 13) w1.heap.size c zc rfl rfl rfl hn1 ?_); intro w2 hz2 hf2
         have hF2 := hf2.blk (blk_alloc hF1 (.cells (enc zc) 33 (0, 0))) (by omega)
         have l2 := blk_lt hz2)
      | (go_at_call 6; (with_reducible refine (con_ref line _ 2000 hq _).mono ?_); rintro e w3 ⟨rfl, hf3⟩
         have hz3 := hf3.blk hz2 (fun h => h)
         have hF3 := hf3.blk hF2 (fun h => h)
         have lF3 := blk_lt hF3
         have l3 := blk_lt hz3
         have hn3 := blk_new w3 (.cells (enc zc) 33 (0, 0)))
      | ((with_reducible refine gate_store (t := 33) (p := 5) rfl ?_); go_loud (refine store_cmd rfl (.tmp 5) (.tmp 18) w3.heap.size c zc rfl rfl rfl hn3 ?_); intro w4 hz4 hf4
         have hy4 := hf4.blk (blk_alloc hz3 (.cells (enc zc) 33 (0, 0))) (by omega)
         have hF4 := hf4.blk (blk_alloc hF3 (.cells (enc zc) 33 (0, 0))) (by omega)
         have hf04 := ((((hf1.alloc _).then hf2 (fun k hk e => by have := hf1.size; omega)).trans hf3).alloc _).then hf4 (fun k hk e => by have := hf1.size; have := hf2.size; have := hf3.size; simp at *; omega)
         have hg4 := fr_cell hf04 hg (fun h => h)
         have g40 : w4.cell? ⟨F, 0, none⟩ = some (.int .i64 e1) := blk_cell hF4 0
         have g41 : w4.cell? ⟨F, 1, none⟩ = some (.int .i64 a1) := blk_cell hF4 1)
      | (go_at_call 7; (with_reducible refine (code_flaw F e1 a1 _ hg4 g40 g41).mono ?_); rintro e w5 ⟨rfl, hf5⟩
         have hy5 := (Fr.of_below (A := fun _ => False) hf5).blk hy4 (fun h => h)
         have hz5 := (Fr.of_below (A := fun _ => False) hf5).blk hz4 (fun h => h))
      | ((with_reducible refine gate_dst (N := 26) rfl ?_); go_loud (refine load_cmd rfl (.tmp 3) w1.heap.size c rfl rfl hy5 ?_))
      | ((with_reducible refine gate_dst (N := 27) rfl ?_); go_loud (refine load_cmd rfl (.tmp 5) w3.heap.size c rfl rfl hz5 ?_))
      | ((with_reducible refine gate_dst (N := 28) rfl ?_); go_loud (refine eql_cmd rfl .eql (.inl rfl) (.tmp 26) (.tmp 27) 33 c c rfl rfl rfl ?_); rw [if_pos rfl, eqC_self]))
    go_ret
    exact ⟨rfl, (hf04.trans (Fr.of_below hf5)).below (Nat.le_refl _) (fun _ h => h.elim)⟩
end Go.Proofs.YtnidnmhcjngmeaaGreatDoor.Scr
