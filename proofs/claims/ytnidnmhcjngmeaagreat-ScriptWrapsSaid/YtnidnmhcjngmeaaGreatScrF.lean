/-
  Two commands compared; the document's Parse and the program's, as contracts (printed by gen18.py).
  Conditions: none.
-/
import Derived.Test.YtnidnmhcjngmeaaGreatScr16
import Derived.Test.YtnidnmhcjngmeaaGreatPureScrC
import Derived.Test.YtnidnmhcjngmeaaGreatVaBin
import Derived.LaidEql
import Derived.Stop.Asserts
import Derived.RowKitTokens

set_option linter.unusedVariables false
set_option linter.unusedSimpArgs false
set_option autoImplicit false
namespace Go.Proofs.YtnidnmhcjngmeaaGreat.Scr
open Go.RowKit Go.Proofs.YtnidnmhcjngmeaaGreatW.PrintWords Go.Proofs.YtnidnmhcjngmeaaGreatW.PrintLast Go.Proofs.YtnidnmhcjngmeaaGreatW.PrintMore
open Go.Va (GOk SimP AV Out VRel Cells cx0 cells_cons cells_nil CT gt vg fieldsP fields_eq eqVal eq_sound)
/-! ### A row of plain values -/
theorem vals_inv {C : Go.Va.Cx} {m : Bool} (L : List Value) {c : Value} (h : VRel C m (.agg (L.map AV.val)) c) : c = .agg L.toArray := by
  cases h with
  | agg vs hl hr =>
    have : vs = L := by
      apply List.ext_getElem
      · simpa using hl
      · intro j h1 h2
        have hj := hr j
        have e1 : gt (L.map AV.val) j = AV.val L[j] := by
          have : ∀ (L : List Value) (j : Nat) (h : j < L.length), gt (L.map AV.val) j = AV.val (L[j]'h) := by
            intro L
            induction L with
            | nil => intro j h; cases h
            | cons a L ih =>
              intro j h
              cases j with
              | zero => rfl
              | succ j => exact ih j (by simpa using h)
          exact this L j h2
        rw [e1] at hj
        have := hj.inv_val
        have e2 : vg vs j = vs[j] := by
          show vs.getD j undef = _
          rw [List.getD_eq_getElem?_getD, List.getElem?_eq_getElem h1]; rfl
        rw [e2] at this
        exact this
    rw [this]
theorem cmd_inv {C : Go.Va.Cx} {m : Bool} (x : Cmd) {c : Value} (h : VRel C m (Va.T32.av x) c) : c = .agg (enc x) := vals_inv (enc x).toList h
theorem tup3 {C : Go.Va.Cx} {v : AV} {n m' : Int} {c : Value} (h : VRel C false (.tup [v, .val (.int .i64 n), .val (.int .i64 m')]) c) : ∃ u, c = .tuple #[u, .int .i64 n, .int .i64 m'] ∧ VRel C false v u := by
  cases h with
  | tup us hl hr =>
    rcases us with _ | ⟨c1, _ | ⟨c2, _ | ⟨c3, _ | ⟨c4, us⟩⟩⟩⟩
    · simp at hl
    · simp at hl
    · simp at hl
    · have e2 : c2 = .int .i64 n := (hr 1).inv_val
      have e3 : c3 = .int .i64 m' := (hr 2).inv_val
      subst e2 e3
      exact ⟨c1, rfl, hr 0⟩
    · simp at hl
theorem con_ref (line : ByteArray) (q : Cmd × Int × Int) (k : Nat) (h : Va.atlasref15_Parse.f k line = some q) (w : World) : Calls Tryz.prog 5 #[.string line] w fun e w' => e = .returned (.tuple #[.agg (enc q.1), .int .i64 q.2.1, .int .i64 q.2.2]) ∧ Fr (fun _ => False) w w' := by
  have hs := sim_of (Va.atlasref15_Parse.ok k) (args := [.val (.string line)]) (out := .ret (.tup [Va.T32.av q.1, .val (.int .i64 q.2.1), .val (.int .i64 q.2.2)])) (by
    show (Va.atlasref15_Parse.f k line).bind _ = _
    rw [h]; rfl)
  refine (hs w (fun _ => False) [.string line] (fun _ h => h.elim) (cells_cons (.val _) cells_nil)).mono fun e w' ⟨hf, c, he, hv⟩ => ?_
  obtain ⟨u, rfl, hu⟩ := tup3 hv
  exact ⟨by rw [he, cmd_inv _ hu], .of_below hf.b⟩
/-- script.Parse of any line. -/
theorem parse_line (line : ByteArray) (w : World) : Calls Tryz.prog 4 #[.string line] w fun e w' => ∃ v, e = .returned (.tuple #[.agg (enc (parseR SS line (fieldsP line)).1), v]) ∧ ErrP w' (parseR SS line (fieldsP line)).2 v ∧ Fr (fun _ => False) w w' := by
  by_cases h : line.size > 256
  · have e : parseR SS line (fieldsP line) = parseR SS line [] := by unfold parseR; rw [if_pos h, if_pos h]
    rw [e]
    exact parse_ok SS line [] 0 w (SS_ok [] (fun x hx => by cases hx)) (by decide) (fun h2 => absurd h2 (by omega))
  · obtain ⟨h1, _, h2, h3⟩ := fields_eq line (by omega) 1000 (by omega)
    exact parse_ok SS line (fieldsP line) 1000 w (SS_ok _ (fun x hx => by have := h3 x hx; omega)) (by omega) (fun _ => h1)
end Go.Proofs.YtnidnmhcjngmeaaGreat.Scr

/-
  errors.Is of no error and of a flaw, at an Errno (printed by genwr.py).
  Conditions: none.
-/
namespace Go.Proofs.YtnidnmhcjngmeaaGreat.Scr
open Go.RowKit Go.Extern.Stop Go.Stop Go.Extern Go.Proofs.YtnidnmhcjngmeaaGreatW.PrintWords Go.Proofs.YtnidnmhcjngmeaaGreatW.PrintLast Go.Proofs.YtnidnmhcjngmeaaGreatW.PrintMore
theorem isTypeOf (v : Value) (w : World) : (Extern.ReflectliteType.typeOf #[.iface 38 v]).run Tryz.prog w = .ok (.iface 75 (.agg #[.pointer (some ⟨3, 38, none⟩)])) w := by kernel_rfl
theorem callCmp (w : World) : (callFunc 94 #[.agg #[.pointer (some ⟨3, 38, none⟩)]]).run Tryz.prog w = .ok (.value (.bool true)) w := by kernel_rfl
theorem isMethodComparable (v : Value) (w : World) : (Go.method 282 75 v "Comparable").run Tryz.prog w = .ok (94, v) w := by kernel_rfl
theorem noIsF (v : Value) (xT : TypeId) (w : World) : (Instr.typeAssert (.iface 43 v) xT 77 true).run Tryz.prog w = .ok (.tuple #[.nilIface, .bool false]) w := run_typeAssert_lacksB Tryz.underlying77 (by kernel_rfl) (by kernel_rfl) v xT w
theorem hasUnwrapF (v : Value) (xT : TypeId) (w : World) : (Instr.typeAssert (.iface 43 v) xT 80 true).run Tryz.prog w = .ok (.tuple #[.iface 43 v, .bool true]) w := run_typeAssert_hasB Tryz.underlying80 (by kernel_rfl) v xT w
theorem noIsE (v : Value) (xT : TypeId) (w : World) : (Instr.typeAssert (.iface 38 v) xT 77 true).run Tryz.prog w = .ok (.tuple #[.nilIface, .bool false]) w := run_typeAssert_lacksB Tryz.underlying77 (by kernel_rfl) (by kernel_rfl) v xT w
theorem noUnwrapE (v : Value) (xT : TypeId) (w : World) : (Instr.typeAssert (.iface 38 v) xT 80 true).run Tryz.prog w = .ok (.tuple #[.nilIface, .bool false]) w := run_typeAssert_lacksB Tryz.underlying80 (by kernel_rfl) (by kernel_rfl) v xT w
theorem noUnwrapsE (v : Value) (xT : TypeId) (w : World) : (Instr.typeAssert (.iface 38 v) xT 82 true).run Tryz.prog w = .ok (.tuple #[.nilIface, .bool false]) w := run_typeAssert_lacksB Tryz.underlying82 (by kernel_rfl) (by kernel_rfl) v xT w
theorem methodUnwrap (v : Value) (w : World) : (Go.method 282 43 v "Unwrap").run Tryz.prog w = .ok (75, v) w := by kernel_rfl
theorem eql_errno (c n : Int) (w : World) : (binOp .eql 35 (.iface 38 (.int .i64 c)) (.iface 38 (.int .i64 n))).run Tryz.prog w = .ok (.bool (c == n)) w := by kernel_rfl
theorem is_nil (n : Int) (w : World) : Calls Tryz.prog 6 #[.nilIface, .iface 38 (.int .i64 n)] w fun e w' => e = .returned (.bool false) ∧ w' = w := by
  have hn := run_eql_iface_nil_left (P := Tryz.prog) w 38 (.int .i64 n) Tryz.underlying35
  go_enter Tryz.func6, Tryz.ntmps6
  go_wp2
  go_ret
  exact ⟨rfl, rfl⟩
set_option maxHeartbeats 4000000 in
theorem is_flaw (F : Nat) (c a n : Int) (w : World) (hF : w.heap[F]? = some (.cells #[.int .i64 c, .int .i64 a] 45 (0, 0))) :
    Calls Tryz.prog 6 #[.iface 43 (.pointer (some ⟨F, 0, none⟩)), .iface 38 (.int .i64 n)] w fun e w' => e = .returned (.bool (c == n)) ∧ w' = w := by
  have h8 := @run_callFunc_extern Tryz.prog 12 _ Extern.ReflectliteType.typeOf Tryz.func12 (by kernel_rfl) (by kernel_rfl) (by kernel_rfl) (by kernel_rfl)
  have h32 := callCmp
  have tT := isTypeOf
  have mR := isMethodComparable
  have nF := noIsF
  have uF := hasUnwrapF
  have nE := noIsE
  have uE := noUnwrapE
  have vE := noUnwrapsE
  have mU := methodUnwrap
  have heq := eql_errno c n
  have hty := run_eql_iface_types (P := Tryz.prog) 43 38 (.pointer (some ⟨F, 0, none⟩)) (.int .i64 n) Tryz.underlying35 (by decide) w
  have c0 : w.cell? ⟨F, 0, none⟩ = some (.int .i64 c) := blk_cell hF 0
  generalize hb : (c == n) = b at heq
  cases b
  · go_enter Tryz.func6, Tryz.ntmps6
    go_wp2
    refine wp_loop_rounds 2 ?_
    rw [rounds_succ]
    go_wp2
    rw [rounds_succ]
    go_wp2
    go_ret
    exact ⟨rfl, rfl⟩
  · go_enter Tryz.func6, Tryz.ntmps6
    go_wp2
    refine wp_loop_rounds 2 ?_
    rw [rounds_succ]
    go_wp2
    rw [rounds_succ]
    go_wp2
    go_ret
    exact ⟨rfl, rfl⟩
end Go.Proofs.YtnidnmhcjngmeaaGreat.Scr

/-
  The law: an error of Parse wraps just the number that the document tells.
  Conditions: none.
-/
namespace Go.Proofs.YtnidnmhcjngmeaaGreat.Scr
open Go.RowKit Go.Proofs.YtnidnmhcjngmeaaGreatW.PrintWords Go.Proofs.YtnidnmhcjngmeaaGreatW.PrintLast Go.Proofs.YtnidnmhcjngmeaaGreatW.PrintMore
open Go.Va (fieldsP)
attribute [local go_sem] max2_int min2_int max_two min_two max_three min_three max_four min_four
set_option maxRecDepth 100000 in
set_option maxHeartbeats 8000000 in
theorem wraps_ok (line : ByteArray) (w : World) :
    Calls Tryz.prog 3 #[.string line] w fun e w' => e = .returned (.bool true) ∧ Below w.heap.size w w' := by
  obtain ⟨q, hq, hm⟩ := ref_parse line 2000 (by omega)
  have hpl := parse_line line
  generalize parseR SS line (fieldsP line) = r at hm hpl
  obtain ⟨c, bad⟩ := r
  simp only at hpl hm
  rcases bad with _ | ⟨e1, a1⟩
  · have hm : q = (c, 0, -1) := hm
    subst hm
    go_enter Tryz.func3, Tryz.ntmps3
    go_wp2_with (first
      | (go_at_call 4; (with_reducible refine (hpl _).mono ?_); rintro e w1 ⟨v1, rfl, hv1, hf1⟩
         obtain rfl : v1 = .nilIface := hv1
         have hn1 := blk_new w1 (.cells (enc zc) 33 (0, 0)))
      | ((with_reducible refine gate_store (t := 33) (p := 3) rfl ?_); go_loud (refine store_cmd rfl (.tmp 3) (.tmp 12) w1.heap.size c zc rfl rfl rfl hn1 ?_); intro w2 hz2 hf2)
      | (go_at_call 5; (with_reducible refine (con_ref line _ 2000 hq _).mono ?_); rintro e w3 ⟨rfl, hf3⟩
         have hn3 := blk_new w3 (.cells (enc zc) 33 (0, 0)))
      | ((with_reducible refine gate_store (t := 33) (p := 5) rfl ?_); go_loud (refine store_cmd rfl (.tmp 5) (.tmp 17) w3.heap.size c zc rfl rfl rfl hn3 ?_); intro w4 hz4 hf4))
    go_loopg [8] 256 (fun kq v8 w' => ∃ i : Nat, v8 = .int .i64 (i : Int) ∧ Aside0 (i + kq = 257 ∧ 1 ≤ i ∧ i ≤ 256) ∧ w' = w4)
    case atStart => exact ⟨1, rfl, ⟨by omega⟩, rfl⟩
    case round =>
      obtain ⟨i, rfl, HI, rfl⟩ := hrel
      have hI := HI.out
      cases gk with
      | zero => omega
      | succ k1 =>
        by_cases hi : i < 256
        · have d1 : decide ((i : Int) < 256) = true := decide_eq_true (by omega)
          have d2 : (i : Int) < 256 := by omega
          have d3 : ((i : Int) == 0) = false := by rw [beq_eq_false_iff_ne]; omega
          go_wp2_with (first
            | (go_at_call 6; (with_reducible refine (is_nil (i : Int) _).mono ?_); rintro e w5 ⟨rfl, rfl⟩))
          go_roundg k1
          case measure => omega
          case rel => exact ⟨i + 1, rfl, ⟨by omega⟩, rfl⟩
        · have hi2 : i = 256 := by omega
          subst hi2
          go_wp2
          go_ret
          exact ⟨rfl, (((((hf1.alloc _).then hf2 (fun k hk e => by have := hf1.size; omega)).trans hf3).alloc _).then hf4 (fun k hk e => by have := hf1.size; have := hf2.size; have := hf3.size; simp at *; omega)).below (Nat.le_refl _) (fun _ h => h.elim)⟩
  · obtain ⟨hm, he1⟩ : q = (c, e1, a1) ∧ e1 ≠ 0 := hm
    subst hm
    go_enter Tryz.func3, Tryz.ntmps3
    go_wp2_with (first
      | (go_at_call 4; (with_reducible refine (hpl _).mono ?_); rintro e w1 ⟨v1, rfl, hv1, hf1⟩
         obtain ⟨F, rfl, hF1⟩ : ∃ F, v1 = .iface 43 (.pointer (some ⟨F, 0, none⟩)) ∧ w1.heap[F]? = some (.cells #[.int .i64 e1, .int .i64 a1] 45 (0, 0)) := hv1
         have lF := blk_lt hF1
         have hn1 := blk_new w1 (.cells (enc zc) 33 (0, 0)))
      | ((with_reducible refine gate_store (t := 33) (p := 3) rfl ?_); go_loud (refine store_cmd rfl (.tmp 3) (.tmp 12) w1.heap.size c zc rfl rfl rfl hn1 ?_); intro w2 hz2 hf2
         have hF2 := hf2.blk (blk_alloc hF1 (.cells (enc zc) 33 (0, 0))) (by omega))
      | (go_at_call 5; (with_reducible refine (con_ref line _ 2000 hq _).mono ?_); rintro e w3 ⟨rfl, hf3⟩
         have hF3 := hf3.blk hF2 (fun h => h)
         have lF3 := blk_lt hF3
         have hn3 := blk_new w3 (.cells (enc zc) 33 (0, 0)))
      | ((with_reducible refine gate_store (t := 33) (p := 5) rfl ?_); go_loud (refine store_cmd rfl (.tmp 5) (.tmp 17) w3.heap.size c zc rfl rfl rfl hn3 ?_); intro w4 hz4 hf4
         have hF4 := hf4.blk (blk_alloc hF3 (.cells (enc zc) 33 (0, 0))) (by omega)
         have hf04 := ((((hf1.alloc _).then hf2 (fun k hk e => by have := hf1.size; omega)).trans hf3).alloc _).then hf4 (fun k hk e => by have := hf1.size; have := hf2.size; have := hf3.size; simp at *; omega)))
    have HF4 := Aside0.mk hF4
    have HFR := Aside0.mk hf04
    clear hF4 hf04 hf4 hz4 hf3 hf2 hz2 hf1 hF1 hF2 hF3 hn1 hn3
    go_loopg [8] 256 (fun kq v8 w' => ∃ i : Nat, v8 = .int .i64 (i : Int) ∧ Aside0 (i + kq = 257 ∧ 1 ≤ i ∧ i ≤ 256) ∧ w' = w4)
    case atStart => exact ⟨1, rfl, ⟨by omega⟩, rfl⟩
    case round =>
      obtain ⟨i, rfl, HI, rfl⟩ := hrel
      have hI := HI.out
      cases gk with
      | zero => omega
      | succ k1 =>
        by_cases hi : i < 256
        · have d1 : decide ((i : Int) < 256) = true := decide_eq_true (by omega)
          have d2 : (i : Int) < 256 := by omega
          have hsw : ((i : Int) == e1) = (e1 == (i : Int)) := Bool.beq_comm
          generalize hb : (e1 == (i : Int)) = b at hsw
          cases b
          · go_wp2_with (first
              | (go_at_call 6; (with_reducible refine (is_flaw F e1 a1 (i : Int) _ HF4.out).mono ?_); rintro e w5 ⟨rfl, rfl⟩))
            go_roundg k1
            case measure => omega
            case rel => exact ⟨i + 1, rfl, ⟨by omega⟩, rfl⟩
          · go_wp2_with (first
              | (go_at_call 6; (with_reducible refine (is_flaw F e1 a1 (i : Int) _ HF4.out).mono ?_); rintro e w5 ⟨rfl, rfl⟩))
            go_roundg k1
            case measure => omega
            case rel => exact ⟨i + 1, rfl, ⟨by omega⟩, rfl⟩
        · have hi2 : i = 256 := by omega
          subst hi2
          go_wp2
          go_ret
          exact ⟨rfl, HFR.out.below (Nat.le_refl _) (fun _ h => h.elim)⟩
end Go.Proofs.YtnidnmhcjngmeaaGreat.Scr
