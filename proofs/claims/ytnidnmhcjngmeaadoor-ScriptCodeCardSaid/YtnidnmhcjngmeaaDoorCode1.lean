/-
  script.Code of no error, of an error of another package, and of a flaw.
  Conditions: the variable errors.errorType holds the handle of the type error.
-/
import Derived.Test.YtnidnmhcjngmeaaDoorCodeAs
import Derived.Test.YtnidnmhcjngmeaaDoorS1
namespace Go.Proofs.YtnidnmhcjngmeaaDoor.Code
open Go.RowKit Go.Extern.Stop Go.Stop Go.Extern Go.Proofs.YtnidnmhcjngmeaaDoor.S Go.Proofs.YtnidnmhcjngmeaaDoorW.PrintWords Go.Proofs.YtnidnmhcjngmeaaDoorW.PrintLast Go.Proofs.YtnidnmhcjngmeaaDoorW.PrintMore
set_option linter.unusedVariables false
set_option linter.unusedSimpArgs false

theorem As.typeOf48 (v : Value) (w : World) : (ReflectliteType.typeOf #[.iface 48 v]).run Tryd.prog w = .ok (.iface 79 (.agg #[.pointer (some ⟨4, 48, none⟩)])) w := by kernel_rfl
theorem As.assignable48 (w : World) : (ReflectliteType.relation "AssignableTo" ReflectliteType.assignableTo #[.agg #[.pointer (some ⟨4, 48, none⟩)], .iface 79 (.agg #[.pointer (some ⟨4, 43, none⟩)])]).run Tryd.prog w = .ok (.bool false) w := by kernel_rfl

theorem no84 (v : Value) (xT : TypeId) (w : World) : (Instr.typeAssert (.iface 48 v) xT 84 true).run Tryd.prog w = .ok (.tuple #[.nilIface, .bool false]) w := run_typeAssert_lacksB Tryd.underlying84 (by kernel_rfl) (by kernel_rfl) v xT w
theorem no87 (v : Value) (xT : TypeId) (w : World) : (Instr.typeAssert (.iface 48 v) xT 87 true).run Tryd.prog w = .ok (.tuple #[.nilIface, .bool false]) w := run_typeAssert_lacksB Tryd.underlying87 (by kernel_rfl) (by kernel_rfl) v xT w
theorem no89 (v : Value) (xT : TypeId) (w : World) : (Instr.typeAssert (.iface 48 v) xT 89 true).run Tryd.prog w = .ok (.tuple #[.nilIface, .bool false]) w := run_typeAssert_lacksB Tryd.underlying89 (by kernel_rfl) (by kernel_rfl) v xT w
set_option maxHeartbeats 8000000 in
set_option maxRecDepth 100000 in
theorem as_miss (e t : Addr) (old : Value) (w : World) (hg : w.cell? ⟨0, 0, none⟩ = some (.iface 79 (.agg #[.pointer (some ⟨4, 26, none⟩)]))) (ht0 : w.cell? t = some old) :
    Calls Tryd.prog 7 #[.iface 48 (.pointer (some e)), .iface 45 (.pointer (some t))] w fun ev w' => ev = .returned (.bool false) ∧ Below w.heap.size w w' := by
  have h6 := @run_callFunc_extern Tryd.prog 10 _ (fun args => ReflectliteValue.unpack (args.getD 0 (.tuple #[]))) Tryd.func10 (by kernel_rfl) (by kernel_rfl) (by kernel_rfl) (by kernel_rfl)
  have h7 := @run_callFunc_extern Tryd.prog 11 _ (ReflectliteValue.methodAny (ReflectliteValue.valueError "reflectlite.Value.Type" 0) (fun t _ _ _ => ReflectliteType.toType t)) Tryd.func11 (by kernel_rfl) (by kernel_rfl) (by kernel_rfl) (by kernel_rfl)
  have h8 := @run_callFunc_extern Tryd.prog 12 _ (ReflectliteValue.method (ReflectliteValue.valueError "reflectlite.Value.IsNil" 0) ReflectliteValue.isNil) Tryd.func12 (by kernel_rfl) (by kernel_rfl) (by kernel_rfl) (by kernel_rfl)
  have h27 := @run_callFunc_extern Tryd.prog 56 _ (ReflectliteType.abiMethod fun t => do pure (.int .u8 (← Rtype.kind t))) Tryd.func56 (by kernel_rfl) (by kernel_rfl) (by kernel_rfl) (by kernel_rfl)
  have h37 := @run_callFunc_extern Tryd.prog 84 _ (ReflectliteType.method ReflectliteType.elem) Tryd.func84 (by kernel_rfl) (by kernel_rfl) (by kernel_rfl) (by kernel_rfl)
  have h38 := @run_callFunc_extern Tryd.prog 85 _ (ReflectliteType.relation "Implements" ReflectliteType.implements_) Tryd.func85 (by kernel_rfl) (by kernel_rfl) (by kernel_rfl) (by kernel_rfl)
  have h10 := @run_callFunc_extern Tryd.prog 18 _ ReflectliteType.typeOf Tryd.func18 (by kernel_rfl) (by kernel_rfl) (by kernel_rfl) (by kernel_rfl)
  have h35 := @run_callFunc_extern Tryd.prog 82 _ (ReflectliteType.relation "AssignableTo" ReflectliteType.assignableTo) Tryd.func82 (by kernel_rfl) (by kernel_rfl) (by kernel_rfl) (by kernel_rfl)
  have n84 := no84
  have n87 := no87
  have n89 := no89
  have tO := As.typeOf48
  have mA := As.methodAssignableTo
  have a25 := As.assignable48
  have f6 := As.valueOf27
  have f7 := As.type27
  have mK := As.methodKind
  have mE := As.methodElem
  have mI := As.methodImplements
  have k27 := As.kind27
  have k25 := As.kind25
  have e27 := As.elem27
  have i25 := As.implements25
  have n8 := As.isNil27 ⟨w.heap.size, 0, none⟩ t ((w.alloc (.cells #[.pointer (some t)] 45)).alloc (.cells #[.pointer (some ⟨4, 45, none⟩), .pointer (some ⟨w.heap.size, 0, none⟩), .int .u64 150] 58)) (by simp)
  have hlt : 0 < w.heap.size := by
    rcases Nat.eq_zero_or_pos w.heap.size with h0 | h
    · simp [World.cell?, h0] at hg
    · exact h
  have hg2 : ((w.alloc (.cells #[.pointer (some t)] 45)).alloc (.cells #[.pointer (some ⟨4, 45, none⟩), .pointer (some ⟨w.heap.size, 0, none⟩), .int .u64 150] 58)).cell? ⟨0, 0, none⟩ = some (.iface 79 (.agg #[.pointer (some ⟨4, 26, none⟩)])) := by
    rw [World.cell?_alloc_lt _ _ ⟨0, 0, none⟩ (by simp), World.cell?_alloc_lt _ _ ⟨0, 0, none⟩ hlt]; exact hg
  go_enter Tryd.func7, Tryd.ntmps7
  go_wp2
  refine wp_loop_rounds 1 ?_
  rw [rounds_succ]
  go_wp2
  go_ret
  exact ⟨rfl, below_alloc (below_alloc (below_alloc (Below.refl _ _) _) _) _⟩

theorem code_nil (w : World) : Calls Tryd.prog 4 #[.nilIface] w fun e w' => e = .returned (.tuple #[.int .i64 0, .int .i64 (-1)]) ∧ w' = w := by
  go_enter Tryd.func4, Tryd.ntmps4
  go_wp2
  go_ret2
  exact ⟨rfl, rfl⟩

theorem hold_alloc {w : World} {v : Value} (hg : w.cell? ⟨0, 0, none⟩ = some v) (o : Obj) : (w.alloc o).cell? ⟨0, 0, none⟩ = some v := by
  have hlt : 0 < w.heap.size := by
    rcases Nat.eq_zero_or_pos w.heap.size with h0 | h
    · simp [World.cell?, h0] at hg
    · exact h
  rw [World.cell?_alloc_lt _ _ ⟨0, 0, none⟩ hlt]; exact hg

set_option maxHeartbeats 4000000 in
theorem code_other (e : Addr) (w : World) (hg : w.cell? ⟨0, 0, none⟩ = some (.iface 79 (.agg #[.pointer (some ⟨4, 26, none⟩)]))) :
    Calls Tryd.prog 4 #[.iface 48 (.pointer (some e))] w fun ev w' => ev = .returned (.tuple #[.int .i64 (-1), .int .i64 (-1)]) ∧ Below w.heap.size w w' := by
  have hgA := hold_alloc hg (.cells #[.pointer none] 43)
  have htA : (w.alloc (.cells #[.pointer none] 43)).cell? ⟨w.heap.size, 0, none⟩ = some (.pointer none) := by simp
  go_enter Tryd.func4, Tryd.ntmps4
  go_wp2_with (go_at_call 7; refine (as_miss e _ (.pointer none) _ hgA htA).mono ?_; rintro e w1 ⟨rfl, hb⟩)
  go_ret2
  exact ⟨rfl, below_step (below_alloc (Below.refl _ _) _) hb⟩

theorem as_hit2 (e : Addr) (w : World) (hg : w.cell? ⟨0, 0, none⟩ = some (.iface 79 (.agg #[.pointer (some ⟨4, 26, none⟩)]))) :
    Calls Tryd.prog 7 #[.iface 43 (.pointer (some e)), .iface 45 (.pointer (some ⟨w.heap.size, 0, none⟩))] (w.alloc (.cells #[.pointer none] 43)) fun ev w' => ev = .returned (.bool true) ∧ w'.cell? ⟨w.heap.size, 0, none⟩ = some (.pointer (some e)) ∧ Below w.heap.size w w' := by
  have hgA := hold_alloc hg (.cells #[.pointer none] 43)
  have htA : (w.alloc (.cells #[.pointer none] 43)).cell? ⟨w.heap.size, 0, none⟩ = some (.pointer none) := by simp
  have hfA : (w.alloc (.cells #[.pointer none] 43)).frozen? ⟨w.heap.size, 0, none⟩ = false := by simp
  have hlt : w.heap.size < (w.alloc (.cells #[.pointer none] 43)).heap.size := by simp
  have hb0 : Below w.heap.size w (w.alloc (.cells #[.pointer none] 43)) := below_alloc (Below.refl _ _) _
  refine (as_hit e ⟨w.heap.size, 0, none⟩ (.pointer none) _ hgA htA hfA).mono fun ev w' ⟨he, hw⟩ => ⟨he, ?_, ?_⟩
  · subst hw
    refine World.cell?_setCell_same _ _ _ (u := .pointer none) ?_
    generalize (w.alloc (.cells #[.pointer none] 43)) = X at *
    rw [World.cell?_alloc_lt _ _ ⟨w.heap.size, 0, none⟩ (by simp; omega), World.cell?_alloc_lt _ _ ⟨w.heap.size, 0, none⟩ (by simp; omega), World.cell?_alloc_lt _ _ ⟨w.heap.size, 0, none⟩ (by simp; omega), World.cell?_alloc_lt _ _ ⟨w.heap.size, 0, none⟩ hlt]
    exact htA
  · subst hw
    exact Below.setCell (below_alloc (below_alloc (below_alloc (below_alloc hb0 _) _) _) _) (Nat.le_refl _) _

set_option maxHeartbeats 4000000 in
theorem code_flaw (F : Nat) (c a : Int) (w : World) (hg : w.cell? ⟨0, 0, none⟩ = some (.iface 79 (.agg #[.pointer (some ⟨4, 26, none⟩)])))
    (h0 : w.cell? ⟨F, 0, none⟩ = some (.int .i64 c)) (h1 : w.cell? ⟨F, 1, none⟩ = some (.int .i64 a)) :
    Calls Tryd.prog 4 #[.iface 43 (.pointer (some ⟨F, 0, none⟩))] w fun ev w' => ev = .returned (.tuple #[.int .i64 c, .int .i64 a]) ∧ Below w.heap.size w w' := by
  have HF : F < w.heap.size := World.block_lt_of_cell? w ⟨F, 0, none⟩ h0
  go_enter Tryd.func4, Tryd.ntmps4
  go_wp2_with (go_at_call 7; refine (as_hit2 ⟨F, 0, none⟩ w hg).mono ?_; rintro e w1 ⟨rfl, ht, hb⟩; have g0 : w1.cell? ⟨F, 0, none⟩ = some (.int .i64 c) := (by simpa [World.cell?, hb.block F HF] using h0); have g1 : w1.cell? ⟨F, 1, none⟩ = some (.int .i64 a) := (by simpa [World.cell?, hb.block F HF] using h1))
  repeat (go_quiet (fail); try go_wp2)
  go_ret2
  exact ⟨rfl, by repeat (first | exact hb | apply pw_below_drewN)⟩
end Go.Proofs.YtnidnmhcjngmeaaDoor.Code
