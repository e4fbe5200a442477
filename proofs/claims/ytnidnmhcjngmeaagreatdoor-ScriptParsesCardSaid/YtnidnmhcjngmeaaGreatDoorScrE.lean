/-
  words.Fields as a contract; script.Parse.
  Conditions: none.
-/
import Derived.Test.YtnidnmhcjngmeaaGreatDoorScr15
import Derived.LaidEql
import Derived.Stop.Asserts
import Derived.RowKitTokens

set_option linter.unusedVariables false
set_option linter.unusedSimpArgs false
set_option autoImplicit false
namespace Go.Proofs.YtnidnmhcjngmeaaGreatDoor.Scr
open Go.RowKit Go.Proofs.YtnidnmhcjngmeaaGreatDoorW.PrintWords Go.Proofs.YtnidnmhcjngmeaaGreatDoorW.PrintLast Go.Proofs.YtnidnmhcjngmeaaGreatDoorW.PrintMore
open Go.Va (GOk SimP AV Out VRel Cells cx0 cells_cons cells_nil CT gt vg)
attribute [local go_sem] max2_int min2_int max_two min_two max_three min_three max_four min_four
/-- A row of texts. -/
def SlP (w : World) (ws : List ByteArray) (v : Value) : Prop := ∃ o cp, v = .slice o ws.length cp ∧ (0 < ws.length → ∃ g : Nat × Nat, o = some ⟨g.1, g.2, none⟩ ∧ g.1 < w.heap.size ∧ ∀ i (h : i < ws.length), w.cell? ⟨g.1, g.2 + i, none⟩ = some (.string ws[i]))
theorem sl_of {F : Nat → Prop} {w : World} {ws : List ByteArray} {v : Value} (h : VRel (cx0 F w) false (.vt .str ws) v) : SlP w ws v := by
  cases h with
  | vt h =>
    generalize hn : ws.length = n at h
    cases h with
    | vec0 => exact ⟨_, 0, by rw [hn], fun h => absurd h (by omega)⟩
    | vec f hB hne hcap hmax hl hc hr =>
      rename_i B off cap
      refine ⟨some ⟨B, off, none⟩, cap, by rw [hn], fun _ => ⟨(B, off), rfl, hB, fun i hi => ?_⟩⟩
      have h1 := hc i (by omega) 0 (by decide)
      have h2 := hr i (by omega) 0
      have h3 : gt (CT.enc .str (ws.getD i (CT.df .str))) 0 = .val (.string ws[i]) := by
        show AV.val (.string (ws.getD i ByteArray.empty)) = _
        rw [List.getD_eq_getElem?_getD, List.getElem?_eq_getElem hi]; rfl
      rw [h3] at h2
      rw [h2.inv_val] at h1
      show (cx0 F w).w.cell? _ = _
      simpa [CT.sz] using h1
theorem con_Fields {k : Nat} {x : ByteArray} {ws : List ByteArray} (h : Va.words_Fields.f k x = some ws) (w : World) : Calls Tryz.prog 10 #[.string x] w fun e w' => ∃ v, e = .returned v ∧ SlP w' ws v ∧ Fr (fun _ => False) w w' := by
  have hs := sim_of (Va.words_Fields.ok k) (args := [.val (.string x)]) (out := .ret (.vt .str ws)) (by
    show (Va.words_Fields.f k x).bind _ = _
    rw [h]; rfl)
  exact (hs w (fun _ => False) [.string x] (fun _ h => h.elim) (cells_cons (.val _) cells_nil)).mono fun e w' ⟨hf, c, he, hv⟩ => ⟨c, he, sl_of hv, .of_below hf.b⟩
def topP (r : Cmd × Bad) : Cmd × Bad := match r.2 with
  | none => (r.1, none)
  | some f => (zc, some f)
def parseR (S : Says) (line : ByteArray) (ws : List ByteArray) : Cmd × Bad := if line.size > 256 then (zc, some (153, -1)) else if h : 0 < ws.length then topP (parsedP S ws ws[0]) else (zc, none)
/-- An error of the package. -/
def ErrP (w : World) : Bad → Value → Prop
  | none, v => v = .nilIface
  | some (c, a), v => ∃ F, v = .iface 49 (.pointer (some ⟨F, 0, none⟩)) ∧ w.heap[F]? = some (.cells #[.int .i64 c, .int .i64 a] 51 (0, 0))
set_option maxRecDepth 100000 in
set_option maxHeartbeats 8000000 in
theorem parse_ok (S : Says) (line : ByteArray) (ws : List ByteArray) (k : Nat) (w : World) (hS : S.ok ws) (hlen : ws.length ≤ 1000) (hF : line.size ≤ 256 → Va.words_Fields.f k line = some ws) :
    Calls Tryz.prog 5 #[.string line] w fun e w' => ∃ v, e = .returned (.tuple #[.agg (enc (parseR S line ws).1), v]) ∧ ErrP w' (parseR S line ws).2 v ∧ Fr (fun _ => False) w w' := by
  have hz0 := blk_new w (.cells (enc zc) 33 (0, 0))
  by_cases h1 : line.size > 256
  · have d1 : decide ((line.size : Int) > 256) = true := decide_eq_true (by omega)
    have d2 : (line.size : Int) > 256 := by omega
    have hR : parseR S line ws = (zc, some (153, -1)) := by unfold parseR; rw [if_pos h1]
    have HR := Aside0.mk hR
    clear hR h1
    have hz1 := blk_alloc hz0 (.cells #[.int .i64 153, .int .i64 (-1)] 51)
    have hFl := blk_second w (.cells (enc zc) 33 (0, 0)) (.cells #[.int .i64 153, .int .i64 (-1)] 51)
    have hf1 : Fr (fun _ => False) w ((w.alloc (.cells (enc zc) 33 (0, 0))).alloc (.cells #[.int .i64 153, .int .i64 (-1)] 51)) := ((Fr.refl _ w).alloc _).alloc _
    go_enter Tryz.func5, Tryz.ntmps5
    go_wp2_with ((with_reducible refine gate_store (t := 33) (p := 2) rfl ?_); go_loud (refine store_cmd rfl (.tmp 2) (.tmp 10) w.heap.size zc zc rfl rfl rfl hz1 ?_); intro w5 hz5 hf5)
    try simp only [Exit.inBlock, Exit.then]
    rw [HR.out]
    exact retC5 hz5 rfl rfl rfl ⟨_, rfl, ⟨w.heap.size + 1, rfl, hf5.blk hFl (by omega)⟩, hf1.then hf5 (fun k hk e => by omega)⟩
  · have hF := hF (by omega)
    have d1 : decide ((line.size : Int) > 256) = false := decide_eq_false (by omega)
    have d2 : ¬ (line.size : Int) > 256 := by omega
    by_cases h2 : 0 < ws.length
    · have d3 : ((ws.length : Int) == 0) = false := by rw [beq_eq_false_iff_ne]; omega
      generalize hp : parsedP S ws ws[0] = r
      obtain ⟨c, bad⟩ := r
      have hpo := fun g cp w hg hrow => parsed_ok S g cp ws w hS hg hlen h2 hrow
      rw [hp] at hpo
      have HP := Aside0.mk (show parseR S line ws = topP (c, bad) by unfold parseR; rw [if_neg h1, dif_pos h2, hp])
      clear hp h1
      rcases bad with _ | ⟨c1, a1⟩
      · go_enter Tryz.func5, Tryz.ntmps5
        go_wp2_with (first
          | (go_at_call 10; (with_reducible refine (con_Fields hF _).mono ?_); rintro e w1 ⟨v1, rfl, ⟨o, cp, rfl, hsl⟩, hf1⟩
             obtain ⟨g, rfl, hg, hrow⟩ := hsl h2
             have hz1 := hf1.blk hz0 (fun h => h))
          | (go_at_call 11; (with_reducible refine (hpo g cp _ hg hrow).mono ?_); rintro e w2 ⟨v2, rfl, hb2, hf2⟩
             obtain rfl : v2 = .pointer none := hb2
             have hz2 := hf2.blk hz1 (fun h => h)
             have l2 := blk_lt hz2
             have hn2 := blk_new w2 (.cells (enc zc) 33 (0, 0)))
          | ((with_reducible refine gate_store (t := 33) (p := 5) rfl ?_); go_loud (refine store_cmd rfl (.tmp 5) (.tmp 23) w2.heap.size c zc rfl rfl rfl hn2 ?_); intro w3 hz3 hf3
             have hD3 := hf3.blk (blk_alloc hz2 (.cells (enc zc) 33 (0, 0))) (by omega))
          | ((with_reducible refine gate_dst (N := 30) rfl ?_); go_loud (refine load_cmd rfl (.tmp 5) w2.heap.size c rfl rfl hz3 ?_))
          | ((with_reducible refine gate_store (t := 33) (p := 2) rfl ?_); go_loud (refine store_cmd rfl (.tmp 2) (.tmp 30) w.heap.size c zc rfl rfl rfl hD3 ?_); intro w4 hz4 hf4))
        try simp only [Exit.inBlock, Exit.then]
        rw [HP.out]
        exact retC5 hz4 rfl rfl rfl ⟨_, rfl, rfl, ((((((Fr.refl _ w).alloc _).trans hf1).trans hf2).alloc _).then hf3 (fun k hk e => by have := hf1.size; have := hf2.size; simp at *; omega)).then hf4 (fun k hk e => by omega)⟩
      · go_enter Tryz.func5, Tryz.ntmps5
        go_wp2_with (first
          | (go_at_call 10; (with_reducible refine (con_Fields hF _).mono ?_); rintro e w1 ⟨v1, rfl, ⟨o, cp, rfl, hsl⟩, hf1⟩
             obtain ⟨g, rfl, hg, hrow⟩ := hsl h2
             have hz1 := hf1.blk hz0 (fun h => h))
          | (go_at_call 11; (with_reducible refine (hpo g cp _ hg hrow).mono ?_); rintro e w2 ⟨v2, rfl, hb2, hf2⟩
             obtain ⟨F, rfl, hF2⟩ : ∃ F, v2 = .pointer (some ⟨F, 0, none⟩) ∧ w2.heap[F]? = some (.cells #[.int .i64 c1, .int .i64 a1] 51 (0, 0)) := hb2
             have hz2 := hf2.blk hz1 (fun h => h)
             have l2 := blk_lt hz2
             have lF := blk_lt hF2
             have hn2 := blk_new w2 (.cells (enc zc) 33 (0, 0)))
          | ((with_reducible refine gate_store (t := 33) (p := 5) rfl ?_); go_loud (refine store_cmd rfl (.tmp 5) (.tmp 23) w2.heap.size c zc rfl rfl rfl hn2 ?_); intro w3 hz3 hf3
             have hD3 := hf3.blk (blk_alloc hz2 (.cells (enc zc) 33 (0, 0))) (by omega)
             have hF3 := hf3.blk (blk_alloc hF2 (.cells (enc zc) 33 (0, 0))) (by omega))
          | ((with_reducible refine gate_store (t := 33) (p := 2) rfl ?_); go_loud (refine store_cmd rfl (.tmp 2) (.tmp 27) w.heap.size zc zc rfl rfl rfl hD3 ?_); intro w4 hz4 hf4))
        try simp only [Exit.inBlock, Exit.then]
        rw [HP.out]
        have hne : F ≠ w.heap.size := fun e => by
          subst e
          rw [hz2] at hF2
          have h9 : (33 : Nat) = 51 := congrArg (fun o => match o with | some (Obj.cells _ t _) => t | _ => 0) hF2
          exact absurd h9 (by decide)
        exact retC5 hz4 rfl rfl rfl ⟨_, rfl, ⟨F, rfl, hf4.blk hF3 hne⟩, ((((((Fr.refl _ w).alloc _).trans hf1).trans hf2).alloc _).then hf3 (fun k hk e => by have := hf1.size; have := hf2.size; simp at *; omega)).then hf4 (fun k hk e => by omega)⟩
    · have h3 : ws.length = 0 := by omega
      have d3 : ((ws.length : Int) == 0) = true := by rw [h3]; rfl
      have HP := Aside0.mk (show parseR S line ws = (zc, none) by unfold parseR; rw [if_neg h1, dif_neg h2])
      go_enter Tryz.func5, Tryz.ntmps5
      go_wp2_with (first
        | (go_at_call 10; (with_reducible refine (con_Fields hF _).mono ?_); rintro e w1 ⟨v1, rfl, ⟨o, cp, rfl, hsl⟩, hf1⟩
           have hz1 := hf1.blk hz0 (fun h => h))
        | ((with_reducible refine gate_store (t := 33) (p := 2) rfl ?_); go_loud (refine store_cmd rfl (.tmp 2) (.tmp 19) w.heap.size zc zc rfl rfl rfl hz1 ?_); intro w4 hz4 hf4))
      try simp only [Exit.inBlock, Exit.then]
      rw [HP.out]
      exact retC5 hz4 rfl rfl rfl ⟨_, rfl, rfl, (((Fr.refl _ w).alloc _).trans hf1).then hf4 (fun k hk e => by omega)⟩
end Go.Proofs.YtnidnmhcjngmeaaGreatDoor.Scr

/-
  errors.As at the target of script.Code, and script.Code of a flaw (printed by gencode.py).
  Conditions: the variable errors.errorType holds the handle of the type error.
-/
namespace Go.Proofs.YtnidnmhcjngmeaaGreatDoor.Scr
open Go.RowKit Go.Extern.Stop Go.Stop Go.Extern Go.Proofs.YtnidnmhcjngmeaaGreatDoorW.PrintWords Go.Proofs.YtnidnmhcjngmeaaGreatDoorW.PrintLast Go.Proofs.YtnidnmhcjngmeaaGreatDoorW.PrintMore
/-! ### CLOSED FACTS ON THE MODEL's ENTRIES FOR internal/reflectlite, at this program's types: 25: *p.E · 27: **p.E · 23: error · 45: reflectlite's rtype · 1: how many package-level variables the dump has -/
theorem As.valueOf27 (t : Addr) (w : World) : (ReflectliteValue.unpack (.iface 59 (.pointer (some t)))).run Tryz.prog w
    = .ok (.agg #[.pointer (some ⟨5, 59, none⟩), .pointer (some ⟨w.heap.size, 0, none⟩), .int .u64 150]) (w.alloc (.cells #[.pointer (some t)] 59)) := by kernel_rfl
theorem As.type27 (a : Addr) (w : World) : (ReflectliteValue.methodAny (ReflectliteValue.valueError "reflectlite.Value.Type" 0) (fun t _ _ _ => ReflectliteType.toType t) #[.agg #[.pointer (some ⟨5, 59, none⟩), .pointer (some a), .int .u64 150]]).run Tryz.prog w
    = .ok (.iface 134 (.agg #[.pointer (some ⟨5, 59, none⟩)])) w := by kernel_rfl
theorem As.methodKind (h : Value) (w : World) : (Go.method 309 134 (.agg #[h]) "Kind").run Tryz.prog w = .ok (106, h) w := by kernel_rfl
theorem As.kind27 (w : World) : ((ReflectliteType.abiMethod fun t => (fun a : Nat => Value.int IntKind.u8 (a : Int)) <$> Rtype.kind t) #[.pointer (some ⟨5, 59, none⟩)]).run Tryz.prog w = .ok (.int .u8 22) w := by kernel_rfl
theorem As.kind25 (w : World) : ((ReflectliteType.abiMethod fun t => (fun a : Nat => Value.int IntKind.u8 (a : Int)) <$> Rtype.kind t) #[.pointer (some ⟨5, 49, none⟩)]).run Tryz.prog w = .ok (.int .u8 22) w := by kernel_rfl

/-! ### THE ENTRIES THAT READ OR WRITE MEMORY: laws with a premise on the cell (after Derived/Lib/ReflectliteSlice.lean's manner: each unfolding a lemma of its own, by rfl) -/
theorem rlm (z : Sem Value) (f : TypeId → Addr → Nat → Nat → Sem Value) (v : Value) :
    ReflectliteValue.method z f #[v] = (do match ← ReflectliteValue.parts v with | none => z | some (t, a, fl) => f t a fl (fl % 32)) := rfl
theorem As.parts27 (a : Addr) (w : World) : (ReflectliteValue.parts (.agg #[.pointer (some ⟨5, 59, none⟩), .pointer (some a), .int .u64 150])).run Tryz.prog w = .ok (some (59, a, 150)) w := by kernel_rfl
/-- (Value).IsNil at the Value of a **p.E that is not nil. -/
theorem As.isNil27 (a p : Addr) (W : World) (ha : W.cell? a = some (.pointer (some p))) :
    (ReflectliteValue.method (ReflectliteValue.valueError "reflectlite.Value.IsNil" 0) ReflectliteValue.isNil #[.agg #[.pointer (some ⟨5, 59, none⟩), .pointer (some a), .int .u64 150]]).run Tryz.prog W = .ok (.bool false) W := by
  rw [rlm]
  simp only [Sem.run_bind, As.parts27, Result.andThen]
  simp [ReflectliteValue.isNil, loadVar, isAgg, underlying, Tryz.underlying59, ha, Result.andThen]

theorem As.methodElem (h : Value) (w : World) : (Go.method 309 134 (.agg #[h]) "Elem").run Tryz.prog w = .ok (143, .agg #[h]) w := by kernel_rfl
theorem As.methodImplements (h : Value) (w : World) : (Go.method 309 134 (.agg #[h]) "Implements").run Tryz.prog w = .ok (144, .agg #[h]) w := by kernel_rfl
theorem As.methodAssignableTo (h : Value) (w : World) : (Go.method 309 134 (.agg #[h]) "AssignableTo").run Tryz.prog w = .ok (141, .agg #[h]) w := by kernel_rfl
theorem As.elem27 (w : World) : (ReflectliteType.method ReflectliteType.elem #[.agg #[.pointer (some ⟨5, 59, none⟩)]]).run Tryz.prog w = .ok (.iface 134 (.agg #[.pointer (some ⟨5, 49, none⟩)])) w := by kernel_rfl
theorem As.implements25 (w : World) : (ReflectliteType.relation "Implements" ReflectliteType.implements_ #[.agg #[.pointer (some ⟨5, 49, none⟩)], .iface 134 (.agg #[.pointer (some ⟨5, 35, none⟩)])]).run Tryz.prog w = .ok (.bool true) w := by kernel_rfl
theorem As.typeOf25 (v : Value) (w : World) : (ReflectliteType.typeOf #[.iface 49 v]).run Tryz.prog w = .ok (.iface 134 (.agg #[.pointer (some ⟨5, 49, none⟩)])) w := by kernel_rfl
theorem As.assignable25 (w : World) : (ReflectliteType.relation "AssignableTo" ReflectliteType.assignableTo #[.agg #[.pointer (some ⟨5, 49, none⟩)], .iface 134 (.agg #[.pointer (some ⟨5, 49, none⟩)])]).run Tryz.prog w = .ok (.bool true) w := by kernel_rfl
theorem As.valueOf25 (e : Addr) (w : World) : (ReflectliteValue.unpack (.iface 49 (.pointer (some e)))).run Tryz.prog w
    = .ok (.agg #[.pointer (some ⟨5, 49, none⟩), .pointer (some ⟨w.heap.size, 0, none⟩), .int .u64 150]) (w.alloc (.cells #[.pointer (some e)] 49)) := by kernel_rfl

theorem As.elemOf27 (w : World) : (Rtype.elem? 59).run Tryz.prog w = .ok (some 49) w := by kernel_rfl
theorem As.mk25 (p : Addr) (w : World) : (ReflectliteValue.mk 49 p ReflectliteValue.flagAddr).run Tryz.prog w = .ok (.agg #[.pointer (some ⟨5, 49, none⟩), .pointer (some p), .int .u64 406]) w := by kernel_rfl
/-- (Value).Elem at the Value of a **p.E that is not nil: the Value of the *p.E variable that it points to, addressable. -/
theorem As.elemV27 (a p : Addr) (W : World) (ha : W.cell? a = some (.pointer (some p))) :
    (ReflectliteValue.method (ReflectliteValue.valueError "reflectlite.Value.Elem" 0) ReflectliteValue.elem #[.agg #[.pointer (some ⟨5, 59, none⟩), .pointer (some a), .int .u64 150]]).run Tryz.prog W
      = .ok (.agg #[.pointer (some ⟨5, 49, none⟩), .pointer (some p), .int .u64 406]) W := by
  rw [rlm]
  simp only [Sem.run_bind, As.parts27, Result.andThen]
  simp [ReflectliteValue.elem, loadVar, isAgg, underlying, Tryz.underlying59, ha, Result.andThen, As.elemOf27, As.mk25]
theorem rls (v x : Value) : ReflectliteValue.set #[v, x] = (do
    let (some (dst, a, fl), some (src, b, _)) := (← ReflectliteValue.parts v, ← ReflectliteValue.parts x)
      | unsupported (.noEntry "extern/(internal/reflectlite.Value).Set.zeroValue")
    if fl / ReflectliteValue.flagAddr % 2 == 0 then unsupported (.noEntry "extern/(internal/reflectlite.Value).Set.unaddressable")
    let val ← loadVar src b
    if ← Rtype.directlyAssignable dst src then storeVar dst a val
    else if ← Rtype.implements dst src then
      if (← Rtype.kind src) == 20 then
        match val with
        | .nilIface => unsupported (.noEntry "extern/reflectlite: a nil value of one interface type handed on as a value of another")
        | _ => storeVar dst a val
      else storeVar dst a (.iface src val)
    else panicString ("reflectlite.Set: value of type " ++ (← Rtype.spelt src) ++ " is not assignable to type " ++ (← Rtype.spelt dst))
    pure (.tuple #[])) := rfl
theorem As.parts25a (a : Addr) (w : World) : (ReflectliteValue.parts (.agg #[.pointer (some ⟨5, 49, none⟩), .pointer (some a), .int .u64 406])).run Tryz.prog w = .ok (some (49, a, 406)) w := by kernel_rfl
theorem As.parts25 (a : Addr) (w : World) : (ReflectliteValue.parts (.agg #[.pointer (some ⟨5, 49, none⟩), .pointer (some a), .int .u64 150])).run Tryz.prog w = .ok (some (49, a, 150)) w := by kernel_rfl
theorem As.direct25 (w : World) : (Rtype.directlyAssignable 49 49).run Tryz.prog w = .ok true w := by kernel_rfl
/-- (Value).Set: the *p.E variable at 'ta' gets what the Value's own variable 'b' holds. -/
theorem As.set25 (ta b e : Addr) (old : Value) (W : World) (hb : W.cell? b = some (.pointer (some e))) (ht : W.cell? ta = some old) (hf : W.frozen? ta = false) :
    (ReflectliteValue.set #[.agg #[.pointer (some ⟨5, 49, none⟩), .pointer (some ta), .int .u64 406], .agg #[.pointer (some ⟨5, 49, none⟩), .pointer (some b), .int .u64 150]]).run Tryz.prog W
      = .ok (.tuple #[]) (W.setCell ta (.pointer (some e))) := by
  rw [rls]
  simp only [Sem.run_bind, As.parts25a, As.parts25, Result.andThen]
  simp [ReflectliteValue.flagAddr, loadVar, isAgg, underlying, Tryz.underlying49, hb, Result.andThen, As.direct25, storeVar, Value.cells, storeCells, Addr.add]
  rw [run_store Tryz.prog W ta _ _ (by rfl)]
  simp [ht, hf]

set_option maxHeartbeats 4000000 in
theorem as_hit (e t : Addr) (old : Value) (w : World) (hg : w.cell? ⟨0, 0, none⟩ = some (.iface 134 (.agg #[.pointer (some ⟨5, 35, none⟩)]))) (ht0 : w.cell? t = some old) (hf0 : w.frozen? t = false) :
    Calls Tryz.prog 15 #[.iface 49 (.pointer (some e)), .iface 59 (.pointer (some t))] w fun ev w' => ev = .returned (.bool true) ∧ w' = ((((w.alloc (.cells #[.pointer (some t)] 59)).alloc (.cells #[.pointer (some ⟨5, 59, none⟩), .pointer (some ⟨w.heap.size, 0, none⟩), .int .u64 150] 86)).alloc (.cells #[.pointer (some ⟨5, 59, none⟩), .pointer (some ⟨w.heap.size, 0, none⟩), .int .u64 150] 86)).alloc (.cells #[.pointer (some e)] 49)).setCell t (.pointer (some e)) := by
  have h6 := @run_callFunc_extern Tryz.prog 28 _ (fun args => ReflectliteValue.unpack (args.getD 0 (.tuple #[]))) Tryz.func28 (by kernel_rfl) (by kernel_rfl) (by kernel_rfl) (by kernel_rfl)
  have h7 := @run_callFunc_extern Tryz.prog 29 _ (ReflectliteValue.methodAny (ReflectliteValue.valueError "reflectlite.Value.Type" 0) (fun t _ _ _ => ReflectliteType.toType t)) Tryz.func29 (by kernel_rfl) (by kernel_rfl) (by kernel_rfl) (by kernel_rfl)
  have h8 := @run_callFunc_extern Tryz.prog 30 _ (ReflectliteValue.method (ReflectliteValue.valueError "reflectlite.Value.IsNil" 0) ReflectliteValue.isNil) Tryz.func30 (by kernel_rfl) (by kernel_rfl) (by kernel_rfl) (by kernel_rfl)
  have h27 := @run_callFunc_extern Tryz.prog 106 _ (ReflectliteType.abiMethod fun t => do pure (.int .u8 (← Rtype.kind t))) Tryz.func106 (by kernel_rfl) (by kernel_rfl) (by kernel_rfl) (by kernel_rfl)
  have h37 := @run_callFunc_extern Tryz.prog 143 _ (ReflectliteType.method ReflectliteType.elem) Tryz.func143 (by kernel_rfl) (by kernel_rfl) (by kernel_rfl) (by kernel_rfl)
  have h38 := @run_callFunc_extern Tryz.prog 144 _ (ReflectliteType.relation "Implements" ReflectliteType.implements_) Tryz.func144 (by kernel_rfl) (by kernel_rfl) (by kernel_rfl) (by kernel_rfl)
  have h10 := @run_callFunc_extern Tryz.prog 66 _ ReflectliteType.typeOf Tryz.func66 (by kernel_rfl) (by kernel_rfl) (by kernel_rfl) (by kernel_rfl)
  have h35 := @run_callFunc_extern Tryz.prog 141 _ (ReflectliteType.relation "AssignableTo" ReflectliteType.assignableTo) Tryz.func141 (by kernel_rfl) (by kernel_rfl) (by kernel_rfl) (by kernel_rfl)
  have h11 := @run_callFunc_extern Tryz.prog 67 _ (ReflectliteValue.method (ReflectliteValue.valueError "reflectlite.Value.Elem" 0) ReflectliteValue.elem) Tryz.func67 (by kernel_rfl) (by kernel_rfl) (by kernel_rfl) (by kernel_rfl)
  have h12 := @run_callFunc_extern Tryz.prog 68 _ ReflectliteValue.set Tryz.func68 (by kernel_rfl) (by kernel_rfl) (by kernel_rfl) (by kernel_rfl)
  have tO := As.typeOf25
  have mA := As.methodAssignableTo
  have a25 := As.assignable25
  have v25 := As.valueOf25
  have f6 := As.valueOf27
  have f7 := As.type27
  have mK := As.methodKind
  have mE := As.methodElem
  have mI := As.methodImplements
  have k27 := As.kind27
  have k25 := As.kind25
  have e27 := As.elem27
  have i25 := As.implements25
  have n8 := As.isNil27 ⟨w.heap.size, 0, none⟩ t ((w.alloc (.cells #[.pointer (some t)] 59)).alloc (.cells #[.pointer (some ⟨5, 59, none⟩), .pointer (some ⟨w.heap.size, 0, none⟩), .int .u64 150] 86)) (by simp)
  have hlt : 0 < w.heap.size := by
    rcases Nat.eq_zero_or_pos w.heap.size with h0 | h
    · simp [World.cell?, h0] at hg
    · exact h
  have hg2 : ((w.alloc (.cells #[.pointer (some t)] 59)).alloc (.cells #[.pointer (some ⟨5, 59, none⟩), .pointer (some ⟨w.heap.size, 0, none⟩), .int .u64 150] 86)).cell? ⟨0, 0, none⟩ = some (.iface 134 (.agg #[.pointer (some ⟨5, 35, none⟩)])) := by
    rw [World.cell?_alloc_lt _ _ ⟨0, 0, none⟩ (by simp), World.cell?_alloc_lt _ _ ⟨0, 0, none⟩ hlt]; exact hg
  have htl : t.block < w.heap.size := by
    rcases Nat.lt_or_ge t.block w.heap.size with h | h
    · exact h
    · simp [World.cell?, Array.getElem?_eq_none h] at ht0
  have el := As.elemV27 ⟨w.heap.size, 0, none⟩ t (((w.alloc (.cells #[.pointer (some t)] 59)).alloc (.cells #[.pointer (some ⟨5, 59, none⟩), .pointer (some ⟨w.heap.size, 0, none⟩), .int .u64 150] 86)).alloc (.cells #[.pointer (some ⟨5, 59, none⟩), .pointer (some ⟨w.heap.size, 0, none⟩), .int .u64 150] 86)) (by rw [World.cell?_alloc_lt _ _ ⟨w.heap.size, 0, none⟩ (by simp; omega)]; simp)
  have st := As.set25 t ⟨w.heap.size + 1 + 1 + 1, 0, none⟩ e old ((((w.alloc (.cells #[.pointer (some t)] 59)).alloc (.cells #[.pointer (some ⟨5, 59, none⟩), .pointer (some ⟨w.heap.size, 0, none⟩), .int .u64 150] 86)).alloc (.cells #[.pointer (some ⟨5, 59, none⟩), .pointer (some ⟨w.heap.size, 0, none⟩), .int .u64 150] 86)).alloc (.cells #[.pointer (some e)] 49))
    (by rw [World.cell?_alloc_at _ _ _ _ (by simp)]; rfl)
    (by rw [World.cell?_alloc_lt _ _ t (by simp; omega), World.cell?_alloc_lt _ _ t (by simp; omega), World.cell?_alloc_lt _ _ t (by simp; omega), World.cell?_alloc_lt _ _ t htl]; exact ht0)
    (by rw [World.frozen?_alloc_old _ _ t (by simp; omega), World.frozen?_alloc_old _ _ t (by simp; omega), World.frozen?_alloc_old _ _ t (by simp; omega), World.frozen?_alloc_old _ _ t (Nat.ne_of_lt htl)]; exact hf0)
  go_enter Tryz.func15, Tryz.ntmps15
  go_wp2
  refine wp_loop_rounds 1 ?_
  rw [rounds_succ]
  go_wp2
  go_ret
  exact ⟨rfl, rfl⟩
theorem code_nil (w : World) : Calls Tryz.prog 7 #[.nilIface] w fun e w' => e = .returned (.tuple #[.int .i64 0, .int .i64 (-1)]) ∧ w' = w := by
  go_enter Tryz.func7, Tryz.ntmps7
  go_wp2
  go_ret2
  exact ⟨rfl, rfl⟩

theorem hold_alloc {w : World} {v : Value} (hg : w.cell? ⟨0, 0, none⟩ = some v) (o : Obj) : (w.alloc o).cell? ⟨0, 0, none⟩ = some v := by
  have hlt : 0 < w.heap.size := by
    rcases Nat.eq_zero_or_pos w.heap.size with h0 | h
    · simp [World.cell?, h0] at hg
    · exact h
  rw [World.cell?_alloc_lt _ _ ⟨0, 0, none⟩ hlt]; exact hg

theorem as_hit2 (e : Addr) (w : World) (hg : w.cell? ⟨0, 0, none⟩ = some (.iface 134 (.agg #[.pointer (some ⟨5, 35, none⟩)]))) :
    Calls Tryz.prog 15 #[.iface 49 (.pointer (some e)), .iface 59 (.pointer (some ⟨w.heap.size, 0, none⟩))] (w.alloc (.cells #[.pointer none] 49)) fun ev w' => ev = .returned (.bool true) ∧ w'.cell? ⟨w.heap.size, 0, none⟩ = some (.pointer (some e)) ∧ Below w.heap.size w w' := by
  have hgA := hold_alloc hg (.cells #[.pointer none] 49)
  have htA : (w.alloc (.cells #[.pointer none] 49)).cell? ⟨w.heap.size, 0, none⟩ = some (.pointer none) := by simp
  have hfA : (w.alloc (.cells #[.pointer none] 49)).frozen? ⟨w.heap.size, 0, none⟩ = false := by simp
  have hlt : w.heap.size < (w.alloc (.cells #[.pointer none] 49)).heap.size := by simp
  have hb0 : Below w.heap.size w (w.alloc (.cells #[.pointer none] 49)) := below_alloc (Below.refl _ _) _
  refine (as_hit e ⟨w.heap.size, 0, none⟩ (.pointer none) _ hgA htA hfA).mono fun ev w' ⟨he, hw⟩ => ⟨he, ?_, ?_⟩
  · subst hw
    refine World.cell?_setCell_same _ _ _ (u := .pointer none) ?_
    generalize (w.alloc (.cells #[.pointer none] 49)) = X at *
    rw [World.cell?_alloc_lt _ _ ⟨w.heap.size, 0, none⟩ (by simp; omega), World.cell?_alloc_lt _ _ ⟨w.heap.size, 0, none⟩ (by simp; omega), World.cell?_alloc_lt _ _ ⟨w.heap.size, 0, none⟩ (by simp; omega), World.cell?_alloc_lt _ _ ⟨w.heap.size, 0, none⟩ hlt]
    exact htA
  · subst hw
    exact Below.setCell (below_alloc (below_alloc (below_alloc (below_alloc hb0 _) _) _) _) (Nat.le_refl _) _

set_option maxHeartbeats 4000000 in
theorem code_flaw (F : Nat) (c a : Int) (w : World) (hg : w.cell? ⟨0, 0, none⟩ = some (.iface 134 (.agg #[.pointer (some ⟨5, 35, none⟩)])))
    (h0 : w.cell? ⟨F, 0, none⟩ = some (.int .i64 c)) (h1 : w.cell? ⟨F, 1, none⟩ = some (.int .i64 a)) :
    Calls Tryz.prog 7 #[.iface 49 (.pointer (some ⟨F, 0, none⟩))] w fun ev w' => ev = .returned (.tuple #[.int .i64 c, .int .i64 a]) ∧ Below w.heap.size w w' := by
  have HF : F < w.heap.size := World.block_lt_of_cell? w ⟨F, 0, none⟩ h0
  go_enter Tryz.func7, Tryz.ntmps7
  go_wp2_with (go_at_call 15; refine (as_hit2 ⟨F, 0, none⟩ w hg).mono ?_; rintro e w1 ⟨rfl, ht, hb⟩; have g0 : w1.cell? ⟨F, 0, none⟩ = some (.int .i64 c) := (by simpa [World.cell?, hb.block F HF] using h0); have g1 : w1.cell? ⟨F, 1, none⟩ = some (.int .i64 a) := (by simpa [World.cell?, hb.block F HF] using h1))
  repeat (go_quiet (fail); try go_wp2)
  go_ret2
  exact ⟨rfl, by repeat (first | exact hb | apply pw_below_drewN)⟩
end Go.Proofs.YtnidnmhcjngmeaaGreatDoor.Scr
