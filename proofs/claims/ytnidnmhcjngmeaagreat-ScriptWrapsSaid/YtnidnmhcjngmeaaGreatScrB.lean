/-
  words.RightsText, words.Rights, (*reader).rights.
  Conditions: none.
-/
import Derived.Test.YtnidnmhcjngmeaaGreatScrA
import Derived.Lib.SlBytesConst
import Derived.BigRegion

set_option linter.unusedVariables false
set_option linter.unusedSimpArgs false
set_option autoImplicit false
namespace Go.Proofs.YtnidnmhcjngmeaaGreat.Scr
open Go.RowKit Go.Proofs.YtnidnmhcjngmeaaGreatW.PrintWords Go.Proofs.YtnidnmhcjngmeaaGreatW.PrintLast Go.Proofs.YtnidnmhcjngmeaaGreatW.PrintMore
def rtext (a b c : Bool) : ByteArray := ⟨#[if a then 114 else 45, if b then 119 else 45, if c then 120 else 45]⟩
theorem marked (w : World) (a b c : Value) : ∃ W, (convert 153 153 (.slice (some ⟨w.heap.size + 1, 0, none⟩) 3 3)).run Tryz.prog ((w.alloc (.cells #[a, b, c] 29)).alloc (.cells #[.int .u8 45, .int .u8 45, .int .u8 45] 5)) = .ok (.slice (some ⟨w.heap.size + 1, 0, none⟩) 3 3) W ∧
    W.heap[w.heap.size]? = some (.cells #[a, b, c] 29 (0, 0)) ∧ W.heap[w.heap.size + 1]? = some (.cells #[.int .u8 45, .int .u8 45, .int .u8 45] 5 (3, 4)) ∧ Fr (fun _ => False) w W := by
  have kc := Lib.run_convert_bytes_const (P := Tryz.prog) (w.alloc (.cells #[a, b, c] 29)) 153 5 #[.int .u8 45, .int .u8 45, .int .u8 45] 3 3 Tryz.underlying153 Tryz.underlying5
  simp only [World.size_alloc] at kc
  refine ⟨_, kc, blk_alloc (blk_new w _) _, ?_, ((Fr.refl _ w).alloc _).alloc _⟩
  have := blk_new (w.alloc (.cells #[a, b, c] 29)) (.cells #[.int .u8 45, .int .u8 45, .int .u8 45] 5 (3, 4))
  simpa using this
theorem conv3 (W : World) (g : Nat) (x y z : Int) (hx : 0 ≤ x ∧ x < 256 ∧ 0 ≤ y ∧ y < 256 ∧ 0 ≤ z ∧ z < 256) (h0 : W.cell? ⟨g, 0, none⟩ = some (.int .u8 x)) (h1 : W.cell? ⟨g, 1, none⟩ = some (.int .u8 y)) (h2 : W.cell? ⟨g, 2, none⟩ = some (.int .u8 z)) :
    (convert 153 9 (.slice (some ⟨g, 0, none⟩) 3 3)).run Tryz.prog W = .ok (.string (strOfNums [x, y, z])) W := by
  refine run_convert_bytes_arg (P := Tryz.prog) W 153 5 Tryz.underlying153 Tryz.underlying5 g 0 3 3 [x, y, z] rfl (fun i hi => ?_) 9 Tryz.underlying9
  match i, hi with
  | 0, _ => exact h0
  | 1, _ => exact h1
  | 2, _ => exact h2
set_option maxRecDepth 100000 in
theorem rtext_ok (a b c : Bool) (w : World) : Calls Tryz.prog 89 #[.agg #[.bool a, .bool b, .bool c]] w fun e w' => e = .returned (.string (rtext a b c)) ∧ Fr (fun _ => False) w w' := by
  obtain ⟨W, kc, hr, hw, hf⟩ := marked w (.bool a) (.bool b) (.bool c)
  have b0 : W.cell? ⟨w.heap.size, 0, none⟩ = some (.bool a) := blk_cell hr 0
  have b1 : W.cell? ⟨w.heap.size, 1, none⟩ = some (.bool b) := blk_cell hr 1
  have b2 : W.cell? ⟨w.heap.size, 2, none⟩ = some (.bool c) := blk_cell hr 2
  have k0 : W.cell? ⟨w.heap.size + 1, 0, none⟩ = some (.int .u8 45) := by simp [World.cell?, hw]
  have k1 : W.cell? ⟨w.heap.size + 1, 1, none⟩ = some (.int .u8 45) := by simp [World.cell?, hw]
  have k2 : W.cell? ⟨w.heap.size + 1, 2, none⟩ = some (.int .u8 45) := by simp [World.cell?, hw]
  have f0 : W.frozen? ⟨w.heap.size + 1, 0, none⟩ = false := by simp [World.frozen?, hw]
  have f1 : W.frozen? ⟨w.heap.size + 1, 1, none⟩ = false := by simp [World.frozen?, hw]
  have f2 : W.frozen? ⟨w.heap.size + 1, 2, none⟩ = false := by simp [World.frozen?, hw]
  have hn : ∀ a : Addr, a.block = w.heap.size + 1 → a.block < w.heap.size → False := fun a e h => by omega
  cases a <;> cases b <;> cases c
  · go_enter Tryz.func89, Tryz.ntmps89
    go_wp2
    rw [conv3 _ _ 45 45 45 (by decide) (by go_simp) (by go_simp) (by go_simp)]
    simp only [Result.andThen]
    rw [Oper.upon_value]
    go_wp2
    go_ret
    exact ⟨rfl, hf⟩
  · go_enter Tryz.func89, Tryz.ntmps89
    go_wp2
    rw [conv3 _ _ 45 45 120 (by decide) (by go_simp) (by go_simp) (by go_simp)]
    simp only [Result.andThen]
    rw [Oper.upon_value]
    go_wp2
    go_ret
    exact ⟨rfl, (hf.set ⟨w.heap.size + 1, 2, none⟩ (.int .u8 120) (hn _ rfl))⟩
  · go_enter Tryz.func89, Tryz.ntmps89
    go_wp2
    rw [conv3 _ _ 45 119 45 (by decide) (by go_simp) (by go_simp) (by go_simp)]
    simp only [Result.andThen]
    rw [Oper.upon_value]
    go_wp2
    go_ret
    exact ⟨rfl, (hf.set ⟨w.heap.size + 1, 1, none⟩ (.int .u8 119) (hn _ rfl))⟩
  · go_enter Tryz.func89, Tryz.ntmps89
    go_wp2
    rw [conv3 _ _ 45 119 120 (by decide) (by go_simp) (by go_simp) (by go_simp)]
    simp only [Result.andThen]
    rw [Oper.upon_value]
    go_wp2
    go_ret
    exact ⟨rfl, ((hf.set ⟨w.heap.size + 1, 1, none⟩ (.int .u8 119) (hn _ rfl)).set ⟨w.heap.size + 1, 2, none⟩ (.int .u8 120) (hn _ rfl))⟩
  · go_enter Tryz.func89, Tryz.ntmps89
    go_wp2
    rw [conv3 _ _ 114 45 45 (by decide) (by go_simp) (by go_simp) (by go_simp)]
    simp only [Result.andThen]
    rw [Oper.upon_value]
    go_wp2
    go_ret
    exact ⟨rfl, (hf.set ⟨w.heap.size + 1, 0, none⟩ (.int .u8 114) (hn _ rfl))⟩
  · go_enter Tryz.func89, Tryz.ntmps89
    go_wp2
    rw [conv3 _ _ 114 45 120 (by decide) (by go_simp) (by go_simp) (by go_simp)]
    simp only [Result.andThen]
    rw [Oper.upon_value]
    go_wp2
    go_ret
    exact ⟨rfl, ((hf.set ⟨w.heap.size + 1, 0, none⟩ (.int .u8 114) (hn _ rfl)).set ⟨w.heap.size + 1, 2, none⟩ (.int .u8 120) (hn _ rfl))⟩
  · go_enter Tryz.func89, Tryz.ntmps89
    go_wp2
    rw [conv3 _ _ 114 119 45 (by decide) (by go_simp) (by go_simp) (by go_simp)]
    simp only [Result.andThen]
    rw [Oper.upon_value]
    go_wp2
    go_ret
    exact ⟨rfl, ((hf.set ⟨w.heap.size + 1, 0, none⟩ (.int .u8 114) (hn _ rfl)).set ⟨w.heap.size + 1, 1, none⟩ (.int .u8 119) (hn _ rfl))⟩
  · go_enter Tryz.func89, Tryz.ntmps89
    go_wp2
    rw [conv3 _ _ 114 119 120 (by decide) (by go_simp) (by go_simp) (by go_simp)]
    simp only [Result.andThen]
    rw [Oper.upon_value]
    go_wp2
    go_ret
    exact ⟨rfl, (((hf.set ⟨w.heap.size + 1, 0, none⟩ (.int .u8 114) (hn _ rfl)).set ⟨w.heap.size + 1, 1, none⟩ (.int .u8 119) (hn _ rfl)).set ⟨w.heap.size + 1, 2, none⟩ (.int .u8 120) (hn _ rfl))⟩
end Go.Proofs.YtnidnmhcjngmeaaGreat.Scr

/-
  words.Rights, (*reader).rights.
  Conditions: none.
-/
namespace Go.Proofs.YtnidnmhcjngmeaaGreat.Scr
open Go.RowKit Go.Proofs.YtnidnmhcjngmeaaGreatW.PrintWords Go.Proofs.YtnidnmhcjngmeaaGreatW.PrintLast Go.Proofs.YtnidnmhcjngmeaaGreatW.PrintMore
def b3 (x : ByteArray) : Bool × Bool × Bool := ((x.data.getD 0 0).toNat == 114, (x.data.getD 1 0).toNat == 119, (x.data.getD 2 0).toNat == 120)
/-- What a text says as rights, or the error. -/
def rtP (x : ByteArray) : (Bool × Bool × Bool) × Int :=
  if x.size = 3 ∧ (rtext (b3 x).1 (b3 x).2.1 (b3 x).2.2).toList = x.toList then (b3 x, 0) else ((false, false, false), 12)
theorem load_blk {w : World} {b : Nat} {ty : TypeId} {cs : Array Value} {d : TypeDesc} (h : w.heap[b]? = some (.cells cs ty (0, 0))) (hu : Tryz.prog.underlying ty = some d) (hd : d.isRow = true) (hi : (Tryz.prog.info? ty).map (·.size) = some cs.size) :
    (loadVar ty ⟨b, 0, none⟩).run Tryz.prog w = .ok (.agg cs) w := by
  have := run_loadVar_mid (P := Tryz.prog) w b 0 ty cs.toList d (fun j v hv => (cell_of_row w b (0 + j) cs ty _ h).trans (by rw [Nat.zero_add]; simpa using hv)) hu hd (by simpa using hi)
  simpa using this
set_option maxRecDepth 100000 in
/-- A result that stands in a variable of three cells, and another one. -/
theorem ret3 {w : World} {b : Nat} {a : Act} {u v0 v1 v2 : Value} {Q : Ending → World → Prop} (hb : w.heap[b]? = some (.cells #[v0, v1, v2] 29 (0, 0))) (h2 : a.tmps.getD 2 undef = .pointer (some ⟨b, 0, none⟩)) (h3 : a.tmps.getD 3 undef = u) (hd : a.defers = [])
    (hq : Q (.returned (.tuple #[.agg #[v0, v1, v2], u])) w) : bodyPost Tryz.prog Tryz.f85 Q Exit.ret a w := by
  refine bodyPost_ret (v := .tuple #[.agg #[v0, v1, v2], u]) ?_ hd hq
  rw [results_cell_tmp rfl, h2, h3]
  have hl := load_blk hb Tryz.underlying29 rfl (by kernel_rfl)
  show ((loadVar 29 ⟨b, 0, none⟩).run Tryz.prog w).andThen _ = _
  rw [hl]
  rfl
set_option maxRecDepth 100000 in
set_option maxHeartbeats 1000000 in
theorem rights_ok (x : ByteArray) (w : World) : Calls Tryz.prog 85 #[.string x] w fun e w' => e = .returned (.tuple #[.agg #[.bool (rtP x).1.1, .bool (rtP x).1.2.1, .bool (rtP x).1.2.2], .int .i64 (rtP x).2]) ∧ Fr (fun _ => False) w w' := by
  have hz := blk_new w (.cells #[.bool false, .bool false, .bool false] 29)
  by_cases hs : x.size = 3
  · have h0 : 0 < x.size := by omega
    have h1 : 1 < x.size := by omega
    have h2 : 2 < x.size := by omega
    have hb3 : b3 x = (((x[0].toNat : Int) == 114), ((x[1].toNat : Int) == 119), ((x[2].toNat : Int) == 120)) := by
      have e : ∀ (n : Nat) (h : n < x.size) (c : Nat), ((x.data.getD n 0).toNat == c) = (((x[n]'h).toNat : Int) == (c : Int)) := fun n h c => by
        have : n < x.data.size := h
        have e2 : x.data.getD n 0 = x[n]'h := by
            show x.data.getD n 0 = x.data[n]
            rw [Array.getD_eq_getD_getElem?, Array.getElem?_eq_getElem this]; rfl
        rw [e2]
        by_cases h3 : (x[n]'h).toNat = c
        · simp [h3]
        · have : ((x[n]'h).toNat == c) = false := by simpa using h3
          rw [this]; symm; simpa using (by omega : ¬ ((x[n]'h).toNat : Int) = (c : Int))
      exact Prod.ext (e 0 h0 114) (Prod.ext (e 1 h1 119) (e 2 h2 120))
    have HR := Aside0.mk hb3
    clear hb3
    go_enter Tryz.func85, Tryz.ntmps85
    go_wp2
    go_region
    generalize ((x[0].toNat : Int) == 114) = ba at *
    generalize ((x[1].toNat : Int) == 119) = bb at *
    generalize ((x[2].toNat : Int) == 120) = bc at *
    by_cases he : (rtext ba bb bc).toList = x.toList
    · have q1 : ((rtext ba bb bc).toList != x.toList) = false := by simp [he]
      have q3 : ((rtext ba bb bc).toList == x.toList) = true := by simp [he]
      have e1 : rtP x = ((ba, bb, bc), 0) := by simp only [rtP, HR.out, hs, he, true_and, if_true]
      go_wp2_with (first
        | (go_at_call 89; (with_reducible refine (rtext_ok ba bb bc _).mono ?_); rintro e w1 ⟨rfl, hf1⟩
           have k1 : w1.heap[w.heap.size + 1]? = some (.cells #[.bool ba, .bool bb, .bool bc] 29 (0, 0)) := hf1.blk (blk_drew (by simpa using blk_new (w.alloc (.cells #[.bool false, .bool false, .bool false] 29)) (.cells #[.bool ba, .bool bb, .bool bc] 29 (0, 0)))) (fun h => h)
           have k2 : w1.heap[w.heap.size]? = some (.cells #[.bool false, .bool false, .bool false] 29 (0, 0)) := hf1.blk (blk_drew (blk_alloc hz _)) (fun h => h)
           have c0 : w1.cell? ⟨w.heap.size + 1, 0, none⟩ = some (.bool ba) := blk_cell k1 0
           have c1 : w1.cell? ⟨w.heap.size + 1, 1, none⟩ = some (.bool bb) := blk_cell k1 1
           have c2 : w1.cell? ⟨w.heap.size + 1, 2, none⟩ = some (.bool bc) := blk_cell k1 2
           have d0 : w1.cell? ⟨w.heap.size, 0, none⟩ = some (.bool false) := blk_cell k2 0
           have d1 : w1.cell? ⟨w.heap.size, 1, none⟩ = some (.bool false) := blk_cell k2 1
           have d2 : w1.cell? ⟨w.heap.size, 2, none⟩ = some (.bool false) := blk_cell k2 2
           have f0 := blk_frozen k2 0
           have f1 := blk_frozen k2 1
           have f2 := blk_frozen k2 2
           have hfw : Fr (fun _ => False) w w1 := ((((Fr.refl _ w).alloc _).alloc _).drew).trans hf1
           have hn : ∀ a : Addr, a.block = w.heap.size → a.block < w.heap.size → False := fun a e h => by omega))
      (try simp only [Exit.inBlock, Exit.then])
      exact ret3 (blk_set (blk_set (blk_set k2 0 (.bool ba)) 1 (.bool bb)) 2 (.bool bc)) rfl rfl rfl ⟨by rw [e1]; rfl, ((hfw.set _ _ (hn _ rfl)).set _ _ (hn _ rfl)).set _ _ (hn _ rfl)⟩
    · have q1 : ((rtext ba bb bc).toList != x.toList) = true := by simpa using he
      have q3 : ((rtext ba bb bc).toList == x.toList) = false := by simpa using he
      have e1 : rtP x = ((false, false, false), 12) := by simp only [rtP, HR.out, hs, he, and_false, if_false]
      go_wp2_with (first
        | (go_at_call 89; (with_reducible refine (rtext_ok ba bb bc _).mono ?_); rintro e w1 ⟨rfl, hf1⟩
           have k1 : w1.heap[w.heap.size + 1]? = some (.cells #[.bool ba, .bool bb, .bool bc] 29 (0, 0)) := hf1.blk (blk_drew (by simpa using blk_new (w.alloc (.cells #[.bool false, .bool false, .bool false] 29)) (.cells #[.bool ba, .bool bb, .bool bc] 29 (0, 0)))) (fun h => h)
           have k2 : w1.heap[w.heap.size]? = some (.cells #[.bool false, .bool false, .bool false] 29 (0, 0)) := hf1.blk (blk_drew (blk_alloc hz _)) (fun h => h)
           have c0 : w1.cell? ⟨w.heap.size + 1, 0, none⟩ = some (.bool ba) := blk_cell k1 0
           have c1 : w1.cell? ⟨w.heap.size + 1, 1, none⟩ = some (.bool bb) := blk_cell k1 1
           have c2 : w1.cell? ⟨w.heap.size + 1, 2, none⟩ = some (.bool bc) := blk_cell k1 2
           have d0 : w1.cell? ⟨w.heap.size, 0, none⟩ = some (.bool false) := blk_cell k2 0
           have d1 : w1.cell? ⟨w.heap.size, 1, none⟩ = some (.bool false) := blk_cell k2 1
           have d2 : w1.cell? ⟨w.heap.size, 2, none⟩ = some (.bool false) := blk_cell k2 2
           have f0 := blk_frozen k2 0
           have f1 := blk_frozen k2 1
           have f2 := blk_frozen k2 2
           have hfw : Fr (fun _ => False) w w1 := ((((Fr.refl _ w).alloc _).alloc _).drew).trans hf1
           have hn : ∀ a : Addr, a.block = w.heap.size → a.block < w.heap.size → False := fun a e h => by omega))
      (try simp only [Exit.inBlock, Exit.then])
      exact ret3 (blk_set (blk_set (blk_set k2 0 (.bool false)) 1 (.bool false)) 2 (.bool false)) rfl rfl rfl ⟨by rw [e1]; rfl, ((hfw.set _ _ (hn _ rfl)).set _ _ (hn _ rfl)).set _ _ (hn _ rfl)⟩
  · have e1 : rtP x = ((false, false, false), 12) := by simp [rtP, hs]
    rw [e1]
    have q1 : ((x.size : Int) != 3) = true := by simpa using (by omega : ¬ (x.size : Int) = 3)
    have q2 : ¬ (x.size : Int) = 3 := by omega
    go_enter Tryz.func85, Tryz.ntmps85
    go_wp2
    (try simp only [Exit.inBlock, Exit.then])
    exact ret3 hz rfl rfl rfl ⟨rfl, (Fr.refl _ w).alloc _⟩
theorem one3 (x y z : Bool) : (#[Value.bool x, Value.bool y, Value.bool z]).all (·.oneCell') = true := by kernel_rfl
set_option maxHeartbeats 1000000 in
theorem rrights_ok (m : Nat) (g : Nat × Nat) (cp : Nat) (ws : List ByteArray) (R n : Nat) (bad : Bad) (b o : Nat) (cs : Array Value) (t : TypeId) (old : Bool × Bool × Bool) (w : World) (h : Rd m g cp ws R n bad w)
    (hb : w.heap[b]? = some (.cells cs t (0, 0))) (ho : cs[o]? = some (.bool old.1)) (ho1 : cs[o + 1]? = some (.bool old.2.1)) (ho2 : cs[o + 2]? = some (.bool old.2.2)) (hm : m ≤ b) (ht : t ≠ 45) (hne : b ≠ R) :
    Calls Tryz.prog 80 #[.pointer (some ⟨R, 0, none⟩), .pointer (some ⟨b, o, none⟩)] w (MP m g cp ws R b t w (step ws n bad old fun x => if (rtP x).2 == 0 then .ok (rtP x).1 else .error (rtP x).2).1 (step ws n bad old fun x => if (rtP x).2 == 0 then .ok (rtP x).1 else .error (rtP x).2).2.1
      (((cs.setIfInBounds o (.bool (step ws n bad old fun x => if (rtP x).2 == 0 then .ok (rtP x).1 else .error (rtP x).2).2.2.1)).setIfInBounds (o + 1) (.bool (step ws n bad old fun x => if (rtP x).2 == 0 then .ok (rtP x).1 else .error (rtP x).2).2.2.2.1)).setIfInBounds (o + 2)
        (.bool (step ws n bad old fun x => if (rtP x).2 == 0 then .ok (rtP x).1 else .error (rtP x).2).2.2.2.2))) := by
  have hR : ∀ w1, Fr (fun k => k = R) w w1 → w1.heap[b]? = some (.cells cs t (0, 0)) := fun w1 hf => hf.blk hb hne
  have hsame : ((cs.setIfInBounds o (.bool old.1)).setIfInBounds (o + 1) (.bool old.2.1)).setIfInBounds (o + 2) (.bool old.2.2) = cs := by rw [set_same ho, set_same ho1, set_same ho2]
  have herr : ∀ {w' : World} {n' : Nat} {bad' : Bad}, Rd m g cp ws R n' bad' w' → Fr (fun k => k = R) w w' → MP m g cp ws R b t w n' bad' (((cs.setIfInBounds o (.bool old.1)).setIfInBounds (o + 1) (.bool old.2.1)).setIfInBounds (o + 2) (.bool old.2.2)) (.returned (.tuple #[])) w' :=
    fun hr hf => ⟨rfl, hr, by rw [hsame]; exact hf.blk hb hne, hf.mono fun k _ e => Or.inl e⟩
  rcases bad with _ | f
  · by_cases hn : n < ws.length
    · simp only [step, hn, dite_true]
      have hk := rights_ok ws[n]
      generalize hv : rtP ws[n] = r at hk ⊢
      obtain ⟨⟨x, y, z⟩, c⟩ := r
      by_cases hc : c = 0
      · subst hc
        simp only [beq_self_eq_true, if_true]
        go_enter Tryz.func80, Tryz.ntmps80
        go_wp2_with (first
          | (go_at_call 82; (with_reducible refine (word_next m g cp ws R n _ h hn).mono ?_); rintro e w1 ⟨rfl, hr1, hf1⟩)
          | (go_at_call 85; (with_reducible refine (hk _).mono ?_); rintro e w2 ⟨rfl, hf2⟩
             have hf12 := hf1.then hf2 (fun _ _ h => h.elim)
             have hb2 := hR _ hf12
             have lb := blk_lt hb2
             have hr2 := hr1.keep hf2 (fun _ _ h => h.elim) (fun h => h)
             have ht2 : ∀ o', (w2.alloc o').there b o 3 := fun o' j hj => by
               have e := blk_cell (blk_alloc hb2 o') (o + j)
               refine ⟨?_, blk_frozen (blk_alloc hb2 o') (o + j)⟩
               rw [e]
               match j, hj with
               | 0, _ => rw [Nat.add_zero, ho]; rfl
               | 1, _ => rw [ho1]; rfl
               | 2, _ => rw [ho2]; rfl)
          | ((with_reducible refine gate_store (t := 29) (p := 30) rfl ?_); go_loud (refine wpList_store_mid rfl 29 (.tmp 30) (.tmp 29) rfl b o #[.bool x, .bool y, .bool z] rfl rfl (ht2 _) (by kernel_rfl) (one3 x y z) ?_)))
        go_end0
        have hb3 := blk_set (blk_set (blk_set (blk_alloc hb2 (.cells #[.bool x, .bool y, .bool z] 29)) o (.bool x)) (o + 1) (.bool y)) (o + 2) (.bool z)
        have hfr : Fr (fun k => k = R ∨ k = b) w2 ((((w2.alloc (.cells #[.bool x, .bool y, .bool z] 29)).setCell ⟨b, o, none⟩ (.bool x)).setCell ⟨b, o + 1, none⟩ (.bool y)).setCell ⟨b, o + 2, none⟩ (.bool z)) := ((((Fr.refl (fun k => k = R ∨ k = b) w2).alloc _).set ⟨b, o, none⟩ _ (fun _ => Or.inr rfl)).set ⟨b, o + 1, none⟩ _ (fun _ => Or.inr rfl)).set ⟨b, o + 2, none⟩ _ (fun _ => Or.inr rfl)
        have hfr2 : Fr (fun k => k = b) w2 ((((w2.alloc (.cells #[.bool x, .bool y, .bool z] 29)).setCell ⟨b, o, none⟩ (.bool x)).setCell ⟨b, o + 1, none⟩ (.bool y)).setCell ⟨b, o + 2, none⟩ (.bool z)) := ((((Fr.refl (fun k => k = b) w2).alloc _).set ⟨b, o, none⟩ _ (fun _ => rfl)).set ⟨b, o + 1, none⟩ _ (fun _ => rfl)).set ⟨b, o + 2, none⟩ _ (fun _ => rfl)
        exact ⟨rfl, hr2.keep hfr2 (fun k _ e => e ▸ ⟨hm, _, _, hb2, ht⟩) (fun e => hne e.symm), hb3, (hf12.mono fun k _ e => Or.inl e).trans hfr⟩
      · have q0 : (c == 0) = false := by simpa using hc
        have q1 : (c != 0) = true := by simpa using hc
        simp only [q0, Bool.false_eq_true, if_false]
        go_enter Tryz.func80, Tryz.ntmps80
        go_wp2_with (first
          | (go_at_call 82; (with_reducible refine (word_next m g cp ws R n _ h hn).mono ?_); rintro e w1 ⟨rfl, hr1, hf1⟩)
          | (go_at_call 85; (with_reducible refine (hk _).mono ?_); rintro e w2 ⟨rfl, hf2⟩
             have hf12 := hf1.then hf2 (fun _ _ h => h.elim)
             have hr2 := hr1.keep hf2 (fun _ _ h => h.elim) (fun h => h))
          | (go_at_call 17; (with_reducible refine (fail_ok m g cp ws R (n + 1) none c n _ (hr2.keep ((Fr.refl (fun _ => False) _).alloc _) (fun _ _ h => h.elim) (fun h => h))).mono ?_); rintro e w3 ⟨rfl, hr3, hf3⟩))
        go_end0
        exact herr hr3 ((hf12.alloc _).trans hf3)
    · simp only [step, hn, dite_false]
      go_enter Tryz.func80, Tryz.ntmps80
      go_wp2_with (first
        | (go_at_call 82; (with_reducible refine (word_end m g cp ws R n _ h (h.le' hn)).mono ?_); rintro e w1 ⟨rfl, hr1, hf1⟩))
      go_end0
      exact herr hr1 hf1
  · simp only [step]
    go_enter Tryz.func80, Tryz.ntmps80
    go_wp2_with (first
      | (go_at_call 82; (with_reducible refine (word_bad m g cp ws R n f _ h).mono ?_); rintro e w1 ⟨rfl, rfl⟩))
    go_end0
    exact herr h (.refl _ _)
end Go.Proofs.YtnidnmhcjngmeaaGreat.Scr

/-
  script.long, short, small, not, numbers over a reader.
  Conditions: none.
-/
namespace Go.Proofs.YtnidnmhcjngmeaaGreat.Scr
open Go.RowKit Go.Proofs.YtnidnmhcjngmeaaGreatW.PrintWords Go.Proofs.YtnidnmhcjngmeaaGreatW.PrintLast Go.Proofs.YtnidnmhcjngmeaaGreatW.PrintMore
theorem met_number (a : Addr) (w : World) : (method 282 59 (.pointer (some a)) "atlas/script.number").run Tryz.prog w = .ok (79, .pointer (some a)) w := by kernel_rfl
theorem met_name (a : Addr) (w : World) : (method 282 59 (.pointer (some a)) "atlas/script.name").run Tryz.prog w = .ok (78, .pointer (some a)) w := by kernel_rfl
theorem nil_name (a : Addr) (w : World) : (nilAhead 282 59 (.pointer (some a)) "atlas/script.name").run Tryz.prog w = .ok (some false) w := by kernel_rfl
theorem met_size (a : Addr) (w : World) : (method 282 59 (.pointer (some a)) "atlas/script.size").run Tryz.prog w = .ok (81, .pointer (some a)) w := by kernel_rfl
theorem nil_size (a : Addr) (w : World) : (nilAhead 282 59 (.pointer (some a)) "atlas/script.size").run Tryz.prog w = .ok (some false) w := by kernel_rfl
theorem met_rights (a : Addr) (w : World) : (method 282 59 (.pointer (some a)) "atlas/script.rights").run Tryz.prog w = .ok (80, .pointer (some a)) w := by kernel_rfl
theorem nil_rights (a : Addr) (w : World) : (nilAhead 282 59 (.pointer (some a)) "atlas/script.rights").run Tryz.prog w = .ok (some false) w := by kernel_rfl
theorem met_choice (a : Addr) (w : World) : (method 282 59 (.pointer (some a)) "atlas/script.choice").run Tryz.prog w = .ok (76, .pointer (some a)) w := by kernel_rfl
theorem nil_choice (a : Addr) (w : World) : (nilAhead 282 59 (.pointer (some a)) "atlas/script.choice").run Tryz.prog w = .ok (some false) w := by kernel_rfl
theorem met_flag (a : Addr) (w : World) : (method 282 59 (.pointer (some a)) "atlas/script.flag").run Tryz.prog w = .ok (77, .pointer (some a)) w := by kernel_rfl
theorem nil_flag (a : Addr) (w : World) : (nilAhead 282 59 (.pointer (some a)) "atlas/script.flag").run Tryz.prog w = .ok (some false) w := by kernel_rfl
abbrev numG (S : Says) (limit : Int) (x : ByteArray) : Except Int Int := if (S.nu x).2 == 0 && decide ((S.nu x).1 < limit) then .ok (S.nu x).1 else .error 11
set_option maxRecDepth 100000 in
theorem long_ok (S : Says) (m : Nat) (g : Nat × Nat) (cp : Nat) (ws : List ByteArray) (R n : Nat) (bad : Bad) (b o : Nat) (cs : Array Value) (t : TypeId) (old : Int) (w : World) (h : Rd m g cp ws R n bad w) (hS : S.ok ws)
    (hb : w.heap[b]? = some (.cells cs t (0, 0))) (ho : cs[o]? = some (.int .u64 old)) (hm : m ≤ b) (ht : t ≠ 45) (hne : b ≠ R) :
    Calls Tryz.prog 34 #[.iface 59 (.pointer (some ⟨R, 0, none⟩)), .pointer (some ⟨b, o, none⟩)] w (MP m g cp ws R b t w (step ws n bad old (numG S 1099511627776)).1 (step ws n bad old (numG S 1099511627776)).2.1
      (cs.setIfInBounds o (.int .u64 (step ws n bad old (numG S 1099511627776)).2.2))) := by
  have hm1 := met_number
  go_enter Tryz.func34, Tryz.ntmps34
  go_wp2_with (first
    | (go_at_call 79; (with_reducible refine (number_ok S m g cp ws R n bad b o cs t old 1099511627776 true _ h hS hb ho hm ht hne).mono ?_); rintro e w1 ⟨rfl, hr1, hb1, hf1⟩))
  go_end0
  exact ⟨rfl, hr1, hb1, hf1⟩
theorem num_bound {S : Says} {ws : List ByteArray} (hS : S.ok ws) (n : Nat) (bad : Bad) (old limit : Int) (h0 : 0 ≤ old) (P : Int → Prop) (hp : P old) (hq : ∀ v, 0 ≤ v → v < limit → P v) : P (step ws n bad old (numG S limit)).2.2 := by
  unfold step
  split
  · exact hp
  · split
    · rename_i hn
      split
      · rename_i v hv
        simp only [numG] at hv
        split at hv
        · cases hv
          rename_i hc
          simp only [Bool.and_eq_true, decide_eq_true_eq] at hc
          exact hq _ (hS.nu0 _ (List.getElem_mem hn)) hc.2
        · cases hv
      · exact hp
    · exact hp
theorem Rd.msize {m : Nat} {g : Nat × Nat} {cp : Nat} {ws : List ByteArray} {R n : Nat} {bad : Bad} {w : World} (h : Rd m g cp ws R n bad w) : m ≤ w.heap.size := by have := h.mR; have := h.lt; omega
/-- A variable of one cell is made. -/
theorem Rd.box {m : Nat} {g : Nat × Nat} {cp : Nat} {ws : List ByteArray} {R n : Nat} {bad : Bad} {w : World} (h : Rd m g cp ws R n bad w) (o : Obj) : Rd m g cp ws R n bad (w.alloc o) := h.keep ((Fr.refl (fun _ => False) w).alloc o) (fun _ _ h => h.elim) (fun h => h)
/-- What is left behind a call over a variable of one's own, and a store into the field. -/
theorem MP.own {m : Nat} {g : Nat × Nat} {cp : Nat} {ws : List ByteArray} {R b : Nat} {t : TypeId} {w w1 : World} {n : Nat} {bad : Bad} {cs : Array Value} {o : Nat} (v : Value) (hb : w.heap[b]? = some (.cells cs t (0, 0))) (hm : m ≤ b) (ht : t ≠ 45) (hne : b ≠ R)
    (hr : Rd m g cp ws R n bad w1) (hf : Fr (fun k => k = R ∨ k = w.heap.size) w w1) : MP m g cp ws R b t w n bad (cs.setIfInBounds o v) (.returned (.tuple #[])) (w1.setCell ⟨b, o, none⟩ v) := by
  have hf1 : Fr (fun k => k = R) w w1 := hf.mono fun k hk e => e.resolve_right (Nat.ne_of_lt hk)
  exact .put v hb hm ht hne hr hf1
set_option maxRecDepth 100000 in
theorem short_ok (S : Says) (m : Nat) (g : Nat × Nat) (cp : Nat) (ws : List ByteArray) (R n : Nat) (bad : Bad) (b o : Nat) (cs : Array Value) (t : TypeId) (old : Int) (w : World) (h : Rd m g cp ws R n bad w) (hS : S.ok ws)
    (hb : w.heap[b]? = some (.cells cs t (0, 0))) (ho : cs[o]? = some (.int .u32 old)) (h0 : 0 ≤ old ∧ old < 4294967296) (hm : m ≤ b) (ht : t ≠ 45) (hne : b ≠ R) (hex : Bool) :
    Calls Tryz.prog 31 #[.iface 59 (.pointer (some ⟨R, 0, none⟩)), .pointer (some ⟨b, o, none⟩), .bool hex] w (MP m g cp ws R b t w (step ws n bad old (numG S 4294967296)).1 (step ws n bad old (numG S 4294967296)).2.1
      (cs.setIfInBounds o (.int .u32 (step ws n bad old (numG S 4294967296)).2.2))) := by
  have hm1 := met_number
  have lb := blk_lt hb
  have lR := h.lt
  have e1 : IntKind.wrap .u64 old = old := by rw [IntKind.wrap_u64]; omega
  have hv := num_bound hS n bad old 4294967296 h0.1 (fun v => 0 ≤ v ∧ v < 4294967296) h0 (fun v a b => ⟨a, b⟩)
  have hc0 : w.cell? ⟨b, o, none⟩ = some (.int .u32 old) := (blk_cell hb o).trans ho
  have hcall := fun w1 hw1 hc1 => number_ok S m g cp ws R n bad w.heap.size 0 #[.int .u64 old] 27 old 4294967296 hex w1 hw1 hS hc1 rfl h.msize (by decide) (by omega)
  generalize step ws n bad old (numG S 4294967296) = r at *
  obtain ⟨n', bad', v⟩ := r
  have e2 : IntKind.wrap .u32 v = v := by rw [IntKind.wrap_u32]; simp only at hv; omega
  go_enter Tryz.func31, Tryz.ntmps31
  go_wp2_with (first
    | (go_at_call 79; (with_reducible refine (hcall _ (h.box _) (blk_new w _)).mono ?_); rintro e w1 ⟨rfl, hr1, hb1, hf1⟩
       have hf2 : Fr (fun k => k = R ∨ k = w.heap.size) w w1 := ((Fr.refl _ w).alloc _).trans ⟨hf1.os, hf1.tape, hf1.output, hf1.size, hf1.block⟩
       have hbb := hf2.blk hb (fun e => e.elim hne (Nat.ne_of_lt lb))
       have cb := (blk_cell hbb o).trans ho
       have fb := blk_frozen hbb o
       have cv : w1.cell? ⟨w.heap.size, 0, none⟩ = some (.int .u64 v) := blk_cell hb1 0))
  go_end0
  exact .own (.int .u32 v) hb hm ht hne hr1 hf2
set_option maxRecDepth 100000 in
theorem small_ok (S : Says) (m : Nat) (g : Nat × Nat) (cp : Nat) (ws : List ByteArray) (R n : Nat) (bad : Bad) (b o : Nat) (cs : Array Value) (t : TypeId) (old limit : Int) (w : World) (h : Rd m g cp ws R n bad w) (hS : S.ok ws)
    (hb : w.heap[b]? = some (.cells cs t (0, 0))) (ho : cs[o]? = some (.int .i64 old)) (h0 : 0 ≤ old ∧ old < limit) (hl : limit ≤ 2147483648) (hm : m ≤ b) (ht : t ≠ 45) (hne : b ≠ R) :
    Calls Tryz.prog 32 #[.iface 59 (.pointer (some ⟨R, 0, none⟩)), .pointer (some ⟨b, o, none⟩), .int .u64 limit] w (MP m g cp ws R b t w (step ws n bad old (numG S limit)).1 (step ws n bad old (numG S limit)).2.1
      (cs.setIfInBounds o (.int .i64 (step ws n bad old (numG S limit)).2.2))) := by
  have hm1 := met_number
  have lb := blk_lt hb
  have lR := h.lt
  have e1 : IntKind.wrap .u64 old = old := by rw [IntKind.wrap_u64]; omega
  have q0 : old ≥ 0 := h0.1
  have q1 : 0 ≤ old := h0.1
  have q2 : decide (old ≥ 0) = true := decide_eq_true q0
  have hv := num_bound hS n bad old limit h0.1 (fun v => 0 ≤ v ∧ v < limit) h0 (fun v a b => ⟨a, b⟩)
  have hc0 : w.cell? ⟨b, o, none⟩ = some (.int .i64 old) := (blk_cell hb o).trans ho
  have hc1 : ∀ o', (w.alloc o').cell? ⟨b, o, none⟩ = some (.int .i64 old) := fun o' => (blk_cell (blk_alloc hb o') o).trans ho
  have hcall := fun w1 hw1 hc1 => number_ok S m g cp ws R n bad w.heap.size 0 #[.int .u64 old] 27 old limit false w1 hw1 hS hc1 rfl h.msize (by decide) (by omega)
  generalize step ws n bad old (numG S limit) = r at *
  obtain ⟨n', bad', v⟩ := r
  have e2 : IntKind.wrap .i64 v = v := by rw [IntKind.wrap_i64]; simp only at hv; omega
  have p1 : v < limit := hv.2
  have p2 : decide (v < limit) = true := decide_eq_true p1
  go_enter Tryz.func32, Tryz.ntmps32
  go_wp2_with (first
    | (go_at_call 79; (with_reducible refine (hcall _ (h.box _) (blk_new w _)).mono ?_); rintro e w1 ⟨rfl, hr1, hb1, hf1⟩
       have hf2 : Fr (fun k => k = R ∨ k = w.heap.size) w w1 := ((Fr.refl _ w).alloc _).trans ⟨hf1.os, hf1.tape, hf1.output, hf1.size, hf1.block⟩
       have hbb := hf2.blk hb (fun e => e.elim hne (Nat.ne_of_lt lb))
       have cb := (blk_cell hbb o).trans ho
       have fb := blk_frozen hbb o
       have cv : w1.cell? ⟨w.heap.size, 0, none⟩ = some (.int .u64 v) := blk_cell hb1 0))
  go_end0
  exact .own (.int .i64 v) hb hm ht hne hr1 hf2
set_option maxRecDepth 100000 in
theorem not_ok (m : Nat) (g : Nat × Nat) (cp : Nat) (ws : List ByteArray) (R n : Nat) (bad : Bad) (b o : Nat) (cs : Array Value) (t : TypeId) (old : Bool) (word : ByteArray) (w : World) (h : Rd m g cp ws R n bad w)
    (hb : w.heap[b]? = some (.cells cs t (0, 0))) (ho : cs[o]? = some (.bool old)) (hm : m ≤ b) (ht : t ≠ 45) (hne : b ≠ R) :
    Calls Tryz.prog 51 #[.iface 59 (.pointer (some ⟨R, 0, none⟩)), .pointer (some ⟨b, o, none⟩), .string word] w (MP m g cp ws R b t w (flagP ws n bad (!old) word).1 (flagP ws n bad (!old) word).2.1
      (cs.setIfInBounds o (.bool (!(flagP ws n bad (!old) word).2.2)))) := by
  have hm1 := met_flag
  have lb := blk_lt hb
  have lR := h.lt
  have hc0 : w.cell? ⟨b, o, none⟩ = some (.bool old) := (blk_cell hb o).trans ho
  have hcall := fun w1 hw1 hc1 => flag_ok m g cp ws R n bad w.heap.size 0 #[.bool (!old)] 4 (!old) word w1 hw1 hc1 rfl h.msize (by decide) (by omega)
  generalize flagP ws n bad (!old) word = r at *
  obtain ⟨n', bad', v⟩ := r
  go_enter Tryz.func51, Tryz.ntmps51
  go_wp2_with (first
    | (go_at_call 77; (with_reducible refine (hcall _ (h.box _) (blk_new w _)).mono ?_); rintro e w1 ⟨rfl, hr1, hb1, hf1⟩
       have hf2 : Fr (fun k => k = R ∨ k = w.heap.size) w w1 := ((Fr.refl _ w).alloc _).trans ⟨hf1.os, hf1.tape, hf1.output, hf1.size, hf1.block⟩
       have hbb := hf2.blk hb (fun e => e.elim hne (Nat.ne_of_lt lb))
       have cb := (blk_cell hbb o).trans ho
       have fb := blk_frozen hbb o
       have cv : w1.cell? ⟨w.heap.size, 0, none⟩ = some (.bool v) := blk_cell hb1 0))
  go_end0
  exact .own (.bool (!v)) hb hm ht hne hr1 hf2
/-- Numbers of the kind of an int, one cell behind the other. -/
def numsP (S : Says) (ws : List ByteArray) (o : Nat) : Nat → Nat × Bad × Array Value → Nat × Bad × Array Value
  | 0, st => st
  | k + 1, st => let st1 := numsP S ws o k st; let r := step ws st1.1 st1.2.1 0 (numG S 2147483648); (r.1, r.2.1, st1.2.2.setIfInBounds (o + k) (.int .i64 r.2.2))
theorem numsP_far (S : Says) (ws : List ByteArray) (o : Nat) (st : Nat × Bad × Array Value) : ∀ (k j : Nat), o + k ≤ j → (numsP S ws o k st).2.2[j]? = st.2.2[j]?
  | 0, j, _ => rfl
  | k + 1, j, h => by
    show (Array.setIfInBounds _ (o + k) _)[j]? = _
    rw [Array.getElem?_setIfInBounds_ne (by omega)]
    exact numsP_far S ws o st k j (by omega)
set_option maxRecDepth 100000 in
set_option maxHeartbeats 1000000 in
theorem numbers_ok (S : Says) (m : Nat) (g : Nat × Nat) (cp : Nat) (ws : List ByteArray) (R n : Nat) (bad : Bad) (b o k q : Nat) (cs : Array Value) (t : TypeId) (w : World) (h : Rd m g cp ws R n bad w) (hS : S.ok ws)
    (hb : w.heap[b]? = some (.cells cs t (0, 0))) (ho : ∀ j, j < k → cs[o + j]? = some (.int .i64 0)) (hk : k ≤ 100) (hm : m ≤ b) (ht : t ≠ 45) (hne : b ≠ R)
    (hl : ∀ j, j < k → w.cell? ⟨q, j, none⟩ = some (.pointer (some ⟨b, o + j, none⟩))) (hq : q ≠ R) (hqb : q ≠ b) :
    Calls Tryz.prog 26 #[.iface 59 (.pointer (some ⟨R, 0, none⟩)), .slice (some ⟨q, 0, none⟩) k k] w (MP m g cp ws R b t w (numsP S ws o k (n, bad, cs)).1 (numsP S ws o k (n, bad, cs)).2.1 (numsP S ws o k (n, bad, cs)).2.2) := by
  have HL := Aside0.mk hl
  have HO := Aside0.mk ho
  clear hl ho
  go_enter Tryz.func26, Tryz.ntmps26
  go_wp2
  go_loopg [8] (k + 1) (fun kq v8 w' => ∃ i : Nat, v8 = .int .i64 (i : Int) ∧ Aside0 (i + kq = k + 1 ∧ i ≤ k) ∧ Aside0 (MP m g cp ws R b t w (numsP S ws o i (n, bad, cs)).1 (numsP S ws o i (n, bad, cs)).2.1 (numsP S ws o i (n, bad, cs)).2.2 (.returned (.tuple #[])) w'))
  case atStart => exact ⟨0, rfl, ⟨by omega, by omega⟩, ⟨rfl, h, hb, .refl _ _⟩⟩
  case round =>
    obtain ⟨i, rfl, HI, HM⟩ := hrel
    have hI := HI.out
    cases gk with
    | zero => omega
    | succ k1 =>
      by_cases hi : i < k
      · have d1 : decide ((i : Int) < (k : Int)) = true := decide_eq_true (by omega)
        have q1 : 0 ≤ (i : Int) ∧ (i : Int) < (k : Int) := by omega
        obtain ⟨_, hrd, hbk, hfr⟩ := HM.out
        have hoi := (numsP_far S ws o (n, bad, cs) i (o + i) (by omega)).trans (HO.out i hi)
        have hz : (0 : Int) ≤ 0 ∧ (0 : Int) < 2147483648 := by decide
        have hx0 := HL.out i hi
        have hx : wr.cell? ⟨q, i, none⟩ = some (.pointer (some ⟨b, o + i, none⟩)) := by
          have hlt : q < w.heap.size := World.block_lt_of_cell? w ⟨q, i, none⟩ hx0
          have := hfr.block q hlt (fun e => e.elim hq hqb)
          simpa [World.cell?, this] using hx0
        clear hx0
        go_wp2_with (first
          | (go_at_call 32; (with_reducible refine (small_ok S m g cp ws R (numsP S ws o i (n, bad, cs)).1 (numsP S ws o i (n, bad, cs)).2.1 b (o + i) (numsP S ws o i (n, bad, cs)).2.2 t 0 2147483648 _ hrd hS hbk hoi hz (Int.le_refl _) hm ht hne).mono ?_); rintro e w1 ⟨rfl, hr1, hb1, hf1⟩))
        go_roundg k1
        case measure => omega
        case rel => exact ⟨i + 1, rfl, ⟨by omega, by omega⟩, ⟨rfl, hr1, hb1, hfr.trans hf1⟩⟩
      · have hi2 : i = k := by omega
        subst hi2
        have d1 : decide ((i : Int) < (i : Int)) = false := decide_eq_false (by omega)
        go_wp2
        go_end0
        exact HM.out
end Go.Proofs.YtnidnmhcjngmeaaGreat.Scr
