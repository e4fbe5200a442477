/-
  The form of a noise.
  Conditions: none.
-/
import Derived.Test.YtnidnmhcjngmeaaGreatScrC
import Derived.Deep.RegionHeld

set_option linter.unusedVariables false
set_option linter.unusedSimpArgs false
set_option autoImplicit false
namespace Go.Proofs.YtnidnmhcjngmeaaGreat.Scr
open Go.RowKit Go.Proofs.YtnidnmhcjngmeaaGreatW.PrintWords Go.Proofs.YtnidnmhcjngmeaaGreatW.PrintLast Go.Proofs.YtnidnmhcjngmeaaGreatW.PrintMore
variable {m : Nat} {g : Nat × Nat} {cp : Nat} {ws : List ByteArray} {R C : Nat} {w0 : World} {st : St} {w : World}
def wActs : List ByteArray := [⟨#[110, 111, 110, 101]⟩, ⟨#[101, 118, 105, 99, 116]⟩, ⟨#[102, 105, 108, 108]⟩]
def wDirs : List ByteArray := [⟨#[105]⟩, ⟨#[100]⟩, ⟨#[109, 97, 105, 110]⟩]
def wHows : List ByteArray := [⟨#[102, 101, 116, 99, 104]⟩, ⟨#[108, 111, 97, 100]⟩]
abbrev tFirst : ByteArray := ⟨#[102, 105, 114, 115, 116]⟩
def sAct (ws : List ByteArray) (st : St) : St := let r := step ws st.1 st.2.1 (st.2.2.f7 + 1) (choice wActs); (r.1, r.2.1, { st.2.2 with f7 := r.2.2 - 1 })
def sWhich (ws : List ByteArray) (st : St) : St := let r := step ws st.1 st.2.1 st.2.2.f8 (choice wDirs); (r.1, r.2.1, { st.2.2 with f8 := r.2.2 })
def sHow (ws : List ByteArray) (st : St) : St := let r := step ws st.1 st.2.1 2 (choice wHows); (r.1, r.2.1, { st.2.2 with f11 := r.2.2 == 1 })
def fNoise (S : Says) (ws : List ByteArray) (st : St) : St :=
  sFirst tFirst S ws (sPick S ws (if (sAct ws st).2.2.f7 = 1 then sSlot S ws (sWhich ws (sAct ws st)) else if (sAct ws st).2.2.f7 = 2 then sHow ws (sNVA S ws (sAct ws st)) else sAct ws st))
theorem choice_val {l : List ByteArray} {x : ByteArray} {v : Int} (h : choice l x = .ok v) : 1 ≤ v ∧ v ≤ l.length := by
  unfold choice at h
  split at h
  · rename_i i hi
    cases h
    have := (List.findIdx?_eq_some_iff_getElem.1 hi).1
    omega
  · cases h
theorem step_choice (ws : List ByteArray) (n : Nat) (bad : Bad) (old : Int) (l : List ByteArray) (h0 : 1 ≤ old ∧ old ≤ l.length) : 1 ≤ (step ws n bad old (choice l)).2.2 ∧ (step ws n bad old (choice l)).2.2 ≤ l.length := by
  unfold step
  split
  · exact h0
  · split
    · split
      · rename_i h; exact choice_val h
      · exact h0
    · exact h0
theorem lit_cells {w : World} {q : Nat} {l : List ByteArray} {t : TypeId} (h : w.heap[q]? = some (.cells (l.map Value.string).toArray t (0, 0))) (i : Nat) (hi : i < l.length) : w.cell? ⟨q, i, none⟩ = some (.string l[i]) := by
  rw [blk_cell h i]; simp [hi]
/-- A choice into a variable of one's own. -/
theorem choice_own (h : At m g cp ws R C w0 st w) {A q : Nat} {t : TypeId} {old : Int} {l : List ByteArray} (hA : w.heap[A]? = some (.cells #[.int .i64 old] t (0, 0))) (hm : m ≤ A) (ht : t ≠ 45) (hR : A ≠ R) (hC : A ≠ C) (h0 : w0.heap.size ≤ A)
    {tq : TypeId} (hq : w.heap[q]? = some (.cells (l.map Value.string).toArray tq (0, 0))) (hqR : q ≠ R) (hlen : l.length ≤ 1000) :
    Calls Tryz.prog 76 #[.pointer (some ⟨R, 0, none⟩), .pointer (some ⟨A, 0, none⟩), .slice (some ⟨q, 0, none⟩) l.length l.length] w fun e w' => e = .returned (.tuple #[]) ∧ At m g cp ws R C w0 ((step ws st.1 st.2.1 old (choice l)).1, (step ws st.1 st.2.1 old (choice l)).2.1, st.2.2) w' ∧
      w'.heap[A]? = some (.cells #[.int .i64 (step ws st.1 st.2.1 old (choice l)).2.2] t (0, 0)) := by
  refine (choice_ok m g cp ws R st.1 st.2.1 A 0 #[.int .i64 old] t old l q w h.rd hA rfl hm ht hR (fun i hi => lit_cells hq i hi) hqR hlen).mono ?_
  rintro e w' ⟨rfl, h1, h2, h3⟩
  refine ⟨rfl, ⟨h1, h3.blk h.blk (fun e => e.elim h.ne (fun e => hC e.symm)), h.fr.then h3 (fun k hk e => e.elim Or.inl (fun e => by omega)), h.mC, h.ne⟩, h2⟩
theorem which_ok (h : At m g cp ws R C w0 st w) {q : Nat} {tq : TypeId} (hq : w.heap[q]? = some (.cells (wDirs.map Value.string).toArray tq (0, 0))) (hqR : q ≠ R) :
    Calls Tryz.prog 76 #[.pointer (some ⟨R, 0, none⟩), .pointer (some ⟨C, 8, none⟩), .slice (some ⟨q, 0, none⟩) 3 3] w fun e w' => e = .returned (.tuple #[]) ∧ At m g cp ws R C w0 (sWhich ws st) w' :=
  (choice_ok m g cp ws R st.1 st.2.1 C 8 (enc st.2.2) 33 st.2.2.f8 wDirs q w h.rd h.blk (enc_get8 _) h.mC (by decide) h.ne (fun i hi => lit_cells hq i hi) hqR (by decide)).mono fun e w' hp => h.mp hp (enc_set8 _ _)
/-- A field of the command is written. -/
theorem At.put (h : At m g cp ws R C w0 st w) (o : Nat) (v : Value) {c : Cmd} (hc : (enc st.2.2).setIfInBounds o v = enc c) : At m g cp ws R C w0 (st.1, st.2.1, c) (w.setCell ⟨C, o, none⟩ v) := by
  have h3 : Fr (fun k => k = C) w (w.setCell ⟨C, o, none⟩ v) := (Fr.refl _ w).set _ _ (fun _ => rfl)
  refine ⟨h.rd.keep h3 (fun k _ e => e ▸ ⟨h.mC, _, _, h.blk, by decide⟩) (fun e => h.ne e.symm), ?_, h.fr.trans (h3.mono fun k _ e => Or.inr e), h.mC, h.ne⟩
  have := blk_set h.blk o v
  rw [hc] at this
  exact this
theorem sNVA_f11 (S : Says) (ws : List ByteArray) (st : St) : (sNVA S ws st).2.2.f11 = st.2.2.f11 := rfl
theorem cells1 {w : World} {b : Nat} {v : Value} {t : TypeId} (h : w.heap[b]? = some (.cells #[v] t (0, 0))) : w.cell? ⟨b, 0, none⟩ = some v := blk_cell h 0
set_option maxRecDepth 100000 in
set_option maxHeartbeats 4000000 in
theorem fNoise_ok (S : Says) (hS : S.ok ws) (h : At m g cp ws R C w0 st w) (z7 : st.2.2.f7 = 0) (z9 : st.2.2.f9 = 0) (z10 : st.2.2.f10 = 0) (z11 : st.2.2.f11 = false) (z12 : st.2.2.f12 = 0) (hw : w0.heap.size ≤ w.heap.size) :
    Calls Tryz.prog 28 #[.iface 59 (.pointer (some ⟨R, 0, none⟩)), .pointer (some ⟨C, 0, none⟩)] w fun e w' => e = .returned (.tuple #[]) ∧ At m g cp ws R C w0 (fNoise S ws st) w' := by
  have m_choice := met_choice
  have n_choice := nil_choice
  have m_flag := met_flag
  have n_flag := nil_flag
  have lR := h.rd.lt
  have lC := blk_lt h.blk
  have lm := h.rd.msize
  have c7 : w.cell? ⟨C, 7, none⟩ = some (.int .i64 0) := (blk_cell h.blk 7).trans (by rw [enc_get7, z7])
  have b1 : At m g cp ws R C w0 st ((w.alloc (.cells #[.int .i64 1] 3)).alloc (.cells (wActs.map Value.string).toArray 9)) := (h.alloc _).alloc _
  have a1 : ((w.alloc (.cells #[.int .i64 1] 3)).alloc (.cells (wActs.map Value.string).toArray 9)).heap[w.heap.size]? = some (.cells #[.int .i64 1] 3 (0, 0)) := blk_alloc (blk_new w _) _
  have q1 : ((w.alloc (.cells #[.int .i64 1] 3)).alloc (.cells (wActs.map Value.string).toArray 9)).heap[w.heap.size + 1]? = some (.cells (wActs.map Value.string).toArray 9 (0, 0)) := by
    have := blk_new (w.alloc (.cells #[.int .i64 1] 3)) (.cells (wActs.map Value.string).toArray 9)
    simpa using this
  have hc1 : Calls Tryz.prog 76 #[.pointer (some ⟨R, 0, none⟩), .pointer (some ⟨w.heap.size, 0, none⟩), .slice (some ⟨w.heap.size + 1, 0, none⟩) 3 3] ((w.alloc (.cells #[.int .i64 1] 3)).alloc (.cells #[.string ⟨#[110, 111, 110, 101]⟩, .string ⟨#[101, 118, 105, 99, 116]⟩, .string ⟨#[102, 105, 108, 108]⟩] 9)) _ := choice_own b1 (l := wActs) a1 lm (by decide) (by omega) (by omega) hw q1 (by omega) (by decide)
  have hv := step_choice ws st.1 st.2.1 1 wActs (by decide)
  have hA : sAct ws st = ((step ws st.1 st.2.1 1 (choice wActs)).1, (step ws st.1 st.2.1 1 (choice wActs)).2.1, { st.2.2 with f7 := (step ws st.1 st.2.1 1 (choice wActs)).2.2 - 1 }) := by
    unfold sAct; rw [z7]; rfl
  obtain ⟨n, bad, c⟩ := st
  simp only at z7 z9 z10 z11 z12 hc1 hv hA
  generalize step ws n bad 1 (choice wActs) = r at hc1 hv hA
  obtain ⟨n1, bad1, v⟩ := r
  simp only at hc1 hv hA
  have hv3 : v = 1 ∨ v = 2 ∨ v = 3 := by
    have : ((wActs.length : Nat) : Int) = 3 := rfl
    omega
  have HH := Aside0.mk h
  have HA := Aside0.mk hA
  have HB := Aside0.mk (And.intro a1 q1)
  clear h hA a1 q1 b1 hv
  rcases hv3 with rfl | rfl | rfl
  · go_enter Tryz.func28, Tryz.ntmps28
    go_wp2_with (first
      | (go_at_call 76; (with_reducible refine hc1.mono ?_); rintro e w1 ⟨rfl, h1, ha1⟩
         have k1 : w1.cell? ⟨w.heap.size, 0, none⟩ = some (.int .i64 1) := cells1 ha1
         have k7 : w1.cell? ⟨C, 7, none⟩ = some (.int .i64 0) := (blk_cell h1.blk 7).trans (by rw [enc_get7, z7])
         have f7 := blk_frozen h1.blk 7
         have h2 : At m g cp ws R C w0 (n1, bad1, { c with f7 := 0 }) (w1.setCell ⟨C, 7, none⟩ (.int .i64 0)) := h1.put 7 (.int .i64 0) (enc_set7 _ _))
      | (go_at_call 32; (with_reducible refine (sPick_ok S hS h2 z12).mono ?_); rintro e w3 ⟨rfl, h3⟩))
    try go_wp2
    go_still_tail 7, (by kernel_rfl)
    change wpList _ _ _ _ _ w3.drew
    go_wp2_with (first
      | (go_at_call 77; (with_reducible refine (sFirst_ok tFirst S hS h3.drew).mono ?_); rintro e w4 ⟨rfl, h4⟩))
    go_end0
    refine ⟨rfl, ?_⟩
    unfold fNoise
    rw [HA.out]
    exact h4
  · go_enter Tryz.func28, Tryz.ntmps28
    go_wp2_with (first
      | (go_at_call 76; (with_reducible refine hc1.mono ?_); rintro e w1 ⟨rfl, h1, ha1⟩
         have k1 : w1.cell? ⟨w.heap.size, 0, none⟩ = some (.int .i64 2) := cells1 ha1
         have k7 : w1.cell? ⟨C, 7, none⟩ = some (.int .i64 0) := (blk_cell h1.blk 7).trans (by rw [enc_get7, z7])
         have f7 := blk_frozen h1.blk 7
         have h2 : At m g cp ws R C w0 (n1, bad1, { c with f7 := 1 }) (w1.setCell ⟨C, 7, none⟩ (.int .i64 1)) := h1.put 7 (.int .i64 1) (enc_set7 _ _)))
    have h3 := (h2.alloc (.cells (wDirs.map Value.string).toArray 9 (0, 0))).drew
    have l30 : ((w1.setCell ⟨C, 7, none⟩ (.int .i64 1)).alloc (.cells (wDirs.map Value.string).toArray 9 (0, 0))).heap[w1.heap.size]? = some (.cells (wDirs.map Value.string).toArray 9 (0, 0)) := by
      have := blk_new (w1.setCell ⟨C, 7, none⟩ (.int .i64 1)) (.cells (wDirs.map Value.string).toArray 9 (0, 0))
      simpa using this
    have l3 : ((w1.setCell ⟨C, 7, none⟩ (.int .i64 1)).alloc (.cells (wDirs.map Value.string).toArray 9 (0, 0))).drew.heap[w1.heap.size]? = some (.cells (wDirs.map Value.string).toArray 9 (0, 0)) := l30
    have y9 : (sWhich ws (n1, bad1, { c with f7 := 1 })).2.2.f9 = 0 := z9
    have y12 : (sSlot S ws (sWhich ws (n1, bad1, { c with f7 := 1 }))).2.2.f12 = 0 := z12
    have hc3 : Calls Tryz.prog 76 #[.pointer (some ⟨R, 0, none⟩), .pointer (some ⟨C, 8, none⟩), .slice (some ⟨w1.heap.size, 0, none⟩) 3 3] ((w1.setCell ⟨C, 7, none⟩ (.int .i64 1)).alloc (.cells #[.string ⟨#[105]⟩, .string ⟨#[100]⟩, .string ⟨#[109, 97, 105, 110]⟩] 9 (0, 0))).drew _ := which_ok h3 l3 (by have := h1.rd.lt; omega)
    go_region_with (go_at_call 76; refine hc3.mono ?_; rintro e w3 ⟨rfl, h3⟩)
    all_goals (
      go_wp2_with (first
        | (go_at_call 32; (with_reducible refine (sSlot_ok S hS h3 y9).mono ?_); rintro e w5 ⟨rfl, h5⟩)
        | (go_at_call 32; (with_reducible refine (sPick_ok S hS h5 y12).mono ?_); rintro e w6 ⟨rfl, h6⟩))
      try go_wp2
      go_still_tail 7, (by kernel_rfl)
      change wpList _ _ _ _ _ w6.drew
      go_wp2_with (first
        | (go_at_call 77; (with_reducible refine (sFirst_ok tFirst S hS h6.drew).mono ?_); rintro e w4 ⟨rfl, h4⟩))
      go_end0
      refine ⟨rfl, ?_⟩
      unfold fNoise
      rw [HA.out]
      exact h4)
  · go_enter Tryz.func28, Tryz.ntmps28
    go_wp2_with (first
      | (go_at_call 76; (with_reducible refine hc1.mono ?_); rintro e w1 ⟨rfl, h1, ha1⟩
         have k1 : w1.cell? ⟨w.heap.size, 0, none⟩ = some (.int .i64 3) := cells1 ha1
         have k7 : w1.cell? ⟨C, 7, none⟩ = some (.int .i64 0) := (blk_cell h1.blk 7).trans (by rw [enc_get7, z7])
         have f7 := blk_frozen h1.blk 7
         have h2 : At m g cp ws R C w0 (n1, bad1, { c with f7 := 2 }) (w1.setCell ⟨C, 7, none⟩ (.int .i64 2)) := h1.put 7 (.int .i64 2) (enc_set7 _ _))
      | (go_at_call 31; (with_reducible refine (sNVA_ok S hS h2 z10).mono ?_); rintro e w3 ⟨rfl, h3⟩
         have c11 : w3.cell? ⟨C, 11, none⟩ = some (.bool false) := (blk_cell h3.blk 11).trans (by rw [enc_get11]; exact congrArg (fun x => some (Value.bool x)) ((sNVA_f11 S ws _).trans z11))
         have c11a : ∀ o, (w3.alloc o).cell? ⟨C, 11, none⟩ = some (.bool false) := fun o => by rw [World.cell?_alloc_lt _ _ ⟨C, 11, none⟩ (blk_lt h3.blk)]; exact c11
         have h4 := (h3.alloc (.cells #[.int .i64 2] 3)).alloc (.cells (wHows.map Value.string).toArray 9)
         have a4 : ((w3.alloc (.cells #[.int .i64 2] 3)).alloc (.cells (wHows.map Value.string).toArray 9)).heap[w3.heap.size]? = some (.cells #[.int .i64 2] 3 (0, 0)) := blk_alloc (blk_new w3 _) _
         have l4 : ((w3.alloc (.cells #[.int .i64 2] 3)).alloc (.cells (wHows.map Value.string).toArray 9)).heap[w3.heap.size + 1]? = some (.cells (wHows.map Value.string).toArray 9 (0, 0)) := (by
           have := blk_new (w3.alloc (.cells #[.int .i64 2] 3)) (.cells (wHows.map Value.string).toArray 9)
           simpa using this)
         have g3 := h3.rd.lt
         have g4 := blk_lt h3.blk
         have g5 := h3.fr.size
         have hc4 : Calls Tryz.prog 76 #[.pointer (some ⟨R, 0, none⟩), .pointer (some ⟨w3.heap.size, 0, none⟩), .slice (some ⟨w3.heap.size + 1, 0, none⟩) 2 2] ((w3.alloc (.cells #[.int .i64 2] 3)).alloc (.cells #[.string ⟨#[102, 101, 116, 99, 104]⟩, .string ⟨#[108, 111, 97, 100]⟩] 9)) _ := choice_own h4 (l := wHows) a4 h3.rd.msize (by decide) (by omega) (by omega) (by omega) l4 (by omega) (by decide)
         have hv4 := step_choice ws (sNVA S ws (n1, bad1, { c with f7 := 2 })).1 (sNVA S ws (n1, bad1, { c with f7 := 2 })).2.1 2 wHows (by decide)
         have hH : sHow ws (sNVA S ws (n1, bad1, { c with f7 := 2 })) = ((step ws (sNVA S ws (n1, bad1, { c with f7 := 2 })).1 (sNVA S ws (n1, bad1, { c with f7 := 2 })).2.1 2 (choice wHows)).1, (step ws (sNVA S ws (n1, bad1, { c with f7 := 2 })).1 (sNVA S ws (n1, bad1, { c with f7 := 2 })).2.1 2 (choice wHows)).2.1, { (sNVA S ws (n1, bad1, { c with f7 := 2 })).2.2 with f11 := (step ws (sNVA S ws (n1, bad1, { c with f7 := 2 })).1 (sNVA S ws (n1, bad1, { c with f7 := 2 })).2.1 2 (choice wHows)).2.2 == 1 }) := rfl
         have y12 : (sHow ws (sNVA S ws (n1, bad1, { c with f7 := 2 }))).2.2.f12 = 0 := z12
         have y11 : (sNVA S ws (n1, bad1, { c with f7 := 2 })).2.2.f11 = false := z11
         have HH4 := Aside0.mk hH
         have HH5 := Aside0.mk (And.intro a4 l4)
         clear hH a4 l4 h4
         generalize step ws (sNVA S ws (n1, bad1, { c with f7 := 2 })).1 (sNVA S ws (n1, bad1, { c with f7 := 2 })).2.1 2 (choice wHows) = r4 at hc4 hv4 HH4)
      | (go_at_call 76; (with_reducible refine hc4.mono ?_); rintro e w5 ⟨rfl, h5, ha5⟩
         have k5 : w5.cell? ⟨w3.heap.size, 0, none⟩ = some (.int .i64 r4.2.2) := cells1 ha5
         have k11 : w5.cell? ⟨C, 11, none⟩ = some (.bool false) := (blk_cell h5.blk 11).trans (by rw [enc_get11]; exact congrArg (fun x => some (Value.bool x)) y11)
         have f11 := blk_frozen h5.blk 11
         have h6 : At m g cp ws R C w0 (sHow ws (sNVA S ws (n1, bad1, { c with f7 := 2 }))) (w5.setCell ⟨C, 11, none⟩ (.bool (r4.2.2 == 1))) := HH4.out ▸ h5.put 11 (.bool (r4.2.2 == 1)) (enc_set11 _ _))
      | (go_at_call 32; (with_reducible refine (sPick_ok S hS h6 y12).mono ?_); rintro e w7 ⟨rfl, h7⟩))
    try go_wp2
    go_still_tail 7, (by kernel_rfl)
    change wpList _ _ _ _ _ w7.drew
    go_wp2_with (first
      | (go_at_call 77; (with_reducible refine (sFirst_ok tFirst S hS h7.drew).mono ?_); rintro e w8 ⟨rfl, h8⟩))
    go_end0
    refine ⟨rfl, ?_⟩
    unfold fNoise
    rw [HA.out]
    exact h8
end Go.Proofs.YtnidnmhcjngmeaaGreat.Scr

/-
  The names of the commands, and which form is whose (printed by gen13.py).
  Conditions: none.
-/
namespace Go.Proofs.YtnidnmhcjngmeaaGreat.Scr
open Go.RowKit Go.Proofs.YtnidnmhcjngmeaaGreatW.PrintWords Go.Proofs.YtnidnmhcjngmeaaGreatW.PrintLast Go.Proofs.YtnidnmhcjngmeaaGreatW.PrintMore
variable {m : Nat} {g : Nat × Nat} {cp : Nat} {ws : List ByteArray} {R C : Nat} {w0 : World} {st : St} {w : World}
def nms : List ByteArray := [⟨#[]⟩, ⟨#[98, 111, 111, 116]⟩, ⟨#[98, 97, 114, 101]⟩, ⟨#[110, 111, 105, 115, 101]⟩, ⟨#[99, 114, 101, 97, 116, 101]⟩, ⟨#[100, 101, 115, 116, 114, 111, 121]⟩, ⟨#[115, 119, 105, 116, 99, 104]⟩, ⟨#[109, 97, 112]⟩, ⟨#[117, 110, 109, 97, 112]⟩, ⟨#[112, 114, 111, 116, 101, 99, 116]⟩, ⟨#[115, 104, 97, 114, 101]⟩, ⟨#[113, 117, 101, 114, 121]⟩, ⟨#[108, 111, 97, 100]⟩, ⟨#[115, 116, 111, 114, 101]⟩, ⟨#[102, 101, 116, 99, 104]⟩, ⟨#[115, 112, 97, 99, 101, 115]⟩, ⟨#[112, 111, 107, 101]⟩, ⟨#[112, 101, 101, 107]⟩, ⟨#[109, 99, 114]⟩, ⟨#[109, 114, 99]⟩, ⟨#[100, 105, 114, 116, 121]⟩]
theorem names_ok (w : World) : Calls Tryz.prog 15 #[] w fun e w' => e = .returned (.slice (some ⟨w.heap.size, 0, none⟩) 21 21) ∧ w' = w.alloc (.cells (nms.map Value.string).toArray 9) := by
  go_enter Tryz.func15, Tryz.ntmps15
  go_wp2
  go_ret
  exact ⟨rfl, rfl⟩
def formN : List FuncId := [0, 25, 27, 28, 23, 23, 29, 30, 33, 35, 36, 37, 38, 38, 38, 24, 39, 40, 41, 41, 24]
def formP (S : Says) (ws : List ByteArray) : Nat → St → St
  | 1 => fBoot S ws
  | 2 => fBare S ws
  | 3 => fNoise S ws
  | 4 => fOne S ws
  | 5 => fOne S ws
  | 6 => fOther S ws
  | 7 => fMap S ws
  | 8 => fUnmap S ws
  | 9 => fProtect S ws
  | 10 => fShare S ws
  | 11 => fQuery S ws
  | 12 => fAccess S ws
  | 13 => fAccess S ws
  | 14 => fAccess S ws
  | 15 => fNone S ws
  | 16 => fPoke S ws
  | 17 => fPeek S ws
  | 18 => fTuple S ws
  | 19 => fTuple S ws
  | 20 => fNone S ws
  | _ => id
/-- A command of nothing, but for its kind. -/
def c0 (k : Nat) : Cmd := ⟨(k : Int), 0, 0, 0, 0, 0, 0, 0, 0, 0, 0, false, 0, false, ByteArray.empty, ByteArray.empty, 0, 0, 0, 0, 0, false, false, false, 0, 0, k == 18 || k == 19, 0, 0, 0, 0, 0⟩
set_option maxHeartbeats 8000000 in
theorem forms_ok (k : Nat) (h : 1 ≤ k ∧ k ≤ 20) (w : World) : Calls Tryz.prog 16 #[.int .i64 (k : Int)] w fun e w' => e = .returned (.func (.func (formN.getD k 0)) #[] #[]) ∧ Fr (fun _ => False) w w' := by
  rcases (show k = 1 ∨ k = 2 ∨ k = 3 ∨ k = 4 ∨ k = 5 ∨ k = 6 ∨ k = 7 ∨ k = 8 ∨ k = 9 ∨ k = 10 ∨ k = 11 ∨ k = 12 ∨ k = 13 ∨ k = 14 ∨ k = 15 ∨ k = 16 ∨ k = 17 ∨ k = 18 ∨ k = 19 ∨ k = 20 by omega) with rfl | rfl | rfl | rfl | rfl | rfl | rfl | rfl | rfl | rfl | rfl | rfl | rfl | rfl | rfl | rfl | rfl | rfl | rfl | rfl
  · show Calls Tryz.prog 16 #[.int .i64 1] w _
    go_enter Tryz.func16, Tryz.ntmps16
    go_wp2
    go_ret
    exact ⟨rfl, (Fr.refl _ w).alloc _⟩
  · show Calls Tryz.prog 16 #[.int .i64 2] w _
    go_enter Tryz.func16, Tryz.ntmps16
    go_wp2
    go_ret
    exact ⟨rfl, (Fr.refl _ w).alloc _⟩
  · show Calls Tryz.prog 16 #[.int .i64 3] w _
    go_enter Tryz.func16, Tryz.ntmps16
    go_wp2
    go_ret
    exact ⟨rfl, (Fr.refl _ w).alloc _⟩
  · show Calls Tryz.prog 16 #[.int .i64 4] w _
    go_enter Tryz.func16, Tryz.ntmps16
    go_wp2
    go_ret
    exact ⟨rfl, (Fr.refl _ w).alloc _⟩
  · show Calls Tryz.prog 16 #[.int .i64 5] w _
    go_enter Tryz.func16, Tryz.ntmps16
    go_wp2
    go_ret
    exact ⟨rfl, (Fr.refl _ w).alloc _⟩
  · show Calls Tryz.prog 16 #[.int .i64 6] w _
    go_enter Tryz.func16, Tryz.ntmps16
    go_wp2
    go_ret
    exact ⟨rfl, (Fr.refl _ w).alloc _⟩
  · show Calls Tryz.prog 16 #[.int .i64 7] w _
    go_enter Tryz.func16, Tryz.ntmps16
    go_wp2
    go_ret
    exact ⟨rfl, (Fr.refl _ w).alloc _⟩
  · show Calls Tryz.prog 16 #[.int .i64 8] w _
    go_enter Tryz.func16, Tryz.ntmps16
    go_wp2
    go_ret
    exact ⟨rfl, (Fr.refl _ w).alloc _⟩
  · show Calls Tryz.prog 16 #[.int .i64 9] w _
    go_enter Tryz.func16, Tryz.ntmps16
    go_wp2
    go_ret
    exact ⟨rfl, (Fr.refl _ w).alloc _⟩
  · show Calls Tryz.prog 16 #[.int .i64 10] w _
    go_enter Tryz.func16, Tryz.ntmps16
    go_wp2
    go_ret
    exact ⟨rfl, (Fr.refl _ w).alloc _⟩
  · show Calls Tryz.prog 16 #[.int .i64 11] w _
    go_enter Tryz.func16, Tryz.ntmps16
    go_wp2
    go_ret
    exact ⟨rfl, (Fr.refl _ w).alloc _⟩
  · show Calls Tryz.prog 16 #[.int .i64 12] w _
    go_enter Tryz.func16, Tryz.ntmps16
    go_wp2
    go_ret
    exact ⟨rfl, (Fr.refl _ w).alloc _⟩
  · show Calls Tryz.prog 16 #[.int .i64 13] w _
    go_enter Tryz.func16, Tryz.ntmps16
    go_wp2
    go_ret
    exact ⟨rfl, (Fr.refl _ w).alloc _⟩
  · show Calls Tryz.prog 16 #[.int .i64 14] w _
    go_enter Tryz.func16, Tryz.ntmps16
    go_wp2
    go_ret
    exact ⟨rfl, (Fr.refl _ w).alloc _⟩
  · show Calls Tryz.prog 16 #[.int .i64 15] w _
    go_enter Tryz.func16, Tryz.ntmps16
    go_wp2
    go_ret
    exact ⟨rfl, (Fr.refl _ w).alloc _⟩
  · show Calls Tryz.prog 16 #[.int .i64 16] w _
    go_enter Tryz.func16, Tryz.ntmps16
    go_wp2
    go_ret
    exact ⟨rfl, (Fr.refl _ w).alloc _⟩
  · show Calls Tryz.prog 16 #[.int .i64 17] w _
    go_enter Tryz.func16, Tryz.ntmps16
    go_wp2
    go_ret
    exact ⟨rfl, (Fr.refl _ w).alloc _⟩
  · show Calls Tryz.prog 16 #[.int .i64 18] w _
    go_enter Tryz.func16, Tryz.ntmps16
    go_wp2
    go_ret
    exact ⟨rfl, (Fr.refl _ w).alloc _⟩
  · show Calls Tryz.prog 16 #[.int .i64 19] w _
    go_enter Tryz.func16, Tryz.ntmps16
    go_wp2
    go_ret
    exact ⟨rfl, (Fr.refl _ w).alloc _⟩
  · show Calls Tryz.prog 16 #[.int .i64 20] w _
    go_enter Tryz.func16, Tryz.ntmps16
    go_wp2
    go_ret
    exact ⟨rfl, (Fr.refl _ w).alloc _⟩
theorem form_ok (S : Says) (hS : S.ok ws) (k : Nat) (hk : 1 ≤ k ∧ k ≤ 20) (h : At m g cp ws R C w0 (1, none, c0 k) w) (hw : w0.heap.size ≤ w.heap.size) :
    Calls Tryz.prog (formN.getD k 0) #[.iface 59 (.pointer (some ⟨R, 0, none⟩)), .pointer (some ⟨C, 0, none⟩)] w fun e w' => e = .returned (.tuple #[]) ∧ At m g cp ws R C w0 (formP S ws k (1, none, c0 k)) w' := by
  rcases (show k = 1 ∨ k = 2 ∨ k = 3 ∨ k = 4 ∨ k = 5 ∨ k = 6 ∨ k = 7 ∨ k = 8 ∨ k = 9 ∨ k = 10 ∨ k = 11 ∨ k = 12 ∨ k = 13 ∨ k = 14 ∨ k = 15 ∨ k = 16 ∨ k = 17 ∨ k = 18 ∨ k = 19 ∨ k = 20 by omega) with rfl | rfl | rfl | rfl | rfl | rfl | rfl | rfl | rfl | rfl | rfl | rfl | rfl | rfl | rfl | rfl | rfl | rfl | rfl | rfl
  · exact fBoot_ok S hS h rfl rfl rfl rfl rfl rfl
  · exact fBare_ok S hS h rfl rfl rfl rfl
  · exact fNoise_ok S hS h rfl rfl rfl rfl rfl hw
  · exact fOne_ok S hS h
  · exact fOne_ok S hS h
  · exact fOther_ok S hS h
  · exact fMap_ok S hS h rfl rfl
  · exact fUnmap_ok S hS h rfl
  · exact fProtect_ok S hS h rfl
  · exact fShare_ok S hS h rfl rfl
  · exact fQuery_ok S hS h rfl
  · exact fAccess_ok S hS h rfl rfl rfl
  · exact fAccess_ok S hS h rfl rfl rfl
  · exact fAccess_ok S hS h rfl rfl rfl
  · exact fNone_ok S h
  · exact fPoke_ok S hS h rfl
  · exact fPeek_ok S hS h
  · exact fTuple_ok S hS h rfl rfl rfl rfl rfl
  · exact fTuple_ok S hS h rfl rfl rfl rfl rfl
  · exact fNone_ok S h
theorem form_call (k : Nat) (hk : 1 ≤ k ∧ k ≤ 20) (args : Array Value) (w : World) : (callFunc (formN.getD k 0) args).run Tryz.prog w = .ok (.enter (formN.getD k 0) args) w := by
  rcases (show k = 1 ∨ k = 2 ∨ k = 3 ∨ k = 4 ∨ k = 5 ∨ k = 6 ∨ k = 7 ∨ k = 8 ∨ k = 9 ∨ k = 10 ∨ k = 11 ∨ k = 12 ∨ k = 13 ∨ k = 14 ∨ k = 15 ∨ k = 16 ∨ k = 17 ∨ k = 18 ∨ k = 19 ∨ k = 20 by omega) with rfl | rfl | rfl | rfl | rfl | rfl | rfl | rfl | rfl | rfl | rfl | rfl | rfl | rfl | rfl | rfl | rfl | rfl | rfl | rfl
  · kernel_rfl
  · kernel_rfl
  · kernel_rfl
  · kernel_rfl
  · kernel_rfl
  · kernel_rfl
  · kernel_rfl
  · kernel_rfl
  · kernel_rfl
  · kernel_rfl
  · kernel_rfl
  · kernel_rfl
  · kernel_rfl
  · kernel_rfl
  · kernel_rfl
  · kernel_rfl
  · kernel_rfl
  · kernel_rfl
  · kernel_rfl
  · kernel_rfl
end Go.Proofs.YtnidnmhcjngmeaaGreat.Scr

/-
  script.parsed: the command of words, of which there is one at the least.
  Conditions: none.
-/
namespace Go.Proofs.YtnidnmhcjngmeaaGreat.Scr
open Go.RowKit Go.Proofs.YtnidnmhcjngmeaaGreatW.PrintWords Go.Proofs.YtnidnmhcjngmeaaGreatW.PrintLast Go.Proofs.YtnidnmhcjngmeaaGreatW.PrintMore
variable {m : Nat} {g : Nat × Nat} {cp : Nat} {ws : List ByteArray} {R C : Nat} {w0 : World} {st : St} {w : World}
attribute [local go_sem] max2_int min2_int max_two min_two max_three min_three max_four min_four
/-- A command of nothing. -/
def zc : Cmd := ⟨0, 0, 0, 0, 0, 0, 0, 0, 0, 0, 0, false, 0, false, ByteArray.empty, ByteArray.empty, 0, 0, 0, 0, 0, false, false, false, 0, 0, false, 0, 0, 0, 0, 0⟩
theorem enc_one (c : Cmd) : (enc c).all (·.oneCell') = true := by kernel_rfl
theorem enc_info (c : Cmd) : (Tryz.prog.info? 33).map (·.size) = some (enc c).size := by kernel_rfl
theorem there_block {w : World} {b : Nat} {D : Array Value} {t : TypeId} (h : w.heap[b]? = some (.cells D t (0, 0))) : w.there b 0 D.size := fun j hj => ⟨by simp [World.cell?, h, hj], by simp [World.frozen?, h]⟩
theorem cells_all (b : Nat) (t : TypeId) : ∀ (l : List Value) (o : Nat) (D : Array Value) (w : World), w.heap[b]? = some (.cells D t (0, 0)) → (w.setCells b o l).heap[b]? = some (.cells (l.zipIdx o |>.foldl (fun D p => D.setIfInBounds p.2 p.1) D) t (0, 0))
  | [], o, D, w, h => by simpa [World.setCells] using h
  | v :: l, o, D, w, h => by
    have := cells_all b t l (o + 1) (D.setIfInBounds o v) (w.setCell ⟨b, o, none⟩ v) (blk_set h o v)
    simpa [World.setCells] using this
theorem zip_get (l : List Value) : ∀ (o : Nat) (D : Array Value) (i : Nat), (l.zipIdx o |>.foldl (fun D p => D.setIfInBounds p.2 p.1) D)[i]? = if o ≤ i ∧ i < o + l.length ∧ i < D.size then l[i - o]? else D[i]? := by
  induction l with
  | nil => intro o D i; simp; omega
  | cons v l ih =>
    intro o D i
    simp only [List.zipIdx_cons, List.foldl_cons, List.length_cons]
    rw [ih]
    simp only [Array.size_setIfInBounds]
    by_cases h1 : o + 1 ≤ i ∧ i < o + 1 + l.length ∧ i < D.size
    · rw [if_pos h1, if_pos (by omega)]
      have : i - o = (i - (o + 1)) + 1 := by omega
      rw [this, List.getElem?_cons_succ]
    · rw [if_neg h1]
      by_cases h2 : i = o
      · subst h2
        by_cases h3 : i < D.size
        · rw [if_pos (by omega)]; simp [h3]
        · rw [if_neg (by omega)]; simp [h3]
      · rw [if_neg (by omega), Array.getElem?_setIfInBounds_ne (by omega)]
/-- A whole value, stored into a block of as many cells. -/
theorem blk_put {w : World} {b : Nat} {t : TypeId} {D E : Array Value} (h : w.heap[b]? = some (.cells D t (0, 0))) (he : E.size = D.size) : (w.setCells b 0 E.toList).heap[b]? = some (.cells E t (0, 0)) := by
  rw [cells_all b t E.toList 0 D w h]
  congr 1
  congr 1
  apply Array.ext_getElem?
  intro i
  rw [zip_get]
  by_cases hi : i < D.size
  · rw [if_pos (by simp; omega)]; simp
  · rw [if_neg (by omega), Array.getElem?_eq_none (by omega), Array.getElem?_eq_none (by omega)]
theorem Fr.setCells {A : Nat → Prop} {w w' : World} (h : Fr A w w') (b : Nat) (l : List Value) (ha : b < w.heap.size → A b) : Fr A w (w'.setCells b 0 l) := by
  obtain ⟨s1, s2, s3, s4⟩ := setCells_same b l 0 w'
  refine ⟨s1.trans h.os, s2.trans h.tape, s3.trans h.output, by rw [s4]; exact h.size, fun k hk hA => ?_⟩
  rw [setCells_far _ _ k (fun e => hA (e ▸ ha (e ▸ hk)))]
  exact h.block k hk hA
/-- In a plain region: a whole command is stored. -/
theorem store_cmd {ops : Array Oper} {o : Oper} {a : Act} {rest : List Oper} {Q : Exit → Act → World → Prop} {w : World} (hgd : o.guard = none) (x y : Operand) (b : Nat) (c d : Cmd)
    (ho : o.op = .store 33 x y) (hx : a.eval x = .pointer (some ⟨b, 0, none⟩)) (hy : a.eval y = .agg (enc c)) (hb : w.heap[b]? = some (.cells (enc d) 33 (0, 0)))
    (h : ∀ w', w'.heap[b]? = some (.cells (enc c) 33 (0, 0)) → Fr (fun k => k = b) w w' → wpList Tryz.prog ops Q rest (a.put o.dst undef) w') : wpList Tryz.prog ops Q (o :: rest) a w :=
  wpList_store_mid hgd 33 x y ho b 0 (enc c) hx hy (show w.there b 0 (enc d).size from there_block hb) (enc_info c) (enc_one c) (h _ (blk_put hb rfl) ((Fr.refl _ w).setCells b _ (fun _ => rfl)))
/-- In a plain region: a whole command is loaded. -/
theorem load_cmd {ops : Array Oper} {o : Oper} {a : Act} {rest : List Oper} {Q : Exit → Act → World → Prop} {w : World} (hgd : o.guard = none) (x : Operand) (b : Nat) (c : Cmd)
    (ho : o.op = .load 33 x) (hx : a.eval x = .pointer (some ⟨b, 0, none⟩)) (hb : w.heap[b]? = some (.cells (enc c) 33 (0, 0)))
    (h : wpList Tryz.prog ops Q rest (a.put o.dst (.agg (enc c))) w) : wpList Tryz.prog ops Q (o :: rest) a w :=
  wpList_load_mid hgd 33 x ho b 0 hx (enc c).toList _ (fun j v hv => (cell_of_row w b (0 + j) (enc c) 33 _ hb).trans (by rw [Nat.zero_add]; simpa using hv)) Tryz.underlying33 rfl (by simpa using enc_info c) (by simpa using h)
def kindOf (x : ByteArray) : Option Nat := nms.findIdx? (fun s => !s.toList.isEmpty && s.toList == x.toList)
def parsedP (S : Says) (ws : List ByteArray) (x : ByteArray) : Cmd × Bad := match kindOf x with
  | none => (zc, some (151, 0))
  | some k => ((formP S ws k (1, none, c0 k)).2.2, if (formP S ws k (1, none, c0 k)).1 < ws.length then failB (formP S ws k (1, none, c0 k)).2.1 152 ((formP S ws k (1, none, c0 k)).1 : Int) else (formP S ws k (1, none, c0 k)).2.1)
theorem nms_lit {k : Nat} (w : World) (t : TypeId) (i : Nat) (hi : i < 21) (h : w.heap[k]? = some (.cells (nms.map Value.string).toArray t (0, 0))) : w.cell? ⟨k, i, none⟩ = some (.string (nms[i]'hi)) := lit_cells h i hi
set_option maxRecDepth 100000 in
theorem retC11 {w : World} {b : Nat} {a : Act} {u : Value} {c : Cmd} {Q : Ending → World → Prop} (hb : w.heap[b]? = some (.cells (enc c) 33 (0, 0))) (h2 : a.tmps.getD 2 undef = .pointer (some ⟨b, 0, none⟩)) (h3 : a.tmps.getD 3 undef = u) (hd : a.defers = [])
    (hq : Q (.returned (.tuple #[.agg (enc c), u])) w) : bodyPost Tryz.prog Tryz.f8 Q Exit.ret a w := by
  refine bodyPost_ret (v := .tuple #[.agg (enc c), u]) ?_ hd hq
  rw [results_cell_tmp rfl, h2, h3]
  have hl := load_blk hb Tryz.underlying33 rfl (enc_info c)
  show ((loadVar 33 ⟨b, 0, none⟩).run Tryz.prog w).andThen _ = _
  rw [hl]
  rfl
set_option maxRecDepth 100000 in
theorem retC5 {w : World} {b : Nat} {a : Act} {u : Value} {c : Cmd} {Q : Ending → World → Prop} (hb : w.heap[b]? = some (.cells (enc c) 33 (0, 0))) (h2 : a.tmps.getD 2 undef = .pointer (some ⟨b, 0, none⟩)) (h3 : a.tmps.getD 3 undef = u) (hd : a.defers = [])
    (hq : Q (.returned (.tuple #[.agg (enc c), u])) w) : bodyPost Tryz.prog Tryz.f4 Q Exit.ret a w := by
  refine bodyPost_ret (v := .tuple #[.agg (enc c), u]) ?_ hd hq
  rw [results_cell_tmp rfl, h2, h3]
  have hl := load_blk hb Tryz.underlying33 rfl (enc_info c)
  show ((loadVar 33 ⟨b, 0, none⟩).run Tryz.prog w).andThen _ = _
  rw [hl]
  rfl
theorem At.still (h : At m g cp ws R C w0 st w) {w' : World} (hf : Fr (fun _ => False) w w') : At m g cp ws R C w0 st w' :=
  ⟨h.rd.keep hf (fun _ _ h => h.elim) (fun h => h), hf.blk h.blk (fun h => h), h.fr.trans (hf.mono fun _ _ h => h.elim), h.mC, h.ne⟩
theorem blk_second (w : World) (o p : Obj) : ((w.alloc o).alloc p).heap[w.heap.size + 1]? = some p := by
  have := blk_new (w.alloc o) p
  simpa using this
/-- A whole command is loaded, in whatever order, while it stands. -/
theorem load_yields {ops : Array Oper} {S : World → Prop} {op : Oper} {a : Act} (hw : Region.wanted op (yielded ops a.tmps) = true) (x : Operand) (b : Nat) (c : Cmd) (ho : op.op = .load 33 x)
    (hx : a.eval x = .pointer (some ⟨b, 0, none⟩)) (hS : ∀ w, S w → w.heap[b]? = some (.cells (enc c) 33 (0, 0))) : YieldsIf Tryz.prog ops S op (.agg (enc c)) a :=
  .inl ⟨hw, fun w hs => by
    have hl : (Instr.loadAt 33 (.pointer (some ⟨b, 0, none⟩))).run Tryz.prog w = .ok (.agg (enc c)) w := by
      have := load_blk (hS w hs) Tryz.underlying33 rfl (enc_info c)
      simp only [Instr.loadAt, Instr.sureAddr, Sem.run_bind, Sem.run_pure, Result.andThen_ok, this]
    unfold execOp
    simp only [ho, hx, Sem.run_bind, Sem.run_pure, hl, Result.andThen_ok]⟩
theorem store_wp {o : Oper} {a : Act} {K : Act → World → Prop} {Q : Exit → Act → World → Prop} {w : World} (x y : Operand) (b : Nat) (c d : Cmd)
    (ho : o.op = .store 33 x y) (hx : a.eval x = .pointer (some ⟨b, 0, none⟩)) (hy : a.eval y = .agg (enc c)) (hb : w.heap[b]? = some (.cells (enc d) 33 (0, 0)))
    (h : ∀ w', w'.heap[b]? = some (.cells (enc c) 33 (0, 0)) → Fr (fun k => k = b) w w' → K (a.put o.dst undef) w') : Oper.wp Tryz.prog o a w K Q :=
  wp_store_mid 33 x y ho b 0 (enc c) hx hy (show w.there b 0 (enc d).size from there_block hb) (enc_info c) (enc_one c) (h _ (blk_put hb rfl) ((Fr.refl _ w).setCells b _ (fun _ => rfl)))
/-- What stands while the results are gathered. -/
structure Gath (R C D : Nat) (rc : Array Value) (c : Cmd) (w0 w : World) : Prop where
  r : w.heap[R]? = some (.cells rc 61 (0, 0))
  c : w.heap[C]? = some (.cells (enc c) 33 (0, 0))
  d : ∃ d, w.heap[D]? = some (.cells (enc d) 33 (0, 0))
  fr : Fr (fun k => k = D) w0 w
theorem get_drop {l : List Oper} {i : Nat} {oi : Oper} {rest : List Oper} (h : l.drop i = oi :: rest) : l.toArray[i]? = some oi := by
  have := List.getElem?_drop (xs := l) (i := i) (j := 0)
  rw [h] at this
  simpa using this.symm
theorem take_l {P : Program} {md : Region.Mode} {l : List Oper} {Q : Exit → Act → World → Prop} {S : World → Prop} {i : Nat} {oi : Oper} {rest : List Oper} {v : Value} {fuel : Nat} {listed : Array Bool} {a : Act} {w : World} (hi : l.drop i = oi :: rest)
    (hs : Region.noSelect l.toArray = true) (hf : Region.free md l.toArray listed i = true) (hr : (Region.ready md l.toArray listed).contains i = true)
    (hQ : ∀ c a w, Q (.panic c) (a.put oi.dst v) w → Q (.panic c) a w) (hy : YieldsIf P l.toArray S oi v a) (hS : S w)
    (h : wpAnyH P md l.toArray Q S fuel (listed.setIfInBounds i true) (a.put oi.dst v) w) : wpAnyH P md l.toArray Q S (fuel + 1) listed a w :=
  wpAnyH_take (get_drop hi) hs hf hr hQ hy hS h
theorem cons_l {P : Program} {md : Region.Mode} {l : List Oper} {Q : Exit → Act → World → Prop} {S : World → Prop} {fuel : Nat} {listed : Array Bool} {a : Act} {w : World} {i : Nat} {o : Oper} {rest : List Oper} {rs : List Nat} (ho : l.drop i = o :: rest)
    (h : ∀ K' : Act → World → Prop, Shut (∀ a w, S w → (S w → wpAnyH P md l.toArray Q S fuel (listed.setIfInBounds i true) a w) → K' a w) → if Region.wanted o (yielded l.toArray a.tmps) = true then Oper.wp P o a w K' Q else K' (a.put o.dst undef) w)
    (hs : AllReadyH P md l.toArray Q S fuel listed a w rs) : AllReadyH P md l.toArray Q S fuel listed a w (i :: rs) := AllReadyH.cons (get_drop ho) h hs
end Go.Proofs.YtnidnmhcjngmeaaGreat.Scr
