/-
  script.parsed: the command of words, of which there is one at the least.
  Conditions: none.
-/
import Derived.Test.YtnidnmhcjngmeaaGreatScrD
set_option linter.unusedVariables false
set_option linter.unusedSimpArgs false
set_option autoImplicit false
namespace Go.Proofs.YtnidnmhcjngmeaaGreat.Scr
open Go.RowKit Go.Proofs.YtnidnmhcjngmeaaGreatW.PrintWords Go.Proofs.YtnidnmhcjngmeaaGreatW.PrintLast Go.Proofs.YtnidnmhcjngmeaaGreatW.PrintMore
attribute [local go_sem] max2_int min2_int max_two min_two max_three min_three max_four min_four
theorem kind_none {x : ByteArray} (h : ∀ j (h : j < 21), ((!(nms[j]'h).toList.isEmpty) && ((nms[j]'h).toList == x.toList)) = false) : kindOf x = none := by
  unfold kindOf
  rw [List.findIdx?_eq_none_iff]
  intro y hy
  obtain ⟨j, hj, rfl⟩ := List.getElem_of_mem hy
  exact h j hj
theorem kind_some {x : ByteArray} {i : Nat} (hi : i < 21) (h : ((!(nms[i]'hi).toList.isEmpty) && ((nms[i]'hi).toList == x.toList)) = true) (hp : ∀ j (h : j < 21), j < i → ((!(nms[j]'h).toList.isEmpty) && ((nms[j]'h).toList == x.toList)) = false) : kindOf x = some i := by
  unfold kindOf
  rw [List.findIdx?_eq_some_iff_getElem]
  exact ⟨hi, h, fun j hj h2 => absurd ((hp j (by omega) hj).symm.trans h2) (by decide)⟩
theorem nms_pos {x : ByteArray} {i : Nat} (hi : i < 21) (h : ((!(nms[i]'hi).toList.isEmpty) && ((nms[i]'hi).toList == x.toList)) = true) : 1 ≤ i := by
  rcases Nat.eq_zero_or_pos i with h0 | h0
  · subst h0
    have : ((!(nms[0]'(by decide)).toList.isEmpty)) = false := by decide +kernel
    rw [Bool.and_eq_true] at h
    exact absurd (this.symm.trans h.1) (by decide)
  · exact h0
theorem row_up {w w' : World} {g : Nat × Nat} {ws : List ByteArray} {A : Nat → Prop} (h : ∀ i (h : i < ws.length), w.cell? ⟨g.1, g.2 + i, none⟩ = some (.string ws[i])) (hf : Fr A w w') (hA : ¬ A g.1) : ∀ i (h : i < ws.length), w'.cell? ⟨g.1, g.2 + i, none⟩ = some (.string ws[i]) := by
  intro i hi
  have hx := h i hi
  have := hf.block g.1 (World.block_lt_of_cell? w ⟨g.1, g.2 + i, none⟩ hx) hA
  simpa [World.cell?, this] using hx
set_option maxRecDepth 100000 in
set_option maxHeartbeats 8000000 in
theorem parsed_ok (S : Says) (g : Nat × Nat) (cp : Nat) (ws : List ByteArray) (w : World) (hS : S.ok ws) (hg : g.1 < w.heap.size) (hlen : ws.length ≤ 1000) (h0 : 0 < ws.length)
    (hrow : ∀ i (h : i < ws.length), w.cell? ⟨g.1, g.2 + i, none⟩ = some (.string ws[i])) :
    Calls Tryz.prog 8 #[.slice (some ⟨g.1, g.2, none⟩) ws.length cp] w fun e w' => ∃ v, e = .returned (.tuple #[.agg (enc (parsedP S ws ws[0]).1), v]) ∧ BadP w' (parsedP S ws ws[0]).2 v ∧ Fr (fun _ => False) w w' := by
  have HR := Aside0.mk hrow
  have hx0 : w.cell? ⟨g.1, g.2, none⟩ = some (.string ws[0]) := hrow 0 h0
  clear hrow
  obtain ⟨x, hx⟩ : ∃ x, x = ws[0] := ⟨_, rfl⟩
  rw [← hx] at hx0 ⊢
  have HX := Aside0.mk hx
  clear hx
  go_enter Tryz.func8, Tryz.ntmps8
  go_wp2_with (first
    | (go_at_call 15; (with_reducible refine (names_ok _).mono ?_); rintro e w1 ⟨rfl, hw1⟩))
  have hz : w1.heap[w.heap.size]? = some (.cells (enc zc) 33 (0, 0)) := by rw [hw1]; exact blk_alloc (blk_new w _) _
  have hn : w1.heap[w.heap.size + 1]? = some (.cells (nms.map Value.string).toArray 9 (0, 0)) := by
    rw [hw1]; exact blk_second w _ _
  have hf1 : Fr (fun _ => False) w w1 := by rw [hw1]; exact ((Fr.refl _ w).alloc _).alloc _
  have hx1 : w1.cell? ⟨g.1, g.2, none⟩ = some (.string x) := by simpa [World.cell?, hf1.block g.1 hg (fun h => h)] using hx0
  have HZ := Aside0.mk hz
  have HN := Aside0.mk hn
  have lz := blk_lt hz
  rw [← hw1]
  clear hz hn hw1
  go_loopg [10] 22 (fun kq v10 w' => ∃ i : Nat, v10 = .int .i64 (i : Int) ∧ Aside0 (i + kq = 22 ∧ i ≤ 21 ∧ ∀ j (h : j < 21), j < i → ((!(nms[j]'h).toList.isEmpty) && ((nms[j]'h).toList == x.toList)) = false) ∧ w' = w1)
  case atStart => exact ⟨0, rfl, ⟨by omega, by omega, fun _ _ h => absurd h (by omega)⟩, rfl⟩
  case round =>
    obtain ⟨i, rfl, HI, rfl⟩ := hrel
    have hI := HI.out
    cases gk with
    | zero => omega
    | succ k1 =>
      by_cases hi : i < 21
      · have d1 : decide ((i : Int) < 21) = true := decide_eq_true (by omega)
        have d2 : (i : Int) < 21 := by omega
        have q1 : 0 ≤ (i : Int) := by omega
        have hy := nms_lit wr 9 i hi HN.out
        obtain ⟨y, hye⟩ : ∃ y, y = nms[i]'hi := ⟨_, rfl⟩
        rw [← hye] at hy
        have HY := Aside0.mk hye
        clear hye
        have hnext : ((!y.toList.isEmpty) && (y.toList == x.toList)) = false → ∀ j (h : j < 21), j < i + 1 → ((!(nms[j]'h).toList.isEmpty) && ((nms[j]'h).toList == x.toList)) = false := fun hb j h1 h2 => by
          rcases Nat.lt_or_eq_of_le (Nat.le_of_lt_succ h2) with h3 | h3
          · exact hI.2.2 j h1 h3
          · subst h3; rw [← HY.out]; exact hb
        have HNX := Aside0.mk hnext
        clear hnext
        generalize hb1 : y.toList.isEmpty = b1
        generalize hb2 : (y.toList == x.toList) = b2
        have hb3 : (y.toList != x.toList) = !b2 := by rw [← hb2]; rfl
        cases b1 with
        | true =>
          have hq := HNX.out (by rw [hb1]; rfl)
          go_wp2
          go_roundg k1
          case measure => omega
          case rel => exact ⟨i + 1, rfl, ⟨by omega, by omega, hq⟩, rfl⟩
        | false =>
          cases b2 with
          | false =>
            have hq := HNX.out (by rw [hb2]; simp)
            go_wp2
            go_roundg k1
            case measure => omega
            case rel => exact ⟨i + 1, rfl, ⟨by omega, by omega, hq⟩, rfl⟩
          | true =>
            have hk : kindOf x = some i := kind_some hi (by rw [← HY.out, hb1, hb2]; rfl) hI.2.2
            have hi1 : 1 ≤ i ∧ i ≤ 20 := ⟨nms_pos (x := x) hi (by rw [← HY.out, hb1, hb2]; rfl), by omega⟩
            have hP : parsedP S ws x = ((formP S ws i (1, none, c0 i)).2.2, if (formP S ws i (1, none, c0 i)).1 < ws.length then failB (formP S ws i (1, none, c0 i)).2.1 152 ((formP S ws i (1, none, c0 i)).1 : Int) else (formP S ws i (1, none, c0 i)).2.1) := by
              unfold parsedP; rw [hk]
            have HP := Aside0.mk hP
            have HK := Aside0.mk hk
            clear hP hk
            generalize he1 : ((i : Int) == 18) = b18
            generalize he2 : ((i : Int) == 19) = b19
            have hbb : (i == 18 || i == 19) = (b18 || b19) := by
              rw [← he1, ← he2]
              congr 1
              · by_cases h : i = 18
                · subst h; rfl
                · rw [beq_eq_false_iff_ne.2 h, beq_eq_false_iff_ne.2 (show (i : Int) ≠ 18 by omega)]
              · by_cases h : i = 19
                · subst h; rfl
                · rw [beq_eq_false_iff_ne.2 h, beq_eq_false_iff_ne.2 (show (i : Int) ≠ 19 by omega)]
            have HBB := Aside0.mk hbb
            clear hbb
            have hC0 := blk_second wr (.cells (rdc g cp ws.length 1 (.pointer none)) 61) (.cells (enc zc) 33 (0, 0))
            have hR0 : ((wr.alloc (.cells (rdc g cp ws.length 1 (.pointer none)) 61)).alloc (.cells (enc zc) 33 (0, 0))).heap[wr.heap.size]? = some (.cells (rdc g cp ws.length 1 (.pointer none)) 61 (0, 0)) := blk_alloc (blk_new wr _) _
            have hf0 : Fr (fun _ => False) wr ((wr.alloc (.cells (rdc g cp ws.length 1 (.pointer none)) 61)).alloc (.cells (enc zc) 33 (0, 0))) := ((Fr.refl _ wr).alloc _).alloc _
            have hcall := form_call i hi1
            have hforms := forms_ok i hi1
            have hform := fun w0 w1 (h : At w.heap.size g cp ws wr.heap.size (wr.heap.size + 1) w0 (1, none, c0 i) w1) => form_ok S hS i hi1 h h.fr.size
            generalize formN.getD i 0 = fF at hcall hforms hform
            generalize hst : formP S ws i (1, none, c0 i) = st' at HP hform
            have HST := Aside0.mk hst
            clear hst
            obtain ⟨n', bad', c'⟩ := st'
            simp only at HP
            have hz3 := HZ.out
            by_cases hlt : n' < ws.length
            · have d3 : decide ((n' : Int) < (ws.length : Int)) = true := decide_eq_true (by omega)
              have d4 : (n' : Int) < (ws.length : Int) := by omega
              cases b18 with
              | true =>
                go_wp2_with (first
                  | ((with_reducible refine gate_store (t := 33) (p := 7) rfl ?_); go_loud (refine store_cmd rfl (.tmp 7) (.tmp 28) (wr.heap.size + 1) { zc with f0 := (i : Int) } zc rfl rfl rfl hC0 ?_); intro w5 hC5 hf5
                     have hR5 := hf5.blk hR0 (by omega)
                     have hf05 := hf0.then hf5 (fun k hk e => by omega)
                     have p26 := (blk_cell hC5 26).trans (enc_get26 _)
                     have q26 := blk_frozen hC5 26
                     have hf55 : Fr (fun k => k = wr.heap.size + 1) w5 (w5.setCell ⟨wr.heap.size + 1, 26, none⟩ (.bool true)) := (Fr.refl _ w5).set _ _ (fun _ => rfl)
                     have hR55 := hf55.blk hR5 (by omega)
                     have hC55 := blk_set hC5 26 (.bool true)
                     have hf05 := hf05.then hf55 (fun k hk e => by omega)
                     have hA5 : At w.heap.size g cp ws wr.heap.size (wr.heap.size + 1) (w5.setCell ⟨wr.heap.size + 1, 26, none⟩ (.bool true)) (1, none, c0 i) (w5.setCell ⟨wr.heap.size + 1, 26, none⟩ (.bool true)) := ⟨⟨hg, by omega, by omega, hlen, row_up HR.out (hf1.trans hf05) (fun h => h), _, hR55, rfl⟩, (by rw [hC55]; unfold c0; rw [HBB.out]; rfl), Fr.refl _ _, by omega, by omega⟩)
                  | (go_at_call 16; (with_reducible refine (hforms _).mono ?_); rintro e w6 ⟨rfl, hf6⟩
                     have h6 := hA5.still hf6
                     have hz6' := hf05.blk hz3 (fun h => h))
                  | ((with_reducible refine (hform _ _ h6).mono ?_); rintro e w7 ⟨rfl, h7⟩
                     obtain ⟨v7, hb7, hv7⟩ := h7.rd.blk
                     have r7 : w7.cell? ⟨wr.heap.size, 1, none⟩ = some (.int .i64 (n' : Int)) := blk_cell hb7 1)
                  | (go_at_call 17; (with_reducible refine (fail_ok w.heap.size g cp ws wr.heap.size n' bad' 152 (n' : Int) _ h7.rd).mono ?_); rintro e w8 ⟨rfl, hr8, hf8⟩
                     obtain ⟨v8, hb8, hv8⟩ := hr8.blk
                     have hC8 := hf8.blk h7.blk (by omega)))
                have hz8 := hf8.blk (h7.fr.blk hz6' (by omega)) (by omega)
                have hf78 := h7.fr.then hf8 (fun k hk e => Or.inl e)
                have HG : Gath wr.heap.size (wr.heap.size + 1) w.heap.size (rdc g cp ws.length n' v8) c' w8 w8 := ⟨hb8, hC8, ⟨_, hz8⟩, Fr.refl _ _⟩
                refine wp_region_held (S := Gath wr.heap.size (wr.heap.size + 1) w.heap.size (rdc g cp ws.length n' v8) c' w8) (by kernel_rfl) ?_
                refine take_l (i := 0) rfl (by kernel_rfl) (by kernel_rfl) (by kernel_rfl) (fun _ _ _ h => h) (load_yields rfl (.tmp 7) (wr.heap.size + 1) c' rfl rfl (fun _ h => h.c)) ⟨HG.r, HG.c, HG.d, HG.fr.drew⟩ ?_
                try simp only [Act.put, List.setIfInBounds_toArray, List.set_cons_zero, List.set_cons_succ]
                refine take_l (i := 1) (v := ?_) rfl (by kernel_rfl) (by kernel_rfl) (by kernel_rfl) (fun _ _ _ h => h) (Or.inl ⟨by rfl, ?_⟩) ⟨HG.r, HG.c, HG.d, HG.fr.drew⟩ ?_
                rotate_left 1
                · intro w hSw; go_simp; with_reducible rfl
                try simp only [Act.put, List.setIfInBounds_toArray, List.set_cons_zero, List.set_cons_succ]
                refine take_l (i := 2) (v := ?_) rfl (by kernel_rfl) (by kernel_rfl) (by kernel_rfl) (fun _ _ _ h => h) (Or.inl ⟨by rfl, ?_⟩) ⟨HG.r, HG.c, HG.d, HG.fr.drew⟩ ?_
                rotate_left 1
                · intro w hSw; go_simp; with_reducible rfl
                try simp only [Act.put, List.setIfInBounds_toArray, List.set_cons_zero, List.set_cons_succ]
                refine take_l (i := 3) (v := ?_) rfl (by kernel_rfl) (by kernel_rfl) (by kernel_rfl) (fun _ _ _ h => h) (Or.inl ⟨by rfl, ?_⟩) ⟨HG.r, HG.c, HG.d, HG.fr.drew⟩ ?_
                rotate_left 1
                · intro w hSw; go_simp; with_reducible rfl
                try simp only [Act.put, List.setIfInBounds_toArray, List.set_cons_zero, List.set_cons_succ]
                refine take_l (i := 4) (v := ?_) rfl (by kernel_rfl) (by kernel_rfl) (by kernel_rfl) (fun _ _ _ h => h) (Or.inl ⟨by rfl, ?_⟩) ⟨HG.r, HG.c, HG.d, HG.fr.drew⟩ ?_
                rotate_left 1
                · intro w hSw; have r9 : w.cell? ⟨wr.heap.size, 2, none⟩ = some v8 := blk_cell hSw.r 2; go_simp; with_reducible rfl
                try simp only [Act.put, List.setIfInBounds_toArray, List.set_cons_zero, List.set_cons_succ]
                refine wpAnyH_ready (rs := [5]) (by kernel_rfl) (by simp) ?_
                refine cons_l rfl (fun K hK => ?_) AllReadyH.nil
                rw [if_pos (by rfl)]
                refine store_wp (.tmp 2) (.tmp 54) w.heap.size c' _ rfl rfl rfl hz8 ?_
                intro w9 hz9 hf9
                try simp only [Act.put, List.setIfInBounds_toArray, List.set_cons_zero, List.set_cons_succ]
                have hf9' : Fr (fun k => k = w.heap.size) w8 w9 := ⟨hf9.os, hf9.tape, hf9.output, hf9.size, hf9.block⟩
                have hb9 := hf9'.blk hb8 (by omega)
                have hC9 := hf9'.blk hC8 (by omega)
                refine Shut.out hK _ _ ⟨hb9, hC9, ⟨_, hz9⟩, hf9'⟩ (fun HG9 => ?_)
                refine take_l (i := 6) (v := ?_) rfl (by kernel_rfl) (by kernel_rfl) (by kernel_rfl) (fun _ _ _ h => h) (Or.inl ⟨by rfl, ?_⟩) HG9 ?_
                rotate_left 1
                · intro w hSw; go_simp; with_reducible rfl
                try simp only [Act.put, List.setIfInBounds_toArray, List.set_cons_zero, List.set_cons_succ]
                refine wpAnyH_done (by kernel_rfl) ?_ _
                go_wp2
                try simp only [Exit.inBlock, Exit.then]
                rw [HP.out]
                simp only [if_pos hlt]
                have hmine : Mine w.heap.size w8 w.heap.size := ⟨Nat.le_refl _, _, _, hz8, by decide⟩
                refine retC11 hz9 rfl rfl rfl ⟨v8, rfl, hv8.keep hf9' (m := w.heap.size) (fun k hk e => by subst e; exact hmine), ?_⟩
                exact ((hf1.trans hf05).then hf78 (fun k hk e => by omega)).then hf9' (fun k hk e => by omega)
              | false =>
                cases b19 with
                | true =>
                  go_wp2_with (first
                    | ((with_reducible refine gate_store (t := 33) (p := 7) rfl ?_); go_loud (refine store_cmd rfl (.tmp 7) (.tmp 28) (wr.heap.size + 1) { zc with f0 := (i : Int) } zc rfl rfl rfl hC0 ?_); intro w5 hC5 hf5
                       have hR5 := hf5.blk hR0 (by omega)
                       have hf05 := hf0.then hf5 (fun k hk e => by omega)
                       have p26 := (blk_cell hC5 26).trans (enc_get26 _)
                       have q26 := blk_frozen hC5 26
                       have hf55 : Fr (fun k => k = wr.heap.size + 1) w5 (w5.setCell ⟨wr.heap.size + 1, 26, none⟩ (.bool true)) := (Fr.refl _ w5).set _ _ (fun _ => rfl)
                       have hR55 := hf55.blk hR5 (by omega)
                       have hC55 := blk_set hC5 26 (.bool true)
                       have hf05 := hf05.then hf55 (fun k hk e => by omega)
                       have hA5 : At w.heap.size g cp ws wr.heap.size (wr.heap.size + 1) (w5.setCell ⟨wr.heap.size + 1, 26, none⟩ (.bool true)) (1, none, c0 i) (w5.setCell ⟨wr.heap.size + 1, 26, none⟩ (.bool true)) := ⟨⟨hg, by omega, by omega, hlen, row_up HR.out (hf1.trans hf05) (fun h => h), _, hR55, rfl⟩, (by rw [hC55]; unfold c0; rw [HBB.out]; rfl), Fr.refl _ _, by omega, by omega⟩)
                    | (go_at_call 16; (with_reducible refine (hforms _).mono ?_); rintro e w6 ⟨rfl, hf6⟩
                       have h6 := hA5.still hf6
                       have hz6' := hf05.blk hz3 (fun h => h))
                    | ((with_reducible refine (hform _ _ h6).mono ?_); rintro e w7 ⟨rfl, h7⟩
                       obtain ⟨v7, hb7, hv7⟩ := h7.rd.blk
                       have r7 : w7.cell? ⟨wr.heap.size, 1, none⟩ = some (.int .i64 (n' : Int)) := blk_cell hb7 1)
                    | (go_at_call 17; (with_reducible refine (fail_ok w.heap.size g cp ws wr.heap.size n' bad' 152 (n' : Int) _ h7.rd).mono ?_); rintro e w8 ⟨rfl, hr8, hf8⟩
                       obtain ⟨v8, hb8, hv8⟩ := hr8.blk
                       have hC8 := hf8.blk h7.blk (by omega)))
                  have hz8 := hf8.blk (h7.fr.blk hz6' (by omega)) (by omega)
                  have hf78 := h7.fr.then hf8 (fun k hk e => Or.inl e)
                  have HG : Gath wr.heap.size (wr.heap.size + 1) w.heap.size (rdc g cp ws.length n' v8) c' w8 w8 := ⟨hb8, hC8, ⟨_, hz8⟩, Fr.refl _ _⟩
                  refine wp_region_held (S := Gath wr.heap.size (wr.heap.size + 1) w.heap.size (rdc g cp ws.length n' v8) c' w8) (by kernel_rfl) ?_
                  refine take_l (i := 0) rfl (by kernel_rfl) (by kernel_rfl) (by kernel_rfl) (fun _ _ _ h => h) (load_yields rfl (.tmp 7) (wr.heap.size + 1) c' rfl rfl (fun _ h => h.c)) ⟨HG.r, HG.c, HG.d, HG.fr.drew⟩ ?_
                  try simp only [Act.put, List.setIfInBounds_toArray, List.set_cons_zero, List.set_cons_succ]
                  refine take_l (i := 1) (v := ?_) rfl (by kernel_rfl) (by kernel_rfl) (by kernel_rfl) (fun _ _ _ h => h) (Or.inl ⟨by rfl, ?_⟩) ⟨HG.r, HG.c, HG.d, HG.fr.drew⟩ ?_
                  rotate_left 1
                  · intro w hSw; go_simp; with_reducible rfl
                  try simp only [Act.put, List.setIfInBounds_toArray, List.set_cons_zero, List.set_cons_succ]
                  refine take_l (i := 2) (v := ?_) rfl (by kernel_rfl) (by kernel_rfl) (by kernel_rfl) (fun _ _ _ h => h) (Or.inl ⟨by rfl, ?_⟩) ⟨HG.r, HG.c, HG.d, HG.fr.drew⟩ ?_
                  rotate_left 1
                  · intro w hSw; go_simp; with_reducible rfl
                  try simp only [Act.put, List.setIfInBounds_toArray, List.set_cons_zero, List.set_cons_succ]
                  refine take_l (i := 3) (v := ?_) rfl (by kernel_rfl) (by kernel_rfl) (by kernel_rfl) (fun _ _ _ h => h) (Or.inl ⟨by rfl, ?_⟩) ⟨HG.r, HG.c, HG.d, HG.fr.drew⟩ ?_
                  rotate_left 1
                  · intro w hSw; go_simp; with_reducible rfl
                  try simp only [Act.put, List.setIfInBounds_toArray, List.set_cons_zero, List.set_cons_succ]
                  refine take_l (i := 4) (v := ?_) rfl (by kernel_rfl) (by kernel_rfl) (by kernel_rfl) (fun _ _ _ h => h) (Or.inl ⟨by rfl, ?_⟩) ⟨HG.r, HG.c, HG.d, HG.fr.drew⟩ ?_
                  rotate_left 1
                  · intro w hSw; have r9 : w.cell? ⟨wr.heap.size, 2, none⟩ = some v8 := blk_cell hSw.r 2; go_simp; with_reducible rfl
                  try simp only [Act.put, List.setIfInBounds_toArray, List.set_cons_zero, List.set_cons_succ]
                  refine wpAnyH_ready (rs := [5]) (by kernel_rfl) (by simp) ?_
                  refine cons_l rfl (fun K hK => ?_) AllReadyH.nil
                  rw [if_pos (by rfl)]
                  refine store_wp (.tmp 2) (.tmp 54) w.heap.size c' _ rfl rfl rfl hz8 ?_
                  intro w9 hz9 hf9
                  try simp only [Act.put, List.setIfInBounds_toArray, List.set_cons_zero, List.set_cons_succ]
                  have hf9' : Fr (fun k => k = w.heap.size) w8 w9 := ⟨hf9.os, hf9.tape, hf9.output, hf9.size, hf9.block⟩
                  have hb9 := hf9'.blk hb8 (by omega)
                  have hC9 := hf9'.blk hC8 (by omega)
                  refine Shut.out hK _ _ ⟨hb9, hC9, ⟨_, hz9⟩, hf9'⟩ (fun HG9 => ?_)
                  refine take_l (i := 6) (v := ?_) rfl (by kernel_rfl) (by kernel_rfl) (by kernel_rfl) (fun _ _ _ h => h) (Or.inl ⟨by rfl, ?_⟩) HG9 ?_
                  rotate_left 1
                  · intro w hSw; go_simp; with_reducible rfl
                  try simp only [Act.put, List.setIfInBounds_toArray, List.set_cons_zero, List.set_cons_succ]
                  refine wpAnyH_done (by kernel_rfl) ?_ _
                  go_wp2
                  try simp only [Exit.inBlock, Exit.then]
                  rw [HP.out]
                  simp only [if_pos hlt]
                  have hmine : Mine w.heap.size w8 w.heap.size := ⟨Nat.le_refl _, _, _, hz8, by decide⟩
                  refine retC11 hz9 rfl rfl rfl ⟨v8, rfl, hv8.keep hf9' (m := w.heap.size) (fun k hk e => by subst e; exact hmine), ?_⟩
                  exact ((hf1.trans hf05).then hf78 (fun k hk e => by omega)).then hf9' (fun k hk e => by omega)
                | false =>
                  go_wp2_with (first
                    | ((with_reducible refine gate_store (t := 33) (p := 7) rfl ?_); go_loud (refine store_cmd rfl (.tmp 7) (.tmp 28) (wr.heap.size + 1) { zc with f0 := (i : Int) } zc rfl rfl rfl hC0 ?_); intro w5 hC5 hf5
                       have hR5 := hf5.blk hR0 (by omega)
                       have hf05 := hf0.then hf5 (fun k hk e => by omega)
                       have hA5 : At w.heap.size g cp ws wr.heap.size (wr.heap.size + 1) w5 (1, none, c0 i) w5 := ⟨⟨hg, by omega, by omega, hlen, row_up HR.out (hf1.trans hf05) (fun h => h), _, hR5, rfl⟩, (by rw [hC5]; unfold c0; rw [HBB.out]; rfl), Fr.refl _ _, by omega, by omega⟩)
                    | (go_at_call 16; (with_reducible refine (hforms _).mono ?_); rintro e w6 ⟨rfl, hf6⟩
                       have h6 := hA5.still hf6
                       have hz6' := hf05.blk hz3 (fun h => h))
                    | ((with_reducible refine (hform _ _ h6).mono ?_); rintro e w7 ⟨rfl, h7⟩
                       obtain ⟨v7, hb7, hv7⟩ := h7.rd.blk
                       have r7 : w7.cell? ⟨wr.heap.size, 1, none⟩ = some (.int .i64 (n' : Int)) := blk_cell hb7 1)
                    | (go_at_call 17; (with_reducible refine (fail_ok w.heap.size g cp ws wr.heap.size n' bad' 152 (n' : Int) _ h7.rd).mono ?_); rintro e w8 ⟨rfl, hr8, hf8⟩
                       obtain ⟨v8, hb8, hv8⟩ := hr8.blk
                       have hC8 := hf8.blk h7.blk (by omega)))
                  have hz8 := hf8.blk (h7.fr.blk hz6' (by omega)) (by omega)
                  have hf78 := h7.fr.then hf8 (fun k hk e => Or.inl e)
                  have HG : Gath wr.heap.size (wr.heap.size + 1) w.heap.size (rdc g cp ws.length n' v8) c' w8 w8 := ⟨hb8, hC8, ⟨_, hz8⟩, Fr.refl _ _⟩
                  refine wp_region_held (S := Gath wr.heap.size (wr.heap.size + 1) w.heap.size (rdc g cp ws.length n' v8) c' w8) (by kernel_rfl) ?_
                  refine take_l (i := 0) rfl (by kernel_rfl) (by kernel_rfl) (by kernel_rfl) (fun _ _ _ h => h) (load_yields rfl (.tmp 7) (wr.heap.size + 1) c' rfl rfl (fun _ h => h.c)) ⟨HG.r, HG.c, HG.d, HG.fr.drew⟩ ?_
                  try simp only [Act.put, List.setIfInBounds_toArray, List.set_cons_zero, List.set_cons_succ]
                  refine take_l (i := 1) (v := ?_) rfl (by kernel_rfl) (by kernel_rfl) (by kernel_rfl) (fun _ _ _ h => h) (Or.inl ⟨by rfl, ?_⟩) ⟨HG.r, HG.c, HG.d, HG.fr.drew⟩ ?_
                  rotate_left 1
                  · intro w hSw; go_simp; with_reducible rfl
                  try simp only [Act.put, List.setIfInBounds_toArray, List.set_cons_zero, List.set_cons_succ]
                  refine take_l (i := 2) (v := ?_) rfl (by kernel_rfl) (by kernel_rfl) (by kernel_rfl) (fun _ _ _ h => h) (Or.inl ⟨by rfl, ?_⟩) ⟨HG.r, HG.c, HG.d, HG.fr.drew⟩ ?_
                  rotate_left 1
                  · intro w hSw; go_simp; with_reducible rfl
                  try simp only [Act.put, List.setIfInBounds_toArray, List.set_cons_zero, List.set_cons_succ]
                  refine take_l (i := 3) (v := ?_) rfl (by kernel_rfl) (by kernel_rfl) (by kernel_rfl) (fun _ _ _ h => h) (Or.inl ⟨by rfl, ?_⟩) ⟨HG.r, HG.c, HG.d, HG.fr.drew⟩ ?_
                  rotate_left 1
                  · intro w hSw; go_simp; with_reducible rfl
                  try simp only [Act.put, List.setIfInBounds_toArray, List.set_cons_zero, List.set_cons_succ]
                  refine take_l (i := 4) (v := ?_) rfl (by kernel_rfl) (by kernel_rfl) (by kernel_rfl) (fun _ _ _ h => h) (Or.inl ⟨by rfl, ?_⟩) ⟨HG.r, HG.c, HG.d, HG.fr.drew⟩ ?_
                  rotate_left 1
                  · intro w hSw; have r9 : w.cell? ⟨wr.heap.size, 2, none⟩ = some v8 := blk_cell hSw.r 2; go_simp; with_reducible rfl
                  try simp only [Act.put, List.setIfInBounds_toArray, List.set_cons_zero, List.set_cons_succ]
                  refine wpAnyH_ready (rs := [5]) (by kernel_rfl) (by simp) ?_
                  refine cons_l rfl (fun K hK => ?_) AllReadyH.nil
                  rw [if_pos (by rfl)]
                  refine store_wp (.tmp 2) (.tmp 54) w.heap.size c' _ rfl rfl rfl hz8 ?_
                  intro w9 hz9 hf9
                  try simp only [Act.put, List.setIfInBounds_toArray, List.set_cons_zero, List.set_cons_succ]
                  have hf9' : Fr (fun k => k = w.heap.size) w8 w9 := ⟨hf9.os, hf9.tape, hf9.output, hf9.size, hf9.block⟩
                  have hb9 := hf9'.blk hb8 (by omega)
                  have hC9 := hf9'.blk hC8 (by omega)
                  refine Shut.out hK _ _ ⟨hb9, hC9, ⟨_, hz9⟩, hf9'⟩ (fun HG9 => ?_)
                  refine take_l (i := 6) (v := ?_) rfl (by kernel_rfl) (by kernel_rfl) (by kernel_rfl) (fun _ _ _ h => h) (Or.inl ⟨by rfl, ?_⟩) HG9 ?_
                  rotate_left 1
                  · intro w hSw; go_simp; with_reducible rfl
                  try simp only [Act.put, List.setIfInBounds_toArray, List.set_cons_zero, List.set_cons_succ]
                  refine wpAnyH_done (by kernel_rfl) ?_ _
                  go_wp2
                  try simp only [Exit.inBlock, Exit.then]
                  rw [HP.out]
                  simp only [if_pos hlt]
                  have hmine : Mine w.heap.size w8 w.heap.size := ⟨Nat.le_refl _, _, _, hz8, by decide⟩
                  refine retC11 hz9 rfl rfl rfl ⟨v8, rfl, hv8.keep hf9' (m := w.heap.size) (fun k hk e => by subst e; exact hmine), ?_⟩
                  exact ((hf1.trans hf05).then hf78 (fun k hk e => by omega)).then hf9' (fun k hk e => by omega)
            · have d3 : decide ((n' : Int) < (ws.length : Int)) = false := decide_eq_false (by omega)
              have d4 : ¬ (n' : Int) < (ws.length : Int) := by omega
              cases b18 with
              | true =>
                go_wp2_with (first
                  | ((with_reducible refine gate_store (t := 33) (p := 7) rfl ?_); go_loud (refine store_cmd rfl (.tmp 7) (.tmp 28) (wr.heap.size + 1) { zc with f0 := (i : Int) } zc rfl rfl rfl hC0 ?_); intro w5 hC5 hf5
                     have hR5 := hf5.blk hR0 (by omega)
                     have hf05 := hf0.then hf5 (fun k hk e => by omega)
                     have p26 := (blk_cell hC5 26).trans (enc_get26 _)
                     have q26 := blk_frozen hC5 26
                     have hf55 : Fr (fun k => k = wr.heap.size + 1) w5 (w5.setCell ⟨wr.heap.size + 1, 26, none⟩ (.bool true)) := (Fr.refl _ w5).set _ _ (fun _ => rfl)
                     have hR55 := hf55.blk hR5 (by omega)
                     have hC55 := blk_set hC5 26 (.bool true)
                     have hf05 := hf05.then hf55 (fun k hk e => by omega)
                     have hA5 : At w.heap.size g cp ws wr.heap.size (wr.heap.size + 1) (w5.setCell ⟨wr.heap.size + 1, 26, none⟩ (.bool true)) (1, none, c0 i) (w5.setCell ⟨wr.heap.size + 1, 26, none⟩ (.bool true)) := ⟨⟨hg, by omega, by omega, hlen, row_up HR.out (hf1.trans hf05) (fun h => h), _, hR55, rfl⟩, (by rw [hC55]; unfold c0; rw [HBB.out]; rfl), Fr.refl _ _, by omega, by omega⟩)
                  | (go_at_call 16; (with_reducible refine (hforms _).mono ?_); rintro e w6 ⟨rfl, hf6⟩
                     have h6 := hA5.still hf6
                     have hz6' := hf05.blk hz3 (fun h => h))
                  | ((with_reducible refine (hform _ _ h6).mono ?_); rintro e w7 ⟨rfl, h7⟩
                     obtain ⟨v7, hb7, hv7⟩ := h7.rd.blk
                     have r7 : w7.cell? ⟨wr.heap.size, 1, none⟩ = some (.int .i64 (n' : Int)) := blk_cell hb7 1))
                have hz8 := h7.fr.blk hz6' (by omega)
                have hb8 := hb7
                have hv8 := hv7
                have hC8 := h7.blk
                have hf78 := h7.fr
                have HG : Gath wr.heap.size (wr.heap.size + 1) w.heap.size (rdc g cp ws.length n' v7) c' w7 w7 := ⟨hb8, hC8, ⟨_, hz8⟩, Fr.refl _ _⟩
                refine wp_region_held (S := Gath wr.heap.size (wr.heap.size + 1) w.heap.size (rdc g cp ws.length n' v7) c' w7) (by kernel_rfl) ?_
                refine take_l (i := 0) rfl (by kernel_rfl) (by kernel_rfl) (by kernel_rfl) (fun _ _ _ h => h) (load_yields rfl (.tmp 7) (wr.heap.size + 1) c' rfl rfl (fun _ h => h.c)) ⟨HG.r, HG.c, HG.d, HG.fr.drew⟩ ?_
                try simp only [Act.put, List.setIfInBounds_toArray, List.set_cons_zero, List.set_cons_succ]
                refine take_l (i := 1) (v := ?_) rfl (by kernel_rfl) (by kernel_rfl) (by kernel_rfl) (fun _ _ _ h => h) (Or.inl ⟨by rfl, ?_⟩) ⟨HG.r, HG.c, HG.d, HG.fr.drew⟩ ?_
                rotate_left 1
                · intro w hSw; go_simp; with_reducible rfl
                try simp only [Act.put, List.setIfInBounds_toArray, List.set_cons_zero, List.set_cons_succ]
                refine take_l (i := 2) (v := ?_) rfl (by kernel_rfl) (by kernel_rfl) (by kernel_rfl) (fun _ _ _ h => h) (Or.inl ⟨by rfl, ?_⟩) ⟨HG.r, HG.c, HG.d, HG.fr.drew⟩ ?_
                rotate_left 1
                · intro w hSw; go_simp; with_reducible rfl
                try simp only [Act.put, List.setIfInBounds_toArray, List.set_cons_zero, List.set_cons_succ]
                refine take_l (i := 3) (v := ?_) rfl (by kernel_rfl) (by kernel_rfl) (by kernel_rfl) (fun _ _ _ h => h) (Or.inl ⟨by rfl, ?_⟩) ⟨HG.r, HG.c, HG.d, HG.fr.drew⟩ ?_
                rotate_left 1
                · intro w hSw; go_simp; with_reducible rfl
                try simp only [Act.put, List.setIfInBounds_toArray, List.set_cons_zero, List.set_cons_succ]
                refine take_l (i := 4) (v := ?_) rfl (by kernel_rfl) (by kernel_rfl) (by kernel_rfl) (fun _ _ _ h => h) (Or.inl ⟨by rfl, ?_⟩) ⟨HG.r, HG.c, HG.d, HG.fr.drew⟩ ?_
                rotate_left 1
                · intro w hSw; have r9 : w.cell? ⟨wr.heap.size, 2, none⟩ = some v7 := blk_cell hSw.r 2; go_simp; with_reducible rfl
                try simp only [Act.put, List.setIfInBounds_toArray, List.set_cons_zero, List.set_cons_succ]
                refine wpAnyH_ready (rs := [5]) (by kernel_rfl) (by simp) ?_
                refine cons_l rfl (fun K hK => ?_) AllReadyH.nil
                rw [if_pos (by rfl)]
                refine store_wp (.tmp 2) (.tmp 54) w.heap.size c' _ rfl rfl rfl hz8 ?_
                intro w9 hz9 hf9
                try simp only [Act.put, List.setIfInBounds_toArray, List.set_cons_zero, List.set_cons_succ]
                have hf9' : Fr (fun k => k = w.heap.size) w7 w9 := ⟨hf9.os, hf9.tape, hf9.output, hf9.size, hf9.block⟩
                have hb9 := hf9'.blk hb8 (by omega)
                have hC9 := hf9'.blk hC8 (by omega)
                refine Shut.out hK _ _ ⟨hb9, hC9, ⟨_, hz9⟩, hf9'⟩ (fun HG9 => ?_)
                refine take_l (i := 6) (v := ?_) rfl (by kernel_rfl) (by kernel_rfl) (by kernel_rfl) (fun _ _ _ h => h) (Or.inl ⟨by rfl, ?_⟩) HG9 ?_
                rotate_left 1
                · intro w hSw; go_simp; with_reducible rfl
                try simp only [Act.put, List.setIfInBounds_toArray, List.set_cons_zero, List.set_cons_succ]
                refine wpAnyH_done (by kernel_rfl) ?_ _
                go_wp2
                try simp only [Exit.inBlock, Exit.then]
                rw [HP.out]
                simp only [if_neg hlt]
                have hmine : Mine w.heap.size w7 w.heap.size := ⟨Nat.le_refl _, _, _, hz8, by decide⟩
                refine retC11 hz9 rfl rfl rfl ⟨v7, rfl, hv8.keep hf9' (m := w.heap.size) (fun k hk e => by subst e; exact hmine), ?_⟩
                exact ((hf1.trans hf05).then hf78 (fun k hk e => by omega)).then hf9' (fun k hk e => by omega)
              | false =>
                cases b19 with
                | true =>
                  go_wp2_with (first
                    | ((with_reducible refine gate_store (t := 33) (p := 7) rfl ?_); go_loud (refine store_cmd rfl (.tmp 7) (.tmp 28) (wr.heap.size + 1) { zc with f0 := (i : Int) } zc rfl rfl rfl hC0 ?_); intro w5 hC5 hf5
                       have hR5 := hf5.blk hR0 (by omega)
                       have hf05 := hf0.then hf5 (fun k hk e => by omega)
                       have p26 := (blk_cell hC5 26).trans (enc_get26 _)
                       have q26 := blk_frozen hC5 26
                       have hf55 : Fr (fun k => k = wr.heap.size + 1) w5 (w5.setCell ⟨wr.heap.size + 1, 26, none⟩ (.bool true)) := (Fr.refl _ w5).set _ _ (fun _ => rfl)
                       have hR55 := hf55.blk hR5 (by omega)
                       have hC55 := blk_set hC5 26 (.bool true)
                       have hf05 := hf05.then hf55 (fun k hk e => by omega)
                       have hA5 : At w.heap.size g cp ws wr.heap.size (wr.heap.size + 1) (w5.setCell ⟨wr.heap.size + 1, 26, none⟩ (.bool true)) (1, none, c0 i) (w5.setCell ⟨wr.heap.size + 1, 26, none⟩ (.bool true)) := ⟨⟨hg, by omega, by omega, hlen, row_up HR.out (hf1.trans hf05) (fun h => h), _, hR55, rfl⟩, (by rw [hC55]; unfold c0; rw [HBB.out]; rfl), Fr.refl _ _, by omega, by omega⟩)
                    | (go_at_call 16; (with_reducible refine (hforms _).mono ?_); rintro e w6 ⟨rfl, hf6⟩
                       have h6 := hA5.still hf6
                       have hz6' := hf05.blk hz3 (fun h => h))
                    | ((with_reducible refine (hform _ _ h6).mono ?_); rintro e w7 ⟨rfl, h7⟩
                       obtain ⟨v7, hb7, hv7⟩ := h7.rd.blk
                       have r7 : w7.cell? ⟨wr.heap.size, 1, none⟩ = some (.int .i64 (n' : Int)) := blk_cell hb7 1))
                  have hz8 := h7.fr.blk hz6' (by omega)
                  have hb8 := hb7
                  have hv8 := hv7
                  have hC8 := h7.blk
                  have hf78 := h7.fr
                  have HG : Gath wr.heap.size (wr.heap.size + 1) w.heap.size (rdc g cp ws.length n' v7) c' w7 w7 := ⟨hb8, hC8, ⟨_, hz8⟩, Fr.refl _ _⟩
                  refine wp_region_held (S := Gath wr.heap.size (wr.heap.size + 1) w.heap.size (rdc g cp ws.length n' v7) c' w7) (by kernel_rfl) ?_
                  refine take_l (i := 0) rfl (by kernel_rfl) (by kernel_rfl) (by kernel_rfl) (fun _ _ _ h => h) (load_yields rfl (.tmp 7) (wr.heap.size + 1) c' rfl rfl (fun _ h => h.c)) ⟨HG.r, HG.c, HG.d, HG.fr.drew⟩ ?_
                  try simp only [Act.put, List.setIfInBounds_toArray, List.set_cons_zero, List.set_cons_succ]
                  refine take_l (i := 1) (v := ?_) rfl (by kernel_rfl) (by kernel_rfl) (by kernel_rfl) (fun _ _ _ h => h) (Or.inl ⟨by rfl, ?_⟩) ⟨HG.r, HG.c, HG.d, HG.fr.drew⟩ ?_
                  rotate_left 1
                  · intro w hSw; go_simp; with_reducible rfl
                  try simp only [Act.put, List.setIfInBounds_toArray, List.set_cons_zero, List.set_cons_succ]
                  refine take_l (i := 2) (v := ?_) rfl (by kernel_rfl) (by kernel_rfl) (by kernel_rfl) (fun _ _ _ h => h) (Or.inl ⟨by rfl, ?_⟩) ⟨HG.r, HG.c, HG.d, HG.fr.drew⟩ ?_
                  rotate_left 1
                  · intro w hSw; go_simp; with_reducible rfl
                  try simp only [Act.put, List.setIfInBounds_toArray, List.set_cons_zero, List.set_cons_succ]
                  refine take_l (i := 3) (v := ?_) rfl (by kernel_rfl) (by kernel_rfl) (by kernel_rfl) (fun _ _ _ h => h) (Or.inl ⟨by rfl, ?_⟩) ⟨HG.r, HG.c, HG.d, HG.fr.drew⟩ ?_
                  rotate_left 1
                  · intro w hSw; go_simp; with_reducible rfl
                  try simp only [Act.put, List.setIfInBounds_toArray, List.set_cons_zero, List.set_cons_succ]
                  refine take_l (i := 4) (v := ?_) rfl (by kernel_rfl) (by kernel_rfl) (by kernel_rfl) (fun _ _ _ h => h) (Or.inl ⟨by rfl, ?_⟩) ⟨HG.r, HG.c, HG.d, HG.fr.drew⟩ ?_
                  rotate_left 1
                  · intro w hSw; have r9 : w.cell? ⟨wr.heap.size, 2, none⟩ = some v7 := blk_cell hSw.r 2; go_simp; with_reducible rfl
                  try simp only [Act.put, List.setIfInBounds_toArray, List.set_cons_zero, List.set_cons_succ]
                  refine wpAnyH_ready (rs := [5]) (by kernel_rfl) (by simp) ?_
                  refine cons_l rfl (fun K hK => ?_) AllReadyH.nil
                  rw [if_pos (by rfl)]
                  refine store_wp (.tmp 2) (.tmp 54) w.heap.size c' _ rfl rfl rfl hz8 ?_
                  intro w9 hz9 hf9
                  try simp only [Act.put, List.setIfInBounds_toArray, List.set_cons_zero, List.set_cons_succ]
                  have hf9' : Fr (fun k => k = w.heap.size) w7 w9 := ⟨hf9.os, hf9.tape, hf9.output, hf9.size, hf9.block⟩
                  have hb9 := hf9'.blk hb8 (by omega)
                  have hC9 := hf9'.blk hC8 (by omega)
                  refine Shut.out hK _ _ ⟨hb9, hC9, ⟨_, hz9⟩, hf9'⟩ (fun HG9 => ?_)
                  refine take_l (i := 6) (v := ?_) rfl (by kernel_rfl) (by kernel_rfl) (by kernel_rfl) (fun _ _ _ h => h) (Or.inl ⟨by rfl, ?_⟩) HG9 ?_
                  rotate_left 1
                  · intro w hSw; go_simp; with_reducible rfl
                  try simp only [Act.put, List.setIfInBounds_toArray, List.set_cons_zero, List.set_cons_succ]
                  refine wpAnyH_done (by kernel_rfl) ?_ _
                  go_wp2
                  try simp only [Exit.inBlock, Exit.then]
                  rw [HP.out]
                  simp only [if_neg hlt]
                  have hmine : Mine w.heap.size w7 w.heap.size := ⟨Nat.le_refl _, _, _, hz8, by decide⟩
                  refine retC11 hz9 rfl rfl rfl ⟨v7, rfl, hv8.keep hf9' (m := w.heap.size) (fun k hk e => by subst e; exact hmine), ?_⟩
                  exact ((hf1.trans hf05).then hf78 (fun k hk e => by omega)).then hf9' (fun k hk e => by omega)
                | false =>
                  go_wp2_with (first
                    | ((with_reducible refine gate_store (t := 33) (p := 7) rfl ?_); go_loud (refine store_cmd rfl (.tmp 7) (.tmp 28) (wr.heap.size + 1) { zc with f0 := (i : Int) } zc rfl rfl rfl hC0 ?_); intro w5 hC5 hf5
                       have hR5 := hf5.blk hR0 (by omega)
                       have hf05 := hf0.then hf5 (fun k hk e => by omega)
                       have hA5 : At w.heap.size g cp ws wr.heap.size (wr.heap.size + 1) w5 (1, none, c0 i) w5 := ⟨⟨hg, by omega, by omega, hlen, row_up HR.out (hf1.trans hf05) (fun h => h), _, hR5, rfl⟩, (by rw [hC5]; unfold c0; rw [HBB.out]; rfl), Fr.refl _ _, by omega, by omega⟩)
                    | (go_at_call 16; (with_reducible refine (hforms _).mono ?_); rintro e w6 ⟨rfl, hf6⟩
                       have h6 := hA5.still hf6
                       have hz6' := hf05.blk hz3 (fun h => h))
                    | ((with_reducible refine (hform _ _ h6).mono ?_); rintro e w7 ⟨rfl, h7⟩
                       obtain ⟨v7, hb7, hv7⟩ := h7.rd.blk
                       have r7 : w7.cell? ⟨wr.heap.size, 1, none⟩ = some (.int .i64 (n' : Int)) := blk_cell hb7 1))
                  have hz8 := h7.fr.blk hz6' (by omega)
                  have hb8 := hb7
                  have hv8 := hv7
                  have hC8 := h7.blk
                  have hf78 := h7.fr
                  have HG : Gath wr.heap.size (wr.heap.size + 1) w.heap.size (rdc g cp ws.length n' v7) c' w7 w7 := ⟨hb8, hC8, ⟨_, hz8⟩, Fr.refl _ _⟩
                  refine wp_region_held (S := Gath wr.heap.size (wr.heap.size + 1) w.heap.size (rdc g cp ws.length n' v7) c' w7) (by kernel_rfl) ?_
                  refine take_l (i := 0) rfl (by kernel_rfl) (by kernel_rfl) (by kernel_rfl) (fun _ _ _ h => h) (load_yields rfl (.tmp 7) (wr.heap.size + 1) c' rfl rfl (fun _ h => h.c)) ⟨HG.r, HG.c, HG.d, HG.fr.drew⟩ ?_
                  try simp only [Act.put, List.setIfInBounds_toArray, List.set_cons_zero, List.set_cons_succ]
                  refine take_l (i := 1) (v := ?_) rfl (by kernel_rfl) (by kernel_rfl) (by kernel_rfl) (fun _ _ _ h => h) (Or.inl ⟨by rfl, ?_⟩) ⟨HG.r, HG.c, HG.d, HG.fr.drew⟩ ?_
                  rotate_left 1
                  · intro w hSw; go_simp; with_reducible rfl
                  try simp only [Act.put, List.setIfInBounds_toArray, List.set_cons_zero, List.set_cons_succ]
                  refine take_l (i := 2) (v := ?_) rfl (by kernel_rfl) (by kernel_rfl) (by kernel_rfl) (fun _ _ _ h => h) (Or.inl ⟨by rfl, ?_⟩) ⟨HG.r, HG.c, HG.d, HG.fr.drew⟩ ?_
                  rotate_left 1
                  · intro w hSw; go_simp; with_reducible rfl
                  try simp only [Act.put, List.setIfInBounds_toArray, List.set_cons_zero, List.set_cons_succ]
                  refine take_l (i := 3) (v := ?_) rfl (by kernel_rfl) (by kernel_rfl) (by kernel_rfl) (fun _ _ _ h => h) (Or.inl ⟨by rfl, ?_⟩) ⟨HG.r, HG.c, HG.d, HG.fr.drew⟩ ?_
                  rotate_left 1
                  · intro w hSw; go_simp; with_reducible rfl
                  try simp only [Act.put, List.setIfInBounds_toArray, List.set_cons_zero, List.set_cons_succ]
                  refine take_l (i := 4) (v := ?_) rfl (by kernel_rfl) (by kernel_rfl) (by kernel_rfl) (fun _ _ _ h => h) (Or.inl ⟨by rfl, ?_⟩) ⟨HG.r, HG.c, HG.d, HG.fr.drew⟩ ?_
                  rotate_left 1
                  · intro w hSw; have r9 : w.cell? ⟨wr.heap.size, 2, none⟩ = some v7 := blk_cell hSw.r 2; go_simp; with_reducible rfl
                  try simp only [Act.put, List.setIfInBounds_toArray, List.set_cons_zero, List.set_cons_succ]
                  refine wpAnyH_ready (rs := [5]) (by kernel_rfl) (by simp) ?_
                  refine cons_l rfl (fun K hK => ?_) AllReadyH.nil
                  rw [if_pos (by rfl)]
                  refine store_wp (.tmp 2) (.tmp 54) w.heap.size c' _ rfl rfl rfl hz8 ?_
                  intro w9 hz9 hf9
                  try simp only [Act.put, List.setIfInBounds_toArray, List.set_cons_zero, List.set_cons_succ]
                  have hf9' : Fr (fun k => k = w.heap.size) w7 w9 := ⟨hf9.os, hf9.tape, hf9.output, hf9.size, hf9.block⟩
                  have hb9 := hf9'.blk hb8 (by omega)
                  have hC9 := hf9'.blk hC8 (by omega)
                  refine Shut.out hK _ _ ⟨hb9, hC9, ⟨_, hz9⟩, hf9'⟩ (fun HG9 => ?_)
                  refine take_l (i := 6) (v := ?_) rfl (by kernel_rfl) (by kernel_rfl) (by kernel_rfl) (fun _ _ _ h => h) (Or.inl ⟨by rfl, ?_⟩) HG9 ?_
                  rotate_left 1
                  · intro w hSw; go_simp; with_reducible rfl
                  try simp only [Act.put, List.setIfInBounds_toArray, List.set_cons_zero, List.set_cons_succ]
                  refine wpAnyH_done (by kernel_rfl) ?_ _
                  go_wp2
                  try simp only [Exit.inBlock, Exit.then]
                  rw [HP.out]
                  simp only [if_neg hlt]
                  have hmine : Mine w.heap.size w7 w.heap.size := ⟨Nat.le_refl _, _, _, hz8, by decide⟩
                  refine retC11 hz9 rfl rfl rfl ⟨v7, rfl, hv8.keep hf9' (m := w.heap.size) (fun k hk e => by subst e; exact hmine), ?_⟩
                  exact ((hf1.trans hf05).then hf78 (fun k hk e => by omega)).then hf9' (fun k hk e => by omega)
      · have hi2 : i = 21 := by omega
        subst hi2
        have hk : kindOf x = none := kind_none (fun j hj => hI.2.2 j hj hj)
        have hz2 : (wr.alloc (.cells #[.int .i64 151, .int .i64 0] 45)).heap[w.heap.size]? = some (.cells (enc zc) 33 (0, 0)) := blk_alloc HZ.out _
        go_wp2_with ((with_reducible refine gate_store (t := 33) (p := 2) rfl ?_); go_loud (refine store_cmd rfl (.tmp 2) (.tmp 60) w.heap.size zc zc rfl rfl rfl hz2 ?_); intro w5 hz5 hf5)
        have hP : parsedP S ws x = (zc, some (151, 0)) := by unfold parsedP; rw [hk]
        rw [hP]
        have hF : w5.heap[wr.heap.size]? = some (.cells #[.int .i64 151, .int .i64 0] 45 (0, 0)) := hf5.blk (blk_new wr _) (by omega)
        try simp only [Exit.inBlock, Exit.then]
        refine retC11 hz5 rfl rfl rfl ⟨.pointer (some ⟨wr.heap.size, 0, none⟩), rfl, ⟨wr.heap.size, rfl, hF⟩, ?_⟩
        exact (hf1.alloc _).then hf5 (fun k hk e => by omega)
end Go.Proofs.YtnidnmhcjngmeaaGreat.Scr
