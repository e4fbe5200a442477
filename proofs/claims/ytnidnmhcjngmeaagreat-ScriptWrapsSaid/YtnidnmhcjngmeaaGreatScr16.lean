/-
  words.Fields as a contract; script.Parse.
  Conditions: none.
-/
import Derived.Test.YtnidnmhcjngmeaaGreatScr15
set_option linter.unusedVariables false
set_option linter.unusedSimpArgs false
set_option autoImplicit false
namespace Go.Proofs.YtnidnmhcjngmeaaGreat.Scr
open Go.RowKit Go.Proofs.YtnidnmhcjngmeaaGreatW.PrintWords Go.Proofs.YtnidnmhcjngmeaaGreatW.PrintLast Go.Proofs.YtnidnmhcjngmeaaGreatW.PrintMore
open Go.Va (GOk SimP AV Out VRel Cells cx0 cells_cons cells_nil CT gt vg)
attribute [local go_sem] max2_int min2_int max_two min_two max_three min_three max_four min_four
/-- A row of texts. -/
def SlP (w : World) (ws : List ByteArray) (v : Value) : Prop := ∃ o cp, v = .slice o ws.length cp ∧ (0 < ws.length → ∃ g : Nat × Nat, o = some ⟨g.1, g.2, none⟩ ∧ g.1 < w.heap.size ∧ ∀ i (h : i < ws.length), w.cell? ⟨g.1, g.2 + i, none⟩ = some (.string ws[i]))
theorem sl_of {F : Nat → Prop} {w : World} {ws : List ByteArray} {v : Value} (h : VRel (cx0 F w) false (.vt .str ws) v) : SlP w ws v := by
  cases h with
  | vt h =>
    generalize hn : ws.length = n at h
    cases h with
    | vec0 => exact ⟨_, 0, by rw [hn], fun h => absurd h (by omega)⟩
    | vec f hB hne hcap hmax hl hc hr =>
      rename_i B off cap
      refine ⟨some ⟨B, off, none⟩, cap, by rw [hn], fun _ => ⟨(B, off), rfl, hB, fun i hi => ?_⟩⟩
      have h1 := hc i (by omega) 0 (by decide)
      have h2 := hr i (by omega) 0
      have h3 : gt (CT.enc .str (ws.getD i (CT.df .str))) 0 = .val (.string ws[i]) := by
        show AV.val (.string (ws.getD i ByteArray.empty)) = _
        rw [List.getD_eq_getElem?_getD, List.getElem?_eq_getElem hi]; rfl
      rw [h3] at h2
      rw [h2.inv_val] at h1
      show (cx0 F w).w.cell? _ = _
      simpa [CT.sz] using h1
theorem con_Fields {k : Nat} {x : ByteArray} {ws : List ByteArray} (h : Va.words_Fields.f k x = some ws) (w : World) : Calls Tryz.prog 7 #[.string x] w fun e w' => ∃ v, e = .returned v ∧ SlP w' ws v ∧ Fr (fun _ => False) w w' := by
  have hs := sim_of (Va.words_Fields.ok k) (args := [.val (.string x)]) (out := .ret (.vt .str ws)) (by
    show (Va.words_Fields.f k x).bind _ = _
    rw [h]; rfl)
  exact (hs w (fun _ => False) [.string x] (fun _ h => h.elim) (cells_cons (.val _) cells_nil)).mono fun e w' ⟨hf, c, he, hv⟩ => ⟨c, he, sl_of hv, .of_below hf.b⟩
def topP (r : Cmd × Bad) : Cmd × Bad := match r.2 with
  | none => (r.1, none)
  | some f => (zc, some f)
def parseR (S : Says) (line : ByteArray) (ws : List ByteArray) : Cmd × Bad := if line.size > 256 then (zc, some (153, -1)) else if h : 0 < ws.length then topP (parsedP S ws ws[0]) else (zc, none)
/-- An error of the package. -/
def ErrP (w : World) : Bad → Value → Prop
  | none, v => v = .nilIface
  | some (c, a), v => ∃ F, v = .iface 43 (.pointer (some ⟨F, 0, none⟩)) ∧ w.heap[F]? = some (.cells #[.int .i64 c, .int .i64 a] 45 (0, 0))
set_option maxRecDepth 100000 in
set_option maxHeartbeats 8000000 in
theorem parse_ok (S : Says) (line : ByteArray) (ws : List ByteArray) (k : Nat) (w : World) (hS : S.ok ws) (hlen : ws.length ≤ 1000) (hF : line.size ≤ 256 → Va.words_Fields.f k line = some ws) :
    Calls Tryz.prog 4 #[.string line] w fun e w' => ∃ v, e = .returned (.tuple #[.agg (enc (parseR S line ws).1), v]) ∧ ErrP w' (parseR S line ws).2 v ∧ Fr (fun _ => False) w w' := by
  have hz0 := blk_new w (.cells (enc zc) 33 (0, 0))
  by_cases h1 : line.size > 256
  · have d1 : decide ((line.size : Int) > 256) = true := decide_eq_true (by omega)
    have d2 : (line.size : Int) > 256 := by omega
    have hR : parseR S line ws = (zc, some (153, -1)) := by unfold parseR; rw [if_pos h1]
    have HR := Aside0.mk hR
    clear hR h1
    have hz1 := blk_alloc hz0 (.cells #[.int .i64 153, .int .i64 (-1)] 45)
    have hFl := blk_second w (.cells (enc zc) 33 (0, 0)) (.cells #[.int .i64 153, .int .i64 (-1)] 45)
    have hf1 : Fr (fun _ => False) w ((w.alloc (.cells (enc zc) 33 (0, 0))).alloc (.cells #[.int .i64 153, .int .i64 (-1)] 45)) := ((Fr.refl _ w).alloc _).alloc _
    go_enter Tryz.func4, Tryz.ntmps4
    go_wp2_with ((with_reducible refine gate_store (t := 33) (p := 2) rfl ?_); go_loud (refine store_cmd rfl (.tmp 2) (.tmp 10) w.heap.size zc zc rfl rfl rfl hz1 ?_); intro w5 hz5 hf5)
    try simp only [Exit.inBlock, Exit.then]
    rw [HR.out]
    exact retC5 hz5 rfl rfl rfl ⟨_, rfl, ⟨w.heap.size + 1, rfl, hf5.blk hFl (by omega)⟩, hf1.then hf5 (fun k hk e => by omega)⟩
  · have hF := hF (by omega)
    have d1 : decide ((line.size : Int) > 256) = false := decide_eq_false (by omega)
    have d2 : ¬ (line.size : Int) > 256 := by omega
    by_cases h2 : 0 < ws.length
    · have d3 : ((ws.length : Int) == 0) = false := by rw [beq_eq_false_iff_ne]; omega
      generalize hp : parsedP S ws ws[0] = r
      obtain ⟨c, bad⟩ := r
      have hpo := fun g cp w hg hrow => parsed_ok S g cp ws w hS hg hlen h2 hrow
      rw [hp] at hpo
      have HP := Aside0.mk (show parseR S line ws = topP (c, bad) by unfold parseR; rw [if_neg h1, dif_pos h2, hp])
      clear hp h1
      rcases bad with _ | ⟨c1, a1⟩
      · go_enter Tryz.func4, Tryz.ntmps4
        go_wp2_with (first
          | (go_at_call 7; (with_reducible refine (con_Fields hF _).mono ?_); rintro e w1 ⟨v1, rfl, ⟨o, cp, rfl, hsl⟩, hf1⟩
             obtain ⟨g, rfl, hg, hrow⟩ := hsl h2
             have hz1 := hf1.blk hz0 (fun h => h))
          | (go_at_call 8; (with_reducible refine (hpo g cp _ hg hrow).mono ?_); rintro e w2 ⟨v2, rfl, hb2, hf2⟩
             obtain rfl : v2 = .pointer none := hb2
             have hz2 := hf2.blk hz1 (fun h => h)
             have l2 := blk_lt hz2
             have hn2 := blk_new w2 (.cells (enc zc) 33 (0, 0)))
          | ((with_reducible refine gate_store (t := 33) (p := 5) rfl ?_); go_loud (refine store_cmd rfl (.tmp 5) (.tmp 23) w2.heap.size c zc rfl rfl rfl hn2 ?_); intro w3 hz3 hf3
             have hD3 := hf3.blk (blk_alloc hz2 (.cells (enc zc) 33 (0, 0))) (by omega))
          | ((with_reducible refine gate_dst (N := 30) rfl ?_); go_loud (refine load_cmd rfl (.tmp 5) w2.heap.size c rfl rfl hz3 ?_))
          | ((with_reducible refine gate_store (t := 33) (p := 2) rfl ?_); go_loud (refine store_cmd rfl (.tmp 2) (.tmp 30) w.heap.size c zc rfl rfl rfl hD3 ?_); intro w4 hz4 hf4))
        try simp only [Exit.inBlock, Exit.then]
        rw [HP.out]
        exact retC5 hz4 rfl rfl rfl ⟨_, rfl, rfl, ((((((Fr.refl _ w).alloc _).trans hf1).trans hf2).alloc _).then hf3 (fun k hk e => by have := hf1.size; have := hf2.size; simp at *; omega)).then hf4 (fun k hk e => by omega)⟩
      · go_enter Tryz.func4, Tryz.ntmps4
        go_wp2_with (first
          | (go_at_call 7; (with_reducible refine (con_Fields hF _).mono ?_); rintro e w1 ⟨v1, rfl, ⟨o, cp, rfl, hsl⟩, hf1⟩
             obtain ⟨g, rfl, hg, hrow⟩ := hsl h2
             have hz1 := hf1.blk hz0 (fun h => h))
          | (go_at_call 8; (with_reducible refine (hpo g cp _ hg hrow).mono ?_); rintro e w2 ⟨v2, rfl, hb2, hf2⟩
             obtain ⟨F, rfl, hF2⟩ : ∃ F, v2 = .pointer (some ⟨F, 0, none⟩) ∧ w2.heap[F]? = some (.cells #[.int .i64 c1, .int .i64 a1] 45 (0, 0)) := hb2
             have hz2 := hf2.blk hz1 (fun h => h)
             have l2 := blk_lt hz2
             have lF := blk_lt hF2
             have hn2 := blk_new w2 (.cells (enc zc) 33 (0, 0)))
          | ((with_reducible refine gate_store (t := 33) (p := 5) rfl ?_); go_loud (refine store_cmd rfl (.tmp 5) (.tmp 23) w2.heap.size c zc rfl rfl rfl hn2 ?_); intro w3 hz3 hf3
             have hD3 := hf3.blk (blk_alloc hz2 (.cells (enc zc) 33 (0, 0))) (by omega)
             have hF3 := hf3.blk (blk_alloc hF2 (.cells (enc zc) 33 (0, 0))) (by omega))
          | ((with_reducible refine gate_store (t := 33) (p := 2) rfl ?_); go_loud (refine store_cmd rfl (.tmp 2) (.tmp 27) w.heap.size zc zc rfl rfl rfl hD3 ?_); intro w4 hz4 hf4))
        try simp only [Exit.inBlock, Exit.then]
        rw [HP.out]
        have hne : F ≠ w.heap.size := fun e => by
          subst e
          rw [hz2] at hF2
          have h9 : (33 : Nat) = 45 := congrArg (fun o => match o with | some (Obj.cells _ t _) => t | _ => 0) hF2
          exact absurd h9 (by decide)
        exact retC5 hz4 rfl rfl rfl ⟨_, rfl, ⟨F, rfl, hf4.blk hF3 hne⟩, ((((((Fr.refl _ w).alloc _).trans hf1).trans hf2).alloc _).then hf3 (fun k hk e => by have := hf1.size; have := hf2.size; simp at *; omega)).then hf4 (fun k hk e => by omega)⟩
    · have h3 : ws.length = 0 := by omega
      have d3 : ((ws.length : Int) == 0) = true := by rw [h3]; rfl
      have HP := Aside0.mk (show parseR S line ws = (zc, none) by unfold parseR; rw [if_neg h1, dif_neg h2])
      go_enter Tryz.func4, Tryz.ntmps4
      go_wp2_with (first
        | (go_at_call 7; (with_reducible refine (con_Fields hF _).mono ?_); rintro e w1 ⟨v1, rfl, ⟨o, cp, rfl, hsl⟩, hf1⟩
           have hz1 := hf1.blk hz0 (fun h => h))
        | ((with_reducible refine gate_store (t := 33) (p := 2) rfl ?_); go_loud (refine store_cmd rfl (.tmp 2) (.tmp 19) w.heap.size zc zc rfl rfl rfl hz1 ?_); intro w4 hz4 hf4))
      try simp only [Exit.inBlock, Exit.then]
      rw [HP.out]
      exact retC5 hz4 rfl rfl rfl ⟨_, rfl, rfl, (((Fr.refl _ w).alloc _).trans hf1).then hf4 (fun k hk e => by omega)⟩
end Go.Proofs.YtnidnmhcjngmeaaGreat.Scr
