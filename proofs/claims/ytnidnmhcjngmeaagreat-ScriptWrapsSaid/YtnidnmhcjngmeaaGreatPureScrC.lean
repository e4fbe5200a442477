/-
  The forms as letters, and the document's answer to the words behind each name (printed by genform.py).
  Conditions: words of at most 1048576 bytes.
-/
import Derived.Test.YtnidnmhcjngmeaaGreatPureScrB

set_option linter.unusedSimpArgs false
set_option linter.unusedVariables false
set_option autoImplicit false
namespace Go.Proofs.YtnidnmhcjngmeaaGreat.Scr
open Go.Va (nameB name_eq sizeP size_eq number_eq fieldsP fields_eq optD byteAt wrap_i64e)
open Go (IntKind)
variable {ws : List ByteArray}
def stepG (ws : List ByteArray) (l : Nat) (st : St) : St := match st.2.1 with
  | some f => (st.1, some f, st.2.2)
  | none => if h : st.1 < ws.length then (match goL l st.2.2 ws[st.1] with
    | .ok c => (st.1 + 1, none, c)
    | .error e => (st.1 + 1, some (e, (st.1 : Int)), st.2.2)) else (st.1, some (152, (ws.length : Int)), st.2.2)
def flagG (ws : List ByteArray) (l : Nat) (st : St) : St := match st.2.1 with
  | some f => (st.1, some f, st.2.2)
  | none => if h : st.1 < ws.length then (match goL l st.2.2 ws[st.1] with
    | .ok c => (st.1 + 1, none, c)
    | .error e => (st.1 + 1, some (e, (st.1 : Int)), st.2.2)) else (st.1, none, st.2.2)
theorem step_map {α : Type} (l : Nat) (st : St) (old : α) (go : ByteArray → Except Int α) (set : Cmd → α → Cmd) (hg : ∀ c x, goL l c x = (go x).map (set c)) (hs : set st.2.2 old = st.2.2) :
    ((step ws st.1 st.2.1 old go).1, (step ws st.1 st.2.1 old go).2.1, set st.2.2 (step ws st.1 st.2.1 old go).2.2) = stepG ws l st := by
  obtain ⟨n, bad, c⟩ := st
  simp only at hs
  unfold step stepG
  rcases bad with _ | f
  · simp only
    by_cases h : n < ws.length
    · rw [dif_pos h, dif_pos h, hg]
      cases go ws[n] with
      | ok v => rfl
      | error e => simp only [Except.map]; rw [hs]
    · rw [dif_neg h, dif_neg h]; simp only; rw [hs]
  · simp only; rw [hs]
theorem sName_g (st : St) : sName SS ws st = stepG ws 78 st := step_map 78 st st.2.2.f14 _ (fun c v => { c with f14 := v }) (fun c x => rfl) rfl
theorem sOther_g (st : St) : sOther SS ws st = stepG ws 79 st := step_map 79 st st.2.2.f15 _ (fun c v => { c with f15 := v }) (fun c x => rfl) rfl
theorem sSize_g (st : St) : sSize SS ws st = stepG ws 115 st := step_map 115 st st.2.2.f18 _ (fun c v => { c with f18 := v }) (fun c x => rfl) rfl
theorem sVA_g (st : St) : sVA SS ws st = stepG ws 86 st := step_map 86 st st.2.2.f16 _ (fun c v => { c with f16 := v }) (fun c x => rfl) rfl
theorem sFrom_g (st : St) : sFrom SS ws st = stepG ws 70 st := step_map 70 st st.2.2.f17 _ (fun c v => { c with f17 := v }) (fun c x => rfl) rfl
theorem sValue_g (st : St) : sValue SS ws st = stepG ws 87 st := step_map 87 st st.2.2.f25 _ (fun c v => { c with f25 := v }) (fun c x => rfl) rfl
theorem sLen_g (st : St) : sLen SS ws st = stepG ws 76 st := step_map 76 st st.2.2.f20 _ (fun c v => { c with f20 := v }) (fun c x => rfl) rfl
theorem sPA_g (st : St) : sPA SS ws st = stepG ws 80 st := step_map 80 st st.2.2.f27 _ (fun c v => { c with f27 := v }) (fun c x => rfl) rfl
theorem sCount_g (st : St) : sCount SS ws st = stepG ws 99 st := step_map 99 st st.2.2.f19 _ (fun c v => { c with f19 := v }) (fun c x => rfl) rfl
theorem sBytes_g (st : St) : sBytes SS ws st = stepG ws 98 st := step_map 98 st st.2.2.f24 _ (fun c v => { c with f24 := v }) (fun c x => rfl) rfl
theorem sCRn_g (st : St) : sCRn SS ws st = stepG ws 67 st := step_map 67 st st.2.2.f28 _ (fun c v => { c with f28 := v }) (fun c x => rfl) rfl
theorem sOp1_g (st : St) : sOp1 SS ws st = stepG ws 111 st := step_map 111 st st.2.2.f29 _ (fun c v => { c with f29 := v }) (fun c x => rfl) rfl
theorem sCRm_g (st : St) : sCRm SS ws st = stepG ws 77 st := step_map 77 st st.2.2.f30 _ (fun c v => { c with f30 := v }) (fun c x => rfl) rfl
theorem sOp2_g (st : St) : sOp2 SS ws st = stepG ws 112 st := step_map 112 st st.2.2.f31 _ (fun c v => { c with f31 := v }) (fun c x => rfl) rfl
theorem sC1_g (st : St) : sC1 SS ws st = stepG ws 49 st := step_map 49 st st.2.2.f1 _ (fun c v => { c with f1 := v }) (fun c x => rfl) rfl
theorem sC2_g (st : St) : sC2 SS ws st = stepG ws 50 st := step_map 50 st st.2.2.f2 _ (fun c v => { c with f2 := v }) (fun c x => rfl) rfl
theorem sC3_g (st : St) : sC3 SS ws st = stepG ws 51 st := step_map 51 st st.2.2.f3 _ (fun c v => { c with f3 := v }) (fun c x => rfl) rfl
theorem sC4_g (st : St) : sC4 SS ws st = stepG ws 52 st := step_map 52 st st.2.2.f4 _ (fun c v => { c with f4 := v }) (fun c x => rfl) rfl
theorem sC5_g (st : St) : sC5 SS ws st = stepG ws 53 st := step_map 53 st st.2.2.f5 _ (fun c v => { c with f5 := v }) (fun c x => rfl) rfl
theorem sC6_g (st : St) : sC6 SS ws st = stepG ws 54 st := step_map 54 st st.2.2.f6 _ (fun c v => { c with f6 := v }) (fun c x => rfl) rfl
theorem sRights_g (st : St) : sRights SS ws st = stepG ws 114 st := step_map 114 st (st.2.2.f21, st.2.2.f22, st.2.2.f23) _ (fun c v => { c with f21 := v.1, f22 := v.2.1, f23 := v.2.2 }) (fun c x => rfl) rfl
theorem fOther_g (st : St) : fOther SS ws st = stepG ws 83 st := by
  have h := sName_g (ws := ws) st
  obtain ⟨n, bad, c⟩ := st
  unfold fOther
  rw [h]
  unfold stepG
  rcases bad with _ | f
  · simp only [dash]
    have hg : ∀ x, goL 83 c x = if x.toList == [45] then .ok c else goL 78 c x := fun x => rfl
    by_cases h : n < ws.length
    · rw [dif_pos h, dif_pos h, dif_pos h, hg]
      cases ws[n].toList == [45] <;> rfl
    · rw [dif_neg h, dif_neg h, dif_neg h]; rfl
  · simp only [dash]; rfl
theorem sFlag_g (st : St) : sFlag tPriv SS ws st = flagG ws 113 st := by
  obtain ⟨n, bad, c⟩ := st
  unfold sFlag flagG flagP
  rcases bad with _ | f
  · simp only
    by_cases h : n < ws.length
    · rw [dif_pos h, dif_pos h]
      have hg : goL 113 c ws[n] = if ws[n].toList == tPriv.toList then .ok { c with f26 := true } else .error 12 := rfl
      rw [hg]
      cases ws[n].toList == tPriv.toList <;> rfl
    · rw [dif_neg h, dif_neg h]
  · rfl
theorem not_not_f (c : Cmd) : ({ c with f26 := !(!c.f26) } : Cmd) = c := by rw [Bool.not_not]
theorem sNot_g (st : St) : sNot tUser SS ws st = flagG ws 117 st := by
  obtain ⟨n, bad, c⟩ := st
  unfold sNot flagG flagP
  rcases bad with _ | f
  · simp only
    by_cases h : n < ws.length
    · rw [dif_pos h, dif_pos h]
      have hg : goL 117 c ws[n] = if ws[n].toList == tUser.toList then .ok { c with f26 := false } else .error 12 := rfl
      rw [hg]
      cases ws[n].toList == tUser.toList
      · exact congrArg (fun z => (n + 1, some (12, (n : Int)), z)) (not_not_f c)
      · rfl
    · rw [dif_neg h, dif_neg h]; exact congrArg (fun z => (n, none, z)) (not_not_f c)
  · exact congrArg (fun z => (n, some f, z)) (not_not_f c)
def runG (ws : List ByteArray) : List Nat → St → St
  | [], st => st
  | l :: ls, st => runG ws ls (stepG ws l st)
def lets : Nat → List Nat
  | 1 => [49, 50, 51, 52, 53, 54]
  | 2 => [49, 50, 51, 52]
  | 4 => [78]
  | 5 => [78]
  | 6 => [83]
  | 7 => [78, 86, 115, 99, 114]
  | 8 => [78, 86, 76]
  | 9 => [78, 86, 76, 114]
  | 10 => [78, 86, 79, 70, 76, 114]
  | 11 => [78, 86]
  | 12 => [86, 98]
  | 13 => [86, 98, 87]
  | 14 => [86, 98]
  | 15 => []
  | 16 => [80, 87]
  | 17 => [80]
  | 18 => [67, 111, 77, 112, 87]
  | 19 => [67, 111, 77, 112]
  | 20 => []
  | _ => []
def flg : Nat → Option Nat
  | 12 => some 113
  | 13 => some 113
  | 14 => some 113
  | 18 => some 117
  | 19 => some 117
  | _ => none
def endG (ws : List ByteArray) (f : Option Nat) (st : St) : St := match f with
  | some l => flagG ws l st
  | none => st
theorem form_g (k : Nat) (h : 1 ≤ k ∧ k ≤ 20) (h3 : k ≠ 3) : formP SS ws k (1, none, c0 k) = endG ws (flg k) (runG ws (lets k) (1, none, c0 k)) := by
  rcases (show k = 1 ∨ k = 2 ∨ k = 4 ∨ k = 5 ∨ k = 6 ∨ k = 7 ∨ k = 8 ∨ k = 9 ∨ k = 10 ∨ k = 11 ∨ k = 12 ∨ k = 13 ∨ k = 14 ∨ k = 15 ∨ k = 16 ∨ k = 17 ∨ k = 18 ∨ k = 19 ∨ k = 20 by omega) with rfl | rfl | rfl | rfl | rfl | rfl | rfl | rfl | rfl | rfl | rfl | rfl | rfl | rfl | rfl | rfl | rfl | rfl | rfl
  · show fBoot SS ws _ = _
    simp only [fBoot, sName_g, sOther_g, sSize_g, sVA_g, sFrom_g, sValue_g, sLen_g, sPA_g, sCount_g, sBytes_g, sCRn_g, sOp1_g, sCRm_g, sOp2_g, sC1_g, sC2_g, sC3_g, sC4_g, sC5_g, sC6_g, sRights_g, sFlag_g, sNot_g]
    rfl
  · show fBare SS ws _ = _
    simp only [fBare, sName_g, sOther_g, sSize_g, sVA_g, sFrom_g, sValue_g, sLen_g, sPA_g, sCount_g, sBytes_g, sCRn_g, sOp1_g, sCRm_g, sOp2_g, sC1_g, sC2_g, sC3_g, sC4_g, sC5_g, sC6_g, sRights_g, sFlag_g, sNot_g]
    rfl
  · show fOne SS ws _ = _
    simp only [fOne, sName_g, sOther_g, sSize_g, sVA_g, sFrom_g, sValue_g, sLen_g, sPA_g, sCount_g, sBytes_g, sCRn_g, sOp1_g, sCRm_g, sOp2_g, sC1_g, sC2_g, sC3_g, sC4_g, sC5_g, sC6_g, sRights_g, sFlag_g, sNot_g]
    rfl
  · show fOne SS ws _ = _
    simp only [fOne, sName_g, sOther_g, sSize_g, sVA_g, sFrom_g, sValue_g, sLen_g, sPA_g, sCount_g, sBytes_g, sCRn_g, sOp1_g, sCRm_g, sOp2_g, sC1_g, sC2_g, sC3_g, sC4_g, sC5_g, sC6_g, sRights_g, sFlag_g, sNot_g]
    rfl
  · exact fOther_g _
  · show fMap SS ws _ = _
    simp only [fMap, sName_g, sOther_g, sSize_g, sVA_g, sFrom_g, sValue_g, sLen_g, sPA_g, sCount_g, sBytes_g, sCRn_g, sOp1_g, sCRm_g, sOp2_g, sC1_g, sC2_g, sC3_g, sC4_g, sC5_g, sC6_g, sRights_g, sFlag_g, sNot_g]
    rfl
  · show fUnmap SS ws _ = _
    simp only [fUnmap, sName_g, sOther_g, sSize_g, sVA_g, sFrom_g, sValue_g, sLen_g, sPA_g, sCount_g, sBytes_g, sCRn_g, sOp1_g, sCRm_g, sOp2_g, sC1_g, sC2_g, sC3_g, sC4_g, sC5_g, sC6_g, sRights_g, sFlag_g, sNot_g]
    rfl
  · show fProtect SS ws _ = _
    simp only [fProtect, sName_g, sOther_g, sSize_g, sVA_g, sFrom_g, sValue_g, sLen_g, sPA_g, sCount_g, sBytes_g, sCRn_g, sOp1_g, sCRm_g, sOp2_g, sC1_g, sC2_g, sC3_g, sC4_g, sC5_g, sC6_g, sRights_g, sFlag_g, sNot_g]
    rfl
  · show fShare SS ws _ = _
    simp only [fShare, sName_g, sOther_g, sSize_g, sVA_g, sFrom_g, sValue_g, sLen_g, sPA_g, sCount_g, sBytes_g, sCRn_g, sOp1_g, sCRm_g, sOp2_g, sC1_g, sC2_g, sC3_g, sC4_g, sC5_g, sC6_g, sRights_g, sFlag_g, sNot_g]
    rfl
  · show fQuery SS ws _ = _
    simp only [fQuery, sName_g, sOther_g, sSize_g, sVA_g, sFrom_g, sValue_g, sLen_g, sPA_g, sCount_g, sBytes_g, sCRn_g, sOp1_g, sCRm_g, sOp2_g, sC1_g, sC2_g, sC3_g, sC4_g, sC5_g, sC6_g, sRights_g, sFlag_g, sNot_g]
    rfl
  · show sFlag tPriv SS ws (valIf SS ws 13 12 (sBytes SS ws (sVA SS ws (1, none, c0 12)))) = _
    rw [valIf_neg SS ws _ (by decide)]
    simp only [sName_g, sOther_g, sSize_g, sVA_g, sFrom_g, sValue_g, sLen_g, sPA_g, sCount_g, sBytes_g, sCRn_g, sOp1_g, sCRm_g, sOp2_g, sC1_g, sC2_g, sC3_g, sC4_g, sC5_g, sC6_g, sRights_g, sFlag_g, sNot_g]
    rfl
  · show sFlag tPriv SS ws (valIf SS ws 13 13 (sBytes SS ws (sVA SS ws (1, none, c0 13)))) = _
    rw [valIf_pos SS ws _ rfl]
    simp only [sName_g, sOther_g, sSize_g, sVA_g, sFrom_g, sValue_g, sLen_g, sPA_g, sCount_g, sBytes_g, sCRn_g, sOp1_g, sCRm_g, sOp2_g, sC1_g, sC2_g, sC3_g, sC4_g, sC5_g, sC6_g, sRights_g, sFlag_g, sNot_g]
    rfl
  · show sFlag tPriv SS ws (valIf SS ws 13 14 (sBytes SS ws (sVA SS ws (1, none, c0 14)))) = _
    rw [valIf_neg SS ws _ (by decide)]
    simp only [sName_g, sOther_g, sSize_g, sVA_g, sFrom_g, sValue_g, sLen_g, sPA_g, sCount_g, sBytes_g, sCRn_g, sOp1_g, sCRm_g, sOp2_g, sC1_g, sC2_g, sC3_g, sC4_g, sC5_g, sC6_g, sRights_g, sFlag_g, sNot_g]
    rfl
  · rfl
  · show fPoke SS ws _ = _
    simp only [fPoke, sName_g, sOther_g, sSize_g, sVA_g, sFrom_g, sValue_g, sLen_g, sPA_g, sCount_g, sBytes_g, sCRn_g, sOp1_g, sCRm_g, sOp2_g, sC1_g, sC2_g, sC3_g, sC4_g, sC5_g, sC6_g, sRights_g, sFlag_g, sNot_g]
    rfl
  · show fPeek SS ws _ = _
    simp only [fPeek, sName_g, sOther_g, sSize_g, sVA_g, sFrom_g, sValue_g, sLen_g, sPA_g, sCount_g, sBytes_g, sCRn_g, sOp1_g, sCRm_g, sOp2_g, sC1_g, sC2_g, sC3_g, sC4_g, sC5_g, sC6_g, sRights_g, sFlag_g, sNot_g]
    rfl
  · show sNot tUser SS ws (valIf SS ws 18 18 (sOp2 SS ws (sCRm SS ws (sOp1 SS ws (sCRn SS ws (1, none, c0 18)))))) = _
    rw [valIf_pos SS ws _ rfl]
    simp only [sName_g, sOther_g, sSize_g, sVA_g, sFrom_g, sValue_g, sLen_g, sPA_g, sCount_g, sBytes_g, sCRn_g, sOp1_g, sCRm_g, sOp2_g, sC1_g, sC2_g, sC3_g, sC4_g, sC5_g, sC6_g, sRights_g, sFlag_g, sNot_g]
    rfl
  · show sNot tUser SS ws (valIf SS ws 18 19 (sOp2 SS ws (sCRm SS ws (sOp1 SS ws (sCRn SS ws (1, none, c0 19)))))) = _
    rw [valIf_neg SS ws _ (by decide)]
    simp only [sName_g, sOther_g, sSize_g, sVA_g, sFrom_g, sValue_g, sLen_g, sPA_g, sCount_g, sBytes_g, sCRn_g, sOp1_g, sCRm_g, sOp2_g, sC1_g, sC2_g, sC3_g, sC4_g, sC5_g, sC6_g, sRights_g, sFlag_g, sNot_g]
    rfl
  · rfl
/-- What is made of a form's end: the words left over. -/
def finG (ws : List ByteArray) (st : St) : Cmd × Bad := (st.2.2, if st.1 < ws.length then failB st.2.1 152 (st.1 : Int) else st.2.1)
/-- The command, or the flaw, is the document's. -/
def Same (r : Cmd × Bad) (q : Cmd × Int × Int) : Prop := match r.2 with
  | none => q = (r.1, 0, -1)
  | some (c, a) => q.2 = (c, a) ∧ c ≠ 0
theorem fin_bad (n : Nat) (f : Int × Int) (c : Cmd) : finG ws (n, some f, c) = (c, some f) := by
  unfold finG failB; simp only [ite_self]
theorem same_err {c d : Cmd} {e a : Int} (h : e ≠ 0) : Same (c, some (e, a)) (d, e, a) := ⟨rfl, h⟩
theorem same_err2 {c d : Cmd} {e a b : Int} (h : e ≠ 0) (hb : a = b) : Same (c, some (e, a)) (d, e, b) := ⟨by rw [hb], h⟩
theorem stop_run (ls : List Nat) (n : Nat) (f : Int × Int) : ∀ c, ∃ c', runG ws ls (n, some f, c) = (n, some f, c') := by
  induction ls with
  | nil => exact fun c => ⟨c, rfl⟩
  | cons l ls ih => exact fun c => ih c
theorem run_ref (ls : List Nat) (hlet : ∀ l ∈ ls, l ∈ letters) (hw : ∀ x ∈ ws, x.size ≤ 1048576) : ∀ (i : Nat) (c : Cmd), i ≤ ws.length →
    match refR ws ls i c with
    | .error (e, j) => e ≠ 0 ∧ j < ws.length ∧ ∃ c', runG ws ls (i, none, c) = (j + 1, some (e, (j : Int)), c')
    | .ok c' => if i + ls.length ≤ ws.length then runG ws ls (i, none, c) = (i + ls.length, none, c') else ∃ c2, runG ws ls (i, none, c) = (ws.length, some (152, (ws.length : Int)), c2) := by
  induction ls with
  | nil => intro i c hi; simp only [refR, List.length_nil, Nat.add_zero, if_pos hi]; rfl
  | cons l ls ih =>
    intro i c hi
    have ih := ih (fun l hl => hlet l (List.mem_cons_of_mem _ hl))
    simp only [refR, runG, stepG]
    by_cases h : i < ws.length
    · rw [dif_pos h, dif_pos h]
      obtain ⟨c2, e, hp, hor⟩ := put_ok (ws[i].size + 100) l (hlet l List.mem_cons_self) c ws[i] (hw _ (List.getElem_mem h)) (by omega) (by omega)
      rcases hor with ⟨h0, hg⟩ | ⟨h0, hg⟩
      · rw [hg]
        have := ih (i + 1) c2 (by omega)
        simp only
        cases hr : refR ws ls (i + 1) c2 with
        | error x => simpa only [hr] using this
        | ok c' =>
          simp only [hr] at this
          simp only [List.length_cons]
          by_cases h2 : i + 1 + ls.length ≤ ws.length
          · rw [if_pos h2] at this
            rw [if_pos (by omega), this]
            congr 1; omega
          · rw [if_neg h2] at this
            rw [if_neg (by omega)]; exact this
      · rw [hg]
        obtain ⟨c', hc⟩ := stop_run (ws := ws) ls (i + 1) (e, (i : Int)) c
        exact ⟨h0, h, c', hc⟩
    · rw [dif_neg h, dif_neg h]
      simp only [List.length_cons]
      rw [if_neg (by omega)]
      obtain rfl : i = ws.length := by omega
      exact stop_run ls _ _ c
theorem refR_app (ls : List Nat) (l : Nat) : ∀ (i : Nat) (c : Cmd), i ≤ ws.length → refR ws (ls ++ [l]) i c = match refR ws ls i c with
    | .error x => .error x
    | .ok c' => if i + ls.length < ws.length then refR ws [l] (i + ls.length) c' else .ok c' := by
  induction ls with
  | nil =>
    intro i c hi
    simp only [List.nil_append, refR, List.length_nil, Nat.add_zero]
    by_cases h : i < ws.length
    · rw [dif_pos h, if_pos h]
    · rw [dif_neg h, if_neg h]
  | cons a ls ih =>
    intro i c hi
    simp only [List.cons_append, refR]
    by_cases h : i < ws.length
    · rw [dif_pos h, dif_pos h]
      cases goL a c ws[i] with
      | error e => rfl
      | ok c2 =>
        simp only
        rw [ih (i + 1) c2 (by omega)]
        simp only [List.length_cons, show i + 1 + ls.length = i + (ls.length + 1) by omega, refR]
    · rw [dif_neg h, dif_neg h]
      simp only [List.length_cons]
      rw [if_neg (by omega)]
theorem no_flag (ls : List Nat) (hlet : ∀ l ∈ ls, l ∈ letters) (hw : ∀ x ∈ ws, x.size ≤ 1048576) (h1 : 1 ≤ ws.length) (c : Cmd) : Same (finG ws (runG ws ls (1, none, c))) (refF ws ls.length ls.length (refR ws ls 1 c)) := by
  have h := run_ref ls hlet hw 1 c h1
  cases hr : refR ws ls 1 c with
  | error x =>
    obtain ⟨e, j⟩ := x
    simp only [hr] at h
    obtain ⟨h0, hj, c', hc⟩ := h
    rw [hc]
    rw [fin_bad]
    exact same_err h0
  | ok c' =>
    simp only [hr] at h
    simp only [refF]
    by_cases h2 : 1 + ls.length ≤ ws.length
    · rw [if_pos h2] at h
      rw [h, if_neg (by omega)]
      by_cases h3 : ls.length + 1 < ws.length
      · rw [if_pos h3]
        have e1 : finG ws (1 + ls.length, none, c') = (c', some (152, ((1 + ls.length : Nat) : Int))) := by unfold finG; rw [if_pos (show 1 + ls.length < ws.length by omega)]
        rw [e1]
        exact same_err2 (by decide) (by omega)
      · rw [if_neg h3]
        simp only [finG, if_neg (show ¬ 1 + ls.length < ws.length by omega), Same]
    · rw [if_neg h2] at h
      obtain ⟨c2, hc⟩ := h
      rw [hc, if_pos (by omega), fin_bad]
      exact same_err (by decide)
theorem with_flag (ls : List Nat) (l : Nat) (hlet : ∀ a ∈ ls, a ∈ letters) (hl : l ∈ letters) (hw : ∀ x ∈ ws, x.size ≤ 1048576) (h1 : 1 ≤ ws.length) (c : Cmd) : Same (finG ws (flagG ws l (runG ws ls (1, none, c)))) (refF ws (ls.length + 1) ls.length (refR ws (ls ++ [l]) 1 c)) := by
  have h := run_ref ls hlet hw 1 c h1
  rw [refR_app ls l 1 c h1]
  cases hr : refR ws ls 1 c with
  | error x =>
    obtain ⟨e, j⟩ := x
    simp only [hr] at h
    obtain ⟨h0, hj, c', hc⟩ := h
    rw [hc]
    simp only [flagG]
    rw [fin_bad]
    exact same_err h0
  | ok c' =>
    simp only [hr] at h
    simp only
    by_cases h2 : 1 + ls.length ≤ ws.length
    · rw [if_pos h2] at h
      rw [h]
      by_cases h3 : 1 + ls.length < ws.length
      · rw [if_pos h3]
        simp only [refR, flagG]
        rw [dif_pos h3, dif_pos h3]
        obtain ⟨c2, e, hp, hor⟩ := put_ok (ws[1 + ls.length].size + 100) l hl c' ws[1 + ls.length] (hw _ (List.getElem_mem h3)) (by omega) (by omega)
        rcases hor with ⟨h0, hg⟩ | ⟨h0, hg⟩
        · rw [hg]
          simp only [refF]
          rw [if_neg (by omega)]
          by_cases h4 : ls.length + 1 + 1 < ws.length
          · rw [if_pos h4]
            have e1 : finG ws (1 + ls.length + 1, none, c2) = (c2, some (152, ((1 + ls.length + 1 : Nat) : Int))) := by unfold finG; rw [if_pos (show 1 + ls.length + 1 < ws.length by omega)]
            rw [e1]
            exact same_err2 (by decide) (by omega)
          · rw [if_neg h4]
            simp only [finG, if_neg (show ¬ 1 + ls.length + 1 < ws.length by omega), Same]
        · rw [hg]
          simp only [refF]
          rw [fin_bad]
          exact same_err h0
      · rw [if_neg h3]
        simp only [refF, flagG]
        rw [dif_neg h3, if_neg (by omega), if_neg (by omega)]
        simp only [finG, if_neg h3, Same]
    · rw [if_neg h2] at h
      obtain ⟨c2, hc⟩ := h
      rw [hc, if_neg (by omega)]
      simp only [refF, flagG]
      rw [if_pos (by omega), fin_bad]
      exact same_err (by decide)
end Go.Proofs.YtnidnmhcjngmeaaGreat.Scr

/-
  The document's answer to the words of a noise, and the program's (printed by gennoise.py).
  Conditions: words of at most 1048576 bytes.
-/
namespace Go.Proofs.YtnidnmhcjngmeaaGreat.Scr
open Go.Va (nameB name_eq sizeP size_eq number_eq fieldsP fields_eq optD byteAt wrap_i64e)
open Go (IntKind)
variable {ws : List ByteArray}
abbrev untup (t : CT32) : Cmd := ⟨t.1, t.2.1, t.2.2.1, t.2.2.2.1, t.2.2.2.2.1, t.2.2.2.2.2.1, t.2.2.2.2.2.2.1, t.2.2.2.2.2.2.2.1, t.2.2.2.2.2.2.2.2.1, t.2.2.2.2.2.2.2.2.2.1, t.2.2.2.2.2.2.2.2.2.2.1, t.2.2.2.2.2.2.2.2.2.2.2.1, t.2.2.2.2.2.2.2.2.2.2.2.2.1, t.2.2.2.2.2.2.2.2.2.2.2.2.2.1, t.2.2.2.2.2.2.2.2.2.2.2.2.2.2.1, t.2.2.2.2.2.2.2.2.2.2.2.2.2.2.2.1, t.2.2.2.2.2.2.2.2.2.2.2.2.2.2.2.2.1, t.2.2.2.2.2.2.2.2.2.2.2.2.2.2.2.2.2.1, t.2.2.2.2.2.2.2.2.2.2.2.2.2.2.2.2.2.2.1, t.2.2.2.2.2.2.2.2.2.2.2.2.2.2.2.2.2.2.2.1, t.2.2.2.2.2.2.2.2.2.2.2.2.2.2.2.2.2.2.2.2.1, t.2.2.2.2.2.2.2.2.2.2.2.2.2.2.2.2.2.2.2.2.2.1, t.2.2.2.2.2.2.2.2.2.2.2.2.2.2.2.2.2.2.2.2.2.2.1, t.2.2.2.2.2.2.2.2.2.2.2.2.2.2.2.2.2.2.2.2.2.2.2.1, t.2.2.2.2.2.2.2.2.2.2.2.2.2.2.2.2.2.2.2.2.2.2.2.2.1, t.2.2.2.2.2.2.2.2.2.2.2.2.2.2.2.2.2.2.2.2.2.2.2.2.2.1, t.2.2.2.2.2.2.2.2.2.2.2.2.2.2.2.2.2.2.2.2.2.2.2.2.2.2.1, t.2.2.2.2.2.2.2.2.2.2.2.2.2.2.2.2.2.2.2.2.2.2.2.2.2.2.2.1, t.2.2.2.2.2.2.2.2.2.2.2.2.2.2.2.2.2.2.2.2.2.2.2.2.2.2.2.2.1, t.2.2.2.2.2.2.2.2.2.2.2.2.2.2.2.2.2.2.2.2.2.2.2.2.2.2.2.2.2.1, t.2.2.2.2.2.2.2.2.2.2.2.2.2.2.2.2.2.2.2.2.2.2.2.2.2.2.2.2.2.2.1, t.2.2.2.2.2.2.2.2.2.2.2.2.2.2.2.2.2.2.2.2.2.2.2.2.2.2.2.2.2.2.2⟩
abbrev lt1 (ws : List ByteArray) (form : ByteArray) (d c : Cmd) : List ByteArray × ByteArray × Int × Int × Int × Int × Int × Int × Int × Int × Int × Int × Int × Bool × Int × Bool × ByteArray × ByteArray × Int × Int × Int × Int × Int × Bool × Bool × Bool × Int × Int × Bool × Int × Int × Int × Int × Int × CT32 := (ws, form, d.f0, d.f1, d.f2, d.f3, d.f4, d.f5, d.f6, d.f7, d.f8, d.f9, d.f10, d.f11, d.f12, d.f13, d.f14, d.f15, d.f16, d.f17, d.f18, d.f19, d.f20, d.f21, d.f22, d.f23, d.f24, d.f25, d.f26, d.f27, d.f28, d.f29, d.f30, d.f31, c.f0, c.f1, c.f2, c.f3, c.f4, c.f5, c.f6, c.f7, c.f8, c.f9, c.f10, c.f11, c.f12, c.f13, c.f14, c.f15, c.f16, c.f17, c.f18, c.f19, c.f20, c.f21, c.f22, c.f23, c.f24, c.f25, c.f26, c.f27, c.f28, c.f29, c.f30, c.f31)
theorem nq_eq (k n : Nat) (ws : List ByteArray) (form : ByteArray) (i : Int) (d c : Cmd) : Va.atlasref15_noise.q0.l k (n + 1) (lt2 ws form i d c) =
    bif decide (i < (form.size : Int)) then (bif decide (IntKind.wrap .i64 (2 + i) ≥ ((ws.length : Nat) : Int)) then some (Sum.inl (152, ((ws.length : Nat) : Int), tup c)) else (bif (decide (0 ≤ i) && decide (i < (form.size : Int))) then (bif (decide (0 ≤ IntKind.wrap .i64 (2 + i)) && decide (IntKind.wrap .i64 (2 + i) < ((ws.length : Nat) : Int))) then
      ((Va.atlasref15_own.f k (nz c) (byteAt form i) (ws.getD (IntKind.wrap .i64 (2 + i)).toNat ByteArray.empty)).bind fun r => bif (r.2 != 0) then some (Sum.inl (r.2, IntKind.wrap .i64 (2 + i), tup c)) else Va.atlasref15_noise.q0.l k n (lt2 ws form (IntKind.wrap .i64 (i + 1)) d (nzput c r.1))) else none) else none))
      else some (Sum.inr (lt1 ws form d c)) := rfl
abbrev nEnd (r4 : List ByteArray × ByteArray × Int × Int × Int × Int × Int × Int × Int × Int × Int × Int × Int × Bool × Int × Bool × ByteArray × ByteArray × Int × Int × Int × Int × Int × Bool × Bool × Bool × Int × Int × Bool × Int × Int × Int × Int × Int × CT32) : Option (Cmd × Int × Int) :=
  bif decide (((r4.1.length : Nat) : Int) > IntKind.wrap .i64 (2 + (r4.2.1.size : Int))) then (bif (decide (0 ≤ IntKind.wrap .i64 (2 + (r4.2.1.size : Int))) && decide (IntKind.wrap .i64 (2 + (r4.2.1.size : Int)) < ((r4.1.length : Nat) : Int))) then
    (bif (!((r4.1.getD (IntKind.wrap .i64 (2 + (r4.2.1.size : Int))).toNat ByteArray.empty).toList == tFirst.toList)) then some (untup r4.2.2.2.2.2.2.2.2.2.2.2.2.2.2.2.2.2.2.2.2.2.2.2.2.2.2.2.2.2.2.2.2.2.2, 12, IntKind.wrap .i64 (2 + (r4.2.1.size : Int)))
     else (bif decide (((r4.1.length : Nat) : Int) > IntKind.wrap .i64 (IntKind.wrap .i64 (2 + (r4.2.1.size : Int)) + 1)) then some ({ untup r4.2.2.2.2.2.2.2.2.2.2.2.2.2.2.2.2.2.2.2.2.2.2.2.2.2.2.2.2.2.2.2.2.2.2 with f13 := true }, 152, IntKind.wrap .i64 (IntKind.wrap .i64 (2 + (r4.2.1.size : Int)) + 1)) else some ({ untup r4.2.2.2.2.2.2.2.2.2.2.2.2.2.2.2.2.2.2.2.2.2.2.2.2.2.2.2.2.2.2.2.2.2.2 with f13 := true }, 0, -1))) else none)
  else (bif decide (((r4.1.length : Nat) : Int) > IntKind.wrap .i64 (2 + (r4.2.1.size : Int))) then some (untup r4.2.2.2.2.2.2.2.2.2.2.2.2.2.2.2.2.2.2.2.2.2.2.2.2.2.2.2.2.2.2.2.2.2.2, 152, IntKind.wrap .i64 (2 + (r4.2.1.size : Int))) else some (untup r4.2.2.2.2.2.2.2.2.2.2.2.2.2.2.2.2.2.2.2.2.2.2.2.2.2.2.2.2.2.2.2.2.2.2, 0, -1))
abbrev nTail (k : Nat) (ws : List ByteArray) (form : ByteArray) (c : Cmd) : Option (Cmd × Int × Int) :=
  (Va.atlasref15_noise.q0.l k k (lt2 ws form 0 zc c)).bind fun r => Sum.elim (fun r3 => some (untup r3.2.2, r3.1, r3.2.1)) nEnd r
theorem noise_f (k : Nat) (ws : List ByteArray) : Va.atlasref15_noise.f k ws =
    bif decide (((ws.length : Nat) : Int) < 2) then some (c0 3, 152, 1) else (bif (decide ((0 : Int) ≤ 1) && decide (1 < ((ws.length : Nat) : Int))) then (bif ((ws.getD 1 ByteArray.empty).toList == (⟨#[110, 111, 110, 101]⟩ : ByteArray).toList) then nTail k ws ⟨#[107]⟩ (c0 3)
      else (bif ((ws.getD 1 ByteArray.empty).toList == (⟨#[101, 118, 105, 99, 116]⟩ : ByteArray).toList) then nTail k ws ⟨#[116, 108, 107]⟩ { c0 3 with f7 := 1 }
        else (bif ((ws.getD 1 ByteArray.empty).toList == (⟨#[102, 105, 108, 108]⟩ : ByteArray).toList) then nTail k ws ⟨#[118, 104, 107]⟩ { c0 3 with f7 := 2 } else some (c0 3, 12, 1)))) else none) := by kernel_rfl
/-- The words of a noise, letter by letter: all must be there. -/
def refN (ws : List ByteArray) : List Nat → Nat → Cmd → Except (Int × Nat) Cmd
  | [], _, c => .ok c
  | l :: ls, i, c => if h : i < ws.length then (match goL l c ws[i] with
    | .ok c' => refN ws ls (i + 1) c'
    | .error e => .error (e, i)) else .error (152, ws.length)
theorem nz_loop (k : Nat) (ws : List ByteArray) (form : ByteArray) (d : Cmd) (ls0 : List Nat) (hw : ∀ x ∈ ws, x.size ≤ 1048576 ∧ x.size < k) (hk : 9 < k) (hl : ws.length ≤ 1048577) (hsz : form.size = ls0.length) (hs2 : ls0.length ≤ 100)
    (hform : ∀ j (h : j < ls0.length), byteAt form (j : Int) = (ls0[j] : Int)) (hlet : ∀ l ∈ ls0, l ∈ nletters) :
    ∀ (ls : List Nat) (i n : Nat) (c : Cmd), ls0.drop i = ls → ls.length < n →
      match refN ws ls (i + 2) c with
      | .error (e, j) => e ≠ 0 ∧ ∃ c', Va.atlasref15_noise.q0.l k n (lt2 ws form (i : Int) d c) = some (.inl (e, (j : Int), tup c'))
      | .ok c' => Va.atlasref15_noise.q0.l k n (lt2 ws form (i : Int) d c) = some (.inr (lt1 ws form d c')) := by
  intro ls
  induction ls with
  | nil =>
    intro i n c hd hn
    obtain ⟨n, rfl⟩ : ∃ m, n = m + 1 := ⟨n - 1, by omega⟩
    have h1 := List.drop_eq_nil_iff.1 hd
    simp only [refN]
    rw [nq_eq, decide_eq_false (show ¬ (i : Int) < (form.size : Int) by omega), cond_false]
  | cons l ls ih =>
    intro i n c hd hn
    obtain ⟨n, rfl⟩ : ∃ m, n = m + 1 := ⟨n - 1, by simp at hn; omega⟩
    have hi : i < ls0.length := by
      have := congrArg List.length hd
      simp at this; omega
    have hg : ls0[i] = l := by
      have e := List.getElem?_drop (xs := ls0) (i := i) (j := 0)
      rw [hd] at e
      simpa [List.getElem?_eq_getElem hi] using e.symm
    have hd2 : ls0.drop (i + 1) = ls := by
      have e : List.drop (i + 1) ls0 = List.drop 1 (List.drop i ls0) := by rw [List.drop_drop, Nat.add_comm]
      rw [e, hd]; rfl
    rw [nq_eq]
    simp only [refN]
    have e1 : IntKind.wrap .i64 (2 + (i : Int)) = ((i + 2 : Nat) : Int) := by rw [wrap_i64e _ (by omega) (by omega)]; omega
    have e2 : IntKind.wrap .i64 ((i : Int) + 1) = ((i + 1 : Nat) : Int) := by rw [wrap_i64e _ (by omega) (by omega)]; omega
    rw [e1, e2, decide_eq_true (show (i : Int) < (form.size : Int) by omega), decide_eq_true (show 0 ≤ (i : Int) by omega)]
    by_cases h : i + 2 < ws.length
    · have hx := hw ws[i + 2] (List.getElem_mem h)
      have e3 : ws.getD ((i + 2 : Nat) : Int).toNat ByteArray.empty = ws[i + 2] := by
        rw [Int.toNat_natCast, List.getD_eq_getElem?_getD, List.getElem?_eq_getElem h]; rfl
      obtain ⟨n2, e, hp, hor⟩ := own_ok k l (hlet l (hg ▸ List.getElem_mem hi)) c ws[i + 2] hx.1 hx.2 hk
      have hp' : Va.atlasref15_own.f k (nz c) (byteAt form (i : Int)) ws[i + 2] = some (n2, e) := by rw [hform i hi, hg]; exact hp
      rw [decide_eq_false (show ¬ ((i + 2 : Nat) : Int) ≥ ((ws.length : Nat) : Int) by omega), decide_eq_true (show ((i + 2 : Nat) : Int) < ((ws.length : Nat) : Int) by omega), decide_eq_true (show 0 ≤ ((i + 2 : Nat) : Int) by omega), e3, hp', dif_pos h]
      simp only [Bool.and_self, cond_true, cond_false, Option.bind_some]
      rcases hor with ⟨h0, hg2⟩ | ⟨h0, hg2⟩
      · rw [hg2, h0]
        simp only [show ((0 : Int) != 0) = false from rfl, cond_false]
        exact ih (i + 1) n (nzput c n2) hd2 (by simp at hn; omega)
      · rw [hg2]
        have hb : (e != 0) = true := by rw [bne_iff_ne]; exact h0
        simp only [hb, cond_true]
        exact ⟨h0, c, rfl⟩
    · rw [dif_neg h, decide_eq_true (show ((i + 2 : Nat) : Int) ≥ ((ws.length : Nat) : Int) by omega)]
      simp only [cond_true]
      exact ⟨by decide, c, rfl⟩
theorem run_refN (ls : List Nat) (hlet : ∀ l ∈ ls, l ∈ nletters) (hw : ∀ x ∈ ws, x.size ≤ 1048576) : ∀ (i : Nat) (c : Cmd), i ≤ ws.length →
    match refN ws ls i c with
    | .error (e, j) => e ≠ 0 ∧ ∃ n c', runG ws ls (i, none, c) = (n, some (e, (j : Int)), c')
    | .ok c' => i + ls.length ≤ ws.length ∧ runG ws ls (i, none, c) = (i + ls.length, none, c') := by
  induction ls with
  | nil => intro i c hi; exact ⟨hi, rfl⟩
  | cons l ls ih =>
    intro i c hi
    have ih := ih (fun l hl => hlet l (List.mem_cons_of_mem _ hl))
    simp only [refN, runG, stepG]
    by_cases h : i < ws.length
    · rw [dif_pos h, dif_pos h]
      obtain ⟨c2, e, hp, hor⟩ := own_ok (ws[i].size + 100) l (hlet l List.mem_cons_self) c ws[i] (hw _ (List.getElem_mem h)) (by omega) (by omega)
      rcases hor with ⟨h0, hg⟩ | ⟨h0, hg⟩
      · rw [hg]
        have := ih (i + 1) (nzput c c2) (by omega)
        simp only
        cases hr : refN ws ls (i + 1) (nzput c c2) with
        | error x => simpa only [hr] using this
        | ok c' =>
          simp only [hr] at this
          obtain ⟨t1, t2⟩ := this
          simp only [List.length_cons]
          exact ⟨by omega, by rw [t2]; congr 1; omega⟩
      · rw [hg]
        obtain ⟨c', hc⟩ := stop_run (ws := ws) ls (i + 1) (e, (i : Int)) c
        exact ⟨h0, i + 1, c', hc⟩
    · rw [dif_neg h, dif_neg h]
      obtain ⟨c', hc⟩ := stop_run (ws := ws) ls i (152, (ws.length : Int)) c
      exact ⟨by decide, i, c', hc⟩
theorem noise_tail (k : Nat) (form : ByteArray) (ls : List Nat) (c : Cmd) (hw : ∀ x ∈ ws, x.size ≤ 1048576 ∧ x.size < k) (hk : 200 < k) (hl : ws.length ≤ 1048577) (h2 : 2 ≤ ws.length) (hsz : form.size = ls.length) (hs2 : ls.length ≤ 100)
    (hform : ∀ j (h : j < ls.length), byteAt form (j : Int) = (ls[j] : Int)) (hlet : ∀ l ∈ ls, l ∈ nletters) : ∃ q, nTail k ws form c = some q ∧ Same (finG ws (flagG ws 102 (runG ws ls (2, none, c)))) q := by
  have h := nz_loop k ws form zc ls hw (by omega) hl hsz hs2 hform hlet ls 0 k c rfl (by omega)
  have hr := run_refN ls hlet (fun x hx => (hw x hx).1) 2 c h2
  unfold nTail
  cases hq : refN ws ls 2 c with
  | error x =>
    obtain ⟨e, j⟩ := x
    simp only [Nat.zero_add, hq] at h hr
    obtain ⟨h0, c', hc⟩ := h
    obtain ⟨_, n, c2, hc2⟩ := hr
    have hc' : Va.atlasref15_noise.q0.l k k (lt2 ws form 0 zc c) = _ := hc
    rw [hc', hc2]
    simp only [flagG]
    rw [fin_bad]
    exact ⟨_, rfl, same_err h0⟩
  | ok c' =>
    simp only [Nat.zero_add, hq] at h hr
    obtain ⟨hle, hr⟩ := hr
    have hc' : Va.atlasref15_noise.q0.l k k (lt2 ws form 0 zc c) = _ := h
    rw [hc', hr]
    have e1 : IntKind.wrap .i64 (2 + (form.size : Int)) = ((2 + ls.length : Nat) : Int) := by rw [wrap_i64e _ (by omega) (by omega)]; omega
    have e2 : IntKind.wrap .i64 (((2 + ls.length : Nat) : Int) + 1) = ((2 + ls.length + 1 : Nat) : Int) := by rw [wrap_i64e _ (by omega) (by omega)]; omega
    have hg : ∀ x, goL 102 c' x = if x.toList == tFirst.toList then .ok { c' with f13 := true } else .error 12 := fun x => rfl
    simp only [Option.bind_some, Sum.elim_inr, nEnd, flagG, e1, e2]
    by_cases h3 : 2 + ls.length < ws.length
    · have e3 : ws.getD ((2 + ls.length : Nat) : Int).toNat ByteArray.empty = ws[2 + ls.length] := by
        rw [Int.toNat_natCast, List.getD_eq_getElem?_getD, List.getElem?_eq_getElem h3]; rfl
      rw [decide_eq_true (show ((ws.length : Nat) : Int) > ((2 + ls.length : Nat) : Int) by omega), decide_eq_true (show (0 : Int) ≤ ((2 + ls.length : Nat) : Int) by omega), e3, dif_pos h3, hg]
      simp only [Bool.and_self, cond_true]
      cases ws[2 + ls.length].toList == tFirst.toList
      · simp only [Bool.not_false, cond_true, Bool.false_eq_true, if_false]
        rw [fin_bad]
        exact ⟨_, rfl, same_err (by decide)⟩
      · simp only [Bool.not_true, cond_false, if_true]
        by_cases h4 : 2 + ls.length + 1 < ws.length
        · rw [decide_eq_true (show ((ws.length : Nat) : Int) > ((2 + ls.length + 1 : Nat) : Int) by omega), cond_true]
          have e1 : finG ws (2 + ls.length + 1, none, { c' with f13 := true }) = ({ c' with f13 := true }, some (152, ((2 + ls.length + 1 : Nat) : Int))) := by unfold finG; rw [if_pos h4]
          rw [e1]
          exact ⟨_, rfl, same_err (by decide)⟩
        · rw [decide_eq_false (show ¬ ((ws.length : Nat) : Int) > ((2 + ls.length + 1 : Nat) : Int) by omega), cond_false]
          have e1 : finG ws (2 + ls.length + 1, none, { c' with f13 := true }) = ({ c' with f13 := true }, none) := by unfold finG; rw [if_neg h4]
          rw [e1]
          exact ⟨_, rfl, rfl⟩
    · rw [decide_eq_false (show ¬ ((ws.length : Nat) : Int) > ((2 + ls.length : Nat) : Int) by omega), dif_neg h3]
      simp only [cond_false]
      have e1 : finG ws (2 + ls.length, none, c') = (c', none) := by unfold finG; rw [if_neg h3]
      rw [e1]
      exact ⟨_, rfl, rfl⟩
theorem sWhich_g (st : St) : sWhich ws st = stepG ws 116 st := step_map 116 st st.2.2.f8 _ (fun c v => { c with f8 := v }) (fun c x => rfl) rfl
theorem sSlot_g (st : St) : sSlot SS ws st = stepG ws 108 st := step_map 108 st st.2.2.f9 _ (fun c v => { c with f9 := v }) (fun c x => rfl) rfl
theorem sPick_g (st : St) : sPick SS ws st = stepG ws 107 st := step_map 107 st st.2.2.f12 _ (fun c v => { c with f12 := v }) (fun c x => rfl) rfl
theorem sNVA_g (st : St) : sNVA SS ws st = stepG ws 118 st := step_map 118 st st.2.2.f10 _ (fun c v => { c with f10 := v }) (fun c x => rfl) rfl
theorem sHow_g (st : St) (h : st.2.2.f11 = false) : sHow ws st = stepG ws 104 st := step_map 104 st 2 (choice wHows) (fun c v => { c with f11 := v == 1 }) (fun c x => rfl) (by
  obtain ⟨n, bad, c⟩ := st
  simp only at h
  show ({ c with f11 := false } : Cmd) = c
  rw [← h])
theorem sFirst_g (st : St) : sFirst tFirst SS ws st = flagG ws 102 st := by
  obtain ⟨n, bad, c⟩ := st
  unfold sFirst flagG flagP
  rcases bad with _ | f
  · simp only
    by_cases h : n < ws.length
    · rw [dif_pos h, dif_pos h]
      have hg : goL 102 c ws[n] = if ws[n].toList == tFirst.toList then .ok { c with f13 := true } else .error 12 := rfl
      rw [hg]
      cases ws[n].toList == tFirst.toList <;> rfl
    · rw [dif_neg h, dif_neg h]
  · rfl
theorem flag_bad (l n : Nat) (f : Int × Int) (c : Cmd) : flagG ws l (n, some f, c) = (n, some f, c) := rfl
theorem step_bad (l n : Nat) (f : Int × Int) (c : Cmd) : stepG ws l (n, some f, c) = (n, some f, c) := rfl
theorem noise_eq (k : Nat) (hw : ∀ x ∈ ws, x.size ≤ 1048576 ∧ x.size < k) (hk : 200 < k) (hl : ws.length ≤ 1048577) (h1 : 1 ≤ ws.length) : ∃ q, Va.atlasref15_noise.f k ws = some q ∧ Same (finG ws (formP SS ws 3 (1, none, c0 3))) q := by
  have hN : formP SS ws 3 (1, none, c0 3) = fNoise SS ws (1, none, c0 3) := rfl
  rw [noise_f, hN]
  unfold fNoise
  simp only [sFirst_g, sPick_g, sSlot_g, sWhich_g, sNVA_g]
  have e1 : (⟨#[110, 111, 110, 101]⟩ : ByteArray).toList = [110, 111, 110, 101] := by decide +kernel
  have e2 : (⟨#[101, 118, 105, 99, 116]⟩ : ByteArray).toList = [101, 118, 105, 99, 116] := by decide +kernel
  have e3 : (⟨#[102, 105, 108, 108]⟩ : ByteArray).toList = [102, 105, 108, 108] := by decide +kernel
  by_cases h2 : 1 < ws.length
  · have hA : sAct ws (1, none, c0 3) = match choice wActs ws[1] with | .ok v => (2, none, { c0 3 with f7 := v - 1 }) | .error e => (2, some (e, 1), c0 3) := by
      unfold sAct step
      simp only [dif_pos h2]
      cases choice wActs ws[1] <;> rfl
    have e4 : ws.getD 1 ByteArray.empty = ws[1] := by rw [List.getD_eq_getElem?_getD, List.getElem?_eq_getElem h2]; rfl
    rw [hA, acts_eq, e4, e1, e2, e3, decide_eq_false (show ¬ ((ws.length : Nat) : Int) < 2 by omega), decide_eq_true (show (1 : Int) < ((ws.length : Nat) : Int) by omega)]
    simp only [cond_false, show (decide ((0 : Int) ≤ 1) && true) = true from rfl, cond_true]
    cases ws[1].toList == [110, 111, 110, 101]
    · cases ws[1].toList == [101, 118, 105, 99, 116]
      · cases ws[1].toList == [102, 105, 108, 108]
        · simp only [cond_false, Bool.false_eq_true, if_false, show ¬ (c0 3).f7 = 1 from by decide, show ¬ (c0 3).f7 = 2 from by decide]
          rw [step_bad, flag_bad, fin_bad]
          exact ⟨_, rfl, same_err (by decide)⟩
        · simp only [cond_false, cond_true, Bool.false_eq_true, if_false, if_true, show ¬ ((3 : Int) - 1 = 1) from by decide, show ((3 : Int) - 1 = 2) from by decide]
          rw [sHow_g _ (by rw [← sNVA_g]; rfl)]
          exact noise_tail k ⟨#[118, 104, 107]⟩ [118, 104, 107] { c0 3 with f7 := 2 } hw hk hl (by omega) rfl (by decide) (by decide +kernel) (by decide)
      · simp only [cond_false, cond_true, Bool.false_eq_true, if_false, if_true, show ((2 : Int) - 1 = 1) from by decide]
        exact noise_tail k ⟨#[116, 108, 107]⟩ [116, 108, 107] { c0 3 with f7 := 1 } hw hk hl (by omega) rfl (by decide) (by decide +kernel) (by decide)
    · simp only [cond_true, if_true, show ¬ ((1 : Int) - 1 = 1) from by decide, show ¬ ((1 : Int) - 1 = 2) from by decide, if_false]
      exact noise_tail k ⟨#[107]⟩ [107] (c0 3) hw hk hl (by omega) rfl (by decide) (by decide +kernel) (by decide)
  · have hA : sAct ws (1, none, c0 3) = (1, some (152, (ws.length : Int)), c0 3) := by
      unfold sAct step
      simp only [dif_neg h2]
      rfl
    rw [hA, decide_eq_true (show ((ws.length : Nat) : Int) < 2 by omega)]
    simp only [cond_true, show ¬ (c0 3).f7 = 1 from by decide, show ¬ (c0 3).f7 = 2 from by decide, if_false]
    rw [step_bad, flag_bad, fin_bad]
    exact ⟨_, rfl, same_err2 (by decide) (by omega)⟩
end Go.Proofs.YtnidnmhcjngmeaaGreat.Scr

/-
  The document's answer to a line is the program's (printed by genparse.py).
  Conditions: none.
-/
namespace Go.Proofs.YtnidnmhcjngmeaaGreat.Scr
open Go.Va (nameB name_eq sizeP size_eq number_eq fieldsP fields_eq optD byteAt wrap_i64e)
open Go (IntKind)
variable {ws : List ByteArray}
theorem same_trans {x : Cmd × Bad} {a r : Cmd × Int × Int} (h : Same x a) (k : Same3 r a) : Same x r := by
  obtain ⟨c, bad⟩ := x
  obtain ⟨r1, r2⟩ := r
  obtain ⟨k1, k2⟩ := k
  rcases bad with _ | ⟨e, at'⟩
  · have h : a = (c, 0, -1) := h
    subst h
    obtain rfl : r2 = (0, -1) := k1
    obtain rfl : r1 = c := k2 rfl
    rfl
  · obtain ⟨h1, h2⟩ : a.2 = (e, at') ∧ e ≠ 0 := h
    exact ⟨k1.trans h1, h2⟩
set_option maxRecDepth 100000 in
theorem rest_1 (K : Nat) (hw : ∀ x ∈ ws, x.size ≤ 1048576 ∧ x.size < K) (hk : 200 < K) (hl : ws.length ≤ 1048577) (h1 : 1 ≤ ws.length) : ∃ q, Va.atlasref15_rest.f K 1 ws = some q ∧ Same (finG ws (formP SS ws 1 (1, none, c0 1))) q := by
  have e : Va.atlasref15_rest.f K 1 ws = (Va.atlasref15_rest.q0.l K (lt2 ws ⟨#[49, 50, 51, 52, 53, 54]⟩ 6 zc (c0 1))).bind fun r => some (untup r.2.2, r.1, r.2.1) := by kernel_rfl
  obtain ⟨r, hr, hs⟩ := ref_q0 K ws ⟨#[49, 50, 51, 52, 53, 54]⟩ 6 zc (c0 1) [49, 50, 51, 52, 53, 54] hw hk h1 hl rfl (by decide) (by decide +kernel) (by decide)
  rw [e, form_g 1 (by decide) (by decide)]
  have hr' : Va.atlasref15_rest.q0.l K (lt2 ws ⟨#[49, 50, 51, 52, 53, 54]⟩ 6 zc (c0 1)) = _ := hr
  rw [hr']
  exact ⟨_, rfl, same_trans (no_flag [49, 50, 51, 52, 53, 54] (by decide) (fun x hx => (hw x hx).1) h1 (c0 1)) hs⟩
set_option maxRecDepth 100000 in
theorem rest_2 (K : Nat) (hw : ∀ x ∈ ws, x.size ≤ 1048576 ∧ x.size < K) (hk : 200 < K) (hl : ws.length ≤ 1048577) (h1 : 1 ≤ ws.length) : ∃ q, Va.atlasref15_rest.f K 2 ws = some q ∧ Same (finG ws (formP SS ws 2 (1, none, c0 2))) q := by
  have e : Va.atlasref15_rest.f K 2 ws = (Va.atlasref15_rest.q0.l K (lt2 ws ⟨#[49, 50, 51, 52]⟩ 4 zc (c0 2))).bind fun r => some (untup r.2.2, r.1, r.2.1) := by kernel_rfl
  obtain ⟨r, hr, hs⟩ := ref_q0 K ws ⟨#[49, 50, 51, 52]⟩ 4 zc (c0 2) [49, 50, 51, 52] hw hk h1 hl rfl (by decide) (by decide +kernel) (by decide)
  rw [e, form_g 2 (by decide) (by decide)]
  have hr' : Va.atlasref15_rest.q0.l K (lt2 ws ⟨#[49, 50, 51, 52]⟩ 4 zc (c0 2)) = _ := hr
  rw [hr']
  exact ⟨_, rfl, same_trans (no_flag [49, 50, 51, 52] (by decide) (fun x hx => (hw x hx).1) h1 (c0 2)) hs⟩
set_option maxRecDepth 100000 in
theorem rest_4 (K : Nat) (hw : ∀ x ∈ ws, x.size ≤ 1048576 ∧ x.size < K) (hk : 200 < K) (hl : ws.length ≤ 1048577) (h1 : 1 ≤ ws.length) : ∃ q, Va.atlasref15_rest.f K 4 ws = some q ∧ Same (finG ws (formP SS ws 4 (1, none, c0 4))) q := by
  have e : Va.atlasref15_rest.f K 4 ws = (Va.atlasref15_rest.q0.l K (lt2 ws ⟨#[78]⟩ 1 zc (c0 4))).bind fun r => some (untup r.2.2, r.1, r.2.1) := by kernel_rfl
  obtain ⟨r, hr, hs⟩ := ref_q0 K ws ⟨#[78]⟩ 1 zc (c0 4) [78] hw hk h1 hl rfl (by decide) (by decide +kernel) (by decide)
  rw [e, form_g 4 (by decide) (by decide)]
  have hr' : Va.atlasref15_rest.q0.l K (lt2 ws ⟨#[78]⟩ 1 zc (c0 4)) = _ := hr
  rw [hr']
  exact ⟨_, rfl, same_trans (no_flag [78] (by decide) (fun x hx => (hw x hx).1) h1 (c0 4)) hs⟩
set_option maxRecDepth 100000 in
theorem rest_5 (K : Nat) (hw : ∀ x ∈ ws, x.size ≤ 1048576 ∧ x.size < K) (hk : 200 < K) (hl : ws.length ≤ 1048577) (h1 : 1 ≤ ws.length) : ∃ q, Va.atlasref15_rest.f K 5 ws = some q ∧ Same (finG ws (formP SS ws 5 (1, none, c0 5))) q := by
  have e : Va.atlasref15_rest.f K 5 ws = (Va.atlasref15_rest.q0.l K (lt2 ws ⟨#[78]⟩ 1 zc (c0 5))).bind fun r => some (untup r.2.2, r.1, r.2.1) := by kernel_rfl
  obtain ⟨r, hr, hs⟩ := ref_q0 K ws ⟨#[78]⟩ 1 zc (c0 5) [78] hw hk h1 hl rfl (by decide) (by decide +kernel) (by decide)
  rw [e, form_g 5 (by decide) (by decide)]
  have hr' : Va.atlasref15_rest.q0.l K (lt2 ws ⟨#[78]⟩ 1 zc (c0 5)) = _ := hr
  rw [hr']
  exact ⟨_, rfl, same_trans (no_flag [78] (by decide) (fun x hx => (hw x hx).1) h1 (c0 5)) hs⟩
set_option maxRecDepth 100000 in
theorem rest_6 (K : Nat) (hw : ∀ x ∈ ws, x.size ≤ 1048576 ∧ x.size < K) (hk : 200 < K) (hl : ws.length ≤ 1048577) (h1 : 1 ≤ ws.length) : ∃ q, Va.atlasref15_rest.f K 6 ws = some q ∧ Same (finG ws (formP SS ws 6 (1, none, c0 6))) q := by
  have e : Va.atlasref15_rest.f K 6 ws = (Va.atlasref15_rest.q0.l K (lt2 ws ⟨#[83]⟩ 1 zc (c0 6))).bind fun r => some (untup r.2.2, r.1, r.2.1) := by kernel_rfl
  obtain ⟨r, hr, hs⟩ := ref_q0 K ws ⟨#[83]⟩ 1 zc (c0 6) [83] hw hk h1 hl rfl (by decide) (by decide +kernel) (by decide)
  rw [e, form_g 6 (by decide) (by decide)]
  have hr' : Va.atlasref15_rest.q0.l K (lt2 ws ⟨#[83]⟩ 1 zc (c0 6)) = _ := hr
  rw [hr']
  exact ⟨_, rfl, same_trans (no_flag [83] (by decide) (fun x hx => (hw x hx).1) h1 (c0 6)) hs⟩
set_option maxRecDepth 100000 in
theorem rest_7 (K : Nat) (hw : ∀ x ∈ ws, x.size ≤ 1048576 ∧ x.size < K) (hk : 200 < K) (hl : ws.length ≤ 1048577) (h1 : 1 ≤ ws.length) : ∃ q, Va.atlasref15_rest.f K 7 ws = some q ∧ Same (finG ws (formP SS ws 7 (1, none, c0 7))) q := by
  have e : Va.atlasref15_rest.f K 7 ws = (Va.atlasref15_rest.q0.l K (lt2 ws ⟨#[78, 86, 115, 99, 114]⟩ 5 zc (c0 7))).bind fun r => some (untup r.2.2, r.1, r.2.1) := by kernel_rfl
  obtain ⟨r, hr, hs⟩ := ref_q0 K ws ⟨#[78, 86, 115, 99, 114]⟩ 5 zc (c0 7) [78, 86, 115, 99, 114] hw hk h1 hl rfl (by decide) (by decide +kernel) (by decide)
  rw [e, form_g 7 (by decide) (by decide)]
  have hr' : Va.atlasref15_rest.q0.l K (lt2 ws ⟨#[78, 86, 115, 99, 114]⟩ 5 zc (c0 7)) = _ := hr
  rw [hr']
  exact ⟨_, rfl, same_trans (no_flag [78, 86, 115, 99, 114] (by decide) (fun x hx => (hw x hx).1) h1 (c0 7)) hs⟩
set_option maxRecDepth 100000 in
theorem rest_8 (K : Nat) (hw : ∀ x ∈ ws, x.size ≤ 1048576 ∧ x.size < K) (hk : 200 < K) (hl : ws.length ≤ 1048577) (h1 : 1 ≤ ws.length) : ∃ q, Va.atlasref15_rest.f K 8 ws = some q ∧ Same (finG ws (formP SS ws 8 (1, none, c0 8))) q := by
  have e : Va.atlasref15_rest.f K 8 ws = (Va.atlasref15_rest.q0.l K (lt2 ws ⟨#[78, 86, 76]⟩ 3 zc (c0 8))).bind fun r => some (untup r.2.2, r.1, r.2.1) := by kernel_rfl
  obtain ⟨r, hr, hs⟩ := ref_q0 K ws ⟨#[78, 86, 76]⟩ 3 zc (c0 8) [78, 86, 76] hw hk h1 hl rfl (by decide) (by decide +kernel) (by decide)
  rw [e, form_g 8 (by decide) (by decide)]
  have hr' : Va.atlasref15_rest.q0.l K (lt2 ws ⟨#[78, 86, 76]⟩ 3 zc (c0 8)) = _ := hr
  rw [hr']
  exact ⟨_, rfl, same_trans (no_flag [78, 86, 76] (by decide) (fun x hx => (hw x hx).1) h1 (c0 8)) hs⟩
set_option maxRecDepth 100000 in
theorem rest_9 (K : Nat) (hw : ∀ x ∈ ws, x.size ≤ 1048576 ∧ x.size < K) (hk : 200 < K) (hl : ws.length ≤ 1048577) (h1 : 1 ≤ ws.length) : ∃ q, Va.atlasref15_rest.f K 9 ws = some q ∧ Same (finG ws (formP SS ws 9 (1, none, c0 9))) q := by
  have e : Va.atlasref15_rest.f K 9 ws = (Va.atlasref15_rest.q0.l K (lt2 ws ⟨#[78, 86, 76, 114]⟩ 4 zc (c0 9))).bind fun r => some (untup r.2.2, r.1, r.2.1) := by kernel_rfl
  obtain ⟨r, hr, hs⟩ := ref_q0 K ws ⟨#[78, 86, 76, 114]⟩ 4 zc (c0 9) [78, 86, 76, 114] hw hk h1 hl rfl (by decide) (by decide +kernel) (by decide)
  rw [e, form_g 9 (by decide) (by decide)]
  have hr' : Va.atlasref15_rest.q0.l K (lt2 ws ⟨#[78, 86, 76, 114]⟩ 4 zc (c0 9)) = _ := hr
  rw [hr']
  exact ⟨_, rfl, same_trans (no_flag [78, 86, 76, 114] (by decide) (fun x hx => (hw x hx).1) h1 (c0 9)) hs⟩
set_option maxRecDepth 100000 in
theorem rest_10 (K : Nat) (hw : ∀ x ∈ ws, x.size ≤ 1048576 ∧ x.size < K) (hk : 200 < K) (hl : ws.length ≤ 1048577) (h1 : 1 ≤ ws.length) : ∃ q, Va.atlasref15_rest.f K 10 ws = some q ∧ Same (finG ws (formP SS ws 10 (1, none, c0 10))) q := by
  have e : Va.atlasref15_rest.f K 10 ws = (Va.atlasref15_rest.q0.l K (lt2 ws ⟨#[78, 86, 79, 70, 76, 114]⟩ 6 zc (c0 10))).bind fun r => some (untup r.2.2, r.1, r.2.1) := by kernel_rfl
  obtain ⟨r, hr, hs⟩ := ref_q0 K ws ⟨#[78, 86, 79, 70, 76, 114]⟩ 6 zc (c0 10) [78, 86, 79, 70, 76, 114] hw hk h1 hl rfl (by decide) (by decide +kernel) (by decide)
  rw [e, form_g 10 (by decide) (by decide)]
  have hr' : Va.atlasref15_rest.q0.l K (lt2 ws ⟨#[78, 86, 79, 70, 76, 114]⟩ 6 zc (c0 10)) = _ := hr
  rw [hr']
  exact ⟨_, rfl, same_trans (no_flag [78, 86, 79, 70, 76, 114] (by decide) (fun x hx => (hw x hx).1) h1 (c0 10)) hs⟩
set_option maxRecDepth 100000 in
theorem rest_11 (K : Nat) (hw : ∀ x ∈ ws, x.size ≤ 1048576 ∧ x.size < K) (hk : 200 < K) (hl : ws.length ≤ 1048577) (h1 : 1 ≤ ws.length) : ∃ q, Va.atlasref15_rest.f K 11 ws = some q ∧ Same (finG ws (formP SS ws 11 (1, none, c0 11))) q := by
  have e : Va.atlasref15_rest.f K 11 ws = (Va.atlasref15_rest.q0.l K (lt2 ws ⟨#[78, 86]⟩ 2 zc (c0 11))).bind fun r => some (untup r.2.2, r.1, r.2.1) := by kernel_rfl
  obtain ⟨r, hr, hs⟩ := ref_q0 K ws ⟨#[78, 86]⟩ 2 zc (c0 11) [78, 86] hw hk h1 hl rfl (by decide) (by decide +kernel) (by decide)
  rw [e, form_g 11 (by decide) (by decide)]
  have hr' : Va.atlasref15_rest.q0.l K (lt2 ws ⟨#[78, 86]⟩ 2 zc (c0 11)) = _ := hr
  rw [hr']
  exact ⟨_, rfl, same_trans (no_flag [78, 86] (by decide) (fun x hx => (hw x hx).1) h1 (c0 11)) hs⟩
set_option maxRecDepth 100000 in
theorem rest_12 (K : Nat) (hw : ∀ x ∈ ws, x.size ≤ 1048576 ∧ x.size < K) (hk : 200 < K) (hl : ws.length ≤ 1048577) (h1 : 1 ≤ ws.length) : ∃ q, Va.atlasref15_rest.f K 12 ws = some q ∧ Same (finG ws (formP SS ws 12 (1, none, c0 12))) q := by
  have e : Va.atlasref15_rest.f K 12 ws = (Va.atlasref15_rest.q0.l K (lt2 ws ⟨#[86, 98, 113]⟩ 2 zc (c0 12))).bind fun r => some (untup r.2.2, r.1, r.2.1) := by kernel_rfl
  obtain ⟨r, hr, hs⟩ := ref_q0 K ws ⟨#[86, 98, 113]⟩ 2 zc (c0 12) [86, 98, 113] hw hk h1 hl rfl (by decide) (by decide +kernel) (by decide)
  rw [e, form_g 12 (by decide) (by decide)]
  have hr' : Va.atlasref15_rest.q0.l K (lt2 ws ⟨#[86, 98, 113]⟩ 2 zc (c0 12)) = _ := hr
  rw [hr']
  exact ⟨_, rfl, same_trans (with_flag [86, 98] 113 (by decide) (by decide) (fun x hx => (hw x hx).1) h1 (c0 12)) hs⟩
set_option maxRecDepth 100000 in
theorem rest_13 (K : Nat) (hw : ∀ x ∈ ws, x.size ≤ 1048576 ∧ x.size < K) (hk : 200 < K) (hl : ws.length ≤ 1048577) (h1 : 1 ≤ ws.length) : ∃ q, Va.atlasref15_rest.f K 13 ws = some q ∧ Same (finG ws (formP SS ws 13 (1, none, c0 13))) q := by
  have e : Va.atlasref15_rest.f K 13 ws = (Va.atlasref15_rest.q0.l K (lt2 ws ⟨#[86, 98, 87, 113]⟩ 3 zc (c0 13))).bind fun r => some (untup r.2.2, r.1, r.2.1) := by kernel_rfl
  obtain ⟨r, hr, hs⟩ := ref_q0 K ws ⟨#[86, 98, 87, 113]⟩ 3 zc (c0 13) [86, 98, 87, 113] hw hk h1 hl rfl (by decide) (by decide +kernel) (by decide)
  rw [e, form_g 13 (by decide) (by decide)]
  have hr' : Va.atlasref15_rest.q0.l K (lt2 ws ⟨#[86, 98, 87, 113]⟩ 3 zc (c0 13)) = _ := hr
  rw [hr']
  exact ⟨_, rfl, same_trans (with_flag [86, 98, 87] 113 (by decide) (by decide) (fun x hx => (hw x hx).1) h1 (c0 13)) hs⟩
set_option maxRecDepth 100000 in
theorem rest_14 (K : Nat) (hw : ∀ x ∈ ws, x.size ≤ 1048576 ∧ x.size < K) (hk : 200 < K) (hl : ws.length ≤ 1048577) (h1 : 1 ≤ ws.length) : ∃ q, Va.atlasref15_rest.f K 14 ws = some q ∧ Same (finG ws (formP SS ws 14 (1, none, c0 14))) q := by
  have e : Va.atlasref15_rest.f K 14 ws = (Va.atlasref15_rest.q0.l K (lt2 ws ⟨#[86, 98, 113]⟩ 2 zc (c0 14))).bind fun r => some (untup r.2.2, r.1, r.2.1) := by kernel_rfl
  obtain ⟨r, hr, hs⟩ := ref_q0 K ws ⟨#[86, 98, 113]⟩ 2 zc (c0 14) [86, 98, 113] hw hk h1 hl rfl (by decide) (by decide +kernel) (by decide)
  rw [e, form_g 14 (by decide) (by decide)]
  have hr' : Va.atlasref15_rest.q0.l K (lt2 ws ⟨#[86, 98, 113]⟩ 2 zc (c0 14)) = _ := hr
  rw [hr']
  exact ⟨_, rfl, same_trans (with_flag [86, 98] 113 (by decide) (by decide) (fun x hx => (hw x hx).1) h1 (c0 14)) hs⟩
set_option maxRecDepth 100000 in
theorem rest_15 (K : Nat) (hw : ∀ x ∈ ws, x.size ≤ 1048576 ∧ x.size < K) (hk : 200 < K) (hl : ws.length ≤ 1048577) (h1 : 1 ≤ ws.length) : ∃ q, Va.atlasref15_rest.f K 15 ws = some q ∧ Same (finG ws (formP SS ws 15 (1, none, c0 15))) q := by
  have e : Va.atlasref15_rest.f K 15 ws = (Va.atlasref15_rest.q0.l K (lt2 ws ⟨#[]⟩ 0 zc (c0 15))).bind fun r => some (untup r.2.2, r.1, r.2.1) := by kernel_rfl
  obtain ⟨r, hr, hs⟩ := ref_q0 K ws ⟨#[]⟩ 0 zc (c0 15) [] hw hk h1 hl rfl (by decide) (by decide +kernel) (by decide)
  rw [e, form_g 15 (by decide) (by decide)]
  have hr' : Va.atlasref15_rest.q0.l K (lt2 ws ⟨#[]⟩ 0 zc (c0 15)) = _ := hr
  rw [hr']
  exact ⟨_, rfl, same_trans (no_flag [] (by decide) (fun x hx => (hw x hx).1) h1 (c0 15)) hs⟩
set_option maxRecDepth 100000 in
theorem rest_16 (K : Nat) (hw : ∀ x ∈ ws, x.size ≤ 1048576 ∧ x.size < K) (hk : 200 < K) (hl : ws.length ≤ 1048577) (h1 : 1 ≤ ws.length) : ∃ q, Va.atlasref15_rest.f K 16 ws = some q ∧ Same (finG ws (formP SS ws 16 (1, none, c0 16))) q := by
  have e : Va.atlasref15_rest.f K 16 ws = (Va.atlasref15_rest.q0.l K (lt2 ws ⟨#[80, 87]⟩ 2 zc (c0 16))).bind fun r => some (untup r.2.2, r.1, r.2.1) := by kernel_rfl
  obtain ⟨r, hr, hs⟩ := ref_q0 K ws ⟨#[80, 87]⟩ 2 zc (c0 16) [80, 87] hw hk h1 hl rfl (by decide) (by decide +kernel) (by decide)
  rw [e, form_g 16 (by decide) (by decide)]
  have hr' : Va.atlasref15_rest.q0.l K (lt2 ws ⟨#[80, 87]⟩ 2 zc (c0 16)) = _ := hr
  rw [hr']
  exact ⟨_, rfl, same_trans (no_flag [80, 87] (by decide) (fun x hx => (hw x hx).1) h1 (c0 16)) hs⟩
set_option maxRecDepth 100000 in
theorem rest_17 (K : Nat) (hw : ∀ x ∈ ws, x.size ≤ 1048576 ∧ x.size < K) (hk : 200 < K) (hl : ws.length ≤ 1048577) (h1 : 1 ≤ ws.length) : ∃ q, Va.atlasref15_rest.f K 17 ws = some q ∧ Same (finG ws (formP SS ws 17 (1, none, c0 17))) q := by
  have e : Va.atlasref15_rest.f K 17 ws = (Va.atlasref15_rest.q0.l K (lt2 ws ⟨#[80]⟩ 1 zc (c0 17))).bind fun r => some (untup r.2.2, r.1, r.2.1) := by kernel_rfl
  obtain ⟨r, hr, hs⟩ := ref_q0 K ws ⟨#[80]⟩ 1 zc (c0 17) [80] hw hk h1 hl rfl (by decide) (by decide +kernel) (by decide)
  rw [e, form_g 17 (by decide) (by decide)]
  have hr' : Va.atlasref15_rest.q0.l K (lt2 ws ⟨#[80]⟩ 1 zc (c0 17)) = _ := hr
  rw [hr']
  exact ⟨_, rfl, same_trans (no_flag [80] (by decide) (fun x hx => (hw x hx).1) h1 (c0 17)) hs⟩
set_option maxRecDepth 100000 in
theorem rest_18 (K : Nat) (hw : ∀ x ∈ ws, x.size ≤ 1048576 ∧ x.size < K) (hk : 200 < K) (hl : ws.length ≤ 1048577) (h1 : 1 ≤ ws.length) : ∃ q, Va.atlasref15_rest.f K 18 ws = some q ∧ Same (finG ws (formP SS ws 18 (1, none, c0 18))) q := by
  have e : Va.atlasref15_rest.f K 18 ws = (Va.atlasref15_rest.q0.l K (lt2 ws ⟨#[67, 111, 77, 112, 87, 117]⟩ 5 zc (c0 18))).bind fun r => some (untup r.2.2, r.1, r.2.1) := by kernel_rfl
  obtain ⟨r, hr, hs⟩ := ref_q0 K ws ⟨#[67, 111, 77, 112, 87, 117]⟩ 5 zc (c0 18) [67, 111, 77, 112, 87, 117] hw hk h1 hl rfl (by decide) (by decide +kernel) (by decide)
  rw [e, form_g 18 (by decide) (by decide)]
  have hr' : Va.atlasref15_rest.q0.l K (lt2 ws ⟨#[67, 111, 77, 112, 87, 117]⟩ 5 zc (c0 18)) = _ := hr
  rw [hr']
  exact ⟨_, rfl, same_trans (with_flag [67, 111, 77, 112, 87] 117 (by decide) (by decide) (fun x hx => (hw x hx).1) h1 (c0 18)) hs⟩
set_option maxRecDepth 100000 in
theorem rest_19 (K : Nat) (hw : ∀ x ∈ ws, x.size ≤ 1048576 ∧ x.size < K) (hk : 200 < K) (hl : ws.length ≤ 1048577) (h1 : 1 ≤ ws.length) : ∃ q, Va.atlasref15_rest.f K 19 ws = some q ∧ Same (finG ws (formP SS ws 19 (1, none, c0 19))) q := by
  have e : Va.atlasref15_rest.f K 19 ws = (Va.atlasref15_rest.q0.l K (lt2 ws ⟨#[67, 111, 77, 112, 117]⟩ 4 zc (c0 19))).bind fun r => some (untup r.2.2, r.1, r.2.1) := by kernel_rfl
  obtain ⟨r, hr, hs⟩ := ref_q0 K ws ⟨#[67, 111, 77, 112, 117]⟩ 4 zc (c0 19) [67, 111, 77, 112, 117] hw hk h1 hl rfl (by decide) (by decide +kernel) (by decide)
  rw [e, form_g 19 (by decide) (by decide)]
  have hr' : Va.atlasref15_rest.q0.l K (lt2 ws ⟨#[67, 111, 77, 112, 117]⟩ 4 zc (c0 19)) = _ := hr
  rw [hr']
  exact ⟨_, rfl, same_trans (with_flag [67, 111, 77, 112] 117 (by decide) (by decide) (fun x hx => (hw x hx).1) h1 (c0 19)) hs⟩
set_option maxRecDepth 100000 in
theorem rest_20 (K : Nat) (hw : ∀ x ∈ ws, x.size ≤ 1048576 ∧ x.size < K) (hk : 200 < K) (hl : ws.length ≤ 1048577) (h1 : 1 ≤ ws.length) : ∃ q, Va.atlasref15_rest.f K 20 ws = some q ∧ Same (finG ws (formP SS ws 20 (1, none, c0 20))) q := by
  have e : Va.atlasref15_rest.f K 20 ws = (Va.atlasref15_rest.q0.l K (lt2 ws ⟨#[]⟩ 0 zc (c0 20))).bind fun r => some (untup r.2.2, r.1, r.2.1) := by kernel_rfl
  obtain ⟨r, hr, hs⟩ := ref_q0 K ws ⟨#[]⟩ 0 zc (c0 20) [] hw hk h1 hl rfl (by decide) (by decide +kernel) (by decide)
  rw [e, form_g 20 (by decide) (by decide)]
  have hr' : Va.atlasref15_rest.q0.l K (lt2 ws ⟨#[]⟩ 0 zc (c0 20)) = _ := hr
  rw [hr']
  exact ⟨_, rfl, same_trans (no_flag [] (by decide) (fun x hx => (hw x hx).1) h1 (c0 20)) hs⟩
theorem rest_eq (kd : Nat) (hkd : 1 ≤ kd ∧ kd ≤ 20) (K : Nat) (hw : ∀ x ∈ ws, x.size ≤ 1048576 ∧ x.size < K) (hk : 200 < K) (hl : ws.length ≤ 1048577) (h1 : 1 ≤ ws.length) : ∃ q, Va.atlasref15_rest.f K (kd : Int) ws = some q ∧ Same (finG ws (formP SS ws kd (1, none, c0 kd))) q := by
  rcases (show kd = 1 ∨ kd = 2 ∨ kd = 3 ∨ kd = 4 ∨ kd = 5 ∨ kd = 6 ∨ kd = 7 ∨ kd = 8 ∨ kd = 9 ∨ kd = 10 ∨ kd = 11 ∨ kd = 12 ∨ kd = 13 ∨ kd = 14 ∨ kd = 15 ∨ kd = 16 ∨ kd = 17 ∨ kd = 18 ∨ kd = 19 ∨ kd = 20 by omega) with rfl | rfl | rfl | rfl | rfl | rfl | rfl | rfl | rfl | rfl | rfl | rfl | rfl | rfl | rfl | rfl | rfl | rfl | rfl | rfl
  · exact rest_1 K hw hk hl h1
  · exact rest_2 K hw hk hl h1
  · obtain ⟨q, hq, hs⟩ := noise_eq K hw hk hl h1
    have e : Va.atlasref15_rest.f K ((3 : Nat) : Int) ws = (Va.atlasref15_noise.f K ws).bind fun r => some r := by
      show _ = _
      kernel_rfl
    rw [e, hq]
    exact ⟨q, rfl, hs⟩
  · exact rest_4 K hw hk hl h1
  · exact rest_5 K hw hk hl h1
  · exact rest_6 K hw hk hl h1
  · exact rest_7 K hw hk hl h1
  · exact rest_8 K hw hk hl h1
  · exact rest_9 K hw hk hl h1
  · exact rest_10 K hw hk hl h1
  · exact rest_11 K hw hk hl h1
  · exact rest_12 K hw hk hl h1
  · exact rest_13 K hw hk hl h1
  · exact rest_14 K hw hk hl h1
  · exact rest_15 K hw hk hl h1
  · exact rest_16 K hw hk hl h1
  · exact rest_17 K hw hk hl h1
  · exact rest_18 K hw hk hl h1
  · exact rest_19 K hw hk hl h1
  · exact rest_20 K hw hk hl h1
/-! ### The name -/
abbrev lv (ws : List ByteArray) (kd i : Int) (c : Cmd) : List ByteArray × Int × Int × Int × Int × Int × Int × Int × Int × Int × Int × Int × Int × Int × Bool × Int × Bool × ByteArray × ByteArray × Int × Int × Int × Int × Int × Bool × Bool × Bool × Int × Int × Bool × Int × Int × Int × Int × Int := (ws, kd, i, c.f0, c.f1, c.f2, c.f3, c.f4, c.f5, c.f6, c.f7, c.f8, c.f9, c.f10, c.f11, c.f12, c.f13, c.f14, c.f15, c.f16, c.f17, c.f18, c.f19, c.f20, c.f21, c.f22, c.f23, c.f24, c.f25, c.f26, c.f27, c.f28, c.f29, c.f30, c.f31)
abbrev lv1 (ws : List ByteArray) (kd : Int) (c : Cmd) : List ByteArray × Int × Int × Int × Int × Int × Int × Int × Int × Int × Int × Int × Int × Bool × Int × Bool × ByteArray × ByteArray × Int × Int × Int × Int × Int × Bool × Bool × Bool × Int × Int × Bool × Int × Int × Int × Int × Int := (ws, kd, c.f0, c.f1, c.f2, c.f3, c.f4, c.f5, c.f6, c.f7, c.f8, c.f9, c.f10, c.f11, c.f12, c.f13, c.f14, c.f15, c.f16, c.f17, c.f18, c.f19, c.f20, c.f21, c.f22, c.f23, c.f24, c.f25, c.f26, c.f27, c.f28, c.f29, c.f30, c.f31)
theorem pq_eq (k n : Nat) (ws : List ByteArray) (kd i : Int) (c : Cmd) : Va.atlasref15_Parse.q0.l k (n + 1) (lv ws kd i c) =
    bif decide (i < 21) then ((Va.atlasref15_verbs.f i).bind fun r2 => bif (decide ((0 : Int) ≤ 0) && decide (0 < ((ws.length : Nat) : Int))) then (bif (r2.toList == (ws.getD 0 ByteArray.empty).toList) then Va.atlasref15_Parse.q0.l k n (lv ws i (IntKind.wrap .i64 (i + 1)) c) else Va.atlasref15_Parse.q0.l k n (lv ws kd (IntKind.wrap .i64 (i + 1)) c)) else none)
    else some (lv1 ws kd c) := rfl
theorem parse_f (k : Nat) (x : ByteArray) : Va.atlasref15_Parse.f k x = bif decide ((x.size : Int) > 256) then some (zc, 153, -1) else (Va.atlasref01_Fields.f k x).bind fun r1 => bif (((r1.length : Nat) : Int) == 0) then some (zc, 0, -1) else
    (Va.atlasref15_Parse.q0.l k k (lv r1 0 1 zc)).bind fun r3 => bif (r3.2.1 == 0) then some (zc, 151, 0) else (Va.atlasref15_rest.f k r3.2.1 r3.1).bind fun r4 => bif (r4.2.1 != 0) then some (zc, r4.2.1, r4.2.2) else some (r4.1, 0, -1) := rfl
theorem verbs_eq (i : Nat) (hi : i < 21) : Va.atlasref15_verbs.f (i : Int) = some (nms[i]'hi) := by
  have : ∀ j : Fin 21, Va.atlasref15_verbs.f ((j.val : Nat) : Int) = some (nms[j.val]'j.isLt) := by
    intro ⟨j, hj⟩
    rcases (show j = 0 ∨ j = 1 ∨ j = 2 ∨ j = 3 ∨ j = 4 ∨ j = 5 ∨ j = 6 ∨ j = 7 ∨ j = 8 ∨ j = 9 ∨ j = 10 ∨ j = 11 ∨ j = 12 ∨ j = 13 ∨ j = 14 ∨ j = 15 ∨ j = 16 ∨ j = 17 ∨ j = 18 ∨ j = 19 ∨ j = 20 by omega) with rfl | rfl | rfl | rfl | rfl | rfl | rfl | rfl | rfl | rfl | rfl | rfl | rfl | rfl | rfl | rfl | rfl | rfl | rfl | rfl | rfl <;> (show _ = _; kernel_rfl)
  exact this ⟨i, hi⟩
theorem nms_inj : ∀ i j : Fin 21, (nms[i.val]'i.isLt).toList = (nms[j.val]'j.isLt).toList → i = j := by decide +kernel
theorem nms_full : ∀ i : Fin 21, (nms[i.val]'i.isLt).toList.isEmpty = decide (i.val = 0) := by decide +kernel
/-- Which command's name the word is: the document's loop. -/
theorem verb_loop (k : Nat) (c : Cmd) (x : ByteArray) (hx : ws.getD 0 ByteArray.empty = x) (h1 : 1 ≤ ws.length) : ∀ (d i n kd : Nat), i + d = 21 → 1 ≤ i → d < n →
    Va.atlasref15_Parse.q0.l k n (lv ws (kd : Int) (i : Int) c) = some (lv1 ws (match kindOf x with | some k0 => if i ≤ k0 then (k0 : Int) else (kd : Int) | none => (kd : Int)) c) := by
  intro d
  induction d with
  | zero =>
    intro i n kd hd hi hn
    obtain ⟨n, rfl⟩ : ∃ m, n = m + 1 := ⟨n - 1, by omega⟩
    obtain rfl : i = 21 := by omega
    rw [pq_eq]
    simp only [show decide (((21 : Nat) : Int) < 21) = false from rfl, cond_false]
    cases hk : kindOf x with
    | none => rfl
    | some k0 =>
      have hlt : k0 < 21 := (List.findIdx?_eq_some_iff_getElem.1 hk).1
      simp only [if_neg (show ¬ 21 ≤ k0 by omega)]
  | succ d ih =>
    intro i n kd hd hi hn
    obtain ⟨n, rfl⟩ : ∃ m, n = m + 1 := ⟨n - 1, by omega⟩
    have hi2 : i < 21 := by omega
    have e1 : IntKind.wrap .i64 ((i : Int) + 1) = ((i + 1 : Nat) : Int) := by rw [wrap_i64e _ (by omega) (by omega)]; omega
    rw [pq_eq, decide_eq_true (show (i : Int) < 21 by omega), verbs_eq i hi2, e1, hx, decide_eq_true (show (0 : Int) < ((ws.length : Nat) : Int) by omega)]
    simp only [cond_true, Option.bind_some, show (decide ((0 : Int) ≤ 0) && true) = true from rfl]
    have hne : (nms[i]'hi2).toList.isEmpty = false := by rw [nms_full ⟨i, hi2⟩]; simp; omega
    by_cases hm : (nms[i]'hi2).toList = x.toList
    · have hb : ((nms[i]'hi2).toList == x.toList) = true := by rw [beq_iff_eq]; exact hm
      have hk : kindOf x = some i := kind_some hi2 (by rw [hne, hb]; rfl) (fun j hj hji => by
        have : ((nms[j]'hj).toList == x.toList) = false := by
          rw [beq_eq_false_iff_ne]
          intro h
          have := nms_inj ⟨j, hj⟩ ⟨i, hi2⟩ (h.trans hm.symm)
          have := congrArg Fin.val this
          simp only at this
          omega
        rw [this]; simp)
      rw [hb, cond_true, ih (i + 1) n i (by omega) (by omega) (by omega), hk]
      simp only [if_neg (show ¬ i + 1 ≤ i by omega), Nat.le_refl, if_true]
    · have hb : ((nms[i]'hi2).toList == x.toList) = false := by rw [beq_eq_false_iff_ne]; exact hm
      rw [hb, cond_false, ih (i + 1) n kd (by omega) (by omega) (by omega)]
      cases hk : kindOf x with
      | none => rfl
      | some k0 =>
        have h0 := List.findIdx?_eq_some_iff_getElem.1 hk
        have hne2 : k0 ≠ i := by
          intro e
          subst e
          have := h0.2.1
          simp only [Bool.and_eq_true, beq_iff_eq] at this
          exact hm this.2
        simp only
        by_cases h : i ≤ k0
        · rw [if_pos (by omega), if_pos h]
        · rw [if_neg (by omega), if_neg h]
/-- The command of a line, or the error. -/
theorem ref_parse (line : ByteArray) (k : Nat) (hk : 1000 < k) : ∃ q, Va.atlasref15_Parse.f k line = some q ∧ match (parseR SS line (fieldsP line)).2 with
    | none => q = ((parseR SS line (fieldsP line)).1, 0, -1)
    | some (c, a) => q = ((parseR SS line (fieldsP line)).1, c, a) ∧ c ≠ 0 := by
  rw [parse_f]
  unfold parseR
  by_cases hb : line.size > 256
  · rw [if_pos hb, decide_eq_true (show (line.size : Int) > 256 by omega), cond_true]
    exact ⟨_, rfl, rfl, by decide⟩
  · rw [if_neg hb, decide_eq_false (show ¬ (line.size : Int) > 256 by omega), cond_false]
    obtain ⟨_, hF, hl, hw⟩ := fields_eq line (by omega) k (by omega)
    rw [hF]
    simp only [Option.bind_some]
    generalize fieldsP line = ws at *
    by_cases h1 : 0 < ws.length
    · rw [dif_pos h1, beq_eq_false_iff_ne.2 (show ((ws.length : Nat) : Int) ≠ 0 by omega), cond_false]
      have hx : ws.getD 0 ByteArray.empty = ws[0] := by rw [List.getD_eq_getElem?_getD, List.getElem?_eq_getElem h1]; rfl
      have hv := verb_loop k zc ws[0] hx h1 20 1 k 0 rfl (by omega) (by omega)
      have hv' : Va.atlasref15_Parse.q0.l k k (lv ws 0 1 zc) = _ := hv
      rw [hv']
      simp only [Option.bind_some]
      unfold parsedP
      cases hk0 : kindOf ws[0] with
      | none => exact ⟨_, rfl, rfl, by decide⟩
      | some k0 =>
        have h0 := List.findIdx?_eq_some_iff_getElem.1 hk0
        have hk1 : 1 ≤ k0 := nms_pos (x := ws[0]) h0.1 h0.2.1
        have hk2 : k0 ≤ 20 := Nat.le_of_lt_succ h0.1
        obtain ⟨q, hq, hs⟩ := rest_eq (ws := ws) k0 ⟨hk1, hk2⟩ k (fun x hx => ⟨by have := hw x hx; omega, by have := hw x hx; omega⟩) (by omega) (by omega) h1
        simp only [if_pos hk1, beq_eq_false_iff_ne.2 (show (k0 : Int) ≠ 0 by omega), cond_false]
        rw [hq]
        simp only [Option.bind_some]
        have hF : ((formP SS ws k0 (1, none, c0 k0)).2.2, if (formP SS ws k0 (1, none, c0 k0)).1 < ws.length then failB (formP SS ws k0 (1, none, c0 k0)).2.1 152 ((formP SS ws k0 (1, none, c0 k0)).1 : Int) else (formP SS ws k0 (1, none, c0 k0)).2.1) = finG ws (formP SS ws k0 (1, none, c0 k0)) := rfl
        rw [hF]
        generalize finG ws (formP SS ws k0 (1, none, c0 k0)) = r at *
        obtain ⟨c, bad⟩ := r
        rcases bad with _ | ⟨e, a⟩
        · have hs : q = (c, 0, -1) := hs
          subst hs
          exact ⟨_, rfl, rfl⟩
        · obtain ⟨h3, h4⟩ : q.2 = (e, a) ∧ e ≠ 0 := hs
          obtain ⟨q1, q2⟩ := q
          simp only at h3
          subst h3
          have hbn : (e != 0) = true := by rw [bne_iff_ne]; exact h4
          simp only [hbn, cond_true]
          exact ⟨_, rfl, rfl, h4⟩
    · have h0 : ws.length = 0 := by omega
      rw [dif_neg h1, h0]
      exact ⟨_, rfl, rfl⟩
end Go.Proofs.YtnidnmhcjngmeaaGreat.Scr
