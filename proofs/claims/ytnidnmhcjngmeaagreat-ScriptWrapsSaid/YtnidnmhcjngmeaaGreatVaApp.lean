/-
  append to a row of the run's own, abstractly.
  Conditions: none.
-/
import Derived.Test.YtnidnmhcjngmeaaGreatVaName
import Derived.Deep.DeepAppendWide
set_option linter.unusedVariables false
set_option linter.unusedSimpArgs false
set_option autoImplicit false
namespace Go.Va

/-- A slice of the model that stands for a typed row. -/
def SrcOk (C : Cx) (c : CT) (l : List c.D) (v : Value) : Prop :=
  ((∃ ad, v = .slice ad 0 0) ∧ l = []) ∨ ∃ B off cap vs, v = .slice (some ⟨B, off, none⟩) l.length cap ∧ vs.length = l.length * c.sz ∧ (∀ j u, vs[j]? = some u → C.w.cell? ⟨B, off + j, none⟩ = some u) ∧
    ∀ j, j < l.length → ∀ i, i < c.sz → VRel C false (gt (c.enc (l.getD j c.df)) i) (vg vs (j * c.sz + i))

/-- A typed row out of a slice: the row, the blocks that are made still by it, those looked at. -/
def srcA (c : CT) (hp : List Blk) (v : AV) : Option (List c.D × List Nat × List Nat) := match v with
  | .so b sz => match gb hp b with
    | .rt c' l _ => match CT.same c' c with
      | some h => bif sz == c.sz then some (h.down ▸ l, [], [b]) else none
      | none => none
    | _ => none
  | .sl b off len sz => match gb hp b with
    | .row cs _ _ => bif sz == c.sz then (match c.decN len (immL hp (cs.drop off)) with
      | some l => some (l, refsL (cs.drop off), b :: refsL (cs.drop off))
      | none => none) else none
    | _ => none
  | v => match (CT.vec c).decA [v] with
    | some l => some (l, [], [])
    | none => none

theorem srcA_agree {c : CT} {hp hp' : List Blk} {v : AV} {r : List c.D × List Nat × List Nat} (h : srcA c hp v = some r) (ha : ∀ b ∈ r.2.2, gb hp' b = gb hp b) : srcA c hp' v = some r := by
  unfold srcA at h ⊢
  split at h
  · rename_i b sz
    split at h
    · rename_i c' l t hb
      split at h
      · rename_i hs _
        cases hz : (sz == c.sz) with
        | false => rw [hz] at h; cases h
        | true =>
          rw [hz, cond_true] at h
          have e : r.2.2 = [b] := by rw [← Option.some.inj h]
          simp only [ha b (by simp [e]), hb, hz, cond_true]
          split
          · rename_i hs2 he2
            rw [he2] at *
            simp_all
          · simp_all
      · cases h
    · cases h
  · rename_i b off len sz
    split at h
    · rename_i cs t cl hb
      cases hz : (sz == c.sz) with
      | false => rw [hz] at h; cases h
      | true =>
        rw [hz, cond_true] at h
        split at h
        · rename_i l hl
          have e : r.2.2 = b :: refsL (cs.drop off) := by rw [← Option.some.inj h]
          simp only [ha b (by simp [e]), hb, hz, cond_true]
          rw [immL_agree (hp := hp) (hp' := hp') _ (fun x hx => ha x (by rw [e]; simp [hx])), hl]
          exact h
        · cases h
    · cases h
  · exact h

theorem immL_still {C : Cx} {hp : List Blk} (hr : HRel C hp) {S : Nat → Prop} {cs : List AV} {m : Bool} {vs : List Value} (hc : Cells C m cs vs)
    (hS : ∀ b ∈ refsL cs, (gb hp b).live = true → C.nl b = false → S (C.mu b)) : Cells (C.fz S) false (immL hp cs) vs := by
  refine ⟨by rw [immL_length]; exact hc.1, fun j => ?_⟩
  rw [immL_gt]
  have h1 := immV_rel hr (ban := (C.fz S).own) (fun B h => h.1) (hc.2 j) (fun b hb hl hn hown => hown.2 (hS b (refsL_gt hb) hl hn))
  exact VRel.mono_false (C := cx0 (C.fz S).own C.w) (D := C.fz S) ⟨Nat.le_refl _, fun _ _ _ => rfl, fun _ _ h => h⟩ h1 rfl

theorem srcA_ok {C : Cx} {hp : List Blk} (hr : HRel C hp) {c : CT} {v : AV} {l : List c.D} {f t : List Nat} (h : srcA c hp v = some (l, f, t)) {cv : Value} (hv : VRel C true v cv) {S : Nat → Prop}
    (hS : ∀ b ∈ f, (gb hp b).live = true → C.nl b = false → S (C.mu b)) : SrcOk (C.fz S) c l cv := by
  have hle := C.fz_le S
  unfold srcA at h
  split at h
  · rename_i b sz
    split at h
    · rename_i c' l' t' hb
      split at h
      · rename_i hs _
        obtain ⟨e⟩ := hs
        subst e
        cases hz : (sz == c'.sz) with
        | false => rw [hz] at h; cases h
        | true =>
          rw [hz, cond_true, Option.some.injEq, Prod.mk.injEq] at h
          have hll : l' = l := h.1
          subst hll
          have hz := beq_iff_eq.1 hz
          subst hz
          obtain ⟨_, hln, hor⟩ := hr.rt b c' l' t' hb
          cases hv with
          | @so _ _ n cap hal hnl hz0 hn hk hl hmax =>
            have hnn : n = l'.length := Nat.eq_of_mul_eq_mul_right hz0 (hn.trans hln)
            subst hnn
            obtain ⟨cur, h2, h3, h4, h5⟩ := hr.cells_rt hb hnl
            refine .inr ⟨_, _, _, cur.toList.take (l'.length * c'.sz), rfl, by simp; omega, fun j u hu => ?_, fun j hj i hi => ?_⟩
            · have hj : j < l'.length * c'.sz := by
                have := (List.getElem?_eq_some_iff.1 hu).1
                simp at this; omega
              rw [List.getElem?_take, if_pos hj] at hu
              show C.w.cell? _ = _
              rw [Nat.zero_add, cell_of_row C.w (C.mu b) j cur t' (0, 0) h2]
              simpa using hu
            · have := ((h5 j hj).2 i).le hle
              have hrj := row_le (sz := c'.sz) hj
              rw [vg_take _ _ _ hi, vg_drop] at this
              rw [vg_take _ _ _ (by omega)]; exact this
          | so0 hal hnl =>
            rcases hor with ⟨_, h2⟩ | ⟨h3, _⟩
            · exact .inl ⟨⟨_, rfl⟩, h2⟩
            · rw [hnl] at h3; cases h3
      · cases h
    · cases h
  · rename_i b off len sz
    split at h
    · rename_i cs t' cl hb
      cases hz : (sz == c.sz) with
      | false => rw [hz] at h; cases h
      | true =>
        rw [hz, cond_true] at h
        have hz := beq_iff_eq.1 hz
        subst hz
        split at h
        · rename_i l' hl'
          simp only [Option.some.injEq, Prod.mk.injEq] at h
          obtain ⟨rfl, rfl, _⟩ := h
          obtain ⟨_, _, hlen, _⟩ := hr.row b cs t' cl hb
          obtain ⟨cur, h2, h3, h4, h5⟩ := hr.cells hb
          obtain ⟨h6, h7⟩ := CT.decN_ok hl'
          have h8 := h7 (immL_still hr (S := S) (h5.drop off) hS)
          cases hv with
          | sl hal hk hl hmax hln =>
            rw [hlen] at hln
            refine .inr ⟨_, _, _, ((cur.toList.take cs.length).drop off).take (len * c.sz), by rw [h6], by rw [h6]; simp; omega, fun j u hu => ?_, fun j hj i hi => ?_⟩
            · have hj : j < len * c.sz := by
                have := (List.getElem?_eq_some_iff.1 hu).1
                simp at this; omega
              rw [List.getElem?_take, if_pos hj, List.getElem?_drop, List.getElem?_take, if_pos (by omega)] at hu
              show C.w.cell? _ = _
              rw [cell_of_row C.w (C.mu b) (off + j) cur t' (0, 0) h2]
              simpa using hu
            · rw [h6] at hj
              have hrj := row_le (sz := c.sz) hj
              rw [vg_take _ _ _ (by omega)]; exact h8 j hj i hi
        · cases h
    · cases h
  · split at h
    · rename_i l' hl'
      simp only [Option.some.injEq, Prod.mk.injEq] at h
      obtain ⟨rfl, _⟩ := h
      have h1 := (CT.decA_ok hl' (C := C) (m := true) (vs := [cv]) ⟨rfl, fun j => by cases j with
        | zero => exact hv
        | succ j => exact .junk _⟩).2 0
      have h2 : VRel C true (.vt c l') cv := h1
      cases h2 with
      | vt h2 =>
        have h3 := VRel.mono_false hle.le0 (h2.down rfl) rfl
        generalize hn : l'.length = n at h3
        cases h3 with
        | vec0 => exact .inl ⟨⟨_, rfl⟩, List.eq_nil_of_length_eq_zero hn⟩
        | @vec _ _ _ _ B off cap fv hB hn' hcap hmax hl hc hrel =>
          subst hn
          have flat : ∀ (k : Nat), k ≤ l'.length → ((List.range k).flatMap fv).length = k * c.sz := by
            intro k hk
            induction k with
            | zero => simp
            | succ k ih =>
              rw [List.range_succ, List.flatMap_append, List.length_append, ih (by omega)]
              simp [(hl k (by omega)).1, Nat.add_mul]
          have get : ∀ (k : Nat), k ≤ l'.length → ∀ j, j < k → ∀ i, i < c.sz → ((List.range k).flatMap fv)[j * c.sz + i]? = (fv j)[i]? := by
            intro k
            induction k with
            | zero => intro _ j hj; omega
            | succ k ih =>
              intro hk j hj i hi
              rw [List.range_succ, List.flatMap_append]
              have hf := flat k (by omega)
              by_cases e : j = k
              · subst e
                rw [List.getElem?_append_right (by omega), hf]
                simp
              · have := row_le (sz := c.sz) (show j < k by omega)
                rw [List.getElem?_append_left (by omega)]
                exact ih (by omega) j (by omega) i hi
          refine .inr ⟨B, off, cap, (List.range l'.length).flatMap fv, rfl, flat _ (Nat.le_refl _), fun j u hu => ?_, fun j hj i hi => ?_⟩
          · have hj := (List.getElem?_eq_some_iff.1 hu).1
            rw [flat _ (Nat.le_refl _)] at hj
            have hz : 0 < c.sz := by
              rcases Nat.eq_zero_or_pos c.sz with h | h
              · rw [h] at hj; omega
              · exact h
            have hq : j / c.sz < l'.length := Nat.div_lt_of_lt_mul (by rw [Nat.mul_comm]; exact hj)
            have hr' : j % c.sz < c.sz := Nat.mod_lt _ hz
            have e : j / c.sz * c.sz + j % c.sz = j := by rw [Nat.mul_comm]; exact Nat.div_add_mod j c.sz
            have h4 := get _ (Nat.le_refl _) _ hq _ hr'
            rw [e, hu] at h4
            have h5 := hc _ hq _ hr'
            rw [show off + j / c.sz * c.sz + j % c.sz = off + j by omega] at h5
            rw [h5]
            simp [vg, List.getD_eq_getElem?_getD, ← h4]
          · have h4 := hrel j hj i
            have e : vg ((List.range l'.length).flatMap fv) (j * c.sz + i) = vg (fv j) i := by simp only [vg, List.getD_eq_getElem?_getD, get _ (Nat.le_refl _) j hj i hi]
            rw [e]; exact h4
    · cases h

theorem SrcOk.one {C : Cx} {c : CT} {l : List c.D} {vs : List Value} (hl : vs.length = l.length * c.sz) (h : ∀ j, j < l.length → ∀ i, i < c.sz → VRel C false (gt (c.enc (l.getD j c.df)) i) (vg vs (j * c.sz + i))) (u : Value) (hu : u ∈ vs) : u.oneCell' = true := by
  obtain ⟨k, hk⟩ := List.getElem?_of_mem hu
  have hkl := (List.getElem?_eq_some_iff.1 hk).1
  rw [hl] at hkl
  have hz : 0 < c.sz := by
    rcases Nat.eq_zero_or_pos c.sz with h | h
    · rw [h] at hkl; omega
    · exact h
  have hq : k / c.sz < l.length := Nat.div_lt_of_lt_mul (by rw [Nat.mul_comm]; exact hkl)
  have hr' : k % c.sz < c.sz := Nat.mod_lt _ hz
  have e : k / c.sz * c.sz + k % c.sz = k := by rw [Nat.mul_comm]; exact Nat.div_add_mod k c.sz
  have h1 := h _ hq _ hr'
  rw [e] at h1
  have e2 : vg vs k = u := by simp [vg, List.getD_eq_getElem?_getD, hk]
  rw [e2] at h1
  refine h1.one (CT.enc_one c (l.getD (k / c.sz) c.df) _ ?_)
  have hlen : k % c.sz < (c.enc (l.getD (k / c.sz) c.df)).length := by rw [CT.enc_len]; exact hr'
  have e3 : ∀ (k : List AV) (n : Nat), n < k.length → gt k n ∈ k := by
    intro k
    induction k with
    | nil => intro n hn; simp at hn
    | cons v k ih => intro n hn; cases n with
      | zero => simp [gt]
      | succ n => exact List.mem_cons_of_mem _ (ih n (by simpa using hn))
  exact e3 _ _ hlen

/-- A row of the run's own that is appended to. -/
def dstA (c : CT) (e : TypeId) (hp : List Blk) (v : AV) : Option (List c.D × List Nat × List Nat × List Nat) := match v with
  | .val (.slice none 0 0) => some ([], [], [], [])
  | .so b sz => match gb hp b with
    | .rt c' l t => match CT.same c' c with
      | some h => bif sz == c.sz && t == e then some (h.down ▸ l, [b], [], [b]) else none
      | none => none
    | _ => none
  | .sl b off len sz => match gb hp b with
    | .row cs t _ => bif ((off == 0 && sz == c.sz) && t == e) && len * sz == cs.length then (match c.decN len (immL hp cs) with
      | some l => some (l, [b], refsL cs, b :: refsL cs)
      | none => none) else none
    | _ => none
  | _ => none

theorem dstA_agree {c : CT} {e : TypeId} {hp hp' : List Blk} {v : AV} {r : List c.D × List Nat × List Nat × List Nat} (h : dstA c e hp v = some r) (ha : ∀ b ∈ r.2.2.2, gb hp' b = gb hp b) : dstA c e hp' v = some r := by
  unfold dstA at h ⊢
  split at h
  · exact h
  · rename_i b sz
    split at h
    · rename_i c' l t hb
      split at h
      · rename_i hs _
        cases hz : (sz == c.sz && t == e) with
        | false => rw [hz] at h; cases h
        | true =>
          rw [hz, cond_true] at h
          have e1 : r.2.2.2 = [b] := by rw [← Option.some.inj h]
          simp only [ha b (by simp [e1]), hb, hz, cond_true]
          split
          · rename_i hs2 he2
            rw [he2] at *
            simp_all
          · simp_all
      · cases h
    · cases h
  · rename_i b off len sz
    split at h
    · rename_i cs t cl hb
      cases hz : (((off == 0 && sz == c.sz) && t == e) && len * sz == cs.length) with
      | false => rw [hz] at h; cases h
      | true =>
        rw [hz, cond_true] at h
        split at h
        · rename_i l hl
          have e1 : r.2.2.2 = b :: refsL cs := by rw [← Option.some.inj h]
          simp only [ha b (by simp [e1]), hb, hz, cond_true]
          rw [immL_agree (hp := hp) (hp' := hp') _ (fun x hx => ha x (by rw [e1]; simp [hx])), hl]
          exact h
        · cases h
    · cases h
  · cases h

theorem dstA_ok {C : Cx} {hp : List Blk} (hr : HRel C hp) {c : CT} {e : TypeId} {v : AV} {l : List c.D} {g f t : List Nat} (h : dstA c e hp v = some (l, g, f, t)) {cv : Value} (hv : VRel C true v cv) (hz0 : 0 < c.sz) {S : Nat → Prop}
    (hS : ∀ b ∈ f, (gb hp b).live = true → C.nl b = false → S (C.mu b)) :
    (cv = .slice none 0 0 ∧ l = []) ∨ ∃ b cap cur, g = [b] ∧ (gb hp b).live = true ∧ C.nl b = false ∧ cv = .slice (some ⟨C.mu b, 0, none⟩) l.length cap ∧ C.w.heap[C.mu b]? = some (.cells cur e (0, 0)) ∧ cur.size = C.ka b ∧ cur.size = cap * c.sz ∧ l.length ≤ cap ∧ cap ≤ maxLen ∧
      ∀ j, j < l.length → ∀ i, i < c.sz → VRel (C.fz S) false (gt (c.enc (l.getD j c.df)) i) (vg (cur.toList.take (l.length * c.sz)) (j * c.sz + i)) := by
  have hle := C.fz_le S
  unfold dstA at h
  split at h
  · simp only [Option.some.injEq, Prod.mk.injEq] at h
    exact .inl ⟨hv.inv_val, h.1.symm⟩
  · rename_i b sz
    split at h
    · rename_i c' l' t' hb
      split at h
      · rename_i hs _
        obtain ⟨e1⟩ := hs
        subst e1
        cases hz : (sz == c'.sz && t' == e) with
        | false => rw [hz] at h; cases h
        | true =>
          rw [hz, cond_true, Option.some.injEq, Prod.mk.injEq, Prod.mk.injEq] at h
          have hll : l' = l := h.1
          subst hll
          obtain ⟨_, rfl, _⟩ := h
          simp only [Bool.and_eq_true, beq_iff_eq] at hz
          obtain ⟨rfl, rfl⟩ := hz
          obtain ⟨_, hln, hor⟩ := hr.rt b c' l' t' hb
          cases hv with
          | @so _ _ n cap hal hnl _ hn hk hl hmax =>
            have hnn : n = l'.length := Nat.eq_of_mul_eq_mul_right hz0 (hn.trans hln)
            subst hnn
            obtain ⟨cur, h2, h3, h4, h5⟩ := hr.cells_rt hb hnl
            refine .inr ⟨b, cap, cur, rfl, by rw [hb]; rfl, hnl, rfl, h2, h3, by omega, hl, hmax, fun j hj i hi => ?_⟩
            have := ((h5 j hj).2 i).le hle
            have hrj := row_le (sz := c'.sz) hj
            rw [vg_take _ _ _ hi, vg_drop] at this
            rw [vg_take _ _ _ (by omega)]; exact this
          | so0 hal hnl =>
            rcases hor with ⟨_, h2⟩ | ⟨h3, _⟩
            · exact .inl ⟨rfl, h2⟩
            · rw [hnl] at h3; cases h3
      · cases h
    · cases h
  · rename_i b off len sz
    split at h
    · rename_i cs t' cl hb
      cases hz : (((off == 0 && sz == c.sz) && t' == e) && len * sz == cs.length) with
      | false => rw [hz] at h; cases h
      | true =>
        rw [hz, cond_true] at h
        simp only [Bool.and_eq_true, beq_iff_eq] at hz
        obtain ⟨⟨⟨rfl, rfl⟩, rfl⟩, hfull⟩ := hz
        split at h
        · rename_i l' hl'
          simp only [Option.some.injEq, Prod.mk.injEq] at h
          obtain ⟨rfl, rfl, rfl, _⟩ := h
          obtain ⟨_, _, hlen, _⟩ := hr.row b cs t' cl hb
          obtain ⟨cur, h2, h3, h4, h5⟩ := hr.cells hb
          obtain ⟨h6, h7⟩ := CT.decN_ok hl'
          have h8 := h7 (immL_still hr (S := S) h5 hS)
          cases hv with
          | @sl _ _ _ _ cap hal hk hl hmax hln =>
            refine .inr ⟨b, cap, cur, rfl, by rw [hb]; rfl, hr.nnl b _ _ _ hb, by rw [h6], h2, h3, by omega, by omega, hmax, fun j hj i hi => ?_⟩
            rw [h6, hfull]
            exact h8 j (by omega) i hi
        · cases h
    · cases h
  · cases h

def appendK (P : Program) (hp : List Blk) {β : Type} (K : ORes → Option β) (p : Nat) (t u : TypeId) (x y : AV) : Option β := match P.underlying t with
  | some (.slice e) => match P.info? e with
    | some i => match i.zero with
      | some z => match ctOf P 6 e with
        | some c => bif ((c.sz == i.size && decide (0 < i.size)) && z.cells.size == i.size) && t == u then
            (match dstA c e hp x with
            | some (l1, g, f1, t1) => match srcA c hp y with
              | some (l2, f2, t2) => match gb hp p with
                | .free => bif ((!(f1 ++ f2).any g.contains && !((f1 ++ f2) ++ g).contains p) && decide (i.bytes ≤ 65536)) && (decide ((l1 ++ l2).length ≤ maxLen) && decide ((l1 ++ l2).length * i.bytes ≤ 211106232532992)) then
                    K ⟨.so p c.sz, p :: ((t1 ++ t2) ++ ((f1 ++ f2) ++ g)), ((f1 ++ f2) ++ g).map (fun b => (b, .gone)) ++ [(p, .rt c (l1 ++ l2) e)], none⟩ else none
                | _ => none
              | none => none
            | none => none)
          else none
        | none => none
      | none => none
    | none => none
  | _ => none

theorem upds_gone (l : List Nat) (r : List (Nat × Blk)) : ∀ hp : List Blk, upds hp (l.map (fun b => (b, Blk.gone)) ++ r) = upds (goneL hp l) r := by
  induction l with
  | nil => intro hp; rfl
  | cons b l ih => intro hp; simp only [List.map_cons, List.cons_append, upds, goneL]; exact ih _

theorem goneL_append (l k : List Nat) : ∀ hp : List Blk, goneL hp (l ++ k) = goneL (goneL hp l) k := by
  induction l with
  | nil => intro hp; rfl
  | cons b l ih => intro hp; simp only [List.cons_append, goneL]; exact ih _

theorem gb_goneL_not {l : List Nat} {hp : List Blk} {x : Nat} (h : x ∉ l) : gb (goneL hp l) x = gb hp x := by
  induction l generalizing hp with
  | nil => rfl
  | cons b l ih =>
    simp only [List.mem_cons, not_or] at h
    simp only [goneL]
    rw [ih h.2, gb_sb_ne _ _ _ _ h.1]

theorem rows_append {C : Cx} {c : CT} {l1 l2 : List c.D} {xs ys : List Value} (hx : xs.length = l1.length * c.sz)
    (h1 : ∀ j, j < l1.length → ∀ i, i < c.sz → VRel C false (gt (c.enc (l1.getD j c.df)) i) (vg xs (j * c.sz + i)))
    (h2 : ∀ j, j < l2.length → ∀ i, i < c.sz → VRel C false (gt (c.enc (l2.getD j c.df)) i) (vg ys (j * c.sz + i))) :
    ∀ j, j < (l1 ++ l2).length → ∀ i, i < c.sz → VRel C false (gt (c.enc ((l1 ++ l2).getD j c.df)) i) (vg (xs ++ ys) (j * c.sz + i)) := by
  intro j hj i hi
  by_cases h : j < l1.length
  · have := row_le (sz := c.sz) h
    rw [vg_append_left _ _ _ (by omega)]
    have e : (l1 ++ l2).getD j c.df = l1.getD j c.df := by simp [List.getD_eq_getElem?_getD, List.getElem?_append_left h]
    rw [e]; exact h1 j h i hi
  · have hle : l1.length * c.sz ≤ j * c.sz := Nat.mul_le_mul_right _ (by omega)
    rw [vg_append_right _ _ _ (by omega)]
    have e : (l1 ++ l2).getD j c.df = l2.getD (j - l1.length) c.df := by simp [List.getD_eq_getElem?_getD, List.getElem?_append_right (show l1.length ≤ j by omega)]
    rw [e]
    have := h2 (j - l1.length) (by simp at hj; omega) i hi
    rw [show j * c.sz + i - xs.length = (j - l1.length) * c.sz + i by rw [hx, Nat.sub_mul]; omega]
    exact this

theorem fit_wide {n b : Nat} (h : n * b ≤ 211106232532992) (hb : b ≤ 65536) : (n + n / 4 + 192) * b ≤ 281474976710656 := by
  have h1 : (n / 4) * b * 4 ≤ n * b := by
    rw [Nat.mul_assoc, Nat.mul_comm b 4, ← Nat.mul_assoc]
    exact Nat.mul_le_mul_right _ (Nat.div_mul_le_self n 4)
  rw [Nat.add_mul, Nat.add_mul]
  generalize n * b = x at *
  generalize (n / 4) * b = y at *
  omega

/-- What append comes to: nothing; a new row; the old one. -/
theorem run_append_cases {P : Program} (w : World) (t ty e : TypeId) (i : TypeInfo) (z : Value) (ht : P.underlying t = some (.slice e)) (hi : P.info? e = some i) (hz : i.zero = some z)
    (hzs : z.cells.size = i.size) (hsz : 0 < i.size) (v y : Value) (n m : Nat) (xs ys : List Value)
    (hv : (v = .slice none 0 0 ∧ n = 0 ∧ xs = []) ∨ ∃ g cap cur, v = .slice (some ⟨g, 0, none⟩) n cap ∧ w.heap[g]? = some (.cells cur e (0, 0)) ∧ cur.size = cap * i.size ∧ n ≤ cap ∧ cap ≤ maxLen ∧ cur.toList.take (n * i.size) = xs)
    (hxs : xs.length = n * i.size) (hys : ys.length = m * i.size)
    (hy : (y = .slice none 0 0 ∧ m = 0) ∨ ∃ a cap, y = .slice (some a) m cap ∧ ∀ j u, ys[j]? = some u → w.cell? (a.add j) = some u)
    (h1 : ∀ u ∈ ys, u.oneCell' = true) (h63 : n + m ≤ maxLen) (hbytes : (n + m) * i.bytes ≤ 211106232532992) (hbb : i.bytes ≤ 65536) :
    (v = .slice none 0 0 ∧ m = 0 ∧ (Builtin.append_ #[t, t] ty #[v, y]).run P w = .ok v w) ∨
    (∃ cap cells, (Builtin.append_ #[t, t] ty #[v, y]).run P w = .ok (.slice (some ⟨w.heap.size, 0, none⟩) (n + m) cap) (w.drew.alloc (.cells cells e (0, 0))) ∧ cells.size = cap * i.size ∧ n + m ≤ cap ∧ cap ≤ maxLen ∧ cells.toList.take ((n + m) * i.size) = xs ++ ys) ∨
    (∃ g cap cur cur', v = .slice (some ⟨g, 0, none⟩) n cap ∧ w.heap[g]? = some (.cells cur e (0, 0)) ∧ (Builtin.append_ #[t, t] ty #[v, y]).run P w = .ok (.slice (some ⟨g, 0, none⟩) (n + m) cap) (w.setRow g cur') ∧ cur'.size = cur.size ∧ cur.size = cap * i.size ∧ n + m ≤ cap ∧ cap ≤ maxLen ∧ cur'.toList.take ((n + m) * i.size) = xs ++ ys) ∨
    (∃ g cap cur, v = .slice (some ⟨g, 0, none⟩) n cap ∧ w.heap[g]? = some (.cells cur e (0, 0)) ∧ m = 0 ∧ (Builtin.append_ #[t, t] ty #[v, y]).run P w = .ok v w ∧ cur.size = cap * i.size ∧ n ≤ cap ∧ cap ≤ maxLen ∧ cur.toList.take (n * i.size) = xs) := by
  have hlen : (xs ++ ys).length = (n + m) * i.size := by rw [List.length_append, hxs, hys, Nat.add_mul]
  have grown : ∀ (old : Nat), old < n + m →
      (xs.toArray ++ ys.toArray ++ Builtin.zeroCells z.cells (grownCap w (n + m) old e - (n + m))).size = grownCap w (n + m) old e * i.size ∧ n + m ≤ grownCap w (n + m) old e ∧ grownCap w (n + m) old e ≤ maxLen ∧
      (xs.toArray ++ ys.toArray ++ Builtin.zeroCells z.cells (grownCap w (n + m) old e - (n + m))).toList.take ((n + m) * i.size) = xs ++ ys := by
    intro old ho
    have hge := grownCap_ge w (n + m) old e
    refine ⟨?_, hge, grownCap_le_maxLen w (n + m) old e h63, ?_⟩
    · simp only [Array.size_append, List.size_toArray, size_zeroCells, hzs, hxs, hys, ← Nat.add_mul]
      congr 1
      omega
    · simp only [Array.toList_append, List.append_assoc]
      rw [← List.append_assoc, ← hlen]
      exact List.take_left
  have h63' : n + m ≤ 9223372036854775807 := by simp only [maxLen] at h63; omega
  rcases hv with ⟨rfl, rfl, rfl⟩ | ⟨g, cap, cur, rfl, hg, hcs, hnc, hcm, htake⟩
  · by_cases hm : m = 0
    · subst hm
      refine .inl ⟨rfl, rfl, ?_⟩
      have hy0 : ys = [] := List.eq_nil_of_length_eq_zero (by simpa using hys)
      subst hy0
      rcases hy with ⟨rfl, _⟩ | ⟨a, cap, rfl, _⟩ <;> simp [Builtin.append_, run_underlying ht, sizeOf, typeInfo, hi, Builtin.lenOf, Builtin.firstCells, loadCells, loadCellsFrom]
    · rcases hy with ⟨_, h⟩ | ⟨a, cap, rfl, hcell⟩
      · exact absurd h hm
      · have hr := run_append_nil (P := P) w t ty e i z ht hi hz a m cap ys hys hcell (by omega) (by omega) (by simp only [Nat.zero_add] at hbytes; omega)
        have hgr := grown 0 (by omega)
        simp only [Nat.zero_add, List.nil_append, Array.empty_append] at hgr ⊢
        exact .inr (.inl ⟨_, _, hr, hgr.1, hgr.2.1, hgr.2.2.1, hgr.2.2.2⟩)
  · rcases hy with ⟨rfl, rfl⟩ | ⟨a, cy, rfl, hcell⟩
    · refine .inr (.inr (.inr ⟨g, cap, cur, rfl, hg, rfl, ?_, hcs, hnc, hcm, htake⟩))
      simp [Builtin.append_, run_underlying ht, sizeOf, typeInfo, hi, Builtin.lenOf, Builtin.firstCells, hnc, storeCells]
    · by_cases hroom : n + m ≤ cap
      · have hfit : n * i.size + ys.length ≤ cur.size := by rw [hys, hcs, ← Nat.add_mul]; exact Nat.mul_le_mul_right _ hroom
        have hr := run_append_room (P := P) w t ty e i ht hi g n cap cur hg a m cy ys hys hcell h1 hroom hfit
        refine .inr (.inr (.inl ⟨g, cap, cur, _, rfl, hg, hr, ?_, hcs, hroom, hcm, ?_⟩))
        · simp only [List.size_toArray, List.length_append, List.length_take, List.length_drop, Array.length_toList]
          omega
        · rw [htake, ← hlen]
          exact List.take_left
      · have holds : ∀ j u, xs[j]? = some u → w.cell? ((⟨g, 0, none⟩ : Addr).add j) = some u := fun j u hu => by
          have hadd : (⟨g, 0, none⟩ : Addr).add j = ⟨g, j, none⟩ := by unfold Addr.add; split <;> simp_all
          rw [hadd, cell_of_row w g j cur e (0, 0) hg]
          rw [← htake, List.getElem?_take] at hu
          split at hu
          · simpa using hu
          · cases hu
        have hr := run_append_grow (P := P) w t ty e i z ht hi hz ⟨g, 0, none⟩ n cap xs hxs holds a m cy ys hys hcell (by omega) (by omega) (growslice_fits_wide (by omega) (fit_wide hbytes hbb))
        have hgr := grown cap (by omega)
        exact .inr (.inl ⟨_, _, hr, hgr.1, hgr.2.1, hgr.2.2.1, hgr.2.2.2⟩)

section
variable {β : Type} {P : Program} {tm : List AV} {hp : List Blk} {K : ORes → Option β} {o : Oper} {r : β}

theorem append_ok {p : Nat} {t u : TypeId} {x y : Operand} (ho : o.op = .call { callee := .builtin .append, args := #[x, y], argTypes := #[t, u] }) (h : appendK P hp K p t u (evA tm x) (evA tm y) = some r) : Ends P o tm hp K r := by
  have hmx : x ∈ o.op.operands := by simp [ho, Op.operands, Call.operands]
  have hmy : y ∈ o.op.operands := by simp [ho, Op.operands, Call.operands]
  unfold appendK at h
  split at h <;> try cases h
  rename_i e hu
  split at h <;> try cases h
  rename_i i hi
  split at h <;> try cases h
  rename_i z hz
  split at h <;> try cases h
  rename_i c hct
  cases hcond : (((c.sz == i.size && decide (0 < i.size)) && z.cells.size == i.size) && t == u) with
  | false => rw [hcond] at h; cases h
  | true =>
    rw [hcond, cond_true] at h
    simp only [Bool.and_eq_true, beq_iff_eq, decide_eq_true_eq] at hcond
    obtain ⟨⟨⟨hcs, hpos⟩, hzs⟩, rfl⟩ := hcond
    split at h <;> try cases h
    rename_i l1 g f1 t1 hd
    split at h <;> try cases h
    rename_i l2 f2 t2 hsrc
    split at h <;> try cases h
    rename_i hfree
    cases hcond2 : (((!(f1 ++ f2).any g.contains && !((f1 ++ f2) ++ g).contains p) && decide (i.bytes ≤ 65536)) && (decide ((l1 ++ l2).length ≤ maxLen) && decide ((l1 ++ l2).length * i.bytes ≤ 211106232532992))) with
    | false => rw [hcond2] at h; cases h
    | true =>
      rw [hcond2, cond_true] at h
      simp only [Bool.and_eq_true, Bool.not_eq_true', decide_eq_true_eq] at hcond2
      obtain ⟨⟨⟨hany, hpn⟩, hbb⟩, hlen1, hlen2⟩ := hcond2
      refine ⟨_, h, ?_⟩
      intro w0 O C tm' hp' a hr ha KK Q hK
      have hz0 : 0 < c.sz := by omega
      have hag : ∀ b ∈ t1 ++ t2, gb hp' b = gb hp b := fun b hb => ha.foot b (List.mem_cons_of_mem _ (List.mem_append.2 (.inl hb)))
      have hd' := dstA_agree hd (fun b hb => hag b (List.mem_append.2 (.inl hb)))
      have hs' := srcA_agree hsrc (fun b hb => hag b (List.mem_append.2 (.inr hb)))
      have hf' : gb hp' p = .free := by rw [ha.foot p (by simp), hfree]
      have hvx : VRel C true (evA tm x) (a.eval x) := by rw [← ha.ops x hmx]; exact hr.ev x
      have hvy : VRel C true (evA tm y) (a.eval y) := by rw [← ha.ops y hmy]; exact hr.ev y
      -- the nested blocks are still from here on
      have hr1 := hr.freeze (f1 ++ f2)
      have hS1 : ∀ b ∈ f1, (gb hp' b).live = true → C.nl b = false → fzOf C hp' (f1 ++ f2) (C.mu b) := fun b hb h1 h2 => ⟨b, List.mem_append.2 (.inl hb), h1, h2, rfl⟩
      have hS2 : ∀ b ∈ f2, (gb hp' b).live = true → C.nl b = false → fzOf C hp' (f1 ++ f2) (C.mu b) := fun b hb h1 h2 => ⟨b, List.mem_append.2 (.inr hb), h1, h2, rfl⟩
      have hdst := dstA_ok hr.hp hd' hvx hz0 hS1
      have hsok := srcA_ok hr.hp hs' hvy hS2
      have hgf : ∀ b ∈ g, b ∉ f1 ++ f2 := fun b hb hmem => by
        have := List.any_eq_false.1 hany b hmem
        simp [hb] at this
      have hpf : p ∉ (f1 ++ f2) ++ g := fun hmem => by
        have : ((f1 ++ f2) ++ g).contains p = true := by simpa using hmem
        rw [this] at hpn; cases hpn
      generalize hC1 : C.fz (fzOf C hp' (f1 ++ f2)) = C1 at hr1 hdst hsok
      have hw1 : C1.w = C.w := by rw [← hC1]; rfl
      have hmu1 : C1.mu = C.mu := by rw [← hC1]; rfl
      have hnl1 : C1.nl = C.nl := by rw [← hC1]; rfl
      have hka1 : C1.ka = C.ka := by rw [← hC1]; rfl
      -- the old row is given up
      have hr2 : Rep w0 O C1 ⟨tm', goneL hp' ((f1 ++ f2) ++ g)⟩ a := by
        rw [goneL_append]
        exact hr1.sub (hp' := goneL (goneL hp' (f1 ++ f2)) g) (goneL_length _ _) (gb_goneL' _ _)
      have hfree2 : gb (goneL hp' ((f1 ++ f2) ++ g)) p = .free := by rw [gb_goneL_not hpf]; exact hf'
      -- the values
      obtain ⟨ys, cy, hys, hyrun⟩ : ∃ (ys : List Value) (cy : Value), ys.length = l2.length * c.sz ∧ a.eval y = cy ∧ ((cy = .slice none 0 0 ∧ l2.length = 0) ∨ ∃ ad cap, cy = .slice (some ad) l2.length cap ∧ ∀ j u, ys[j]? = some u → C.w.cell? (ad.add j) = some u) ∧
          (∀ j, j < l2.length → ∀ k, k < c.sz → VRel C1 false (gt (c.enc (l2.getD j c.df)) k) (vg ys (j * c.sz + k))) := by
        rcases hsok with ⟨⟨ad, h1⟩, h2⟩ | ⟨B, off, cap, vs, h1, h2, h3, h4⟩
        · refine ⟨[], _, by rw [h2]; simp, h1, ?_, fun j hj => by rw [h2] at hj; simp at hj⟩
          cases ad with
          | none => exact .inl ⟨rfl, by rw [h2]; rfl⟩
          | some ad => exact .inr ⟨ad, 0, by rw [h2]; rfl, fun j u hu => by simp at hu⟩
        · refine ⟨vs, _, h2, h1, .inr ⟨_, cap, rfl, fun j u hu => ?_⟩, h4⟩
          rw [Addr.add_none, ← hw1]; exact h3 j u hu
      obtain ⟨hcy, hycase, hyrel⟩ := hyrun
      have hyone : ∀ u ∈ ys, u.oneCell' = true := SrcOk.one hys hyrel
      have wp_of : ∀ (v' : Value) (w' : World), (Builtin.append_ #[t, t] o.type #[a.eval x, a.eval y]).run P C.w = .ok v' w' → KK (a.put o.dst v') w' → o.wp P a C.w KK Q := fun v' w' hrun hk => by
        unfold Oper.wp execOp
        simp only [ho, resolve, invoke, builtin, Sem.run_bind, Sem.run_pure, Result.andThen_ok, List.map_toArray, List.map_cons, List.map_nil, hrun]
        exact hk
      have hfin : ∀ (C2 : Cx) (v' : Value), Rep w0 O C2 ⟨tm', sb (goneL hp' ((f1 ++ f2) ++ g)) p (.rt c (l1 ++ l2) e)⟩ a → VRel C2 true (.so p c.sz) v' → KK (a.put o.dst v') C2.w := fun C2 v' hrep hv => by
        refine hK C2 _ ?_
        have := hrep.put o.dst hv
        simpa [ORes.st, killT, killH, upds_gone, upds, goneL_append] using this
      have hll : (l1 ++ l2).length = l1.length + l2.length := List.length_append
      -- what append does
      have cases4 := run_append_cases (P := P) C.w t o.type e i z hu hi hz hzs hpos (a.eval x) (a.eval y) l1.length l2.length
      rcases hdst with ⟨hx0, hl1⟩ | ⟨b, cap, cur, hg, hlive, hnl, hx0, hheap, hcur, hcap, hlc, hmax, hxrel⟩
      · have c4 := cases4 [] ys (.inl ⟨hx0, by rw [hl1]; rfl, rfl⟩) (by rw [hl1]; simp) (by rw [← hcs]; exact hys) (by rw [hcy]; exact hycase) hyone (by rw [← hll]; exact hlen1) (by rw [← hll]; exact hlen2) hbb
        rcases c4 with ⟨_, hm, hrun⟩ | ⟨cap, cells, hrun, h2, h3, h4, h5⟩ | ⟨g', cap, cur, cur', h1, _⟩ | ⟨g', cap, cur, h1, _⟩
        · refine wp_of _ _ hrun ?_
          have hl2 : l2 = [] := List.eq_nil_of_length_eq_zero hm
          have hrep := hr2.name (p := p) 0 0 0 true C1.w (.rt c (l1 ++ l2) e) hfree2 ⟨rfl, rfl, rfl⟩ rfl (fun _ _ => rfl) (fun h => by cases h) (.inl ⟨rfl, rfl, c, e, by rw [hl1, hl2]; rfl⟩)
          have := hfin _ (a.eval x) hrep (by rw [hx0]; exact .so0 (.inr rfl) (by simp [Cx.name]))
          rw [← hw1]; exact this
        · refine wp_of _ _ hrun ?_
          have hr3 := hr2.alike (w' := C1.w.drew) ⟨rfl, rfl, rfl, rfl⟩
          have hrel := rows_append (C := C1) (l1 := l1) (l2 := l2) (xs := []) (ys := ys) (by rw [hl1]; simp) (fun j hj => by rw [hl1] at hj; simp at hj) hyrel
          have hm : (l1 ++ l2).length * c.sz ≤ cells.size := by rw [h2, hll, hcs]; exact Nat.mul_le_mul_right _ h3
          have hrep := hr3.allocB p ((l1 ++ l2).length * c.sz) hfree2 (.rt c (l1 ++ l2) e) cells e ⟨rfl, rfl, hm, fun j hj k hk => by
            have h6 := (hrel j hj k hk).le (D := C1.at C1.w.drew) (Alike.le ⟨rfl, rfl, rfl, rfl⟩)
            rw [← h5, vg_take _ _ _ (by have := row_le (sz := c.sz) hj; rw [← hcs, ← hll]; omega)] at h6
            simpa [vg, Array.getD_eq_getD_getElem?] using h6⟩
          have := hfin _ (.slice (some ⟨C.w.heap.size, 0, none⟩) (l1.length + l2.length) cap) hrep (by
            have e1 : ((C1.at C1.w.drew).alloc p cells.size ((l1 ++ l2).length * c.sz) (.cells cells e (0, 0))).mu p = C.w.heap.size := by simp [Cx.alloc, Cx.at, hw1]
            rw [← e1, ← hll]
            exact .so (.inr rfl) (by simp [Cx.alloc]) hz0 (by simp [Cx.alloc]) (by simp [Cx.alloc, h2, hcs]) (by rw [hll]; exact h3) h4)
          rw [show (C.w.drew.alloc (.cells cells e (0, 0))) = ((C1.at C1.w.drew).alloc p cells.size ((l1 ++ l2).length * c.sz) (.cells cells e (0, 0))).w by simp [Cx.alloc, Cx.at, hw1]]
          exact this
        · rw [hx0] at h1; cases h1
        · rw [hx0] at h1; cases h1
      · have hbf : b ∉ f1 ++ f2 := hgf b (by rw [hg]; simp)
        have hlive1 : (gb (goneL hp' (f1 ++ f2)) b).live = true := by rw [gb_goneL_not hbf]; exact hlive
        have hown : C1.own (C1.mu b) := hr1.hp.ownsB hlive1 (by rw [hnl1]; exact hnl)
        have hmine := hr1.mine b hlive1 (by rw [hnl1]; exact hnl)
        have hapart : ∀ b', (gb (goneL hp' ((f1 ++ f2) ++ g)) b').live = true → C1.nl b' = false → C1.mu b' ≠ C1.mu b := fun b' hb' hn' he => by
          have hb'' : (gb (goneL hp' (f1 ++ f2)) b').live = true := by
            rw [goneL_append] at hb'
            rcases gb_goneL' (goneL hp' (f1 ++ f2)) g b' with h | h
            · rw [← h]; exact hb'
            · rw [h] at hb'; cases hb'
          have := hr1.hp.inj b' b hb'' hlive1 hn' (by rw [hnl1]; exact hnl) he
          subst this
          rcases gb_goneL ((f1 ++ f2) ++ g) hp' b' with ⟨_, h⟩ | h
          · exact h (List.mem_append.2 (.inr (by rw [hg]; simp)))
          · rw [h] at hb'; cases hb'
        have hxs : (cur.toList.take (l1.length * c.sz)).length = l1.length * c.sz := by
          have : l1.length * c.sz ≤ cap * c.sz := Nat.mul_le_mul_right _ hlc
          simp; omega
        have hrel := rows_append (C := C1) (l1 := l1) (l2 := l2) hxs hxrel hyrel
        have c4 := cases4 (cur.toList.take (l1.length * c.sz)) ys (.inr ⟨C.mu b, cap, cur, hx0, hheap, by rw [← hcs]; exact hcap, hlc, hmax, by rw [hcs]⟩) (by rw [← hcs]; exact hxs) (by rw [← hcs]; exact hys) (by rw [hcy]; exact hycase) hyone (by rw [← hll]; exact hlen1) (by rw [← hll]; exact hlen2) hbb
        rcases c4 with ⟨h1, _⟩ | ⟨cap', cells, hrun, h2, h3, h4, h5⟩ | ⟨g', cap', cur0, cur', h1, hh, hrun, h2, h2', h3, h4, h5⟩ | ⟨g', cap', cur0, h1, hh, hm, hrun, h2, h3, h4, h5⟩
        · rw [hx0] at h1; cases h1
        · refine wp_of _ _ hrun ?_
          have hr3 := hr2.alike (w' := C1.w.drew) ⟨rfl, rfl, rfl, rfl⟩
          have hm : (l1 ++ l2).length * c.sz ≤ cells.size := by rw [h2, hll, hcs]; exact Nat.mul_le_mul_right _ h3
          have hrep := hr3.allocB p ((l1 ++ l2).length * c.sz) hfree2 (.rt c (l1 ++ l2) e) cells e ⟨rfl, rfl, hm, fun j hj k hk => by
            have h6 := (hrel j hj k hk).le (D := C1.at C1.w.drew) (Alike.le ⟨rfl, rfl, rfl, rfl⟩)
            rw [← h5, vg_take _ _ _ (by have := row_le (sz := c.sz) hj; rw [← hcs, ← hll]; omega)] at h6
            simpa [vg, Array.getD_eq_getD_getElem?] using h6⟩
          have := hfin _ (.slice (some ⟨C.w.heap.size, 0, none⟩) (l1.length + l2.length) cap') hrep (by
            have e1 : ((C1.at C1.w.drew).alloc p cells.size ((l1 ++ l2).length * c.sz) (.cells cells e (0, 0))).mu p = C.w.heap.size := by simp [Cx.alloc, Cx.at, hw1]
            rw [← e1, ← hll]
            exact .so (.inr rfl) (by simp [Cx.alloc]) hz0 (by simp [Cx.alloc]) (by simp [Cx.alloc, h2, hcs]) (by rw [hll]; exact h3) h4)
          rw [show (C.w.drew.alloc (.cells cells e (0, 0))) = ((C1.at C1.w.drew).alloc p cells.size ((l1 ++ l2).length * c.sz) (.cells cells e (0, 0))).w by simp [Cx.alloc, Cx.at, hw1]]
          exact this
        · refine wp_of _ _ hrun ?_
          rw [hx0] at h1
          simp only [Value.slice.injEq, Option.some.injEq, Addr.mk.injEq, and_true, true_and] at h1
          obtain ⟨rfl, rfl⟩ := h1
          rw [hheap] at hh
          simp only [Option.some.injEq, Obj.cells.injEq, true_and, and_true] at hh
          subst hh
          have hm : (l1 ++ l2).length * c.sz ≤ cur'.size := by rw [h2, hcap, hll]; exact Nat.mul_le_mul_right _ h3
          have hrep := hr2.name (p := p) (C1.mu b) (C1.ka b) ((l1 ++ l2).length * c.sz) false (C1.w.setRow (C1.mu b) cur') (.rt c (l1 ++ l2) e) hfree2 ⟨rfl, rfl, rfl⟩ (by simp) (fun B hB => setRow_other _ _ _ _ (hB.resolve_right (by simp)))
            (fun _ => ⟨hown, hmine, hapart⟩) (.inr ⟨rfl, cur', e, setRow_heap _ _ _ _ _ _ (by rw [hw1, hmu1]; exact hheap), by rw [h2, hcur, hka1], rfl, rfl, hm, fun j hj k hk => by
              have h6 := hrel j hj k hk
              rw [← h5, vg_take _ _ _ (by have := row_le (sz := c.sz) hj; rw [← hcs, ← hll]; omega)] at h6
              simpa [vg, Array.getD_eq_getD_getElem?] using h6⟩)
          have := hfin _ (.slice (some ⟨C.mu b, 0, none⟩) (l1.length + l2.length) cap) hrep (by
            have e1 : (C1.name p (C1.mu b) (C1.ka b) ((l1 ++ l2).length * c.sz) false (C1.w.setRow (C1.mu b) cur')).mu p = C.mu b := by simp [Cx.name, hmu1]
            rw [← e1, ← hll]
            exact .so (.inr rfl) (by simp [Cx.name]) hz0 (by simp [Cx.name]) (by simp [Cx.name, hka1, ← hcur, hcap]) (by rw [hll]; exact h3) h4)
          rw [show C.w.setRow (C.mu b) cur' = (C1.name p (C1.mu b) (C1.ka b) ((l1 ++ l2).length * c.sz) false (C1.w.setRow (C1.mu b) cur')).w by simp [Cx.name, hw1, hmu1]]
          exact this
        · refine wp_of _ _ hrun ?_
          rw [hx0] at h1
          simp only [Value.slice.injEq, Option.some.injEq, Addr.mk.injEq, and_true, true_and] at h1
          obtain ⟨rfl, rfl⟩ := h1
          have hl2 : l2 = [] := List.eq_nil_of_length_eq_zero hm
          have hm' : (l1 ++ l2).length * c.sz ≤ cur.size := by rw [hll, hm, hcap]; exact Nat.mul_le_mul_right _ hlc
          have hrep := hr2.name (p := p) (C1.mu b) (C1.ka b) ((l1 ++ l2).length * c.sz) false C1.w (.rt c (l1 ++ l2) e) hfree2 ⟨rfl, rfl, rfl⟩ rfl (fun B hB => rfl)
            (fun _ => ⟨hown, hmine, hapart⟩) (.inr ⟨rfl, cur, e, by rw [hw1, hmu1]; exact hheap, by rw [hcur, hka1], rfl, rfl, hm', fun j hj k hk => by
              have h6 := hxrel j (by rw [hl2] at hj; simpa using hj) k hk
              have e2 : (l1 ++ l2).getD j c.df = l1.getD j c.df := by rw [hl2, List.append_nil]
              rw [e2]
              rw [vg_take _ _ _ (by have := row_le (sz := c.sz) (show j < l1.length by rw [hl2] at hj; simpa using hj); omega)] at h6
              simpa [vg, Array.getD_eq_getD_getElem?] using h6⟩)
          have := hfin _ (.slice (some ⟨C.mu b, 0, none⟩) l1.length cap) hrep (by
            have e1 : (C1.name p (C1.mu b) (C1.ka b) ((l1 ++ l2).length * c.sz) false C1.w).mu p = C.mu b := by simp [Cx.name, hmu1]
            have e2 : (l1 ++ l2).length = l1.length := by rw [hll, hm]; rfl
            rw [← e1, ← e2]
            exact .so (.inr rfl) (by simp [Cx.name]) hz0 (by simp [Cx.name]) (by simp [Cx.name, hka1, ← hcur, hcap]) (by rw [e2]; exact hlc) hmax)
          rw [hx0, show C.w = (C1.name p (C1.mu b) (C1.ka b) ((l1 ++ l2).length * c.sz) false C1.w).w by simp [Cx.name, hw1]]
          exact this
end
end Go.Va
