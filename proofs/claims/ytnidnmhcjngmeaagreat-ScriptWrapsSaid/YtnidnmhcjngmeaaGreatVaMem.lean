/-
  Structs, arrays and memory, abstractly: parts, loads, stores, what is built.
  Conditions: none.
-/
import Derived.Test.YtnidnmhcjngmeaaGreatVaBin
set_option linter.unusedVariables false
set_option linter.unusedSimpArgs false
set_option autoImplicit false
namespace Go.Va

def isRowD : TypeDesc → Bool
  | .struct _ | .array _ _ => true
  | _ => false

/-- The part of type `t` that begins with the first of these cells. -/
def partA (P : Program) (t : TypeId) (cs : List AV) : Option AV :=
  match P.underlying t, P.info? t with
  | some d, some i => bif isRowD d then (bif decide (i.size ≤ cs.length) then some (.agg (cs.take i.size)) else none) else match cs with
    | c :: _ => some c
    | [] => none
  | _, _ => none

theorem run_isAgg {P : Program} {t : TypeId} {d : TypeDesc} (h : P.underlying t = some d) (w : World) : (isAgg t).run P w = .ok (isRowD d) w := by
  unfold isAgg
  rw [Sem.run_bind, run_underlying h]
  cases d <;> rfl

theorem run_sizeOf {P : Program} {t : TypeId} {i : TypeInfo} (h : P.info? t = some i) (w : World) : (sizeOf t).run P w = .ok i.size w := by
  simp [sizeOf, typeInfo, h]

theorem gt_drop (l : List AV) (n j : Nat) : gt (l.drop n) j = gt l (n + j) := by simp [gt_eq, List.getD_eq_getElem?_getD, List.getElem?_drop]
theorem gt_take (l : List AV) (n j : Nat) (h : j < n) : gt (l.take n) j = gt l j := by simp [gt_eq, List.getD_eq_getElem?_getD, List.getElem?_take, h]
theorem gt_take_ge (l : List AV) (n j : Nat) (h : n ≤ j) : gt (l.take n) j = .junk := gt_len (by simp; omega)
theorem vg_drop (l : List Value) (n j : Nat) : vg (l.drop n) j = vg l (n + j) := by simp [vg, List.getD_eq_getElem?_getD, List.getElem?_drop]
theorem vg_take (l : List Value) (n j : Nat) (h : j < n) : vg (l.take n) j = vg l j := by simp [vg, List.getD_eq_getElem?_getD, List.getElem?_take, h]
theorem gt_append_left (l k : List AV) (j : Nat) (h : j < l.length) : gt (l ++ k) j = gt l j := by simp [gt_eq, List.getD_eq_getElem?_getD, List.getElem?_append_left h]
theorem gt_append_right (l k : List AV) (j : Nat) (h : l.length ≤ j) : gt (l ++ k) j = gt k (j - l.length) := by simp [gt_eq, List.getD_eq_getElem?_getD, List.getElem?_append_right h]
theorem vg_append_left (l k : List Value) (j : Nat) (h : j < l.length) : vg (l ++ k) j = vg l j := by simp [vg, List.getD_eq_getElem?_getD, List.getElem?_append_left h]
theorem vg_append_right (l k : List Value) (j : Nat) (h : l.length ≤ j) : vg (l ++ k) j = vg k (j - l.length) := by simp [vg, List.getD_eq_getElem?_getD, List.getElem?_append_right h]

/-- Two lists of cells, one by one. -/
def Cells (C : Cx) (m : Bool) (cs : List AV) (vs : List Value) : Prop := vs.length = cs.length ∧ ∀ j, VRel C m (gt cs j) (vg vs j)

theorem Cells.drop {C : Cx} {m : Bool} {cs : List AV} {vs : List Value} (h : Cells C m cs vs) (n : Nat) : Cells C m (cs.drop n) (vs.drop n) :=
  ⟨by simp [h.1], fun j => by rw [gt_drop, vg_drop]; exact h.2 _⟩

theorem Cells.take {C : Cx} {m : Bool} {cs : List AV} {vs : List Value} (h : Cells C m cs vs) (n : Nat) : Cells C m (cs.take n) (vs.take n) :=
  ⟨by simp [h.1], fun j => by
    by_cases hj : j < n
    · rw [gt_take _ _ _ hj, vg_take _ _ _ hj]; exact h.2 _
    · rw [gt_take_ge _ _ _ (by omega)]; exact .junk _⟩

theorem Cells.append {C : Cx} {m : Bool} {cs ds : List AV} {vs us : List Value} (h : Cells C m cs vs) (k : Cells C m ds us) : Cells C m (cs ++ ds) (vs ++ us) :=
  ⟨by simp [h.1, k.1], fun j => by
    by_cases hj : j < cs.length
    · rw [gt_append_left _ _ _ hj, vg_append_left _ _ _ (by rw [h.1]; exact hj)]; exact h.2 _
    · rw [gt_append_right _ _ _ (by omega), vg_append_right _ _ _ (by rw [h.1]; omega), h.1]; exact k.2 _⟩

theorem Cells.vals (C : Cx) (m : Bool) (l : List Value) : Cells C m (l.map .val) l := ⟨by simp, VRel.of_vals C m l⟩

theorem Cells.mono {C D : Cx} {m : Bool} {cs : List AV} {vs : List Value} (h : Cells C m cs vs) (hle : C.Le anyb D) : Cells D m cs vs := ⟨h.1, fun j => (h.2 j).le hle⟩

theorem Cells.up {C : Cx} {m m' : Bool} {cs : List AV} {vs : List Value} (h : Cells C m cs vs) (hm : m = false ∨ m = m') : Cells C m' cs vs :=
  ⟨h.1, fun j => by rcases hm with hm | hm
                    · exact (h.2 j).up hm
                    · subst hm; exact h.2 j⟩

theorem Cells.down {C : Cx} {m : Bool} {cs : List AV} {vs : List Value} (h : Cells C m cs vs) (ho : AV.onlys noneb cs = true) : Cells C false cs vs := ⟨h.1, fun j => (h.2 j).down (AV.onlys_gt ho j)⟩

theorem vg_toArray (l : List Value) (j : Nat) : l.toArray.getD j undef = vg l j := by simp [vg]

theorem partA_val {P : Program} {t : TypeId} {cs : List AV} {v : AV} (h : partA P t cs = some v) {C : Cx} {m : Bool} {vs : List Value} (hc : Cells C m cs vs) (pre : List Value) (w : World) :
    ∃ c, (part t (pre ++ vs).toArray pre.length).run P w = .ok c w ∧ VRel C m v c := by
  unfold partA at h
  split at h
  · rename_i d i hd hi
    unfold part
    rw [Sem.run_bind, run_isAgg hd, Result.andThen_ok]
    cases hr : isRowD d with
    | true =>
      rw [hr, cond_true] at h
      cases hs : decide (i.size ≤ cs.length) with
      | false => rw [hs] at h; cases h
      | true =>
        rw [hs, cond_true, Option.some.injEq] at h
        subst h
        have e : (pre ++ vs).toArray.extract pre.length (pre.length + i.size) = (vs.take i.size).toArray := by
          rw [List.extract_toArray]
          simp [List.extract]
        refine ⟨_, by simp only [if_true, Sem.run_bind, run_sizeOf hi, Result.andThen_ok, Sem.run_pure, e]; rfl, ?_⟩
        exact .agg _ (hc.take i.size).1 (hc.take i.size).2
    | false =>
      rw [hr, cond_false] at h
      cases cs with
      | nil => cases h
      | cons c0 cs =>
        simp only [Option.some.injEq] at h
        subst h
        cases vs with
        | nil => have := hc.1; simp at this
        | cons u vs =>
          refine ⟨u, by simp, hc.2 0⟩
  · cases h

/-- The load of a variable whose cells are known. -/
theorem partA_load {P : Program} {t : TypeId} {cs : List AV} {v : AV} (h : partA P t cs = some v) {C : Cx} {m : Bool} {vs : List Value} (hc : Cells C m cs vs) (w : World) (B off : Nat)
    (hw : ∀ j, j < cs.length → w.cell? ⟨B, off + j, none⟩ = some (vg vs j)) : ∃ c, (loadVar t ⟨B, off, none⟩).run P w = .ok c w ∧ VRel C m v c := by
  unfold partA at h
  have hadd : ∀ j, (⟨B, off, none⟩ : Addr).add j = ⟨B, off + j, none⟩ := fun j => by unfold Addr.add; split <;> simp_all
  split at h
  · rename_i d i hd hi
    unfold loadVar
    rw [Sem.run_bind, run_isAgg hd, Result.andThen_ok]
    cases hr : isRowD d with
    | true =>
      rw [hr, cond_true] at h
      cases hs : decide (i.size ≤ cs.length) with
      | false => rw [hs] at h; cases h
      | true =>
        rw [hs, cond_true, Option.some.injEq] at h
        subst h
        have hle := of_decide_eq_true hs
        have hlen : (vs.take i.size).length = i.size := by simp [hc.1]; omega
        have hl := run_loadCells_list (P := P) w ⟨B, off, none⟩ (vs.take i.size) (fun j v hv => by
          have hj : j < i.size := by have := (List.getElem?_eq_some_iff.1 hv).1; omega
          rw [hadd, hw j (by omega)]
          have : vg vs j = v := by
            rw [← vg_take vs i.size j hj, vg, List.getD_eq_getElem?_getD, hv]; rfl
          rw [this])
        rw [hlen] at hl
        refine ⟨_, by simp only [if_true, Sem.run_bind, run_sizeOf hi, Result.andThen_ok, hl, Sem.run_pure]; rfl, ?_⟩
        exact .agg _ (hc.take i.size).1 (hc.take i.size).2
    | false =>
      rw [hr, cond_false] at h
      cases cs with
      | nil => cases h
      | cons c0 cs =>
        simp only [Option.some.injEq] at h
        subst h
        have h0 := hw 0 (by simp)
        simp only [Nat.add_zero] at h0
        exact ⟨vg vs 0, by simp [load, Sem.run, h0], hc.2 0⟩
  · cases h

/-- The cells of an owned block, as a list. -/
theorem HRel.cells {C : Cx} {hp : List Blk} (hr : HRel C hp) {b : Nat} {cs : List AV} {t : TypeId} {cl : Bool} (hb : gb hp b = .row cs t cl) :
    ∃ cur : Array Value, C.w.heap[C.mu b]? = some (.cells cur t (0, 0)) ∧ cur.size = C.ka b ∧ cs.length ≤ cur.size ∧ Cells C (!cl) cs (cur.toList.take cs.length) := by
  obtain ⟨_, _, _, cur, h2, h3, h4, h5⟩ := hr.row b cs t cl hb
  refine ⟨cur, h2, h3, by omega, by simp; omega, fun j => ?_⟩
  by_cases hj : j < cs.length
  · rw [vg_take _ _ _ hj]
    have := h5 j hj
    simpa [vg, Array.getD_eq_getD_getElem?] using this
  · rw [gt_len (by omega)]; exact .junk _

theorem CT.enc_len (c : CT) (x : c.D) : (c.enc x).length = c.sz := by
  induction c with
  | pair a b iha ihb => simp only [CT.enc, CT.sz, List.length_append, iha, ihb]
  | _ => rfl

theorem row_le {j n sz : Nat} (h : j < n) : j * sz + sz ≤ n * sz := by
  have := Nat.mul_le_mul_right sz (show j + 1 ≤ n from h)
  rw [Nat.add_mul, Nat.one_mul] at this; exact this

/-- The elements of a typed row in its block. -/
theorem HRel.cells_rt {C : Cx} {hp : List Blk} (hr : HRel C hp) {b : Nat} {c : CT} {l : List c.D} {t : TypeId} (hb : gb hp b = .rt c l t) (hnl : C.nl b = false) :
    ∃ cur : Array Value, C.w.heap[C.mu b]? = some (.cells cur t (0, 0)) ∧ cur.size = C.ka b ∧ l.length * c.sz ≤ cur.size ∧ ∀ j, j < l.length → Cells C false (c.enc (l.getD j c.df)) ((cur.toList.drop (j * c.sz)).take c.sz) := by
  obtain ⟨_, _, h⟩ := hr.rt b c l t hb
  rcases h with ⟨h, _⟩ | ⟨_, _, cur, h3, h4, h5, h6⟩
  · rw [hnl] at h; cases h
  · refine ⟨cur, h3, h4, by omega, fun j hj => ⟨?_, fun i => ?_⟩⟩
    · have := row_le (sz := c.sz) hj
      rw [CT.enc_len]; simp; omega
    · by_cases hi : i < c.sz
      · rw [vg_take _ _ _ hi, vg_drop]
        have := h6 j hj i hi
        simpa [vg, Array.getD_eq_getD_getElem?] using this
      · rw [gt_len (by rw [CT.enc_len]; omega)]; exact .junk _

/-- The cells that stand from an address on, and the block that was asked. -/
def atA (hp : List Blk) : AV → Option (List AV × List Nat)
  | .ptr b off => match gb hp b with
    | .row cs _ _ => some (cs.drop off, [b])
    | _ => none
  | .cell cs => some (cs, [])
  | .pe b i off sz => match gb hp b with
    | .rt c l _ => bif sz == c.sz && decide (i < l.length) then some ((c.enc (l.getD i c.df)).drop off, [b]) else none
    | _ => none
  | _ => none

theorem atA_ok {C : Cx} {hp : List Blk} (hr : HRel C hp) {v : AV} {cs : List AV} {l : List Nat} (h : atA hp v = some (cs, l)) {c : Value} (hv : VRel C true v c) :
    ∃ B off vs, c = .pointer (some ⟨B, off, none⟩) ∧ Cells C true cs vs ∧ ∀ j, j < cs.length → C.w.cell? ⟨B, off + j, none⟩ = some (vg vs j) := by
  cases v with
  | ptr b off =>
    simp only [atA] at h
    split at h
    · rename_i cs0 t cl hb
      simp only [Option.some.injEq, Prod.mk.injEq] at h
      obtain ⟨rfl, rfl⟩ := h
      obtain ⟨cur, h2, h3, h4, h5⟩ := hr.cells hb
      cases hv with
      | ptr hlt =>
        refine ⟨C.mu b, off, _, rfl, (h5.drop off).up (by cases cl <;> simp), fun j hj => ?_⟩
        rw [cell_of_row C.w (C.mu b) (off + j) cur t (0, 0) h2, vg_drop, vg_take _ _ _ (by simp at hj; omega)]
        have hlt : off + j < cur.size := by simp at hj; omega
        simp [vg, hlt]
    · cases h
  | cell cs0 =>
    simp only [atA, Option.some.injEq, Prod.mk.injEq] at h
    obtain ⟨rfl, rfl⟩ := h
    cases hv with
    | cell vs hB hn hl hc hr' => exact ⟨_, _, vs, rfl, ⟨hl, fun j => (hr' j).up rfl⟩, hc⟩
  | pe b i off sz =>
    simp only [atA] at h
    split at h
    · rename_i c0 l0 t hb
      cases hcond : (sz == c0.sz && decide (i < l0.length)) with
      | false => rw [hcond] at h; cases h
      | true =>
        rw [hcond, cond_true, Option.some.injEq, Prod.mk.injEq] at h
        simp only [Bool.and_eq_true, decide_eq_true_eq, beq_iff_eq] at hcond
        obtain ⟨rfl, hi⟩ := hcond
        obtain ⟨rfl, rfl⟩ := h
        cases hv with
        | pe hal hnl =>
          obtain ⟨cur, h2, h3, h4, h5⟩ := hr.cells_rt hb hnl
          refine ⟨C.mu b, i * c0.sz + off, _, rfl, ((h5 i hi).drop off).up (.inl rfl), fun j hj => ?_⟩
          have hj' : off + j < c0.sz := by rw [List.length_drop, CT.enc_len] at hj; omega
          have := row_le (sz := c0.sz) hi
          rw [cell_of_row C.w (C.mu b) (i * c0.sz + off + j) cur t (0, 0) h2, vg_drop, vg_take _ _ _ hj', vg_drop]
          have hlt : i * c0.sz + (off + j) < cur.size := by omega
          simp [vg, hlt, Nat.add_assoc]
    · cases h
  | _ => simp [atA] at h

theorem atA_agree {hp hp' : List Blk} {v : AV} {r : List AV × List Nat} (h : atA hp v = some r) (ha : ∀ b ∈ r.2, gb hp' b = gb hp b) : atA hp' v = some r := by
  cases v with
  | ptr b off =>
    simp only [atA] at h ⊢
    split at h
    · rename_i cs0 t cl hb
      simp only [Option.some.injEq] at h
      subst h
      rw [ha b (by simp), hb]
    · cases h
  | cell cs0 => exact h
  | pe b i off sz =>
    simp only [atA] at h ⊢
    split at h
    · rename_i c0 l0 t hb
      have e : r.2 = [b] := by
        cases hcond : (sz == c0.sz && decide (i < l0.length)) with
        | false => rw [hcond] at h; cases h
        | true => rw [hcond, cond_true, Option.some.injEq] at h; rw [← h]
      rw [ha b (by simp [e]), hb]; exact h
    · cases h
  | _ => simp [atA] at h
end Go.Va
