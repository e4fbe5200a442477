/-
  What stands in the arguments of a law: typed values.
  Conditions: none.
-/
import Derived.Test.YtmphkmoakamepaaVaLaw
import Derived.ChangeArms
import Derived.ChangeShapes
import Derived.DataReads
import Derived.SizedLaws
set_option linter.unusedVariables false
set_option linter.unusedSimpArgs false
set_option autoImplicit false
namespace Go.Va

def upA (o a : Nat) : Nat := (o + a - 1) / a * a
/-- Size and alignment of a kind's values, by gc's rules (of a struct: from here on, the parts still to come). -/
def CT.ga : CT → Nat → Nat → Nat × Nat
  | .int k, _, _ => (k.bits / 8, k.bits / 8)
  | .bool, _, _ => (1, 1)
  | .str, _, _ => (16, 8)
  | .unit, o, al => (upA o al, al)
  | .vec _, _, _ => (24, 8)
  | .pair a b, o, al => b.ga (upA o (a.ga 0 1).2 + (a.ga 0 1).1) (Nat.max al (a.ga 0 1).2)
def CT.bytes (c : CT) : Nat := (c.ga 0 1).1
/-- Typed values that a program can be handed. -/
def CT.wf : (c : CT) → c.D → Prop
  | .int k, x => (Lit.int k x).wf = true
  | .bool, _ => True
  | .str, x => ByteArray.size x ≤ maxLen ∧ ByteArray.size x ≤ reachBytes
  | .unit, _ => True
  | .vec c, l => List.length l ≤ maxLen ∧ List.length l * c.bytes ≤ reachBytes ∧ ∀ y ∈ l, c.wf y
  | .pair a b, x => a.wf x.1 ∧ b.wf x.2

def fieldsA (P : Program) (rec : TypeId → Option CT) (n : Nat) : List Field → Nat → Option CT
  | [], o => if o = n then some .unit else none
  | f :: fs, o => match rec f.type, fieldsA P rec n fs (o + P.cellsOf f.type) with
    | some c, some q => if f.offset = o ∧ c.sz = P.cellsOf f.type then some (.pair c q) else none
    | _, _ => none

/-- The kind of a type's values, its places looked at. -/
def ctA (P : Program) : Nat → TypeId → Option CT
  | 0, _ => none
  | d + 1, t => match P.underlying t with
    | some (.int k) => some (.int k)
    | some .bool => some .bool
    | some .string => some .str
    | some (.slice e) => match ctA P d e with
      | some c => if (0 < c.sz ∧ c.sz = P.cellsOf e) ∧ c.bytes = P.bytesOf e then some (.vec c) else none
      | none => none
    | some (.struct fs) => fieldsA P (ctA P d) (P.cellsOf t) fs.toList 0
    | _ => none

section
variable {H : Type} {enc : TypeId × Value → H} {P : Program} {w : World} {F : Nat → Prop}

theorem cells_1 {C : Cx} {m : Bool} {v : AV} {c : Value} (h : VRel C m v c) : Cells C m [v] [c] := cells_cons h cells_nil

theorem fields_open (rec : TypeId → Option CT) (T : TypeId → List Value → Prop) (cs : List Value)
    (ih : ∀ t c, rec t = some c → ∀ l, T t l → ∃ y : c.D, c.wf y ∧ Cells (cx0 F w) false (c.enc y) l) :
    ∀ (fs : List Field) (o : Nat) (c : CT), fieldsA P rec cs.length fs o = some c → (∀ f ∈ fs, T f.type ((cs.drop f.offset).take (P.cellsOf f.type))) → ∃ y : c.D, c.wf y ∧ Cells (cx0 F w) false (c.enc y) (cs.drop o) := by
  intro fs
  induction fs with
  | nil =>
    intro o c h _
    unfold fieldsA at h
    split at h
    · rename_i e
      simp only [Option.some.injEq] at h
      subst h; subst e
      refine ⟨(), trivial, ?_⟩
      rw [List.drop_length]
      exact cells_nil
    · cases h
  | cons f fs ihf =>
    intro o c h hT
    unfold fieldsA at h
    split at h
    · rename_i c1 q h1 h2
      split at h
      · rename_i e
        simp only [Option.some.injEq] at h
        subst h
        obtain ⟨y1, w1, k1⟩ := ih _ _ h1 _ (hT f (by simp))
        obtain ⟨y2, w2, k2⟩ := ihf _ _ h2 (fun g hg => hT g (by simp [hg]))
        refine ⟨(y1, y2), ⟨w1, w2⟩, ?_⟩
        have h3 := k1.append k2
        rw [e.1] at h3
        have e4 : List.drop (o + P.cellsOf f.type) cs = List.drop (P.cellsOf f.type) (List.drop o cs) := by rw [List.drop_drop]
        rw [e4, List.take_append_drop] at h3
        exact h3
      · cases h
    · cases h

theorem weightsAll_mem {d : DataW H} {e : TypeId} {n : Nat} (hn : n ∈ d.weights P e) : ∀ {l : List (DataW H)}, d ∈ l → n ∈ DataW.weightsAll P e l := by
  intro l
  induction l with
  | nil => intro h; cases h
  | cons a l ih =>
    intro h
    unfold DataW.weightsAll
    rcases List.mem_cons.1 h with rfl | h
    · exact List.mem_append_left _ hn
    · exact List.mem_append_right _ (ih h)
theorem open_ct (hF : ∀ B, ¬ F B) : ∀ (d : Nat) (t : TypeId) (c : CT), ctA P d t = some c → ∀ (l : List Value), (∃ fuel x, DataW.trod enc P w 0 (fun _ => true) true fuel t l = some x ∧ ∀ n ∈ x.1.weights P t, n ≤ reachBytes) → ∃ y : c.D, c.wf y ∧ Cells (cx0 F w) false (c.enc y) l := by
  intro d
  induction d with
  | zero => intro t c h; cases h
  | succ d ih =>
    intro t c h l hl
    obtain ⟨fuel, x, hx, hW⟩ := hl
    unfold ctA at h
    split at h
    · rename_i k hu
      simp only [Option.some.injEq] at h; subst h
      obtain ⟨n, rfl, _, hw⟩ := DataW.trod_int hu hx
      exact ⟨n, hw, cells_1 (.val _)⟩
    · rename_i hu
      simp only [Option.some.injEq] at h; subst h
      obtain ⟨b, rfl, _⟩ := DataW.trod_bool hu hx
      exact ⟨b, trivial, cells_1 (.val _)⟩
    · rename_i hu
      simp only [Option.some.injEq] at h; subst h
      obtain ⟨s, rfl, rfl, hw⟩ := DataW.trod_string hu hx
      have hs := hW s.data.toList.length (by unfold DataW.weights; simp)
      exact ⟨s, ⟨hw, by simpa using hs⟩, cells_1 (.val _)⟩
    · rename_i e hu
      split at h
      · rename_i c' hc'
        split at h
        · rename_i hz
          simp only [Option.some.injEq] at h; subst h
          rcases DataW.trod_slice hu hx with ⟨rfl, _⟩ | ⟨a, len, cap, elems, rest, n, _, rfl, rfl, _, hlc, hmax, hlen, hel, hsp, _⟩
          · exact ⟨[], ⟨Nat.zero_le _, by simp, fun y hy => by cases hy⟩, cells_1 (.vt .vec0)⟩
          · rcases Nat.eq_zero_or_pos cap with hcap | hcap
            · subst hcap
              have hl0 : len = 0 := by omega
              subst hl0
              exact ⟨[], ⟨Nat.zero_le _, by simp, fun y hy => by cases hy⟩, cells_1 (.vt .vec0)⟩
            · have hwt := hW
              unfold DataW.weights at hwt
              rw [hu] at hwt
              have hw0 := hwt _ (List.mem_cons_self ..)
              have hwe : ∀ (i : Nat) (hi : i < elems.length), ∀ n ∈ (elems[i]).1.weights P e, n ≤ reachBytes := fun i hi n hn =>
                hwt n (List.mem_cons_of_mem _ (List.mem_append_left _ (weightsAll_mem hn (List.mem_map.2 ⟨_, List.getElem_mem hi, rfl⟩))))
              -- the block is there
              have hfirst : ∃ ci, w.cells? 0 (a.add (0 * P.cellsOf e)) (P.cellsOf e) = some ci := by
                rcases Nat.eq_zero_or_pos len with h0 | h0
                · obtain ⟨hrl, hr⟩ := hsp rfl
                  have h1 := hr 0 (by omega)
                  rw [List.getElem?_eq_getElem (by omega), Option.bind_eq_some_iff] at h1
                  obtain ⟨ci, h2, _⟩ := h1
                  rw [h0] at h2
                  exact ⟨ci, h2⟩
                · have h1 := hel 0 h0
                  rw [List.getElem?_eq_getElem (by omega), Option.bind_eq_some_iff] at h1
                  obtain ⟨ci, h2, _⟩ := h1
                  exact ⟨ci, h2⟩
              obtain ⟨c0, hc0⟩ := hfirst
              have hpos : 0 < P.cellsOf e := by have := hz.1; omega
              obtain ⟨_, hc0l, hc0c⟩ := World.cells?_some hc0
              have hc1 := hc0c 0 hpos
              rw [List.getElem?_eq_getElem (by omega), Nat.zero_mul] at hc1
              have hadd : (a.add 0).add 0 = a := by simp [Addr.add]
              rw [hadd] at hc1
              obtain ⟨B, off, spot⟩ := a
              have hB : B < w.heap.size ∧ spot = none := by
                unfold World.cell? at hc1
                split at hc1
                · rename_i c1 t1 f1 hh
                  refine ⟨(Array.getElem?_eq_some_iff.1 hh).1, ?_⟩
                  cases spot with
                  | none => rfl
                  | some s => simp at hc1
                · cases hc1
              obtain ⟨hB, rfl⟩ := hB
              have each : ∀ i, ∃ (y : c'.D) (ci : List Value), i < len → c'.wf y ∧ Cells (cx0 F w) false (c'.enc y) ci ∧ ∀ k, k < P.cellsOf e → w.cell? ⟨B, off + i * P.cellsOf e + k, none⟩ = ci[k]? := by
                intro i
                by_cases hi : i < len
                · have h1 := hel i hi
                  rw [List.getElem?_eq_getElem (by omega), Option.bind_eq_some_iff] at h1
                  obtain ⟨ci, h2, h3⟩ := h1
                  obtain ⟨y, hy, hc⟩ := ih e c' hc' ci ⟨_, _, h3, hwe i (by omega)⟩
                  refine ⟨y, ci, fun _ => ⟨hy, hc, fun k hk => ?_⟩⟩
                  have h4 := (World.cells?_some h2).2.2 k hk
                  rw [Addr.add_none, Addr.add_none] at h4
                  exact h4
                · exact ⟨c'.df, [], fun h => absurd h hi⟩
              let f : Nat → c'.D := fun i => Classical.choose (each i)
              let g : Nat → List Value := fun i => Classical.choose (Classical.choose_spec (each i))
              have hfg : ∀ i, i < len → c'.wf (f i) ∧ Cells (cx0 F w) false (c'.enc (f i)) (g i) ∧ ∀ k, k < P.cellsOf e → w.cell? ⟨B, off + i * P.cellsOf e + k, none⟩ = (g i)[k]? := fun i => Classical.choose_spec (Classical.choose_spec (each i))
              have hg : ∀ j, j < len → (vecL len f).getD j c'.df = f j := fun j hj => vecL_getD len f c'.df j hj
              refine ⟨vecL len f, ⟨by rw [vecL_length]; omega, ?_, fun y hy => ?_⟩, cells_1 (.vt ?_)⟩
              · rw [vecL_length, hz.2]
                simp only [List.length_map, hlen] at hw0
                exact Nat.le_trans (Nat.mul_le_mul_right _ (Nat.le_add_right _ _)) hw0
              · unfold vecL at hy
                obtain ⟨i, hi, rfl⟩ := List.mem_map.1 hy
                exact (hfg i (by simpa using hi)).1
              · rw [vecL_length]
                refine .vec g hB (hF B) hlc hmax (fun j hj => ?_) (fun j hj k hk => ?_) (fun j hj k => ?_)
                · have h5 := (hfg j hj).2.1.1
                  rw [CT.enc_len] at h5
                  exact ⟨by omega, CT.enc_len _ _⟩
                · have h5 := (hfg j hj).2.1.1
                  rw [CT.enc_len] at h5
                  have h6 := (hfg j hj).2.2 k (by omega)
                  rw [← hz.1.2] at h6
                  show w.cell? _ = _
                  rw [h6, List.getElem?_eq_getElem (by omega)]
                  unfold vg
                  rw [List.getD_eq_getElem?_getD, List.getElem?_eq_getElem (by omega)]; rfl
                · rw [hg j hj]; exact (hfg j hj).2.1.2 k
        · cases h
      · cases h
    · rename_i fs hu
      obtain ⟨xs, n, _, rfl, hlen, hxl, hf⟩ := DataW.trod_struct hu hx
      rw [← hlen] at h
      have := fields_open (P := P) (w := w) (F := F) (ctA P d) (fun t l => ∃ fuel x, DataW.trod enc P w 0 (fun _ => true) true fuel t l = some x ∧ ∀ n ∈ x.1.weights P t, n ≤ reachBytes) l (fun t c hc l hl => ih t c hc l hl) fs.toList 0 c h (fun f hmem => by
        obtain ⟨i, hi⟩ := List.getElem?_of_mem hmem
        have hi' : fs[i]? = some f := by simpa using hi
        have h2 := hf i f hi'
        have hlt : i < fs.size := (Array.getElem?_eq_some_iff.1 hi').1
        rw [List.getElem?_eq_getElem (by omega)] at h2
        refine ⟨_, _, h2, fun m hm => hW m ?_⟩
        unfold DataW.weights
        rw [hu]
        refine DataW.weights_mem_each (j := i) (t := f.type) (d := (xs[i]'(by omega)).1) ?_ ?_ m hm
        · rw [List.getElem?_map, hi]; rfl
        · rw [List.getElem?_map, List.getElem?_eq_getElem (by omega)]; rfl)
      simpa using this
    · cases h

/-- A struct that is handed in. -/
theorem open_struct {d : Nat} {t : TypeId} {c : CT} {fs : Array Field} {r : Reach} {b0 : Nat} {v : Value} {D : DataW H} {ps : List MemPlace} (hF : ∀ B, ¬ F B) (hA : ctA P d t = some c) (hu : P.underlying t = some (.struct fs))
    (hv : Value.okWide P w r b0 t v) (h : DataW.Trod enc P w 0 (fun _ => true) true t v D ps) (hW : ∀ n ∈ D.weights P t, n ≤ reachBytes) : ∃ y : c.D, c.wf y ∧ VRel (cx0 F w) false (.agg (c.enc y)) v := by
  unfold Value.okWide at hv
  rw [hu] at hv
  obtain ⟨cs, rfl, _, _⟩ := hv
  obtain ⟨fuel, hf⟩ := h
  obtain ⟨y, hy, hc⟩ := open_ct hF d t c hA _ ⟨fuel, _, hf, hW⟩
  refine ⟨y, hy, ?_⟩
  have := rel_agg hc
  simpa [Value.cells] using this

/-- A value of one cell that is handed in. -/
theorem open_cell {d : Nat} {t : TypeId} {c : CT} {D : DataW H} {ps : List MemPlace} {v : Value} (hF : ∀ B, ¬ F B) (hA : ctA P d t = some c) (hs : ∀ cs, v ≠ .agg cs)
    (h : DataW.Trod enc P w 0 (fun _ => true) true t v D ps) (hW : ∀ n ∈ D.weights P t, n ≤ reachBytes) : ∃ y : c.D, c.wf y ∧ Cells (cx0 F w) false (c.enc y) [v] := by
  obtain ⟨fuel, hf⟩ := h
  have e : v.cells.toList = [v] := by
    cases v with
    | agg cs => exact absurd rfl (hs cs)
    | _ => rfl
  rw [e] at hf
  exact open_ct hF d t c hA _ ⟨fuel, _, hf, hW⟩
theorem open_slice {d : Nat} {t e : TypeId} {c : CT} {r : Reach} {b0 : Nat} {v : Value} {D : DataW H} {ps : List MemPlace} (hF : ∀ B, ¬ F B) (hA : ctA P d t = some c) (hu : P.underlying t = some (.slice e))
    (hv : Value.okWide P w r b0 t v) (h : DataW.Trod enc P w 0 (fun _ => true) true t v D ps) (hW : ∀ n ∈ D.weights P t, n ≤ reachBytes) : ∃ y : c.D, c.wf y ∧ Cells (cx0 F w) false (c.enc y) [v] := by
  refine open_cell hF hA (fun cs e => ?_) h hW
  subst e
  unfold Value.okWide Cell.okWide Cell.ok at hv
  rw [hu] at hv
  simp at hv
end
end Go.Va
