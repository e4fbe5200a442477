/-
  Typed values out of cells; typed rows out of slices.
  Conditions: none.
-/
import Derived.Test.YtnidnmhcjngmeaaGreatVaMem
set_option linter.unusedVariables false
set_option linter.unusedSimpArgs false
set_option autoImplicit false
namespace Go.Va

theorem CT.enc_one (c : CT) (x : c.D) (v : AV) (h : v ∈ c.enc x) : v.one = true := by
  induction c with
  | pair a b iha ihb =>
    simp only [CT.enc, List.mem_append] at h
    rcases h with h | h
    · exact iha _ h
    · exact ihb _ h
  | unit => simp [CT.enc] at h
  | _ => simp only [CT.enc, List.mem_singleton] at h; subst h; rfl

/-- A list told place by place. -/
def vecL {α : Type} (n : Nat) (g : Nat → α) : List α := (List.range n).map g
def allB (n : Nat) (f : Nat → Bool) : Bool := (List.range n).all f
@[simp] theorem allB_true (n : Nat) : allB n (fun _ => true) = true := by simp [allB]
@[simp] theorem vecL_self {α : Type} (l : List α) (d : α) : vecL l.length (fun j => l.getD j d) = l := by
  apply List.ext_getElem (by simp [vecL])
  intro i h1 h2
  simp [vecL, h2]
@[simp] theorem vecL_length {α : Type} (n : Nat) (g : Nat → α) : (vecL n g).length = n := by simp [vecL]
theorem vecL_getD {α : Type} (n : Nat) (g : Nat → α) (d : α) (j : Nat) (h : j < n) : (vecL n g).getD j d = g j := by
  simp [vecL, List.getD_eq_getElem?_getD, h]

/-- A typed value at the head of cells. -/
def CT.dec : (c : CT) → List AV → Option (c.D × List AV)
  | .int k, l => match l with
    | .val (.int j x) :: r => if j = k then some (x, r) else none
    | _ => none
  | .bool, l => match l with
    | .val (.bool x) :: r => some (x, r)
    | _ => none
  | .str, l => match l with
    | .val (.string x) :: r => some (x, r)
    | _ => none
  | .unit, l => some ((), l)
  | .vec c, l => match l with
    | .vt c' k :: r => match CT.same c' c with
      | some h => some (h.down ▸ k, r)
      | none => none
    | .val (.slice none 0 0) :: r => some ([], r)
    | .vec n sz g :: r => bif sz == c.sz && allB n (fun j => match CT.dec c (g j) with
        | some (_, []) => true
        | _ => false) then some (vecL n fun j => match CT.dec c (g j) with
          | some (x, []) => x
          | _ => c.df, r) else none
    | _ => none
  | .pair a b, l => match CT.dec a l with
    | some (x, r) => match CT.dec b r with
      | some (y, q) => some ((x, y), q)
      | none => none
    | none => none

theorem cells_tail {C : Cx} {m : Bool} {v u : AV} {r : List AV} {vs : List Value} (hc : Cells C m (v :: r) vs) (h : ∀ c, VRel C m v c → VRel C m u c) : Cells C m (u :: r) vs := by
  refine ⟨by have := hc.1; simpa using this, fun j => ?_⟩
  cases j with
  | zero => exact h _ (hc.2 0)
  | succ j => exact hc.2 (j + 1)

theorem CT.dec_ok (c : CT) : ∀ {l r : List AV} {x : c.D}, c.dec l = some (x, r) → ∀ {C : Cx} {m : Bool} {vs : List Value}, Cells C m l vs → Cells C m (c.enc x ++ r) vs := by
  induction c with
  | int k =>
    intro l r x h C m vs hc
    unfold CT.dec at h
    split at h
    · split at h
      · rename_i e
        simp only [Option.some.injEq, Prod.mk.injEq] at h
        obtain ⟨h1, h2⟩ := h
        subst h1; subst h2; subst e; exact hc
      · cases h
    · cases h
  | bool =>
    intro l r x h C m vs hc
    unfold CT.dec at h
    split at h
    · simp only [Option.some.injEq, Prod.mk.injEq] at h
      obtain ⟨h1, h2⟩ := h
      subst h1; subst h2; exact hc
    · cases h
  | str =>
    intro l r x h C m vs hc
    unfold CT.dec at h
    split at h
    · simp only [Option.some.injEq, Prod.mk.injEq] at h
      obtain ⟨h1, h2⟩ := h
      subst h1; subst h2; exact hc
    · cases h
  | unit =>
    intro l r x h C m vs hc
    simp only [CT.dec, Option.some.injEq, Prod.mk.injEq] at h
    rw [← h.2]; exact hc
  | vec c ih =>
    intro l r x h C m vs hc
    unfold CT.dec at h
    split at h
    · rename_i c' k r'
      split at h
      · rename_i hs _
        obtain ⟨e⟩ := hs
        subst e
        simp only [Option.some.injEq, Prod.mk.injEq] at h
        obtain ⟨h1, h2⟩ := h
        subst h1; subst h2; exact hc
      · cases h
    · simp only [Option.some.injEq, Prod.mk.injEq] at h
      obtain ⟨h1, h2⟩ := h
      subst h1; subst h2
      exact cells_tail hc (fun v hv => by rw [hv.inv_val]; exact .vt .vec0)
    · rename_i n sz g r'
      · cases hb : (sz == c.sz && allB n (fun j => match CT.dec c (g j) with
          | some (_, []) => true
          | _ => false)) with
        | false => rw [hb] at h; cases h
        | true =>
          rw [hb, cond_true, Option.some.injEq, Prod.mk.injEq] at h
          simp only [Bool.and_eq_true, beq_iff_eq] at hb
          obtain ⟨hsz, hall⟩ := hb
          subst hsz
          obtain ⟨h1, h2⟩ := h
          subst h2
          refine cells_tail hc (fun v hv => .vt ?_)
          have hd : ∀ j, j < n → ∃ y, CT.dec c (g j) = some (y, []) ∧ x.getD j c.df = y := fun j hj => by
            have h3 := List.all_eq_true.1 hall j (by simpa using hj)
            rw [← h1, vecL_getD _ _ _ _ hj]
            split at h3
            · rename_i y hy; exact ⟨y, hy, rfl⟩
            · cases h3
          have hlen : x.length = n := by rw [← h1]; simp
          rw [hlen]
          cases hv with
          | vec0 => exact .vec0
          | vec f hB hn hcap hmax hl hcl hr =>
            have key : ∀ j, j < n → Cells C false (c.enc (x.getD j c.df)) (f j) := fun j hj => by
              obtain ⟨y, hy, e⟩ := hd j hj
              have := ih hy (C := C) (m := false) (vs := f j) ⟨by rw [(hl j hj).1, (hl j hj).2], hr j hj⟩
              rw [e]; simpa using this
            exact .vec f hB hn hcap hmax (fun j hj => ⟨(hl j hj).1, CT.enc_len _ _⟩) (fun j hj i hi => hcl j hj i hi) (fun j hj => (key j hj).2)
    · cases h
  | pair a b iha ihb =>
    intro l r x h C m vs hc
    unfold CT.dec at h
    split at h
    · rename_i xa ra ha
      split at h
      · rename_i yb qb hb
        simp only [Option.some.injEq, Prod.mk.injEq] at h
        obtain ⟨h1, h2⟩ := h
        subst h1; subst h2
        have h3 := iha ha hc
        have h4 : Cells C m ra (vs.drop a.sz) := by
          have := h3.drop a.sz
          rwa [List.drop_append_of_le_length (by rw [CT.enc_len]; exact Nat.le_refl _), List.drop_of_length_le (by rw [CT.enc_len]; exact Nat.le_refl _), List.nil_append] at this
        have h5 := ihb hb h4
        have h6 : Cells C m (a.enc xa) (vs.take a.sz) := by
          have := h3.take a.sz
          rwa [List.take_append_of_le_length (by rw [CT.enc_len]; exact Nat.le_refl _), List.take_of_length_le (by rw [CT.enc_len]; exact Nat.le_refl _)] at this
        have h7 := h6.append h5
        rw [List.take_append_drop] at h7
        simp only [CT.enc, List.append_assoc]
        exact h7
      · cases h
    · cases h

/-- A typed value that is just these cells. -/
def CT.decA (c : CT) (l : List AV) : Option c.D := match c.dec l with
  | some (x, []) => some x
  | _ => none

theorem CT.decA_ok {c : CT} {l : List AV} {x : c.D} (h : c.decA l = some x) {C : Cx} {m : Bool} {vs : List Value} (hc : Cells C m l vs) : Cells C m (c.enc x) vs := by
  unfold CT.decA at h
  split at h
  · rename_i y hy
    simp only [Option.some.injEq] at h; subst h
    simpa using CT.dec_ok c hy hc
  · cases h

/-- So many typed values, one behind the other. -/
def CT.decN (c : CT) : Nat → List AV → Option (List c.D)
  | 0, _ => some []
  | n + 1, l => match c.dec l with
    | some (x, r) => match CT.decN c n r with
      | some k => some (x :: k)
      | none => none
    | none => none

theorem CT.decN_ok {c : CT} : ∀ {n : Nat} {l : List AV} {k : List c.D}, c.decN n l = some k → k.length = n ∧ ∀ {C : Cx} {m : Bool} {vs : List Value}, Cells C m l vs → ∀ j, j < n → ∀ i, i < c.sz → VRel C m (gt (c.enc (k.getD j c.df)) i) (vg vs (j * c.sz + i)) := by
  intro n
  induction n with
  | zero => intro l k h; simp only [CT.decN, Option.some.injEq] at h; subst h; exact ⟨rfl, fun _ j hj => by omega⟩
  | succ n ih =>
    intro l k h
    unfold CT.decN at h
    split at h
    · rename_i x r hx
      split at h
      · rename_i k' hk
        simp only [Option.some.injEq] at h; subst h
        obtain ⟨h1, h2⟩ := ih hk
        refine ⟨by simp [h1], fun {C m vs} hc j hj i hi => ?_⟩
        have h3 := CT.dec_ok c hx hc
        cases j with
        | zero =>
          have := h3.2 i
          rw [gt_append_left _ _ _ (by rw [CT.enc_len]; exact hi)] at this
          simpa using this
        | succ j =>
          have h4 : Cells C m r (vs.drop c.sz) := by
            have := h3.drop c.sz
            rwa [List.drop_append_of_le_length (by rw [CT.enc_len]; exact Nat.le_refl _), List.drop_of_length_le (by rw [CT.enc_len]; exact Nat.le_refl _), List.nil_append] at this
          have := h2 h4 j (by omega) i hi
          rw [vg_drop] at this
          rw [show (j + 1) * c.sz + i = c.sz + (j * c.sz + i) by rw [Nat.add_mul]; omega]
          simpa using this
      · cases h
    · cases h

/-- The kind of a type's values. -/
def ctOf (P : Program) : Nat → TypeId → Option CT
  | 0, _ => none
  | d + 1, t => match P.underlying t with
    | some (.int k) => some (.int k)
    | some .bool => some .bool
    | some .string => some .str
    | some (.slice e) => match ctOf P d e with
      | some c => some (.vec c)
      | none => none
    | some (.struct fs) => fs.toList.foldr (fun f r => match r, ctOf P d f.type with
        | some q, some c => some (.pair c q)
        | _, _ => none) (some .unit)
    | some (.array n e) => match ctOf P d e with
      | some c => some (Nat.rec .unit (fun _ q => .pair c q) n)
      | none => none
    | _ => none
end Go.Va
