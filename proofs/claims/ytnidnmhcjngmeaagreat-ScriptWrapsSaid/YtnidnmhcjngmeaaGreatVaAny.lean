/-
  A region that draws its order, in whatever order.
  Conditions: none.
-/
import Derived.Test.YtnidnmhcjngmeaaGreatVaDraw
set_option linter.unusedVariables false
set_option linter.unusedSimpArgs false
set_option autoImplicit false
namespace Go.Va

theorem st_self {l : List AV} {n : Nat} (h : n < l.length) : Va.st l n (gt l n) = l := by
  rw [st_eq, gt_eq]
  apply List.ext_getElem?
  intro j
  rw [List.getElem?_set]
  split
  · rename_i e; subst e; simp [h]
  · rfl

theorem guardK_is {β : Type} {ops : List Oper} {o : Oper} {s : St} {K : Bool → St → Option β} {r : β} (h : guardK ops o s K = some r) : ∃ w, K w s = some r ∧ GuardIs ops o s.tm w := by
  unfold guardK at h
  split at h
  · rename_i hg
    exact ⟨true, h, by simp [GuardIs, hg]⟩
  · rename_i j want hg
    split at h
    · rename_i d hd
      split at h
      · rename_i b hb
        have hlt : d < s.tm.length := by
          rcases Nat.lt_or_ge d s.tm.length with h' | h'
          · exact h'
          · rw [gt_len h'] at hb; cases hb
        have hs : Va.st s.tm d (.val (.bool b)) = s.tm := by rw [← hb]; exact st_self hlt
        cases b with
        | true =>
          rw [cond_true, hs] at h
          exact ⟨_, h, by simp only [GuardIs, hg]; exact ⟨d, hd, .inl ⟨true, hb, by cases want <;> rfl⟩⟩⟩
        | false =>
          rw [cond_false, hs] at h
          exact ⟨_, h, by simp only [GuardIs, hg]; exact ⟨d, hd, .inl ⟨false, hb, by cases want <;> rfl⟩⟩⟩
      · rename_i l hl
        exact ⟨_, h, by unfold GuardIs; rw [hg]; exact ⟨d, hd, .inr ⟨⟨l, hl⟩, rfl⟩⟩⟩
      · cases h
    · cases h

theorem GuardIs.wanted {ops : Array Oper} {o : Oper} {tm : List AV} {w : Bool} (h : GuardIs ops.toList o tm w) {w0 : World} {O : Env} {C : Cx} {hp : List Blk} {a : Act} (hr : Rep w0 O C ⟨tm, hp⟩ a) :
    Region.wanted o (yielded ops a.tmps) = w := by
  unfold GuardIs at h
  split at h
  · rename_i hg; subst h; simp [Region.wanted, hg]
  · rename_i g hg
    obtain ⟨d, hd, h⟩ := h
    have h1 := hr.tm d
    rcases h with ⟨b, hb, rfl⟩ | ⟨⟨l, hl⟩, rfl⟩
    case inr => rw [hl] at h1; simp [Region.wanted, hg, yielded_tup hd h1]
    rw [hb] at h1
    have h2 := h1.inv_val
    have hlt : d < a.tmps.size := by
      rcases Nat.lt_or_ge d a.tmps.size with h' | h'
      · exact h'
      · rw [Array.getD_eq_getD_getElem?, Array.getElem?_eq_none h'] at h2; cases h2
    have hy : yielded ops a.tmps g.1 = some b := by
      unfold dstOf at hd
      split at hd
      · rename_i o' ho'
        have ho2 : ops[g.1]? = some o' := by rw [← Array.getElem?_toList]; exact ho'
        unfold yielded
        simp only [ho2, Option.bind_some, hd]
        rw [Array.getElem?_eq_getElem hlt]
        have : a.tmps[d] = .bool b := by simpa [Array.getD_eq_getD_getElem?, hlt] using h2
        rw [this]
      · cases hd
    simp [Region.wanted, hg, hy]

theorem GuardIs.sees {ops : List Oper} {o : Oper} {tm tm' : List AV} {w : Bool} (h : GuardIs ops o tm w) (hs : ∀ x ∈ looksA ops o, gt tm' x = gt tm x) : GuardIs ops o tm' w := by
  unfold GuardIs at *
  split at h
  · exact h
  · rename_i g hg
    obtain ⟨d, hd, h⟩ := h
    exact ⟨d, hd, by rw [hs d (by simp [looksA, hg, hd])]; exact h⟩

theorem evA_sees {ops : List Oper} {o : Oper} {tm tm' : List AV} (hs : ∀ x ∈ looksA ops o, gt tm' x = gt tm x) : ∀ x ∈ o.op.operands, evA tm' x = evA tm x := by
  intro x hx
  cases x with
  | tmp t => exact congrArg unpp (hs t (by simp only [looksA, List.mem_append, List.mem_filterMap]; exact .inl ⟨.tmp t, by simpa using hx, rfl⟩))
  | _ => rfl

/-- What panicked, and what stands behind it. -/
structure Pan where
  o : Oper
  v : AV
  foot : List Nat
  rest : List Oper

def drawK (P : Program) (G : Gam) (ops : List Oper) {β : Type} : List Oper → Nat → St → (List Ent → St → Option β) → (List Ent → Pan → Option β) → Option β
  | [], _, s, K, _ => K [] s
  | o :: l, p, s, K, KP => guardK ops o s fun w s => bif w then stepK P G o p s.tm s.hp (fun q => match q with
      | .ok q => drawK P G ops l (p + makes o.op) (q.st o.dst s) (fun es t => K ((o, some q) :: es) t) (fun es x => KP ((o, some q) :: es) x)
      | .pan v ft => KP [] ⟨o, v, ft, l⟩)
    else drawK P G ops l (p + makes o.op) ⟨putA s.tm o.dst (.tup []), s.hp⟩ (fun es t => K ((o, none) :: es) t) (fun es x => KP ((o, none) :: es) x)

theorem drawK_ok {P : Program} {G : Gam} (hG : GamOk P G) {ops : List Oper} {β : Type} (l : List Oper) : ∀ {p : Nat} {s : St} {K : List Ent → St → Option β} {KP : List Ent → Pan → Option β} {r : β}, drawK P G ops l p s K KP = some r →
    (∃ es, K es (allE es s) = some r ∧ es.map (·.1) = l ∧ ∀ i e, es[i]? = some e → EntOk P ops e (allE (es.take i) s)) ∨
    ∃ es x, KP es x = some r ∧ es.map (·.1) ++ x.o :: x.rest = l ∧ (∀ i e, es[i]? = some e → EntOk P ops e (allE (es.take i) s)) ∧
      PanOk P x.o (allE es s).tm (allE es s).hp x.v x.foot ∧ GuardIs ops x.o (allE es s).tm true := by
  induction l with
  | nil => intro p s K KP r h; exact .inl ⟨[], h, rfl, fun i e h => by simp at h⟩
  | cons o l ih =>
    intro p s K KP r h
    simp only [drawK] at h
    obtain ⟨w, h1, hg⟩ := guardK_is h
    cases w with
    | true =>
      rw [cond_true] at h1
      obtain ⟨q, hq, hok⟩ := stepK_ok hG h1
      cases q with
      | ok q =>
        have grow : ∀ {es : List Ent}, (∀ i e, es[i]? = some e → EntOk P ops e (allE (es.take i) (q.st o.dst s))) → ∀ i e, ((o, some q) :: es)[i]? = some e → EntOk P ops e (allE (((o, some q) :: es).take i) s) := by
          intro es h4 i e he
          cases i with
          | zero => simp only [List.getElem?_cons_zero, Option.some.injEq] at he; subst he; exact ⟨hok, hg⟩
          | succ i => exact h4 i e (by simpa using he)
        rcases ih hq with ⟨es, h2, h3, h4⟩ | ⟨es, x, h2, h3, h4, h5⟩
        · exact .inl ⟨(o, some q) :: es, h2, by simp [h3], grow h4⟩
        · exact .inr ⟨(o, some q) :: es, x, h2, by simp [h3], grow h4, h5⟩
      | pan v ft => exact .inr ⟨[], ⟨o, v, ft, l⟩, hq, rfl, fun i e h => by simp at h, hok, hg⟩
    | false =>
      rw [cond_false] at h1
      have grow : ∀ {es : List Ent}, (∀ i e, es[i]? = some e → EntOk P ops e (allE (es.take i) ⟨putA s.tm o.dst (.tup []), s.hp⟩)) → ∀ i e, ((o, none) :: es)[i]? = some e → EntOk P ops e (allE (((o, none) :: es).take i) s) := by
        intro es h4 i e he
        cases i with
        | zero => simp only [List.getElem?_cons_zero, Option.some.injEq] at he; subst he; exact hg
        | succ i => exact h4 i e (by simpa using he)
      rcases ih h1 with ⟨es, h2, h3, h4⟩ | ⟨es, x, h2, h3, h4, h5⟩
      · exact .inl ⟨(o, none) :: es, h2, by simp [h3], grow h4⟩
      · exact .inr ⟨(o, none) :: es, x, h2, by simp [h3], grow h4, h5⟩

/-! ### Behind a panic: what the region wrote is not known -/
def maskT (D : List Nat) : Nat → List AV → List AV
  | _, [] => []
  | i, v :: l => (bif D.contains i then .junk else v) :: maskT D (i + 1) l

def maskH (D : List Nat) : Nat → List Blk → List Blk
  | _, [] => []
  | i, v :: l => (bif D.contains i then .gone else v) :: maskH D (i + 1) l

theorem maskT_length (D : List Nat) (l : List AV) (i : Nat) : (maskT D i l).length = l.length := by
  induction l generalizing i with
  | nil => rfl
  | cons v l ih => simp only [maskT, List.length_cons, ih]
theorem maskH_length (D : List Nat) (l : List Blk) (i : Nat) : (maskH D i l).length = l.length := by
  induction l generalizing i with
  | nil => rfl
  | cons v l ih => simp only [maskH, List.length_cons, ih]
theorem gt_maskT (D : List Nat) (l : List AV) (i j : Nat) : gt (maskT D i l) j = if D.contains (i + j) then .junk else gt l j := by
  induction l generalizing i j with
  | nil => simp only [maskT]; show AV.junk = _; split <;> rfl
  | cons v l ih => cases j with
    | zero => simp only [maskT, gt, Nat.add_zero]; cases D.contains i <;> rfl
    | succ j => simp only [maskT, gt]; rw [ih, show i + 1 + j = i + (j + 1) by omega]
theorem gb_maskH (D : List Nat) (l : List Blk) (i j : Nat) : gb (maskH D i l) j = if D.contains (i + j) then .gone else gb l j := by
  induction l generalizing i j with
  | nil => simp only [maskH]; show Blk.gone = _; split <;> rfl
  | cons v l ih => cases j with
    | zero => simp only [maskH, gb, Nat.add_zero]; cases D.contains i <;> rfl
    | succ j => simp only [maskH, gb]; rw [ih, show i + 1 + j = i + (j + 1) by omega]
theorem maskT_st (D : List Nat) (l : List AV) (i n : Nat) (u : AV) (h : D.contains (i + n) = true) : maskT D i (Va.st l n u) = maskT D i l := by
  induction l generalizing i n with
  | nil => rfl
  | cons v l ih => cases n with
    | zero => simp only [Nat.add_zero] at h; simp only [Va.st, maskT, h, cond_true]
    | succ n => simp only [Va.st, maskT]; rw [ih (i + 1) n (by rw [show i + 1 + n = i + (n + 1) by omega]; exact h)]
theorem maskH_sb (D : List Nat) (l : List Blk) (i n : Nat) (u : Blk) (h : D.contains (i + n) = true) : maskH D i (sb l n u) = maskH D i l := by
  induction l generalizing i n with
  | nil => rfl
  | cons v l ih => cases n with
    | zero => simp only [Nat.add_zero] at h; simp only [sb, maskH, h, cond_true]
    | succ n => simp only [sb, maskH]; rw [ih (i + 1) n (by rw [show i + 1 + n = i + (n + 1) by omega]; exact h)]
theorem maskH_upds (D : List Nat) (us : List (Nat × Blk)) : ∀ (l : List Blk), (∀ b ∈ us.map (·.1), D.contains b = true) → maskH D 0 (upds l us) = maskH D 0 l := by
  induction us with
  | nil => intro l _; rfl
  | cons x us ih =>
    intro l h
    simp only [upds]
    rw [ih _ (fun b hb => h b (by simp at hb ⊢; exact .inr hb)), maskH_sb _ _ _ _ _ (by rw [Nat.zero_add]; exact h x.1 (by simp))]

def masked (D H : List Nat) (s : St) : St := ⟨maskT D 0 s.tm, maskH H 0 s.hp⟩

def dstsE : List Ent → List Nat
  | [] => []
  | e :: l => e.1.dst.toList ++ dstsE l
def keysE : List Ent → List Nat
  | [] => []
  | e :: l => e.keys ++ keysE l

theorem masked_app {D H : List Nat} {e : Ent} (hk : e.noKill = true) (hd : ∀ x ∈ e.1.dst.toList, D.contains x = true) (hu : ∀ b ∈ e.keys, H.contains b = true) (s : St) : masked D H (e.app s) = masked D H s := by
  obtain ⟨o, q⟩ := e
  have put : ∀ (l : List AV) (v : AV), maskT D 0 (putA l o.dst v) = maskT D 0 l := by
    intro l v
    cases ho : o.dst with
    | none => rfl
    | some d => exact maskT_st _ _ _ _ _ (by rw [Nat.zero_add]; exact hd d (by simp [ho]))
  cases q with
  | none => simp only [Ent.app, masked, put]
  | some q =>
    simp only [Ent.noKill, Option.isNone_iff_eq_none] at hk
    simp only [Ent.app, ORes.st, masked, put, hk, killT, killH]
    rw [maskH_upds _ _ _ (fun b hb => hu b (by simpa [Ent.keys] using hb))]

theorem masked_some {D H : List Nat} (S : Nat → Bool) (es : List Ent) : ∀ (i : Nat) (s : St), (∀ e ∈ es, e.noKill = true) → (∀ x ∈ dstsE es, D.contains x = true) → (∀ b ∈ keysE es, H.contains b = true) →
    masked D H (someE S es i s) = masked D H s := by
  induction es with
  | nil => intro i s _ _ _; rfl
  | cons e es ih =>
    intro i s hk hd hu
    simp only [someE]
    rw [ih (i + 1) _ (fun f hf => hk f (List.mem_cons_of_mem _ hf)) (fun x hx => hd x (List.mem_append.2 (.inr hx))) (fun b hb => hu b (List.mem_append.2 (.inr hb)))]
    cases S i with
    | false => rfl
    | true => exact masked_app (hk e (by simp)) (fun x hx => hd x (List.mem_append.2 (.inl hx))) (fun b hb => hu b (List.mem_append.2 (.inl hb))) s

theorem Rep.masked {w0 : World} {O : Env} {C : Cx} {s : St} {a : Act} (hr : Rep w0 O C s a) (D H : List Nat) : Rep w0 O C (Va.masked D H s) a := by
  have h1 := hr.sub (hp' := maskH H 0 s.hp) (maskH_length _ _ _) (fun b => by
    rw [gb_maskH]; split
    · exact .inr rfl
    · exact .inl rfl)
  refine ⟨h1.defers, by show _ = (maskT D 0 s.tm).length; rw [maskT_length]; exact hr.size, fun t => ?_, h1.hp, h1.kept, h1.mine⟩
  show VRel C true (gt (maskT D 0 s.tm) t) _
  rw [gt_maskT]
  split
  · exact .junk _
  · exact hr.tm t

/-- Nothing that stands behind the panic in the text may come up ahead of it. -/
def laterOk (an : List (List Nat)) (i : Nat) : Nat → Bool
  | 0 => true
  | n + 1 => (an.getD (i + 1 + n) []).contains i && laterOk an i n

theorem laterOk_spec {an : List (List Nat)} {i n : Nat} (h : laterOk an i n = true) {j : Nat} (h1 : i < j) (h2 : j < i + 1 + n) : i ∈ an.getD j [] := by
  induction n with
  | zero => omega
  | succ n ih =>
    simp only [laterOk, Bool.and_eq_true] at h
    by_cases e : j = i + 1 + n
    · subst e; simpa using h.1
    · exact ih h.2 (by omega)

def panK {β : Type} (ops : List Oper) (s0 : St) (K : AEx → St → Option β) (es : List Ent) (x : Pan) : Option β :=
  bif (edgesOk ops 0 && pairsOk ops (ancs ops []) (es ++ [(x.o, some ⟨.junk, x.foot, [], none⟩)]) 0) && (es.all Ent.noKill && laterOk (ancs ops []) es.length x.rest.length) then K (.panic x.v) (masked (dstsE es) (keysE es) s0) else none

/-! ### The edges -/
def Closed (ops : List Oper) (S : Nat → Bool) : Prop := ∀ i o, ops[i]? = some o → S i = true → ∀ e ∈ o.after, Region.binds .any e = true → S e.on = true

theorem ancs_spec (S : Nat → Bool) (l : List Oper) : ∀ (acc : List (List Nat)) , (∀ i o, l[i]? = some o → S (acc.length + i) = true → ∀ e ∈ o.after, Region.binds .any e = true → S e.on = true) →
    (∀ i, i < acc.length → S i = true → ∀ k ∈ acc.getD i [], S k = true) → ∀ i, S i = true → ∀ k ∈ (ancs l acc).getD i [], S k = true := by
  induction l with
  | nil => intro acc _ h i hi k hk
           by_cases hlt : i < acc.length
           · exact h i hlt hi k hk
           · simp [ancs, List.getElem?_eq_none (Nat.le_of_not_lt hlt)] at hk
  | cons o l ih =>
    intro acc hc h
    refine ih _ (fun i o' ho' hS => hc (i + 1) o' (by simpa using ho') (by rw [← hS]; simp; congr 1; omega)) (fun i hi hS k hk => ?_)
    simp only [List.length_append, List.length_cons, List.length_nil] at hi
    by_cases hlt : i < acc.length
    · rw [List.getD_eq_getElem?_getD, List.getElem?_append_left hlt, ← List.getD_eq_getElem?_getD] at hk
      exact h i hlt hS k hk
    · have hi' : i = acc.length := by omega
      subst hi'
      rw [List.getD_eq_getElem?_getD, List.getElem?_append_right (Nat.le_refl _), Nat.sub_self, List.getElem?_cons_zero, Option.getD_some, List.mem_flatMap] at hk
      obtain ⟨e, he, hk⟩ := hk
      have he' : e ∈ o.after := by simpa using he
      cases hb : Region.binds .any e with
      | false => rw [hb] at hk; simp at hk
      | true =>
        rw [hb, cond_true, List.mem_cons] at hk
        have hon := hc 0 o rfl (by simpa using hS) e he' hb
        rcases hk with rfl | hk
        · exact hon
        · by_cases hlt2 : e.on < acc.length
          · exact h e.on hlt2 hon k hk
          · simp [List.getElem?_eq_none (Nat.le_of_not_lt hlt2)] at hk

/-- Whatever stands ahead of an operation that may come up has come up. -/
theorem ancs_closed {ops : List Oper} {S : Nat → Bool} (hc : Closed ops S) {i : Nat} {o : Oper} (ho : ops[i]? = some o) (hr : S i = true ∨ ∀ e ∈ o.after, Region.binds .any e = true → S e.on = true) :
    ∀ k ∈ (ancs ops []).getD i [], S k = true ∨ k = i := by
  intro k hk
  have hc' : Closed ops (put S i) := by
    intro j p hp hj e he hb
    by_cases hji : j = i
    · subst hji
      rw [ho] at hp
      cases hp
      rcases hr with hr | hr
      · simp only [put, Bool.or_eq_true]; exact .inr (hc j o ho hr e he hb)
      · simp only [put, Bool.or_eq_true]; exact .inr (hr e he hb)
    · have : S j = true := by simpa [put, hji] using hj
      simp only [put, Bool.or_eq_true]; exact .inr (hc j p hp this e he hb)
  have := ancs_spec (put S i) ops [] (fun j p hp hj => hc' j p hp (by simpa using hj)) (fun j hj => by simp at hj) i (by simp [put]) k hk
  simp only [put, Bool.or_eq_true, beq_iff_eq] at this
  exact this.symm

theorem pairs_spec {ops : List Oper} {an : List (List Nat)} (es : List Ent) : ∀ (i : Nat), pairsOk ops an es i = true → ∀ j k e f, j < k → es[j]? = some e → es[k]? = some f →
    i + j ∈ an.getD (i + k) [] ∨ apartE ops e f = true := by
  induction es with
  | nil => intro i _ j k e f _ he; simp at he
  | cons x es ih =>
    intro i h j k e f hjk he hf
    simp only [pairsOk, Bool.and_eq_true] at h
    obtain ⟨h1, h2⟩ := h
    obtain ⟨k, rfl⟩ : ∃ m, k = m + 1 := ⟨k - 1, by omega⟩
    cases j with
    | zero =>
      simp only [List.getElem?_cons_zero, Option.some.injEq] at he
      subst he
      have hf' : es[k]? = some f := by simpa using hf
      have hm : (f, i + 1 + k) ∈ es.zipIdx (i + 1) := by
        rw [List.mem_iff_getElem?]
        exact ⟨k, by rw [List.getElem?_zipIdx, hf']; rfl⟩
      have := List.all_eq_true.1 h1 _ hm
      simp only [Bool.or_eq_true] at this
      rcases this with h | h
      · left; rw [show i + 0 = i from rfl, show i + (k + 1) = i + 1 + k by omega]; simpa using h
      · exact .inr h
    | succ j =>
      have := ih (i + 1) h2 j k e f (by omega) (by simpa using he) (by simpa using hf)
      rw [show i + (j + 1) = i + 1 + j by omega, show i + (k + 1) = i + 1 + k by omega]; exact this

theorem edges_spec (l : List Oper) : ∀ (i : Nat), edgesOk l i = true → ∀ j o, l[j]? = some o → ∀ e ∈ o.after, Region.binds .any e = true → e.on < i + j := by
  induction l with
  | nil => intro i _ j o ho; simp at ho
  | cons x l ih =>
    intro i h j o ho e he hb
    simp only [edgesOk, Bool.and_eq_true] at h
    cases j with
    | zero =>
      simp only [List.getElem?_cons_zero, Option.some.injEq] at ho
      subst ho
      have := List.all_eq_true.1 h.1 e (by simpa using he)
      simp only [hb, Bool.not_true, Bool.false_or, decide_eq_true_eq] at this
      omega
    | succ j => have := ih (i + 1) h.2 j o (by simpa using ho) e he hb; omega

/-! ### In whatever order -/
def sOf (listed : Array Bool) : Nat → Bool := fun k => listed.getD k false

theorem sOf_set (listed : Array Bool) (i : Nat) (h : i < listed.size) : sOf (listed.setIfInBounds i true) = put (sOf listed) i := by
  funext k
  simp only [sOf, put]
  by_cases hk : k = i
  · subst hk; simp [h]
  · have hne : i ≠ k := fun e => hk e.symm
    have hb : (k == i) = false := by simpa using hk
    simp [Array.getElem?_setIfInBounds_ne hne, hb]

def unl (n : Nat) (listed : Array Bool) : Nat := (List.range n).countP fun i => !listed.getD i true

theorem unl_set {n : Nat} {listed : Array Bool} {i : Nat} (hi : i < n) (hs : listed.size = n) (h : listed.getD i true = false) : unl n (listed.setIfInBounds i true) + 1 = unl n listed := by
  unfold unl
  have key : ∀ m, (i < m → m ≤ n → (List.range m).countP (fun k => !(listed.setIfInBounds i true).getD k true) + 1 = (List.range m).countP (fun k => !listed.getD k true)) ∧
      (m ≤ i → (List.range m).countP (fun k => !(listed.setIfInBounds i true).getD k true) = (List.range m).countP (fun k => !listed.getD k true)) := by
    intro m
    induction m with
    | zero => exact ⟨fun h => by omega, fun _ => rfl⟩
    | succ m ih =>
      refine ⟨fun h1 h2 => ?_, fun h1 => ?_⟩
      · rw [List.range_succ, List.countP_append, List.countP_append]
        by_cases hm : m = i
        · subst hm
          rw [ih.2 (Nat.le_refl _)]
          have e1 : (listed.setIfInBounds m true).getD m true = true := by simp [show m < listed.size by omega]
          simp only [List.countP_cons, List.countP_nil, e1, h]; simp
        · have e1 : (listed.setIfInBounds i true).getD m true = listed.getD m true := getD_set_ne true (fun e => hm e.symm)
          have := ih.1 (by omega) (by omega)
          simp only [List.countP_cons, List.countP_nil, e1]; omega
      · rw [List.range_succ, List.countP_append, List.countP_append, ih.2 (by omega)]
        have e1 : (listed.setIfInBounds i true).getD m true = listed.getD m true := getD_set_ne true (by omega)
        simp only [List.countP_cons, List.countP_nil, e1]
  exact (key n).1 hi (Nat.le_refl _)

theorem draw_any {P : Program} {ops : Array Oper} {es : List Ent} {s0 : St} (hm : es.map (·.1) = ops.toList) (hes : ∀ i e, es[i]? = some e → EntOk P ops.toList e (allE (es.take i) s0))
    (hpairs : pairsOk ops.toList (ancs ops.toList []) es 0 = true) (hedges : edgesOk ops.toList 0 = true) {w0 : World} {O : Env} {Q : Exit → Act → World → Prop}
    (hQ : ∀ C a, Rep w0 O C (allE es s0) a → Q .normal a C.w) :
    ∀ (fuel : Nat) (listed : Array Bool) (C : Cx) (a : Act), listed.size = ops.size → Closed ops.toList (sOf listed) → unl ops.size listed ≤ fuel → Rep w0 O C (someE (sOf listed) es 0 s0) a →
      wpAny P .any ops Q fuel listed a C.w := by
  have hlen : es.length = ops.size := by have := congrArg List.length hm; simpa using this
  have opOf : ∀ (i : Nat) (e : Ent), es[i]? = some e → ops[i]? = some e.1 := fun i e he => by
    have : (es.map (·.1))[i]? = some e.1 := by simp [he]
    rw [hm] at this; simpa using this
  -- all have come up
  have done : ∀ (listed : Array Bool), listed.size = ops.size → Region.ready .any ops listed = [] → ∀ i, i < ops.size → sOf listed i = true := by
    intro listed hs hr i
    induction i using Nat.strongRecOn with
    | _ i ih =>
      intro hi
      cases hS : sOf listed i with
      | true => rfl
      | false =>
        exfalso
        obtain ⟨o, ho⟩ : ∃ o, ops[i]? = some o := ⟨_, Array.getElem?_eq_getElem hi⟩
        have : i ∈ Region.ready .any ops listed := mem_ready.2 ⟨by
          have hl : i < listed.size := by omega
          have := hS
          simp only [sOf, Array.getD_eq_getD_getElem?, Array.getElem?_eq_getElem hl, Option.getD_some] at this ⊢
          exact this, o, ho, fun e he hb => by
            have hlt := edges_spec ops.toList 0 hedges i o (by simpa using ho) e he hb
            exact ih e.on (by omega) (by omega)⟩
        rw [hr] at this; cases this
  have fin : ∀ (listed : Array Bool) (C : Cx) (a : Act), listed.size = ops.size → Region.ready .any ops listed = [] → Rep w0 O C (someE (sOf listed) es 0 s0) a → Q .normal a C.w := by
    intro listed C a hs hr hrep
    rw [someE_all es _ 0 s0 (fun k hk => by rw [Nat.zero_add]; exact done listed hs hr k (by omega))] at hrep
    exact hQ C a hrep
  intro fuel
  induction fuel with
  | zero =>
    intro listed C a hs hc hu hrep
    have hr : Region.ready .any ops listed = [] := by
      cases hq : Region.ready .any ops listed with
      | nil => rfl
      | cons i l =>
        exfalso
        obtain ⟨h1, o, ho, _⟩ := mem_ready.1 (show i ∈ Region.ready .any ops listed by rw [hq]; simp)
        have hi : i < ops.size := (Array.getElem?_eq_some_iff.1 ho).1
        have := unl_set hi hs h1
        omega
    exact ⟨hr, fin listed C a hs hr hrep⟩
  | succ fuel ih =>
    intro listed C a hs hc hu hrep
    refine ⟨fun hr => fin listed C a hs hr hrep, fun i hi => ?_⟩
    obtain ⟨h1, o, ho, hready⟩ := mem_ready.1 hi
    have hilt : i < ops.size := (Array.getElem?_eq_some_iff.1 ho).1
    have hSi : sOf listed i = false := by
      have hl : i < listed.size := by omega
      simp only [sOf, Array.getD_eq_getD_getElem?, Array.getElem?_eq_getElem hl, Option.getD_some] at h1 ⊢
      exact h1
    obtain ⟨e, he⟩ : ∃ e, es[i]? = some e := ⟨_, List.getElem?_eq_getElem (by omega)⟩
    have heo : e.1 = o := by have := opOf i e he; rw [ho] at this; exact (Option.some.inj this).symm
    have hol : ops.toList[i]? = some o := by simpa using ho
    have hanc := ancs_closed hc hol (.inr hready)
    -- later ones that have come up
    have later : ∀ (k : Nat) (f : Ent), i < k → es[k]? = some f → sOf listed k = true → apartE ops.toList e f = true := by
      intro k f hk hf hSk
      have hp := pairs_spec es 0 hpairs i k e f hk he hf
      simp only [Nat.zero_add] at hp
      rcases hp with hp | hp
      · exfalso
        have hok : ops.toList[k]? = some f.1 := by simpa using opOf k f hf
        rcases ancs_closed hc hok (.inl hSk) i hp with h | h
        · rw [hSi] at h; cases h
        · omega
      · exact hp
    -- earlier ones that have not
    have earlier : ∀ (k : Nat) (f : Ent), k < i → es[k]? = some f → sOf listed k = false → apartE ops.toList f e = true := by
      intro k f hk hf hSk
      have hp := pairs_spec es 0 hpairs k i f e hk hf he
      simp only [Nat.zero_add] at hp
      rcases hp with hp | hp
      · exfalso
        rcases hanc k hp with h | h
        · rw [hSk] at h; cases h
        · omega
      · exact hp
    have hsees : Sees (looksA ops.toList e.1) e.foot (someE (sOf listed) es 0 s0) (allE (es.take i) s0) := by
      have := sees_some (sOf listed) (looksA ops.toList e.1) e.foot i es 0 s0 s0 (Sees.refl _ _ _) (fun k f hf hk => by
        simp only [Nat.zero_add] at hk
        rcases hk with ⟨hk, hSk⟩ | ⟨hk, hSk⟩
        · have ha := earlier k f hk hf hSk
          simp only [apartE, Bool.and_eq_true] at ha
          obtain ⟨⟨⟨hk1, hk2⟩, hd⟩, hd2, hw, hw2⟩ := ha
          refine ⟨hk1, fun x hx hdx => ?_, fun b hb hkb => ?_⟩
          · exact disj_spec hd (x := x) (by simp [hdx]) (List.mem_append.2 (.inl hx))
          · exact disj_spec hw hkb (List.mem_append.2 (.inl hb))
        · have hki : i < k := by
            rcases Nat.lt_or_ge i k with h | h
            · exact h
            · have : k = i := by omega
              subst this; rw [hSi] at hSk; cases hSk
          have ha := later k f hki hf hSk
          simp only [apartE, Bool.and_eq_true] at ha
          obtain ⟨⟨⟨hk1, hk2⟩, hd⟩, hd2, hw, hw2⟩ := ha
          refine ⟨hk2, fun x hx hdx => ?_, fun b hb hkb => ?_⟩
          · exact disj_spec hd2 (x := x) (by simp [hdx]) hx
          · exact disj_spec hw2 hkb hb)
      simpa using this
    have hput : someE (sOf (listed.setIfInBounds i true)) es 0 s0 = e.app (someE (sOf listed) es 0 s0) := by
      rw [sOf_set listed i (by omega)]
      exact someE_put (sOf listed) i es 0 s0 e (Nat.zero_le _) (by simpa using he) hSi (fun k f hk hf hSk s => app_comm (later k f hk (by simpa using hf) hSk) s)
    have hc' : Closed ops.toList (sOf (listed.setIfInBounds i true)) := by
      rw [sOf_set listed i (by omega)]
      intro j p hp hj x hx hb
      simp only [put, Bool.or_eq_true, beq_iff_eq] at hj ⊢
      rcases hj with rfl | hj
      · rw [hol] at hp; cases hp
        exact .inr (hready x hx hb)
      · exact .inr (hc j p hp hj x hx hb)
    have hu' : unl ops.size (listed.setIfInBounds i true) ≤ fuel := by have := unl_set hilt hs h1; omega
    have hs' : (listed.setIfInBounds i true).size = ops.size := by simpa using hs
    unfold wpOp
    simp only [ho]
    have hent := hes i e he
    subst heo
    unfold EntOk at hent
    split at hent
    · rename_i q hq
      obtain ⟨hok, hg⟩ := hent
      have hg' := hg.sees (tm' := (someE (sOf listed) es 0 s0).tm) (fun x hx => hsees.tm x hx)
      rw [hg'.wanted (hp := (someE (sOf listed) es 0 s0).hp) hrep, if_pos rfl]
      refine .inl (hok w0 O C _ _ a hrep ⟨evA_sees (fun x hx => hsees.tm x hx), fun b hb => hsees.hp b (by simp [Ent.foot, hq, hb]), hsees.hl⟩ _ _ (fun C' a' hr' => ?_))
      refine ih _ C' a' hs' hc' hu' ?_
      rw [hput]
      simpa [Ent.app, hq] using hr'
    · rename_i hq
      have hg' := hent.sees (tm' := (someE (sOf listed) es 0 s0).tm) (fun x hx => hsees.tm x hx)
      rw [hg'.wanted (hp := (someE (sOf listed) es 0 s0).hp) hrep, if_neg (by simp)]
      refine ih _ C _ hs' hc' hu' ?_
      rw [hput]
      have := hrep.put e.1.dst (v := .tup []) (c := undef) (VRel.tup [] rfl (fun j => .junk _))
      simpa [Ent.app, hq] using this

theorem draw_pan {P : Program} {ops : Array Oper} {es : List Ent} {x : Pan} {s0 : St} (hm : es.map (·.1) ++ x.o :: x.rest = ops.toList) (hes : ∀ i e, es[i]? = some e → EntOk P ops.toList e (allE (es.take i) s0))
    (hpan : PanOk P x.o (allE es s0).tm (allE es s0).hp x.v x.foot) (hgd : GuardIs ops.toList x.o (allE es s0).tm true)
    (hpairs : pairsOk ops.toList (ancs ops.toList []) (es ++ [(x.o, some ⟨.junk, x.foot, [], none⟩)]) 0 = true) (hedges : edgesOk ops.toList 0 = true) (hnk : es.all Ent.noKill = true)
    (hlater : laterOk (ancs ops.toList []) es.length x.rest.length = true) {w0 : World} {O : Env} {Q : Exit → Act → World → Prop}
    (hQ : ∀ C a c, Rep w0 O C (masked (dstsE es) (keysE es) s0) a → VRel C true x.v c → Q (.panic [{ v := c, recovered := false }]) a C.w) :
    ∀ (fuel : Nat) (listed : Array Bool) (C : Cx) (a : Act), listed.size = ops.size → Closed ops.toList (sOf listed) → sOf listed es.length = false → unl ops.size listed ≤ fuel → Rep w0 O C (someE (sOf listed) es 0 s0) a →
      wpAny P .any ops Q fuel listed a C.w := by
  have hlen : es.length + 1 + x.rest.length = ops.size := by have := congrArg List.length hm; simp at this; omega
  let ex : Ent := (x.o, some ⟨.junk, x.foot, [], none⟩)
  let fs := es ++ [ex]
  have fse : ∀ (i : Nat) (e : Ent), es[i]? = some e → fs[i]? = some e := fun i e he => by
    have hi := (List.getElem?_eq_some_iff.1 he).1
    show (es ++ [ex])[i]? = some e
    rw [List.getElem?_append_left hi]; exact he
  have fsx : fs[es.length]? = some ex := by show (es ++ [ex])[es.length]? = some ex; simp
  have opOf : ∀ (i : Nat) (e : Ent), es[i]? = some e → ops[i]? = some e.1 := fun i e he => by
    have hi := (List.getElem?_eq_some_iff.1 he).1
    have : ops.toList[i]? = some e.1 := by rw [← hm, List.getElem?_append_left (by simpa using hi)]; simp [he]
    simpa using this
  have opX : ops[es.length]? = some x.o := by
    have : ops.toList[es.length]? = some x.o := by rw [← hm, List.getElem?_append_right (by simp)]; simp
    simpa using this
  have done : ∀ (listed : Array Bool), listed.size = ops.size → Region.ready .any ops listed = [] → ∀ i, i < ops.size → sOf listed i = true := by
    intro listed hs hr i
    induction i using Nat.strongRecOn with
    | _ i ih =>
      intro hi
      cases hS : sOf listed i with
      | true => rfl
      | false =>
        exfalso
        obtain ⟨o, ho⟩ : ∃ o, ops[i]? = some o := ⟨_, Array.getElem?_eq_getElem hi⟩
        have : i ∈ Region.ready .any ops listed := mem_ready.2 ⟨by
          have hl : i < listed.size := by omega
          have := hS
          simp only [sOf, Array.getD_eq_getD_getElem?, Array.getElem?_eq_getElem hl, Option.getD_some] at this ⊢
          exact this, o, ho, fun e he hb => by
            have hlt := edges_spec ops.toList 0 hedges i o (by simpa using ho) e he hb
            exact ih e.on (by omega) (by omega)⟩
        rw [hr] at this; cases this
  have never : ∀ (listed : Array Bool), listed.size = ops.size → sOf listed es.length = false → Region.ready .any ops listed ≠ [] := fun listed hs hS hr => by
    have := done listed hs hr es.length (by omega)
    rw [hS] at this; cases this
  have unlD : ∀ (listed : Array Bool) (i : Nat), i < listed.size → sOf listed i = false → listed.getD i true = false := fun listed i hl hS => by
    have := hS
    simp only [sOf, Array.getD_eq_getD_getElem?, Array.getElem?_eq_getElem hl, Option.getD_some] at this ⊢
    exact this
  intro fuel
  induction fuel with
  | zero =>
    intro listed C a hs hc hx hu hrep
    exfalso
    have := unl_set (n := ops.size) (listed := listed) (i := es.length) (by omega) hs (unlD listed _ (by omega) hx)
    omega
  | succ fuel ih =>
    intro listed C a hs hc hx hu hrep
    refine ⟨fun hr => absurd hr (never listed hs hx), fun i hi => ?_⟩
    obtain ⟨h1, o, ho, hready⟩ := mem_ready.1 hi
    have hilt : i < ops.size := (Array.getElem?_eq_some_iff.1 ho).1
    have hSi : sOf listed i = false := by
      have hl : i < listed.size := by omega
      simp only [sOf, Array.getD_eq_getD_getElem?, Array.getElem?_eq_getElem hl, Option.getD_some] at h1 ⊢
      exact h1
    have hol : ops.toList[i]? = some o := by simpa using ho
    have hanc := ancs_closed hc hol (.inr hready)
    have hile : i ≤ es.length := by
      rcases Nat.lt_or_ge es.length i with h | h
      · exfalso
        rcases hanc _ (laterOk_spec hlater h (by omega)) with h' | h'
        · rw [hx] at h'; cases h'
        · omega
      · exact h
    obtain ⟨e, he⟩ : ∃ e, fs[i]? = some e := ⟨_, List.getElem?_eq_getElem (by show i < (es ++ [ex]).length; simp; omega)⟩
    -- later ones that have come up
    have later : ∀ (k : Nat) (f : Ent), i < k → es[k]? = some f → sOf listed k = true → apartE ops.toList e f = true := by
      intro k f hk hf hSk
      have hp := pairs_spec fs 0 hpairs i k e f hk he (fse k f hf)
      simp only [Nat.zero_add] at hp
      rcases hp with hp | hp
      · exfalso
        have hok : ops.toList[k]? = some f.1 := by simpa using opOf k f hf
        rcases ancs_closed hc hok (.inl hSk) i hp with h | h
        · rw [hSi] at h; cases h
        · omega
      · exact hp
    -- earlier ones that have not
    have earlier : ∀ (k : Nat) (f : Ent), k < i → es[k]? = some f → sOf listed k = false → apartE ops.toList f e = true := by
      intro k f hk hf hSk
      have hp := pairs_spec fs 0 hpairs k i f e hk (fse k f hf) he
      simp only [Nat.zero_add] at hp
      rcases hp with hp | hp
      · exfalso
        rcases hanc k hp with h | h
        · rw [hSk] at h; cases h
        · omega
      · exact hp
    have hsees : Sees (looksA ops.toList e.1) e.foot (someE (sOf listed) es 0 s0) (allE (es.take i) s0) := by
      have := sees_some (sOf listed) (looksA ops.toList e.1) e.foot i es 0 s0 s0 (Sees.refl _ _ _) (fun k f hf hk => by
        simp only [Nat.zero_add] at hk
        rcases hk with ⟨hk, hSk⟩ | ⟨hk, hSk⟩
        · have ha := earlier k f hk hf hSk
          simp only [apartE, Bool.and_eq_true] at ha
          obtain ⟨⟨⟨hk1, hk2⟩, hd⟩, hd2, hw, hw2⟩ := ha
          refine ⟨hk1, fun x hx hdx => ?_, fun b hb hkb => ?_⟩
          · exact disj_spec hd (x := x) (by simp [hdx]) (List.mem_append.2 (.inl hx))
          · exact disj_spec hw hkb (List.mem_append.2 (.inl hb))
        · have hki : i < k := by
            rcases Nat.lt_or_ge i k with h | h
            · exact h
            · have : k = i := by omega
              subst this; rw [hSi] at hSk; cases hSk
          have ha := later k f hki hf hSk
          simp only [apartE, Bool.and_eq_true] at ha
          obtain ⟨⟨⟨hk1, hk2⟩, hd⟩, hd2, hw, hw2⟩ := ha
          refine ⟨hk2, fun x hx hdx => ?_, fun b hb hkb => ?_⟩
          · exact disj_spec hd2 (x := x) (by simp [hdx]) hx
          · exact disj_spec hw2 hkb hb)
      simpa using this
    rcases Nat.lt_or_ge i es.length with hlt | hge
    · have he' : es[i]? = some e := by
        have : (es ++ [ex])[i]? = some e := he
        rwa [List.getElem?_append_left hlt] at this
      have heo : e.1 = o := by have := opOf i e he'; rw [ho] at this; exact (Option.some.inj this).symm
      have hput : someE (sOf (listed.setIfInBounds i true)) es 0 s0 = e.app (someE (sOf listed) es 0 s0) := by
        rw [sOf_set listed i (by omega)]
        exact someE_put (sOf listed) i es 0 s0 e (Nat.zero_le _) (by simpa using he') hSi (fun k f hk hf hSk s => app_comm (later k f hk (by simpa using hf) hSk) s)
      have hc' : Closed ops.toList (sOf (listed.setIfInBounds i true)) := by
        rw [sOf_set listed i (by omega)]
        intro j p hp hj x hx hb
        simp only [put, Bool.or_eq_true, beq_iff_eq] at hj ⊢
        rcases hj with rfl | hj
        · rw [hol] at hp; cases hp
          exact .inr (hready x hx hb)
        · exact .inr (hc j p hp hj x hx hb)
      have hx' : sOf (listed.setIfInBounds i true) es.length = false := by
        rw [sOf_set listed i (by omega)]
        have : (es.length == i) = false := by rw [beq_eq_false_iff_ne]; omega
        simp only [put, this, Bool.false_or]; exact hx
      have hu' : unl ops.size (listed.setIfInBounds i true) ≤ fuel := by have := unl_set hilt hs h1; omega
      have hs' : (listed.setIfInBounds i true).size = ops.size := by simpa using hs
      unfold wpOp
      simp only [ho]
      have hent := hes i e he'
      subst heo
      unfold EntOk at hent
      split at hent
      · rename_i q hq
        obtain ⟨hok, hg⟩ := hent
        have hg' := hg.sees (tm' := (someE (sOf listed) es 0 s0).tm) (fun x hx => hsees.tm x hx)
        rw [hg'.wanted (hp := (someE (sOf listed) es 0 s0).hp) hrep, if_pos rfl]
        refine .inl (hok w0 O C _ _ a hrep ⟨evA_sees (fun x hx => hsees.tm x hx), fun b hb => hsees.hp b (by simp [Ent.foot, hq, hb]), hsees.hl⟩ _ _ (fun C' a' hr' => ?_))
        refine ih _ C' a' hs' hc' hx' hu' ?_
        rw [hput]
        simpa [Ent.app, hq] using hr'
      · rename_i hq
        have hg' := hent.sees (tm' := (someE (sOf listed) es 0 s0).tm) (fun x hx => hsees.tm x hx)
        rw [hg'.wanted (hp := (someE (sOf listed) es 0 s0).hp) hrep, if_neg (by simp)]
        refine ih _ C _ hs' hc' hx' hu' ?_
        rw [hput]
        have := hrep.put e.1.dst (v := .tup []) (c := undef) (VRel.tup [] rfl (fun j => .junk _))
        simpa [Ent.app, hq] using this
    · have hie : i = es.length := by omega
      subst hie
      rw [opX] at ho
      cases ho
      rw [fsx] at he
      cases he
      rw [List.take_of_length_le (Nat.le_refl _)] at hsees
      unfold wpOp
      simp only [opX]
      have hg' := hgd.sees (tm' := (someE (sOf listed) es 0 s0).tm) (fun y hy => hsees.tm y hy)
      rw [hg'.wanted (hp := (someE (sOf listed) es 0 s0).hp) hrep, if_pos rfl]
      refine .inl (hpan w0 O C _ _ a hrep ⟨evA_sees (fun y hy => hsees.tm y hy), fun b hb => hsees.hp b (by simpa [Ent.foot] using hb), hsees.hl⟩ _ _ (fun C' c hr' hv => ?_))
      refine hQ C' a c ?_ hv
      have := hr'.masked (dstsE es) (keysE es)
      rwa [show (⟨(someE (sOf listed) es 0 s0).tm, (someE (sOf listed) es 0 s0).hp⟩ : St) = someE (sOf listed) es 0 s0 from rfl, masked_some _ es 0 s0 (fun f hf => List.all_eq_true.1 hnk f hf) (fun y hy => by simpa using hy) (fun b hb => by simpa using hb)] at this
end Go.Va
