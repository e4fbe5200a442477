/-
  Owned blocks given up, made still, and named anew.
  Conditions: none.
-/
import Derived.Test.YtnidnmhcjngmeaaGreatVaLib
import Derived.Laws.AppendOwn
import Derived.Laws.OwnMore
set_option linter.unusedVariables false
set_option linter.unusedSimpArgs false
set_option autoImplicit false
namespace Go.Va

theorem HRel.alive {C : Cx} {hp : List Blk} (hr : HRel C hp) {b : Nat} (h : (gb hp b).live = true) : C.al b := by
  cases hg : gb hp b with
  | row cs t cl => exact (hr.row b cs t cl hg).1
  | rt c l t => exact (hr.rt b c l t hg).1
  | ob o => exact (hr.ob b o hg).1
  | _ => rw [hg] at h; cases h

/-- Some blocks are given up. -/
theorem HRel.sub {C : Cx} {hp hp' : List Blk} (hr : HRel C hp) (hl : hp'.length = hp.length) (h : ∀ b, gb hp' b = gb hp b ∨ gb hp' b = .gone) : HRel C hp' where
  al b hb := by rw [hl]; exact hr.al b hb
  free b hb := by rcases h b with e | e <;> rw [e] at hb; exact hr.free b hb; cases hb
  nnl b cs t cl hb := by rcases h b with e | e <;> rw [e] at hb; exact hr.nnl b cs t cl hb; cases hb
  row b cs t cl hb := by rcases h b with e | e <;> rw [e] at hb; exact hr.row b cs t cl hb; cases hb
  rt b c l t hb := by rcases h b with e | e <;> rw [e] at hb; exact hr.rt b c l t hb; cases hb
  ob b o hb := by rcases h b with e | e <;> rw [e] at hb; exact hr.ob b o hb; cases hb
  inj b b' hb hb' hn hn' he := by
    rcases h b with e | e <;> rw [e] at hb
    · rcases h b' with e' | e' <;> rw [e'] at hb'
      · exact hr.inj b b' hb hb' hn hn' he
      · cases hb'
    · cases hb
  ownlt := hr.ownlt

theorem Rep.sub {w0 : World} {O : Env} {C : Cx} {s : St} {a : Act} (hr : Rep w0 O C s a) {hp' : List Blk} (hl : hp'.length = s.hp.length) (h : ∀ b, gb hp' b = gb s.hp b ∨ gb hp' b = .gone) : Rep w0 O C ⟨s.tm, hp'⟩ a :=
  ⟨hr.defers, hr.size, hr.tm, hr.hp.sub hl h, hr.kept, fun b hb hn => by
    rcases h b with e | e
    · exact hr.mine b (by rw [← e]; exact hb) hn
    · rw [show gb (St.mk s.tm hp').hp b = gb hp' b from rfl, e] at hb; cases hb⟩

/-- These blocks are given up. -/
def goneL (hp : List Blk) : List Nat → List Blk
  | [] => hp
  | b :: l => goneL (sb hp b .gone) l

theorem goneL_length (hp : List Blk) (l : List Nat) : (goneL hp l).length = hp.length := by
  induction l generalizing hp with
  | nil => rfl
  | cons b l ih => simp only [goneL, ih, sb_length]

theorem gb_goneL (l : List Nat) : ∀ (hp : List Blk) (x : Nat), (gb (goneL hp l) x = gb hp x ∧ x ∉ l) ∨ gb (goneL hp l) x = .gone := by
  induction l with
  | nil => intro hp x; exact .inl ⟨rfl, by simp⟩
  | cons b l ih =>
    intro hp x
    simp only [goneL]
    rcases ih (sb hp b .gone) x with ⟨h, hx⟩ | h
    · by_cases e : x = b
      · subst e
        right
        rw [h]
        by_cases hlt : x < hp.length
        · exact gb_sb_same _ _ _ hlt
        · by_cases hg : gb (sb hp x .gone) x = .gone
          · exact hg
          · have := gb_len' hg; rw [sb_length] at this; exact absurd this hlt
      · rw [gb_sb_ne _ _ _ _ e] at h
        exact .inl ⟨h, by simp [e, hx]⟩
    · exact .inr h

theorem gb_goneL' (hp : List Blk) (l : List Nat) (x : Nat) : gb (goneL hp l) x = gb hp x ∨ gb (goneL hp l) x = .gone := by
  rcases gb_goneL l hp x with ⟨h, _⟩ | h
  · exact .inl h
  · exact .inr h

/-- These blocks of the world are the run's no more. -/
def Cx.fz (C : Cx) (S : Nat → Prop) : Cx := { C with own := fun B => C.own B ∧ ¬ S B }

theorem Cx.fz_le (C : Cx) (S : Nat → Prop) : C.Le anyb (C.fz S) := ⟨Nat.le_refl _, fun _ _ _ => rfl, fun _ _ h => h.1, fun _ h => h, fun _ _ _ => ⟨rfl, rfl, rfl, rfl⟩, rfl⟩

/-- The blocks of the world behind these numbers. -/
def fzOf (C : Cx) (hp : List Blk) (l : List Nat) : Nat → Prop := fun B => ∃ b, b ∈ l ∧ (gb hp b).live = true ∧ C.nl b = false ∧ B = C.mu b

/-- Blocks are made still: nobody writes them from here on. -/
theorem Rep.freeze {w0 : World} {O : Env} {C : Cx} {s : St} {a : Act} (hr : Rep w0 O C s a) (l : List Nat) : Rep w0 O (C.fz (fzOf C s.hp l)) ⟨s.tm, goneL s.hp l⟩ a := by
  have h1 := hr.sub (hp' := goneL s.hp l) (goneL_length _ _) (gb_goneL' _ _)
  have hle := C.fz_le (fzOf C s.hp l)
  have key : ∀ b, (gb (goneL s.hp l) b).live = true → C.nl b = false → ¬ fzOf C s.hp l (C.mu b) := by
    rintro b hb hn ⟨b', hb', hlive, hn', he⟩
    rcases gb_goneL l s.hp b with ⟨e, hx⟩ | e
    · have := hr.hp.inj b b' (by rw [← e]; exact hb) hlive hn hn' he
      subst this; exact hx hb'
    · rw [e] at hb; cases hb
  refine ⟨h1.defers, h1.size, fun t => (h1.tm t).le hle, ?_, ⟨hr.kept.os, hr.kept.tape, hr.kept.output, hr.kept.size, hr.kept.block, fun B hB => ⟨hr.kept.ban B hB, ?_⟩, hr.kept.banlt, hr.kept.banmay, hr.kept.pin, hr.kept.frz⟩, h1.mine⟩
  · refine ⟨h1.hp.al, h1.hp.free, h1.hp.nnl, fun b cs t cl hb => ?_, fun b c k t hb => ?_, fun b o hb => ?_, h1.hp.inj, fun B hB => h1.hp.ownlt B hB.1⟩
    · obtain ⟨ha, ho, hln, cur, h2, h3, h4, h5⟩ := h1.hp.row b cs t cl hb
      exact ⟨ha, ⟨ho, key b (by rw [hb]; rfl) (h1.hp.nnl b _ _ _ hb)⟩, hln, cur, h2, h3, h4, fun j hj => (h5 j hj).le hle⟩
    · obtain ⟨ha, hln, h⟩ := h1.hp.rt b c k t hb
      refine ⟨ha, hln, ?_⟩
      rcases h with h | ⟨hn, ho, cur, h2, h3, h4, h5⟩
      · exact .inl h
      · exact .inr ⟨hn, ⟨ho, key b (by rw [hb]; rfl) hn⟩, cur, h2, h3, h4, fun j hj i hi => (h5 j hj i hi).le hle⟩
    · obtain ⟨ha, hn, ho, x, h2, h3⟩ := h1.hp.ob b o hb
      exact ⟨ha, hn, ⟨ho, key b (by rw [hb]; rfl) hn⟩, x, h2, h3⟩
  · rintro ⟨b, hb, hlive, hn, he⟩
    subst he
    rcases hr.mine b hlive hn with h | h
    · exact hr.kept.banmay _ hB h
    · have := hr.kept.banlt _ hB; omega

/-- A number is given. -/
def Cx.name (C : Cx) (p g k m : Nat) (nb : Bool) (w' : World) : Cx where
  own := C.own
  al b := C.al b ∨ b = p
  mu b := if b = p then g else C.mu b
  ka b := if b = p then k else C.ka b
  ln b := if b = p then m else C.ln b
  nl b := if b = p then nb else C.nl b
  pin := C.pin
  w := w'

theorem Cx.name_le {C : Cx} {p : Nat} (g k m : Nat) (nb : Bool) {w' : World} (hp : ¬ C.al p) (hs : w'.heap.size = C.w.heap.size) (hb : ∀ B, ¬ C.own B → w'.heap[B]? = C.w.heap[B]?) : C.Le anyb (C.name p g k m nb w') where
  size := by simp [Cx.name, hs]
  block B _ h := hb B h
  own B _ h := h
  al b h := .inl h
  mu b hb _ := by
    have : b ≠ p := fun e => hp (e ▸ hb)
    simp only [Cx.name]; rw [if_neg this, if_neg this, if_neg this, if_neg this]; exact ⟨rfl, rfl, rfl, rfl⟩
  pin := rfl

theorem Rep.name {w0 : World} {O : Env} {C : Cx} {s : St} {a : Act} (hr : Rep w0 O C s a) {p : Nat} (g k m : Nat) (nb : Bool) (w' : World) (x : Blk) (hf : gb s.hp p = .free)
    (hos : w'.os = C.w.os ∧ w'.tape = C.w.tape ∧ w'.output = C.w.output) (hs : w'.heap.size = C.w.heap.size)
    (hb : ∀ B, B ≠ g ∨ nb = true → w'.heap[B]? = C.w.heap[B]?) (hg : nb = false → C.own g ∧ (O.may g ∨ w0.heap.size ≤ g) ∧ ∀ b, (gb s.hp b).live = true → C.nl b = false → C.mu b ≠ g)
    (hx : (nb = true ∧ m = 0 ∧ ∃ c t, x = .rt c [] t) ∨ (nb = false ∧ ∃ cur t, w'.heap[g]? = some (.cells cur t (0, 0)) ∧ cur.size = k ∧ BlkHolds C x cur t m)) :
    Rep w0 O (C.name p g k m nb w') ⟨s.tm, sb s.hp p x⟩ a := by
  have hpl : p < s.hp.length := gb_len' (fun e => by rw [e] at hf; cases hf)
  have hal := hr.hp.free p hf
  have hbo : ∀ B, ¬ C.own B → w'.heap[B]? = C.w.heap[B]? := fun B hB => by
    cases nb with
    | true => exact hb B (.inr rfl)
    | false => exact hb B (.inl (fun e => hB (e ▸ (hg rfl).1)))
  have hle := Cx.name_le g k m nb hal hs hbo
  have mup : (C.name p g k m nb w').mu p = g := by simp [Cx.name]
  have kap : (C.name p g k m nb w').ka p = k := by simp [Cx.name]
  have lnp : (C.name p g k m nb w').ln p = m := by simp [Cx.name]
  have nlp : (C.name p g k m nb w').nl p = nb := by simp [Cx.name]
  have alp : (C.name p g k m nb w').al p := .inr rfl
  have lv : ∀ y, y ≠ p → (gb (sb s.hp p x) y).live = true → (gb s.hp y).live = true := fun y hy h => by rwa [gb_sb_ne _ _ _ _ hy] at h
  have other : ∀ y, (gb s.hp y).live = true → C.nl y = false → w'.heap[C.mu y]? = C.w.heap[C.mu y]? := fun y hy hn => by
    cases nb with
    | true => exact hb _ (.inr rfl)
    | false => exact hb _ (.inl ((hg rfl).2.2 y hy hn))
  have hxn : x ≠ .free := fun e => by
    rcases hx with ⟨_, _, c, t, h⟩ | ⟨_, cur, t, _, _, h⟩
    · rw [e] at h; cases h
    · rw [e] at h; exact h
  have hfr : ∀ B, w0.heap.size ≤ B ∨ O.may B → ∀ cur t fr, w'.heap[B]? = some (.cells cur t fr) → fr = (0, 0) := fun B hB cur t fr h => by
    rcases hx with ⟨hn, _⟩ | ⟨hn, c2, t2, h2, _⟩
    · rw [hb B (.inr hn)] at h; exact hr.kept.frz B hB cur t fr h
    · by_cases e : B = g
      · subst e; rw [h2] at h; cases h; rfl
      · rw [hb B (.inl e)] at h; exact hr.kept.frz B hB cur t fr h
  refine ⟨hr.defers, hr.size, fun t => (hr.tm t).le hle, ⟨fun b hb => ?_, fun b hb => ?_, fun b cs' t' cl' hb => ?_, fun b cs' t' cl' hb => ?_, fun b c l t' hb => ?_, fun b o hb => ?_, fun b b' h1 h2 hn hn' he => ?_, fun B hB => ?_⟩, ⟨hos.1.trans hr.kept.os, hos.2.1.trans hr.kept.tape, hos.2.2.trans hr.kept.output, ?_, fun B hB hO => ?_, hr.kept.ban, hr.kept.banlt, hr.kept.banmay, hr.kept.pin, hfr⟩, fun b hb hn => ?_⟩
  · rw [sb_length]
    rcases hb with hb | hb
    · exact hr.hp.al b hb
    · exact hb ▸ hpl
  · have hne : b ≠ p := fun e => by subst e; rw [gb_sb_same _ _ _ hpl] at hb; exact hxn hb
    rw [gb_sb_ne _ _ _ _ hne] at hb
    rintro (h | h)
    · exact hr.hp.free b hb h
    · exact hne h
  · by_cases e : b = p
    · subst e
      rw [gb_sb_same _ _ _ hpl] at hb
      rw [nlp]
      rcases hx with ⟨_, _, c, t, h⟩ | ⟨h, _⟩
      · rw [hb] at h; cases h
      · exact h
    · rw [gb_sb_ne _ _ _ _ e] at hb
      exact (hle.mu b (hr.hp.row b cs' t' cl' hb).1 rfl).2.2.2.trans (hr.hp.nnl b cs' t' cl' hb)
  · by_cases e : b = p
    · subst e
      rw [gb_sb_same _ _ _ hpl] at hb
      rcases hx with ⟨_, _, c, t, h⟩ | ⟨hn, cur, t, h2, h3, h4⟩
      · rw [hb] at h; cases h
      · rw [hb] at h4
        obtain ⟨rfl, h5, h6, h7⟩ := h4
        exact ⟨alp, by rw [mup]; exact (hg hn).1, lnp.trans h5, cur, by rw [mup]; exact h2, by rw [kap]; exact h3, by rw [kap, ← h3]; exact h6, fun j hj => (h7 j hj).le hle⟩
    · rw [gb_sb_ne _ _ _ _ e] at hb
      obtain ⟨ha, h1, hln, cur, h2, h3, h4, h5⟩ := hr.hp.row b cs' t' cl' hb
      obtain ⟨e1, e2, e3, e4⟩ := hle.mu b ha rfl
      exact ⟨.inl ha, by rw [e1]; exact h1, e3.trans hln, cur, by rw [e1]; exact (other b (by rw [hb]; rfl) (hr.hp.nnl b _ _ _ hb)).trans h2, h3.trans e2.symm, by rw [e2]; exact h4, fun j hj => (h5 j hj).le hle⟩
  · by_cases e : b = p
    · subst e
      rw [gb_sb_same _ _ _ hpl] at hb
      rcases hx with ⟨hn, hm, c', t, h⟩ | ⟨hn, cur, t, h2, h3, h4⟩
      · rw [hb] at h
        simp only [Blk.rt.injEq] at h
        obtain ⟨rfl, h, rfl⟩ := h
        have h := eq_of_heq h
        subst h
        exact ⟨alp, by rw [lnp, hm]; simp, .inl ⟨nlp.trans hn, rfl⟩⟩
      · rw [hb] at h4
        obtain ⟨rfl, h5, h6, h7⟩ := h4
        exact ⟨alp, lnp.trans h5, .inr ⟨nlp.trans hn, by rw [mup]; exact (hg hn).1, cur, by rw [mup]; exact h2, by rw [kap]; exact h3, by rw [kap, ← h3]; exact h6, fun j hj i hi => (h7 j hj i hi).le hle⟩⟩
    · rw [gb_sb_ne _ _ _ _ e] at hb
      obtain ⟨ha, hln, h⟩ := hr.hp.rt b c l t' hb
      obtain ⟨e1, e2, e3, e4⟩ := hle.mu b ha rfl
      refine ⟨.inl ha, e3.trans hln, ?_⟩
      rcases h with ⟨h1, h2⟩ | ⟨h1, h2, cur, h3, h4, h5, h6⟩
      · exact .inl ⟨e4.trans h1, h2⟩
      · exact .inr ⟨e4.trans h1, by rw [e1]; exact h2, cur, by rw [e1]; exact (other b (by rw [hb]; rfl) h1).trans h3, h4.trans e2.symm, by rw [e2]; exact h5, fun j hj i hi => (h6 j hj i hi).le hle⟩
  · by_cases e : b = p
    · subst e
      rw [gb_sb_same _ _ _ hpl] at hb
      rcases hx with ⟨_, _, c, t, h⟩ | ⟨_, cur, t, _, _, h⟩
      · rw [hb] at h; cases h
      · rw [hb] at h; exact h.elim
    · rw [gb_sb_ne _ _ _ _ e] at hb
      obtain ⟨ha, hn, ho, x', h1, h2⟩ := hr.hp.ob b o hb
      obtain ⟨e1, e2, e3, e4⟩ := hle.mu b ha rfl
      exact ⟨.inl ha, e4.trans hn, by rw [e1]; exact ho, x', by rw [e1]; exact (other b (by rw [hb]; rfl) hn).trans h1, h2⟩
  · by_cases e : b = p <;> by_cases e' : b' = p
    · omega
    · have l2 := lv b' e' h2
      obtain ⟨e1, _, _, e4⟩ := hle.mu b' (hr.hp.alive l2) rfl
      rw [e, nlp] at hn
      rw [e, mup, e1] at he
      exact absurd he.symm ((hg hn).2.2 b' l2 (e4.symm.trans hn'))
    · have l1 := lv b e h1
      obtain ⟨e1, _, _, e4⟩ := hle.mu b (hr.hp.alive l1) rfl
      rw [e', nlp] at hn'
      rw [e', mup, e1] at he
      exact absurd he ((hg hn').2.2 b l1 (e4.symm.trans hn))
    · have l1 := lv b e h1
      have l2 := lv b' e' h2
      obtain ⟨e1, _, _, e4⟩ := hle.mu b (hr.hp.alive l1) rfl
      obtain ⟨e1', _, _, e4'⟩ := hle.mu b' (hr.hp.alive l2) rfl
      exact hr.hp.inj b b' l1 l2 (e4.symm.trans hn) (e4'.symm.trans hn') (by rw [← e1, ← e1', he])
  · show B < w'.heap.size
    rw [hs]; exact hr.hp.ownlt B hB
  · show w0.heap.size ≤ w'.heap.size
    rw [hs]; exact hr.kept.size
  · show w'.heap[B]? = _
    rw [← hr.kept.block B hB hO]
    cases nb with
    | true => exact hb B (.inr rfl)
    | false =>
      refine hb B (.inl (fun e => ?_))
      subst e
      rcases (hg rfl).2.1 with h | h
      · exact hO h
      · omega
  · by_cases e : b = p
    · subst e
      rw [nlp] at hn
      rw [mup]; exact (hg hn).2.1
    · have l1 := lv b e hb
      obtain ⟨e1, _, _, e4⟩ := hle.mu b (hr.hp.alive l1) rfl
      rw [e1]; exact hr.mine b l1 (e4.symm.trans hn)
end Go.Va
