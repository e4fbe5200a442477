/-
  Ahead of a call that hands memory back: the caller's own blocks that the arguments reach are given up, made still, and known as still ones from there on.
  Conditions: none.
-/
import Derived.Test.YtnidnmhcjngmeaaGreatVaAx
set_option linter.unusedVariables false
set_option linter.unusedSimpArgs false
set_option autoImplicit false
namespace Go.Va

/-- Of the blocks only these are known. -/
def onlyB (l : List Nat) : Nat → List Blk → List Blk
  | _, [] => []
  | i, x :: t => (bif l.contains i then x else .gone) :: onlyB l (i + 1) t

theorem onlyB_length (l : List Nat) (hp : List Blk) (i : Nat) : (onlyB l i hp).length = hp.length := by
  induction hp generalizing i with
  | nil => rfl
  | cons x t ih => simp only [onlyB, List.length_cons, ih]

theorem gb_onlyB (l : List Nat) (hp : List Blk) (i j : Nat) : gb (onlyB l i hp) j = if l.contains (i + j) then gb hp j else .gone := by
  induction hp generalizing i j with
  | nil => simp only [onlyB]; show Blk.gone = _; cases l.contains (i + j) <;> rfl
  | cons x t ih =>
    cases j with
    | zero => simp only [onlyB, gb, Nat.add_zero]; cases l.contains i <;> rfl
    | succ j => simp only [onlyB, gb]; rw [ih, show i + 1 + j = i + (j + 1) by omega]

/-- A value behind the freezing of these blocks. -/
def fzV (l : List Nat) (hp : List Blk) (v : AV) : AV := bif v.only noneb then v else bif v.only (fun b => l.contains b) then immW (onlyB l 0 hp) v else v

def fzB (l : List Nat) (hp : List Blk) : Blk → Blk
  | .row cs t cl => bif cl then .row cs t cl else .row (cs.map (fzV l hp)) t cl
  | x => x

def fzS (l : List Nat) (s : St) : St := ⟨s.tm.map (fzV l s.hp), (goneL s.hp l).map (fzB l s.hp)⟩

theorem fzV_junk (l : List Nat) (hp : List Blk) : fzV l hp .junk = .junk := rfl

theorem fzV_rel {C : Cx} {hp : List Blk} (hr : HRel C hp) (l : List Nat) {v : AV} {c : Value} (h : VRel C true v c) : VRel (C.fz (fzOf C hp l)) true (fzV l hp v) c := by
  have hle := C.fz_le (fzOf C hp l)
  unfold fzV
  cases v.only noneb with
  | true => exact h.le hle
  | false =>
    rw [cond_false]
    cases v.only (fun b => l.contains b) with
    | false => exact h.le hle
    | true =>
      rw [cond_true]
      have hr' : HRel C (onlyB l 0 hp) := hr.sub (onlyB_length _ _ _) (fun b => by
        rw [gb_onlyB]; split
        · exact .inl rfl
        · exact .inr rfl)
      have h2 := immW_rel hr' (ban := (C.fz (fzOf C hp l)).own) (fun B hB => hB.1) h (fun b hl hn hb => by
        rw [gb_onlyB, Nat.zero_add] at hl
        split at hl
        · rename_i hc
          exact hb.2 ⟨b, by simpa using hc, hl, hn, rfl⟩
        · cases hl)
      exact (VRel.mono_false (C := cx0 (C.fz (fzOf C hp l)).own C.w) (D := C.fz (fzOf C hp l)) ⟨Nat.le_refl _, fun _ _ _ => rfl, fun _ _ h => h⟩ h2 rfl).up rfl

theorem gt_map' (f : AV → AV) (hf : f .junk = .junk) (l : List AV) (n : Nat) : gt (l.map f) n = f (gt l n) := by
  induction l generalizing n with
  | nil => exact hf.symm
  | cons v l ih => cases n with
    | zero => rfl
    | succ n => exact ih n

theorem gb_map' (f : Blk → Blk) (hf : f .gone = .gone) (l : List Blk) (n : Nat) : gb (l.map f) n = f (gb l n) := by
  induction l generalizing n with
  | nil => exact hf.symm
  | cons v l ih => cases n with
    | zero => rfl
    | succ n => exact ih n

theorem Rep.fzS {w0 : World} {O : Env} {C : Cx} {s : St} {a : Act} (hr : Rep w0 O C s a) (l : List Nat) : ∃ C', Rep w0 O C' (Va.fzS l s) a ∧ C'.w = C.w := by
  have h1 := hr.freeze l
  let D := C.fz (fzOf C s.hp l)
  have hle := C.fz_le (fzOf C s.hp l)
  have gm : ∀ b, gb (Va.fzS l s).hp b = fzB l s.hp (gb (goneL s.hp l) b) := fun b => gb_map' _ rfl _ _
  have lv : ∀ b, (gb (Va.fzS l s).hp b).live = (gb (goneL s.hp l) b).live := fun b => by
    rw [gm]
    cases gb (goneL s.hp l) b with
    | row cs t cl => cases cl <;> rfl
    | _ => rfl
  refine ⟨D, ⟨h1.defers, by show _ = (s.tm.map (fzV l s.hp)).length; rw [List.length_map]; exact hr.size, fun t => ?_, ⟨fun b hb => ?_, fun b hb => ?_, fun b cs t cl hb => ?_, fun b cs t cl hb => ?_, fun b c k t hb => ?_, fun b o hb => ?_, fun b b' h h' => ?_, h1.hp.ownlt⟩, h1.kept, fun b hb => h1.mine b (by rw [← lv]; exact hb)⟩, rfl⟩
  · show VRel D true (gt (s.tm.map (fzV l s.hp)) t) _
    rw [gt_map' _ (fzV_junk _ _)]
    exact fzV_rel hr.hp l (hr.tm t)
  · show b < ((goneL s.hp l).map (fzB l s.hp)).length
    rw [List.length_map]; exact h1.hp.al b hb
  · rw [gm] at hb
    refine h1.hp.free b ?_
    generalize gb (goneL s.hp l) b = x at hb
    cases x with
    | free => rfl
    | row cs t cl => cases cl <;> cases hb
    | _ => cases hb
  · rw [gm] at hb
    cases hg : gb (goneL s.hp l) b with
    | row cs0 t0 cl0 => exact h1.hp.nnl b _ _ _ hg
    | _ => rw [hg] at hb; cases hb
  · rw [gm] at hb
    cases hg : gb (goneL s.hp l) b with
    | row cs0 t0 cl0 =>
      rw [hg] at hb
      obtain ⟨ha, ho, hln, cur, h2, h3, h4, h5⟩ := h1.hp.row b cs0 t0 cl0 hg
      have hg0 : gb s.hp b = .row cs0 t0 cl0 := by
        rcases gb_goneL' s.hp l b with e | e
        · rw [← e]; exact hg
        · rw [show gb (St.mk s.tm (goneL s.hp l)).hp b = gb (goneL s.hp l) b from rfl] at hg; rw [e] at hg; cases hg
      cases cl0 with
      | true =>
        simp only [fzB, cond_true, Blk.row.injEq] at hb
        obtain ⟨rfl, rfl, rfl⟩ := hb
        exact ⟨ha, ho, hln, cur, h2, h3, h4, h5⟩
      | false =>
        simp only [fzB, cond_false, Blk.row.injEq] at hb
        obtain ⟨rfl, rfl, rfl⟩ := hb
        obtain ⟨_, _, _, cur', g2, _, _, g5⟩ := hr.hp.row b cs0 t0 false hg0
        have e : cur' = cur := by
          have : (C.w.heap[C.mu b]? : Option Obj) = some (.cells cur t0 (0, 0)) := h2
          rw [g2] at this
          simpa using this
        subst e
        refine ⟨ha, ho, by rw [List.length_map]; exact hln, cur', h2, h3, by rw [List.length_map]; exact h4, fun j hj => ?_⟩
        rw [gt_map' _ (fzV_junk _ _)]
        rw [List.length_map] at hj
        exact fzV_rel hr.hp l (g5 j hj)
    | _ => rw [hg] at hb; cases hb
  · rw [gm] at hb
    cases hg : gb (goneL s.hp l) b with
    | rt c' k' t' => rw [hg] at hb; simp only [fzB] at hb; exact h1.hp.rt b c k t (hg.trans hb)
    | row cs0 t0 cl0 => rw [hg] at hb; cases cl0 <;> cases hb
    | _ => rw [hg] at hb; cases hb
  · rw [gm] at hb
    cases hg : gb (goneL s.hp l) b with
    | ob o' => rw [hg] at hb; simp only [fzB] at hb; exact h1.hp.ob b o (hg.trans hb)
    | row cs0 t0 cl0 => rw [hg] at hb; cases cl0 <;> cases hb
    | _ => rw [hg] at hb; cases hb
  · exact h1.hp.inj b b' (by rw [← lv]; exact h) (by rw [← lv]; exact h')

/-! ### When -/
def refsB (hp : List Blk) (b : Nat) : List Nat := match gb hp b with
  | .row cs _ cl => bif cl then [] else refsL cs
  | _ => []

/-- All the blocks that these reach, so many steps. -/
def deepR (hp : List Blk) : Nat → List Nat → List Nat
  | 0, l => l
  | n + 1, l => match l with
    | [] => []
    | l => l ++ deepR hp n (l.flatMap (refsB hp))

/-- Does the function hand memory back? -/
def memR (P : Program) (g : FuncId) : Bool := match P.funcs[g]? with
  | some fn => fn.resultTypes.toList.any fun t => match ctOf P 7 t with
    | some c => !c.plain
    | none => false
  | none => false

def fzO (P : Program) (o : Oper) (s : St) : Option (List Nat) := match o.op with
  | .call c => match c.callee with
    | .value f => match evA s.tm f with
      | .fn g cap => bif AV.onlys noneb (c.args.toList.map (evA s.tm) ++ cap) then none else bif memR P g then some (deepR s.hp 4 (refsL (c.args.toList.map (evA s.tm) ++ cap))) else none
      | _ => none
    | _ => none
  | _ => none

def fzK {β : Type} (P : Program) (o : Oper) (s : St) (K : St → Option β) : Option β := match fzO P o s with
  | none => K s
  | some l => K (fzS l s)

theorem fzK_ok {β : Type} {P : Program} {o : Oper} {s : St} {K : St → Option β} {r : β} (h : fzK P o s K = some r) :
    ∃ s', K s' = some r ∧ s'.hp.length = s.hp.length ∧ ∀ w0 O C a, Rep w0 O C s a → ∃ C', Rep w0 O C' s' a ∧ C'.w = C.w := by
  unfold fzK at h
  split at h
  · exact ⟨s, h, rfl, fun w0 O C a hr => ⟨C, hr, rfl⟩⟩
  · rename_i l _
    exact ⟨fzS l s, h, by simp only [fzS, List.length_map, goneL_length], fun w0 O C a hr => hr.fzS l⟩
end Go.Va
