/-
  The operators of two operands, abstractly.
  Conditions: none.
-/
import Derived.Test.YtnidnmhcjngmeaaGreatVaOps
import Derived.Laws.Cover3
set_option linter.unusedVariables false
set_option linter.unusedSimpArgs false
set_option autoImplicit false
namespace Go.Va

def eqAg (P : Program) (t : TypeId) (x y : AV) : Option Bool :=
  bif P.eqGuardType P.depth t then none else match toV x, toV y with
    | some (.agg a), some (.agg b) => eqVal P Op.maxDepth t (.agg a) (.agg b)
    | _, _ => none

def binK (P : Program) {β : Type} (op : BinOp) (t : TypeId) (xo yo : Operand) (x y : AV) (K : AV → Option β) : Option β :=
  match x with
  | .val u => match y with
    | .val v => match u with
      | .int k a => match v with
        | .int k' b => match op with
          | .shl => bif decide (b < 0) then none else K (.val (.int k (k.wrap (a * 2 ^ (min b.toNat k.bits)))))
          | .shr => bif decide (b < 0) then none else K (.val (.int k (a.fdiv (2 ^ (min b.toNat k.bits)))))
          | .quo => if k = k' then bif decide (b = 0) then none else K (.val (.int k (k.wrap (a.tdiv b)))) else none
          | .rem => if k = k' then bif decide (b = 0) then none else K (.val (.int k (a.tmod b))) else none
          | op => match pureRun P (do eqGuard op t xo yo (.int k a) (.int k' b); binOp op t (.int k a) (.int k' b)) with
            | some r => K (.val r)
            | none => none
        | _ => none
      | .string a => match v with
        | .string b => match op with
          | .add => bif decide (((a.size + b.size : Nat) : Int) > IntKind.i64.max) then none else K (.val (.string (a ++ b)))
          | op => match pureRun P (do eqGuard op t xo yo (.string a) (.string b); binOp op t (.string a) (.string b)) with
            | some r => K (.val r)
            | none => none
        | _ => none
      | u => match pureRun P (do eqGuard op t xo yo u v; binOp op t u v) with
        | some r => K (.val r)
        | none => none
    | _ => none
  | .agg cs => match op with
    | .eql => match eqAg P t (.agg cs) y with
      | some r => K (.val (.bool r))
      | none => none
    | .neq => match eqAg P t (.agg cs) y with
      | some r => K (.val (.bool !r))
      | none => none
    | _ => none
  | .vt c l => match y with
    | .val (.slice none 0 0) => match P.underlying t with
      | some (.slice _) => match op with
        | .eql => bif l.isEmpty then none else K (.val (.bool false))
        | .neq => bif l.isEmpty then none else K (.val (.bool true))
        | _ => none
      | _ => none
    | _ => none
  | .iface _ _ => match y with
    | .val .nilIface => match P.underlying t with
      | some (.interface _) => match op with
        | .eql => K (.val (.bool false))
        | .neq => K (.val (.bool true))
        | _ => none
      | _ => none
    | _ => none
  | _ => none

theorem VRel.vt_some {C : Cx} {m : Bool} {c : CT} {l : List c.D} {v : Value} (h : VRel C m (.vt c l) v) (hl : l.isEmpty = false) : ∃ a n k, v = .slice (some a) n k := by
  cases h with
  | vt h =>
    have hne : l.length ≠ 0 := fun e => by
      have := List.eq_nil_of_length_eq_zero e
      subst this; cases hl
    generalize hn : l.length = n at h
    generalize hg : (fun j => c.enc (l.getD j c.df)) = g at h
    cases h with
    | vec0 => exact absurd hn hne
    | vec => exact ⟨_, _, _, rfl⟩

theorem eqAg_ok {P : Program} {t : TypeId} {x y : AV} {r : Bool} (h : eqAg P t x y = some r) {C : Cx} {m : Bool} {cx cy : Value} (hx : VRel C m x cx) (hy : VRel C m y cy) :
    ∃ a b, cx = .agg a ∧ cy = .agg b ∧ P.eqGuardType P.depth t = false ∧ (Op.equal t (.agg a) (.agg b)).run P C.w = .ok r C.w := by
  unfold eqAg at h
  cases hg : P.eqGuardType P.depth t with
  | true => rw [hg] at h; cases h
  | false =>
    rw [hg, cond_false] at h
    split at h
    · rename_i a b ha hb
      exact ⟨a, b, toV_rel hx ha, toV_rel hy hb, rfl, (eq_sound P C.w _).1 t _ _ r _ (Nat.le_refl _) h⟩
    · cases h

theorem run_eqGuard_agg {P : Program} (op : BinOp) (t : TypeId) (xo yo : Operand) (a b : Array Value) (hg : P.eqGuardType P.depth t = false) (w : World) :
    (eqGuard op t xo yo (.agg a) (.agg b)).run P w = .ok () w := by
  unfold eqGuard
  cases op <;> simp [hg, program, Sem.run]

def BinOk (P : Program) (op : BinOp) (t : TypeId) (xo yo : Operand) (x y v : AV) : Prop :=
  ∀ (C : Cx) (m : Bool) (cx cy : Value), VRel C m x cx → VRel C m y cy → ∃ c, (do eqGuard op t xo yo cx cy; binOp op t cx cy : Sem Value).run P C.w = .ok c C.w ∧ VRel C m v c

theorem BinOk.pure {P : Program} {op : BinOp} {t : TypeId} {xo yo : Operand} {u v r : Value} (h : pureRun P (do eqGuard op t xo yo u v; binOp op t u v) = some r) : BinOk P op t xo yo (.val u) (.val v) (.val r) := by
  intro C m cx cy hx hy
  rw [hx.inv_val, hy.inv_val]
  exact ⟨r, pureRun_run h C.w, .val r⟩

theorem binK_ok {P : Program} {β : Type} {op : BinOp} {t : TypeId} {xo yo : Operand} {x y : AV} {K : AV → Option β} {r : β} (h : binK P op t xo yo x y K = some r) :
    ∃ v, K v = some r ∧ BinOk P op t xo yo x y v := by
  unfold binK at h
  split at h
  · rename_i u
    split at h
    · rename_i v
      split at h
      · rename_i k a
        split at h
        · rename_i k' b
          split at h
          · cases hb : decide (b < 0) with
            | true => rw [hb] at h; cases h
            | false =>
              rw [hb, cond_false] at h
              refine ⟨_, h, fun C m cx cy hx hy => ?_⟩
              rw [hx.inv_val, hy.inv_val]
              exact ⟨_, by simp [eqGuard, binOp, Op.shift, of_decide_eq_false hb], .val _⟩
          · cases hb : decide (b < 0) with
            | true => rw [hb] at h; cases h
            | false =>
              rw [hb, cond_false] at h
              refine ⟨_, h, fun C m cx cy hx hy => ?_⟩
              rw [hx.inv_val, hy.inv_val]
              exact ⟨_, by simp [eqGuard, binOp, Op.shift, of_decide_eq_false hb], .val _⟩
          · split at h
            · rename_i e
              subst e
              cases hb : decide (b = 0) with
              | true => rw [hb] at h; cases h
              | false =>
                rw [hb, cond_false] at h
                refine ⟨_, h, fun C m cx cy hx hy => ?_⟩
                rw [hx.inv_val, hy.inv_val]
                exact ⟨_, by simp [eqGuard, binOp, Op.intDiv, of_decide_eq_false hb], .val _⟩
            · cases h
          · split at h
            · rename_i e
              subst e
              cases hb : decide (b = 0) with
              | true => rw [hb] at h; cases h
              | false =>
                rw [hb, cond_false] at h
                refine ⟨_, h, fun C m cx cy hx hy => ?_⟩
                rw [hx.inv_val, hy.inv_val]
                exact ⟨_, by simp [eqGuard, binOp, Op.intDiv, of_decide_eq_false hb], .val _⟩
            · cases h
          · split at h
            · rename_i r' hp
              exact ⟨_, h, .pure hp⟩
            · cases h
        · cases h
      · rename_i a
        split at h
        · rename_i b
          split at h
          · cases hb : decide (((a.size + b.size : Nat) : Int) > IntKind.i64.max) with
            | true => rw [hb] at h; cases h
            | false =>
              rw [hb, cond_false] at h
              refine ⟨_, h, fun C m cx cy hx hy => ?_⟩
              rw [hx.inv_val, hy.inv_val]
              exact ⟨.string (a ++ b), by have := of_decide_eq_false hb; simp only [eqGuard, binOp, Op.stringOp, Sem.run_bind]; rw [if_neg this]; rfl, .val _⟩
          · split at h
            · rename_i r' hp
              exact ⟨_, h, .pure hp⟩
            · cases h
        · cases h
      · split at h
        · rename_i r' hp
          exact ⟨_, h, .pure hp⟩
        · cases h
    · cases h
  · rename_i cs
    split at h
    · split at h
      · rename_i q hq
        refine ⟨_, h, fun C m cx cy hx hy => ?_⟩
        obtain ⟨a, b, rfl, rfl, hg, hrun⟩ := eqAg_ok hq hx hy
        exact ⟨.bool q, by simp only [Sem.run_bind, run_eqGuard_agg _ t xo yo a b hg, Result.andThen_ok, binOp, hrun, Sem.run_pure], .val _⟩
      · cases h
    · split at h
      · rename_i q hq
        refine ⟨_, h, fun C m cx cy hx hy => ?_⟩
        obtain ⟨a, b, rfl, rfl, hg, hrun⟩ := eqAg_ok hq hx hy
        exact ⟨.bool !q, by simp only [Sem.run_bind, run_eqGuard_agg _ t xo yo a b hg, Result.andThen_ok, binOp, hrun, Sem.run_pure], .val _⟩
      · cases h
    · cases h
  · rename_i ct l
    split at h
    · split at h
      · rename_i e hu
        have gd : ∀ (op : BinOp) (a : Addr) (n k : Nat) (w : World), (eqGuard op t xo yo (.slice (some a) n k) (.slice none 0 0)).run P w = .ok () w := by
          intro op a n k w; unfold eqGuard; cases op <;> rfl
        split at h
        · cases hl : l.isEmpty with
          | true => rw [hl] at h; cases h
          | false =>
            rw [hl, cond_false] at h
            refine ⟨_, h, fun C m cx cy hx hy => ?_⟩
            obtain ⟨a, n, k, rfl⟩ := hx.vt_some hl
            rw [hy.inv_val]
            have hq := run_equal_slice_nil C.w t e (some a) n k hu
            exact ⟨.bool false, by simp only [Sem.run_bind, gd, Result.andThen_ok, binOp, hq, Sem.run_pure]; rfl, .val _⟩
        · cases hl : l.isEmpty with
          | true => rw [hl] at h; cases h
          | false =>
            rw [hl, cond_false] at h
            refine ⟨_, h, fun C m cx cy hx hy => ?_⟩
            obtain ⟨a, n, k, rfl⟩ := hx.vt_some hl
            rw [hy.inv_val]
            have hq := run_equal_slice_nil C.w t e (some a) n k hu
            exact ⟨.bool true, by simp only [Sem.run_bind, gd, Result.andThen_ok, binOp, hq, Sem.run_pure]; rfl, .val _⟩
        · cases h
      · cases h
    · cases h
  · rename_i t' v
    split at h
    · split at h
      · rename_i ms hu
        have gd : ∀ (op : BinOp) (c : Value) (w : World), (eqGuard op t xo yo (.iface t' c) .nilIface).run P w = .ok () w := by
          intro op c w; unfold eqGuard; cases op <;> rfl
        have hq0 : ∀ (d : Nat) (c : Value) (w : World), (Op.equalIn (d + 1) t (.iface t' c) .nilIface).run P w = .ok false w := fun d c w => by
          simp [Op.equalIn, run_underlying hu]
        have hq : ∀ (c : Value) (w : World), (Op.equal t (.iface t' c) .nilIface).run P w = .ok false w := fun c w => hq0 9999 c w
        split at h
        · refine ⟨_, h, fun C m cx cy hx hy => ?_⟩
          rw [hy.inv_val]
          cases hx with
          | iface hx => exact ⟨.bool false, by simp only [Sem.run_bind, gd, Result.andThen_ok, binOp, hq, Sem.run_pure], .val _⟩
        · refine ⟨_, h, fun C m cx cy hx hy => ?_⟩
          rw [hy.inv_val]
          cases hx with
          | iface hx => exact ⟨.bool true, by simp only [Sem.run_bind, gd, Result.andThen_ok, binOp, hq, Sem.run_pure]; rfl, .val _⟩
        · cases h
      · cases h
    · cases h
  · cases h
end Go.Va