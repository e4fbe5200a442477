/-
  The operations of a region as abstract steps, in the style of continuations, and that each is sound: whoever is in the state before is in the state behind.
  Conditions: none.
-/
import Derived.Test.YtnidnmhcjngmeaaGreatVaState
import Derived.Laws.StructEq
import Derived.Laws.Entries
import Derived.Laws.Shifts
set_option linter.unusedVariables false
set_option linter.unusedSimpArgs false
set_option autoImplicit false
namespace Go.Va

/-! ### Operands -/
def ofVal : Value → AV
  | .agg cs => .agg (cs.toList.map .val)
  | .tuple cs => .tup (cs.toList.map .val)
  | v => .val v

theorem VRel.of_vals (C : Cx) (m : Bool) (l : List Value) (j : Nat) : VRel C m (gt (l.map .val) j) (vg l j) := by
  rw [gt_eq, vg]
  by_cases h : j < l.length
  · simp only [List.getD_eq_getElem?_getD, List.getElem?_map, List.getElem?_eq_getElem h, Option.map_some, Option.getD_some]; exact .val _
  · simp only [List.getD_eq_getElem?_getD, List.getElem?_map, List.getElem?_eq_none (Nat.le_of_not_lt h), Option.map_none, Option.getD_none]; exact .junk _

theorem VRel.ofVal (C : Cx) (m : Bool) (v : Value) : VRel C m (ofVal v) v := by
  cases v with
  | agg cs => exact .agg cs.toList (by simp) (VRel.of_vals C m _)
  | tuple cs => exact .tup cs.toList (by simp) (VRel.of_vals C m _)
  | _ => exact .val _

/-- A pointer of which it is known where it leads, as one of which it is not. -/
def unpp : AV → AV
  | .pp b off => .ptr b off
  | v => v

theorem VRel.unpp {C : Cx} {m : Bool} {v : AV} {c : Value} (h : VRel C m v c) : VRel C m (Va.unpp v) c := by
  cases h with
  | pp h _ => exact .ptr h
  | junk => exact .junk _
  | val => exact .val _
  | ptr h => exact .ptr h
  | cell vs hB hn hl hc hr => exact .cell vs hB hn hl hc hr
  | vec0 => exact .vec0
  | vec f hB hn hcap hmax hl hc hr => exact .vec f hB hn hcap hmax hl hc hr
  | sl h hk hl hmax hln => exact .sl h hk hl hmax hln
  | fn vs hl hr => exact .fn vs hl hr
  | iface h => exact .iface h
  | agg vs hl hr => exact .agg vs hl hr
  | tup vs hl hr => exact .tup vs hl hr
  | vt h => exact .vt h
  | so h hnl hz hn hk hl hmax => exact .so h hnl hz hn hk hl hmax
  | so0 h hnl => exact .so0 h hnl
  | pe h hnl => exact .pe h hnl
  | mpp h => exact .mpp h

def evA (tm : List AV) : Operand → AV
  | .tmp t => unpp (gt tm t)
  | .const v => ofVal v
  | .global _ => .junk
  | .func f => .fn f []

theorem Rep.ev {w0 : World} {O : Env} {C : Cx} {s : St} {a : Act} (hr : Rep w0 O C s a) (x : Operand) : VRel C true (evA s.tm x) (a.eval x) := by
  cases x with
  | tmp t => exact (hr.tm t).unpp
  | const v => exact VRel.ofVal C true v
  | global g => exact .junk _
  | func f => exact .fn [] rfl (fun j => .junk _)

/-! ### What an operation comes to -/
/-- The value for its temporary; the owned blocks that it looked at; those that it writes; the block all other addresses of which are given up. -/
structure ORes where
  v : AV
  foot : List Nat
  upd : List (Nat × Blk)
  kill : Option Nat

def upds (hp : List Blk) : List (Nat × Blk) → List Blk
  | [] => hp
  | p :: l => upds (sb hp p.1 p.2) l

def killV (b : Nat) (v : AV) : AV := bif v.only (fun x => !(x == b)) then v else .junk

def killT : Option Nat → List AV → List AV
  | none, l => l
  | some b, l => l.map (killV b)

def killB (b : Nat) : Blk → Blk
  | .row cs t cl => bif cl then .row cs t cl else .row (cs.map (killV b)) t cl
  | x => x

def killH : Option Nat → List Blk → List Blk
  | none, l => l
  | some b, l => l.map (killB b)

def ORes.st (r : ORes) (d : Option Tmp) (s : St) : St := ⟨putA (killT r.kill s.tm) d r.v, upds (killH r.kill s.hp) r.upd⟩

/-- The state at hand agrees with the one that was reckoned with, where the operation looks. -/
structure Agree (o : Oper) (tm : List AV) (hp : List Blk) (r : ORes) (tm' : List AV) (hp' : List Blk) : Prop where
  ops : ∀ x ∈ o.op.operands, evA tm' x = evA tm x
  foot : ∀ b ∈ r.foot, gb hp' b = gb hp b
  len : hp'.length = hp.length

theorem Agree.same (o : Oper) (tm : List AV) (hp : List Blk) (r : ORes) : Agree o tm hp r tm hp := ⟨fun _ _ => rfl, fun _ _ => rfl, rfl⟩

def OpOk (P : Program) (o : Oper) (tm : List AV) (hp : List Blk) (r : ORes) : Prop :=
  ∀ (w0 : World) (O : Env) (C : Cx) (tm' : List AV) (hp' : List Blk) (a : Act), Rep w0 O C ⟨tm', hp'⟩ a → Agree o tm hp r tm' hp' →
    ∀ (K : Act → World → Prop) (Q : Exit → Act → World → Prop), (∀ C' a', Rep w0 O C' (r.st o.dst ⟨tm', hp'⟩) a' → K a' C'.w) → o.wp P a C.w K Q

def AV.one : AV → Bool
  | .val v => v.oneCell'
  | .ptr .. | .cell .. | .vec .. | .sl .. | .fn .. | .iface .. => true
  | .vt .. | .so .. | .pe .. | .mpp .. | .pp .. => true
  | _ => false

theorem VRel.vec_one {C : Cx} {m : Bool} {n sz : Nat} {g : Nat → List AV} {c : Value} (h : VRel C m (.vec n sz g) c) : c.oneCell' = true := by cases h <;> rfl

theorem VRel.one {C : Cx} {m : Bool} {v : AV} {c : Value} (h : VRel C m v c) (h1 : v.one = true) : c.oneCell' = true := by
  cases h <;> first | rfl | exact h1 | (cases h1; done) | (rename_i h; exact h.vec_one)

/-- An operation that leaves a value and the world as it was. -/
theorem OpOk.value {P : Program} {o : Oper} {tm : List AV} {hp : List Blk} {v : AV} {foot : List Nat}
    (h : ∀ (w0 : World) (O : Env) (C : Cx) (tm' : List AV) (hp' : List Blk) (a : Act), Rep w0 O C ⟨tm', hp'⟩ a → Agree o tm hp ⟨v, foot, [], none⟩ tm' hp' →
      ∃ c, (execOp a.eval o).run P C.w = .ok (.value c) C.w ∧ VRel C true v c) : OpOk P o tm hp ⟨v, foot, [], none⟩ := by
  intro w0 O C tm' hp' a hr ha K Q hK
  obtain ⟨c, h1, h2⟩ := h w0 O C tm' hp' a hr ha
  unfold Oper.wp
  rw [h1]
  exact hK C _ (hr.put o.dst h2)

theorem OpOk.of_run {P : Program} {o : Oper} {tm : List AV} {hp : List Blk} {v : AV} {foot : List Nat}
    (h : ∀ (C : Cx) (tm' : List AV) (hp' : List Blk) (a : Act), HRel C hp' → (∀ x ∈ o.op.operands, VRel C true (evA tm x) (a.eval x)) → (∀ b ∈ foot, gb hp' b = gb hp b) →
      ∃ c, (execOp a.eval o).run P C.w = .ok (.value c) C.w ∧ VRel C true v c) : OpOk P o tm hp ⟨v, foot, [], none⟩ :=
  .value fun w0 O C tm' hp' a hr ha => h C tm' hp' a hr.hp (fun x hx => by rw [← ha.ops x hx]; exact hr.ev x) ha.foot

/-! ### Programs that look at nothing but the program -/
def pureRun (P : Program) {α : Type} : Sem α → Option α
  | .pure a => some a
  | .program k => pureRun P (k P)
  | _ => none

theorem pureRun_run {P : Program} {α : Type} {s : Sem α} {a : α} (h : pureRun P s = some a) (w : World) : s.run P w = .ok a w := by
  induction s with
  | pure b => simp only [pureRun, Option.some.injEq] at h; subst h; rfl
  | program k ih => exact ih P h
  | _ => cases h

/-! ### Values without addresses, as the model has them -/
def toVs : List AV → Option (List Value)
  | [] => some []
  | v :: l => match v with
    | .val u => match toVs l with
      | some r => some (u :: r)
      | none => none
    | _ => none

def toV : AV → Option Value
  | .val v => some v
  | .agg l => match toVs l with
    | some r => some (.agg r.toArray)
    | none => none
  | _ => none

theorem toVs_rel {C : Cx} {m : Bool} {l : List AV} {vs r : List Value} (h : toVs l = some r) (hl : vs.length = l.length) (hr : ∀ j, VRel C m (gt l j) (vg vs j)) : vs = r := by
  induction l generalizing vs r with
  | nil => simp [toVs] at h; subst h; exact List.eq_nil_of_length_eq_zero hl
  | cons v l ih =>
    cases vs with
    | nil => simp at hl
    | cons c vs =>
      unfold toVs at h
      split at h
      · rename_i u
        split at h
        · rename_i r' hq
          simp only [Option.some.injEq] at h
          subst h
          have h0 : VRel C m (.val u) c := hr 0
          rw [h0.inv_val, ih hq (by simpa using hl) (fun j => hr (j + 1))]
        · cases h
      · cases h

theorem toV_rel {C : Cx} {m : Bool} {v : AV} {c u : Value} (hr : VRel C m v c) (h : toV v = some u) : c = u := by
  cases v with
  | val v => simp [toV] at h; subst h; exact hr.inv_val
  | agg l =>
    simp only [toV] at h
    split at h <;> try cases h
    rename_i r hq
    cases hr with
    | agg vs hl hr => rw [toVs_rel hq hl hr]
  | _ => simp [toV] at h

/-! ### Comparison of values -/
mutual
def eqVal (P : Program) : Nat → TypeId → Value → Value → Option Bool
  | 0, _, _, _ => none
  | d + 1, t, a, b => match P.underlying t, a, b with
    | some (.int _), .int j x, .int k y => if j = k then some (x == y) else none
    | some .bool, .bool x, .bool y => some (x == y)
    | some .string, .string x, .string y => some (x.toList == y.toList)
    | some (.struct fs), .agg xs, .agg ys => bif P.stoodInHeld t then none else eqFs P d xs ys fs.toList
    | _, _, _ => none
def eqFs (P : Program) : Nat → Array Value → Array Value → List Field → Option Bool
  | 0, _, _, _ => none
  | d + 1, xs, ys, l => match l with
    | [] => some true
    | f :: fs => match decide (f.name = "_"), pureRun P (part f.type xs f.offset), pureRun P (part f.type ys f.offset) with
      | false, some a, some b => match eqVal P d f.type a b, eqFs P d xs ys fs with
        | some r, some q => some (r && q)
        | _, _ => none
      | _, _, _ => none
end
theorem eq_sound (P : Program) (w : World) (d : Nat) :
    (∀ t a b r D, d ≤ D → eqVal P d t a b = some r → (Op.equalIn D t a b).run P w = .ok r w) ∧
    (∀ xs ys l r D, d ≤ D + 1 → eqFs P d xs ys l = some r → (Op.eqFields D xs ys l).run P w = .ok r w) := by
  induction d with
  | zero => exact ⟨fun t a b r D _ h => (by simp [eqVal] at h), fun xs ys l r D _ h => (by simp [eqFs] at h)⟩
  | succ d ih =>
    obtain ⟨ih1, ih2⟩ := ih
    refine ⟨fun t a b r D hD h => ?_, fun xs ys l r D hD h => ?_⟩
    · obtain ⟨D, rfl⟩ : ∃ k, D = k + 1 := ⟨D - 1, by omega⟩
      unfold eqVal at h
      split at h
      · rename_i k k1 x k2 y hu
        split at h
        · rename_i e
          subst e
          simp only [Option.some.injEq] at h; subst h
          simp [Op.equalIn, run_underlying hu]
        · cases h
      · rename_i x y hu
        simp only [Option.some.injEq] at h; subst h
        exact run_equalIn_bool w D t x y hu
      · rename_i x y hu
        simp only [Option.some.injEq] at h; subst h
        exact run_equalIn_string w D t x y hu
      · rename_i fs xs ys hu
        cases hs : P.stoodInHeld t with
        | true => rw [hs] at h; cases h
        | false =>
          rw [hs] at h
          have hf : P.fieldsOf t = fs := by simp [Program.fieldsOf, hu]
          rw [run_equalIn_struct w D t xs ys (by rw [hf]; exact hu) hs, hf]
          exact ih2 xs ys fs.toList r D (by omega) h
      · cases h
    · unfold eqFs at h
      split at h
      · simp only [Option.some.injEq] at h; subst h; rfl
      · rename_i f fs
        split at h
        · rename_i a b hn ha hb
          split at h
          · rename_i r1 q hr1 hq
            simp only [Option.some.injEq] at h; subst h
            have hne : f.name ≠ "_" := by simpa using hn
            have e1 := ih1 f.type a b r1 D (by omega) hr1
            have e2 := ih2 xs ys fs q D (by omega) hq
            simp only [Op.eqFields, hne, ne_eq, not_false_eq_true, if_true, Sem.run_bind, pureRun_run ha, pureRun_run hb, Result.andThen_ok, e1]
            cases r1
            · simp
            · simp [e2]
          · cases h
        · cases h
end Go.Va
