/-
  Lengths, cuts, interface values, function values, abstractly.
  Conditions: none.
-/
import Derived.Test.YtnidnmhcjngmeaaGreatVaCall
set_option linter.unusedVariables false
set_option linter.unusedSimpArgs false
set_option autoImplicit false
namespace Go.Va

section
variable {β : Type} (P : Program) (tm : List AV) (hp : List Blk) (K : ORes → Option β)

def lenK (t : TypeId) (x : AV) : Option β := match P.underlying t with
  | some .string => match x with
    | .val (.string s) => K ⟨.val (.int .i64 (s.size : Int)), [], [], none⟩
    | _ => none
  | some (.slice _) => match x with
    | .vec n _ _ => K ⟨.val (.int .i64 (n : Int)), [], [], none⟩
    | .sl _ _ n _ => K ⟨.val (.int .i64 (n : Int)), [], [], none⟩
    | .val (.slice _ n _) => K ⟨.val (.int .i64 (n : Int)), [], [], none⟩
    | .vt _ l => K ⟨.val (.int .i64 (l.length : Int)), [], [], none⟩
    | .so b sz => match gb hp b with
      | .rt c l _ => bif c.sz == sz then K ⟨.val (.int .i64 (l.length : Int)), [b], [], none⟩ else none
      | _ => none
    | _ => none
  | some (.array n _) => K ⟨.val (.int .i64 (n : Int)), [], [], none⟩
  | _ => none

def manyK (b : Builtin) (ats : Array TypeId) (ty : TypeId) (xs : List AV) : Option β := match toVs xs with
  | some vs => match b with
    | .max => pureK P K (Builtin.max_ ats ty vs.toArray)
    | .min => pureK P K (Builtin.min_ ats ty vs.toArray)
    | _ => none
  | none => none

def boundK (v : Option AV) (dflt top : Nat) (L : Nat → Option β) : Option β := match v with
  | none => L dflt
  | some (.val (.int _ i)) => bif decide (0 ≤ i) && decide (i ≤ (top : Int)) then L i.toNat else none
  | _ => none

def sliceK (t : TypeId) (x : AV) (lo hi : Option AV) : Option β := match x with
  | .val (.string s) => match P.underlying t with
    | some .string => boundK hi s.size s.size fun h => boundK lo 0 h fun l => K ⟨.val (.string (s.extract l h)), [], [], none⟩
    | _ => none
  | .vec n sz g => match P.underlying t with
    | some (.slice e) => match P.info? e with
      | some i => bif i.size == sz then boundK hi n n fun h => boundK lo 0 h fun l => K ⟨.vec (h - l) sz (fun j => g (l + j)), [], [], none⟩ else none
      | none => none
    | _ => none
  | .vt c m => match P.underlying t with
    | some (.slice e) => match P.info? e with
      | some i => bif i.size == c.sz then boundK hi m.length m.length fun h => boundK lo 0 h fun l => K ⟨.vt c ((m.drop l).take (h - l)), [], [], none⟩ else none
      | none => none
    | _ => none
  | .sl b off n sz => match P.underlying t with
    | some (.slice e) => match P.info? e with
      | some i => bif i.size == sz then boundK hi n n fun h => match lo with
          | none => K ⟨.sl b off h sz, [], [], none⟩
          | some _ => boundK lo 0 h fun l => bif decide (l < h) then K ⟨.sl b (off + l * sz) (h - l) sz, [], [], none⟩ else none
        else none
      | none => none
    | _ => none
  | _ => none

def concrete (t : TypeId) : Bool := match P.underlying t with
  | some (.interface _) => false
  | some _ => true
  | none => false

def ifaceK (t : TypeId) (x : AV) : Option β := bif concrete P t then K ⟨.iface t x, [], [], none⟩ else none

def nilCheckK (x : AV) : Option β := match x with
  | .ptr b off => K ⟨.ptr b off, [], [], none⟩
  | .cell cs => K ⟨.cell cs, [], [], none⟩
  | .fn f l => K ⟨.fn f l, [], [], none⟩
  | .iface t v => K ⟨.iface t v, [], [], none⟩
  | _ => none

def makeFuncK (fn : Fn) (first captured : List Operand) : Option β := match fn with
  | .func f => match first with
    | [] => K ⟨.fn f (captured.map (evA tm)), [], [], none⟩
    | _ => none
  | _ => none
end

section
variable {β : Type} {P : Program} {tm : List AV} {hp : List Blk} {K : ORes → Option β} {o : Oper} {r : β}

theorem boundK_ok {β : Type} {v : Option AV} {dflt top : Nat} {L : Nat → Option β} {r : β} (h : boundK v dflt top L = some r) :
    ∃ n, L n = some r ∧ ((v = none ∧ n = dflt) ∨ ∃ k i, v = some (.val (.int k i)) ∧ 0 ≤ i ∧ i ≤ (top : Int) ∧ n = i.toNat) := by
  unfold boundK at h
  split at h
  · exact ⟨_, h, .inl ⟨rfl, rfl⟩⟩
  · rename_i k i
    cases hb : (decide (0 ≤ i) && decide (i ≤ (top : Int))) with
    | false => rw [hb] at h; cases h
    | true =>
      rw [hb, cond_true] at h
      simp only [Bool.and_eq_true, decide_eq_true_eq] at hb
      exact ⟨_, h, .inr ⟨k, i, rfl, hb.1, hb.2, rfl⟩⟩
  · cases h

theorem run_builtin1 {b : Builtin} {x : Operand} {t : TypeId} (ho : o.op = .call { callee := .builtin b, args := #[x], argTypes := #[t] }) (a : Act) (w : World) :
    ∃ consts, (execOp a.eval o).run P w = (builtin b #[t] o.type consts #[a.eval x]).run P w := by
  refine ⟨(#[x] : Array Operand).map (fun | .const _ => true | _ => false), ?_⟩
  unfold execOp
  simp only [ho]
  rw [Sem.run_bind]
  simp only [resolve, Sem.run_pure, Result.andThen_ok, invoke]
  have e : Array.map a.eval #[x] = #[a.eval x] := by simp
  rw [e]
  rfl

theorem run_builtins {b : Builtin} {args : Array Operand} {ats : Array TypeId} (ho : o.op = .call { callee := .builtin b, args := args, argTypes := ats }) (a : Act) (w : World) :
    ∃ consts, (execOp a.eval o).run P w = (builtin b ats o.type consts (args.map a.eval)).run P w := by
  refine ⟨args.map (fun | .const _ => true | _ => false), ?_⟩
  unfold execOp
  simp only [ho]
  rw [Sem.run_bind]
  simp only [resolve, Sem.run_pure, Result.andThen_ok, invoke]
  rfl

theorem many_ok {b : Builtin} {args : Array Operand} {ats : Array TypeId} (ho : o.op = .call { callee := .builtin b, args := args, argTypes := ats }) (h : manyK P K b ats o.type (args.toList.map (evA tm)) = some r) : Ends P o tm hp K r := by
  unfold manyK at h
  split at h
  · rename_i vs hvs
    have key : ∀ (C : Cx) (a : Act), (∀ x ∈ o.op.operands, VRel C true (evA tm x) (a.eval x)) → args.map a.eval = vs.toArray := by
      intro C a hv
      have hc := Cells.of_ops (C := C) (tm := tm) (ev := a.eval) args.toList (fun x hx => hv x (by
        simp only [ho, Op.operands, Call.operands]; exact Array.mem_append.2 (.inr (Array.mem_toList_iff.1 hx))))
      have := toVs_rel hvs hc.1 hc.2
      apply Array.toList_inj.1
      simpa using this
    split at h
    · unfold pureK at h
      split at h
      · rename_i u hu
        refine ⟨_, h, .of_run fun C tm' hp' a hr hv _ => ?_⟩
        obtain ⟨cs, hrun⟩ := run_builtins (P := P) ho a C.w
        refine ⟨u, ?_, .val _⟩
        rw [hrun, key C a hv]
        simp only [builtin]
        rw [Sem.run_bind, pureRun_run hu]; rfl
      · cases h
    · unfold pureK at h
      split at h
      · rename_i u hu
        refine ⟨_, h, .of_run fun C tm' hp' a hr hv _ => ?_⟩
        obtain ⟨cs, hrun⟩ := run_builtins (P := P) ho a C.w
        refine ⟨u, ?_, .val _⟩
        rw [hrun, key C a hv]
        simp only [builtin]
        rw [Sem.run_bind, pureRun_run hu]; rfl
      · cases h
    · cases h
  · cases h

theorem len_ok {x : Operand} {t : TypeId} (ho : o.op = .call { callee := .builtin .len, args := #[x], argTypes := #[t] }) (h : lenK P hp K t (evA tm x) = some r) : Ends P o tm hp K r := by
  have hmx : x ∈ o.op.operands := by simp [ho, Op.operands, Call.operands]
  have fin : ∀ (n : Nat), (∀ (C : Cx) (c : Value), VRel C true (evA tm x) c → (Builtin.len_ #[t] o.type #[c]).run P C.w = .ok (goInt n) C.w) → K ⟨.val (.int .i64 (n : Int)), [], [], none⟩ = some r → Ends P o tm hp K r := by
    intro n hn hK
    refine ⟨_, hK, .of_run fun C tm' hp' a hr hv _ => ?_⟩
    obtain ⟨cs, hrun⟩ := run_builtin1 (P := P) ho a C.w
    refine ⟨.int .i64 n, ?_, .val _⟩
    rw [hrun]
    simp only [builtin]
    rw [Sem.run_bind, hn C _ (hv x hmx)]; rfl
  unfold lenK at h
  split at h
  · rename_i hu
    split at h
    · rename_i s hx
      refine fin _ (fun C c hc => ?_) h
      rw [hx] at hc
      rw [hc.inv_val]
      simp [Builtin.len_, run_underlying hu]
    · cases h
  · rename_i e hu
    split at h
    · rename_i n sz g hx
      refine fin _ (fun C c hc => ?_) h
      rw [hx] at hc
      cases hc with
      | vec0 => simp [Builtin.len_, run_underlying hu]
      | vec => simp [Builtin.len_, run_underlying hu]
    · rename_i b off n sz hx
      refine fin _ (fun C c hc => ?_) h
      rw [hx] at hc
      cases hc with
      | sl => simp [Builtin.len_, run_underlying hu]
    · rename_i a n c' hx
      refine fin _ (fun C c hc => ?_) h
      rw [hx] at hc
      rw [hc.inv_val]
      simp [Builtin.len_, run_underlying hu]
    · rename_i ct l hx
      refine fin _ (fun C c hc => ?_) h
      rw [hx] at hc
      cases hc with
      | vt hc =>
        generalize l.length = n at hc ⊢
        cases hc with
        | vec0 => simp [Builtin.len_, run_underlying hu]
        | vec => simp [Builtin.len_, run_underlying hu]
    · rename_i b sz hx
      split at h
      · rename_i ct l t' hbk
        cases hs : (ct.sz == sz) with
        | false => rw [hs] at h; cases h
        | true =>
          rw [hs, cond_true] at h
          have hs := beq_iff_eq.1 hs
          subst hs
          refine ⟨_, h, .of_run fun C tm' hp' a hr hv hag => ?_⟩
          obtain ⟨cs, hrun⟩ := run_builtin1 (P := P) ho a C.w
          refine ⟨.int .i64 l.length, ?_, .val _⟩
          have hbk' : gb hp' b = .rt ct l t' := by rw [hag b (by simp), hbk]
          obtain ⟨_, hln, hor⟩ := hr.rt b ct l t' hbk'
          have hc := hv x hmx
          rw [hx] at hc
          rw [hrun]
          simp only [builtin]
          rw [Sem.run_bind]
          generalize a.eval x = cc at hc
          cases hc with
          | @so _ _ n cap hal hnl hz hn hk hl hmax =>
            have hnn : n = l.length := Nat.eq_of_mul_eq_mul_right hz (hn.trans hln)
            subst hnn
            simp [Builtin.len_, run_underlying hu]; rfl
          | so0 hal hnl =>
            rcases hor with ⟨_, rfl⟩ | ⟨h3, _⟩
            · simp [Builtin.len_, run_underlying hu]; rfl
            · rw [hnl] at h3; cases h3
      · cases h
    · cases h
  · rename_i n e hu
    exact fin _ (fun C c hc => by simp [Builtin.len_, run_underlying hu]) h
  · cases h

theorem run_sliceBound (v : Value) (k : IntKind) (i : Int) (top : Nat) (code : BoundsCode) (hv : v = .int k i) (h0 : 0 ≤ i) (h1 : i ≤ (top : Int)) (w : World) : (Instr.sliceBound v top code).run P w = .ok i.toNat w := by
  subst hv
  unfold Instr.sliceBound
  simp only [asIntOf, Sem.run_bind, Sem.run_pure, Result.andThen_ok]
  rw [if_pos ⟨h0, h1⟩]; rfl

def optV (ev : Operand → AV) : Option Operand → Option AV
  | none => none
  | some x => some (ev x)

/-- The bounds of a cut, as the model finds them. -/
theorem run_bounds {isSlice : Bool} {len cap h l : Nat} {ev : Operand → Value} {lo hi : Option Operand} {C : Cx} (hcap : len ≤ cap)
    (hlo : ∀ x, lo = some x → VRel C true (evA tm x) (ev x)) (hhi : ∀ x, hi = some x → VRel C true (evA tm x) (ev x))
    (hh : (optV (evA tm) hi = none ∧ h = len) ∨ ∃ k i, optV (evA tm) hi = some (.val (.int k i)) ∧ 0 ≤ i ∧ i ≤ (len : Int) ∧ h = i.toNat)
    (hl : (optV (evA tm) lo = none ∧ l = 0) ∨ ∃ k i, optV (evA tm) lo = some (.val (.int k i)) ∧ 0 ≤ i ∧ i ≤ (h : Int) ∧ l = i.toNat) (w : World) :
    (Instr.sliceBounds isSlice len cap (lo.map ev) (hi.map ev) none).run P w = .ok (l, h, cap) w := by
  have e1 : ∀ x, hi = some x → ∀ code, (Instr.sliceBound (ev x) cap code).run P w = .ok h w := by
    intro x hx code
    subst hx
    rcases hh with ⟨he, _⟩ | ⟨k, i, he, h0, h1, rfl⟩
    · cases he
    · simp only [optV, Option.some.injEq] at he
      have := hhi x rfl
      rw [he] at this
      exact run_sliceBound _ k i cap _ this.inv_val h0 (by omega) w
  have e2 : ∀ x, lo = some x → ∀ code, (Instr.sliceBound (ev x) h code).run P w = .ok l w := by
    intro x hx code
    subst hx
    rcases hl with ⟨he, _⟩ | ⟨k, i, he, h0, h1, rfl⟩
    · cases he
    · simp only [optV, Option.some.injEq] at he
      have := hlo x rfl
      rw [he] at this
      exact run_sliceBound _ k i h _ this.inv_val h0 h1 w
  unfold Instr.sliceBounds
  cases hi with
  | none =>
    have hh' : h = len := by
      rcases hh with ⟨_, rfl⟩ | ⟨k, i, he, _⟩
      · rfl
      · cases he
    subst hh'
    cases lo with
    | none =>
      have hl' : l = 0 := by
        rcases hl with ⟨_, rfl⟩ | ⟨k, i, he, _⟩
        · rfl
        · cases he
      subst hl'
      simp
    | some y =>
      simp only [Option.map_none, Option.map_some, Sem.run_bind, Sem.run_pure, Result.andThen_ok, e2 y rfl]
  | some x =>
    cases lo with
    | none =>
      have hl' : l = 0 := by
        rcases hl with ⟨_, rfl⟩ | ⟨k, i, he, _⟩
        · rfl
        · cases he
      subst hl'
      simp only [Option.map_none, Option.map_some, Sem.run_bind, Sem.run_pure, Result.andThen_ok, e1 x rfl]
    | some y =>
      simp only [Option.map_none, Option.map_some, Sem.run_bind, Sem.run_pure, Result.andThen_ok, e1 x rfl, e2 y rfl]

theorem slice_ok {t : TypeId} {x : Operand} {lo hi : Option Operand} (ho : o.op = .slice t x lo hi none) (h : sliceK P K t (evA tm x) (optV (evA tm) lo) (optV (evA tm) hi) = some r) : Ends P o tm hp K r := by
  have hmx : x ∈ o.op.operands := by simp [ho, Op.operands]
  have hml : ∀ y, lo = some y → y ∈ o.op.operands := fun y hy => by simp [ho, Op.operands, hy]
  have hmh : ∀ y, hi = some y → y ∈ o.op.operands := fun y hy => by simp [ho, Op.operands, hy]
  unfold sliceK at h
  split at h
  · rename_i s hx
    split at h
    · rename_i hu
      obtain ⟨hh, h1, hb1⟩ := boundK_ok h
      obtain ⟨ll, h2, hb2⟩ := boundK_ok h1
      refine ⟨_, h2, .of_run fun C tm' hp' a hr hv _ => ?_⟩
      have hc := hv x hmx; rw [hx] at hc
      refine ⟨_, ?_, .val _⟩
      have hbo := run_bounds (P := P) (isSlice := false) (cap := s.size) (ev := a.eval) (Nat.le_refl _) (fun y hy => hv y (hml y hy)) (fun y hy => hv y (hmh y hy)) hb1 hb2 C.w
      unfold execOp
      simp only [ho, hc.inv_val, Option.map_none]
      simp only [Instr.sliceAt, Instr.slice, Sem.run_bind, run_underlying hu, Result.andThen_ok, Option.isSome_none, Bool.false_eq_true, if_false, hbo, Sem.run_pure]
    · cases h
  · rename_i n sz g hx
    split at h
    · rename_i e hu
      split at h
      · rename_i ie hie
        cases hsz : (ie.size == sz) with
        | false => rw [hsz] at h; cases h
        | true =>
          rw [hsz, cond_true] at h
          have hsz := beq_iff_eq.1 hsz
          obtain ⟨hh, h1, hb1⟩ := boundK_ok h
          obtain ⟨ll, h2, hb2⟩ := boundK_ok h1
          have hhn : hh ≤ n := by rcases hb1 with ⟨_, rfl⟩ | ⟨_, i, _, _, _, rfl⟩ <;> omega
          have hlh : ll ≤ hh := by rcases hb2 with ⟨_, rfl⟩ | ⟨_, i, _, _, _, rfl⟩ <;> omega
          refine ⟨_, h2, .of_run fun C tm' hp' a hr hv _ => ?_⟩
          have hc := hv x hmx; rw [hx] at hc
          generalize hcc : a.eval x = cc at hc
          have run : ∀ (ad : Option Addr) (cap : Nat), n ≤ cap → cc = .slice ad n cap → (execOp a.eval o).run P C.w = .ok (.value (.slice (if cap = ll then ad else ad.map (·.add (ll * sz))) (hh - ll) (cap - ll))) C.w := by
            intro ad cap hcap hce
            have hbo := run_bounds (P := P) (isSlice := true) (ev := a.eval) hcap (fun y hy => hv y (hml y hy)) (fun y hy => hv y (hmh y hy)) hb1 hb2 C.w
            unfold execOp
            simp only [ho, hcc, hce, Option.map_none]
            simp only [Instr.sliceAt, Instr.slice, Sem.run_bind, run_underlying hu, Result.andThen_ok, hbo, run_sizeOf hie, Sem.run_pure, hsz]
          cases hc with
          | @vec0 _ _ _ ad =>
            have : hh = 0 := by omega
            subst this
            have : ll = 0 := by omega
            subst this
            have := run ad 0 (Nat.le_refl _) rfl
            rw [if_pos rfl] at this
            exact ⟨_, this, .vec0⟩
          | @vec _ _ _ _ B off cap f hB hn hcap hmax hl hcells hrel =>
            refine ⟨_, run _ cap hcap rfl, ?_⟩
            by_cases e : cap = ll
            · rw [if_pos e]
              have hz : hh - ll = 0 := by omega
              rw [hz]
              exact .vec (fun j => f (ll + j)) hB hn (Nat.zero_le _) (by omega) (fun j hj => by omega) (fun j hj => by omega) (fun j hj => by omega)
            · rw [if_neg e]
              simp only [Option.map_some, Addr.add_none]
              refine .vec (fun j => f (ll + j)) hB hn (by omega) (by omega) (fun j hj => hl _ (by omega)) (fun j hj c hc => ?_) (fun j hj c => hrel _ (by omega) c)
              have := hcells (ll + j) (by omega) c hc
              rw [show off + ll * sz + j * sz + c = off + (ll + j) * sz + c by rw [Nat.add_mul]; omega]
              exact this
      · cases h
    · cases h
  · rename_i ct m hx
    split at h
    · rename_i e hu
      split at h
      · rename_i ie hie
        cases hsz : (ie.size == ct.sz) with
        | false => rw [hsz] at h; cases h
        | true =>
          rw [hsz, cond_true] at h
          have hsz := beq_iff_eq.1 hsz
          obtain ⟨hh, h1, hb1⟩ := boundK_ok h
          obtain ⟨ll, h2, hb2⟩ := boundK_ok h1
          have hhn : hh ≤ m.length := by rcases hb1 with ⟨_, rfl⟩ | ⟨_, i, _, _, _, rfl⟩ <;> omega
          have hlh : ll ≤ hh := by rcases hb2 with ⟨_, rfl⟩ | ⟨_, i, _, _, _, rfl⟩ <;> omega
          refine ⟨_, h2, .of_run fun C tm' hp' a hr hv _ => ?_⟩
          have hc := hv x hmx; rw [hx] at hc
          generalize hcc : a.eval x = cc at hc
          have run : ∀ (ad : Option Addr) (cap : Nat), m.length ≤ cap → cc = .slice ad m.length cap → (execOp a.eval o).run P C.w = .ok (.value (.slice (if cap = ll then ad else ad.map (·.add (ll * ct.sz))) (hh - ll) (cap - ll))) C.w := by
            intro ad cap hcap hce
            have hbo := run_bounds (P := P) (isSlice := true) (ev := a.eval) hcap (fun y hy => hv y (hml y hy)) (fun y hy => hv y (hmh y hy)) hb1 hb2 C.w
            unfold execOp
            simp only [ho, hcc, hce, Option.map_none]
            simp only [Instr.sliceAt, Instr.slice, Sem.run_bind, run_underlying hu, Result.andThen_ok, hbo, run_sizeOf hie, Sem.run_pure, hsz]
          have hlen : ((m.drop ll).take (hh - ll)).length = hh - ll := by simp; omega
          have hget : ∀ j, j < hh - ll → ((m.drop ll).take (hh - ll)).getD j ct.df = m.getD (ll + j) ct.df := fun j hj => by
            simp [List.getD_eq_getElem?_getD, List.getElem?_take, hj, List.getElem?_drop]
          cases hc with
          | vt hc =>
            generalize hmn : m.length = n at hc run hhn
            cases hc with
            | @vec0 _ _ _ ad =>
              have e1 : hh = 0 := by omega
              have e2 : ll = 0 := by omega
              have := run ad 0 (by omega) rfl
              rw [e1, e2] at this
              refine ⟨_, this, ?_⟩
              rw [e1, e2]
              exact .vt (l := List.take (0 - 0) (List.drop 0 m)) (by simpa using VRel.vec0)
            | @vec _ _ _ _ B off cap f hB hn hcap hmax hl hcells hrel =>
              refine ⟨_, run _ cap hcap rfl, .vt ?_⟩
              rw [hlen]
              by_cases e : cap = ll
              · rw [if_pos e]
                have hz : hh - ll = 0 := by omega
                rw [hz]
                exact .vec (fun j => f (ll + j)) hB hn (Nat.zero_le _) (by omega) (fun j hj => by omega) (fun j hj => by omega) (fun j hj => by omega)
              · rw [if_neg e]
                simp only [Option.map_some, Addr.add_none]
                refine .vec (fun j => f (ll + j)) hB hn (by omega) (by omega) (fun j hj => ⟨(hl _ (by omega)).1, CT.enc_len _ _⟩) (fun j hj c hc => ?_) (fun j hj c => by rw [hget j hj]; exact hrel _ (by omega) c)
                have := hcells (ll + j) (by omega) c hc
                rw [show off + ll * ct.sz + j * ct.sz + c = off + (ll + j) * ct.sz + c by rw [Nat.add_mul]; omega]
                exact this
      · cases h
    · cases h
  · rename_i b off n sz hx
    split at h
    · rename_i e hu
      split at h
      · rename_i ie hie
        cases hsz : (ie.size == sz) with
        | false => rw [hsz] at h; cases h
        | true =>
          rw [hsz, cond_true] at h
          have hsz := beq_iff_eq.1 hsz
          obtain ⟨hh, h1, hb1⟩ := boundK_ok h
          have hhn : hh ≤ n := by rcases hb1 with ⟨_, rfl⟩ | ⟨_, i, _, _, _, rfl⟩ <;> omega
          have run : ∀ {ll : Nat}, ((optV (evA tm) lo = none ∧ ll = 0) ∨ ∃ k i, optV (evA tm) lo = some (.val (.int k i)) ∧ 0 ≤ i ∧ i ≤ (hh : Int) ∧ ll = i.toNat) →
              ∀ (C : Cx) (a : Act), (∀ x ∈ o.op.operands, VRel C true (evA tm x) (a.eval x)) → ∀ (ad : Option Addr) (cap : Nat), n ≤ cap → a.eval x = .slice ad n cap →
              (execOp a.eval o).run P C.w = .ok (.value (.slice (if cap = ll then ad else ad.map (·.add (ll * sz))) (hh - ll) (cap - ll))) C.w := by
            intro ll hb2 C a hv ad cap hcap hce
            have hbo := run_bounds (P := P) (isSlice := true) (ev := a.eval) hcap (fun y hy => hv y (hml y hy)) (fun y hy => hv y (hmh y hy)) hb1 hb2 C.w
            unfold execOp
            simp only [ho, hce, Option.map_none]
            simp only [Instr.sliceAt, Instr.slice, Sem.run_bind, run_underlying hu, Result.andThen_ok, hbo, run_sizeOf hie, Sem.run_pure, hsz]
          split at h1
          · rename_i hlo
            refine ⟨_, h1, .of_run fun C tm' hp' a hr hv _ => ?_⟩
            have hc := hv x hmx; rw [hx] at hc
            generalize hcc : a.eval x = cc at hc
            cases hc with
            | @sl _ _ _ _ cap hal hk hl hmax hln =>
              have := run (ll := 0) (.inl ⟨hlo, rfl⟩) C a hv _ cap hl hcc
              refine ⟨_, this, ?_⟩
              have e1 : (if cap = 0 then (some ⟨C.mu b, off, none⟩ : Option Addr) else (some ⟨C.mu b, off, none⟩ : Option Addr).map (·.add (0 * sz))) = some ⟨C.mu b, off, none⟩ := by
                simp [Addr.add]
              rw [e1]
              exact .sl hal hk (by omega) hmax (by have := Nat.mul_le_mul_right sz hhn; omega)
          · rename_i v hlo
            obtain ⟨ll, h2, hb2⟩ := boundK_ok h1
            cases hlt : decide (ll < hh) with
            | false => rw [hlt] at h2; cases h2
            | true =>
              rw [hlt, cond_true] at h2
              have hlt := of_decide_eq_true hlt
              refine ⟨_, h2, .of_run fun C tm' hp' a hr hv _ => ?_⟩
              have hc := hv x hmx; rw [hx] at hc
              generalize hcc : a.eval x = cc at hc
              cases hc with
              | @sl _ _ _ _ cap hal hk hl hmax hln =>
                have := run hb2 C a hv _ cap hl hcc
                refine ⟨_, this, ?_⟩
                rw [if_neg (by omega)]
                simp only [Option.map_some, Addr.add_none]
                refine .sl hal ?_ (by omega) (by omega) ?_
                · rw [← hk, Nat.add_assoc, ← Nat.add_mul]; congr 2; omega
                · have h3 : (ll + (hh - ll)) * sz ≤ n * sz := Nat.mul_le_mul_right sz (by omega)
                  rw [Nat.add_mul] at h3; omega
      · cases h
    · cases h
  · cases h

theorem iface_ok {t : TypeId} {x : Operand} (ho : o.op = .makeInterface t x) (h : ifaceK P K t (evA tm x) = some r) : Ends P o tm hp K r := by
  unfold ifaceK at h
  cases hc : concrete P t with
  | false => rw [hc] at h; cases h
  | true =>
    rw [hc, cond_true] at h
    refine ⟨_, h, .of_run fun C tm' hp' a hr hv _ => ⟨.iface t (a.eval x), ?_, .iface (hv x (by simp [ho, Op.operands]))⟩⟩
    unfold concrete at hc
    unfold execOp
    simp only [ho]
    rw [Sem.run_bind]
    unfold Instr.makeInterface
    split at hc
    · cases hc
    · rename_i d hnd hd
      rw [Sem.run_bind, run_underlying hd]
      cases d <;> first | rfl | exact absurd rfl (hnd _)
    · cases hc

theorem nilCheck_ok {x : Operand} (ho : o.op = .nilCheck x) (h : nilCheckK K (evA tm x) = some r) : Ends P o tm hp K r := by
  unfold nilCheckK at h
  have hmx : x ∈ o.op.operands := by simp [ho, Op.operands]
  split at h
  · rename_i b off hx
    refine ⟨_, h, .of_run fun C tm' hp' a hr hv _ => ?_⟩
    have h1 := hv x hmx; rw [hx] at h1
    refine ⟨a.eval x, ?_, h1⟩
    unfold execOp
    simp only [ho]
    generalize a.eval x = cc at h1
    cases h1; rfl
  · rename_i cs hx
    refine ⟨_, h, .of_run fun C tm' hp' a hr hv _ => ?_⟩
    have h1 := hv x hmx; rw [hx] at h1
    refine ⟨a.eval x, ?_, h1⟩
    unfold execOp
    simp only [ho]
    generalize a.eval x = cc at h1
    cases h1; rfl
  · rename_i f l hx
    refine ⟨_, h, .of_run fun C tm' hp' a hr hv _ => ?_⟩
    have h1 := hv x hmx; rw [hx] at h1
    refine ⟨a.eval x, ?_, h1⟩
    unfold execOp
    simp only [ho]
    generalize a.eval x = cc at h1
    cases h1; rfl
  · rename_i t v hx
    refine ⟨_, h, .of_run fun C tm' hp' a hr hv _ => ?_⟩
    have h1 := hv x hmx; rw [hx] at h1
    refine ⟨a.eval x, ?_, h1⟩
    unfold execOp
    simp only [ho]
    generalize a.eval x = cc at h1
    cases h1; rfl
  · cases h

theorem makeFunc_ok {fn : Fn} {first captured : Array Operand} (ho : o.op = .makeFunc fn first captured) (h : makeFuncK tm K fn first.toList captured.toList = some r) : Ends P o tm hp K r := by
  unfold makeFuncK at h
  split at h
  · rename_i f
    split at h
    · rename_i hf
      refine ⟨_, h, .of_run fun C tm' hp' a hr hv _ => ?_⟩
      have hf' : first = #[] := by apply Array.toList_inj.1; simpa using hf
      have hc := Cells.of_ops (C := C) (tm := tm) (ev := a.eval) captured.toList (fun x hx => hv x (by
        simp only [ho, Op.operands]; exact Array.mem_append.2 (.inr (Array.mem_toList_iff.1 hx))))
      refine ⟨.func (.func f) #[] (captured.map a.eval), ?_, ?_⟩
      · unfold execOp
        simp only [ho, hf', Instr.makeFunc]
        simp
      · have e : captured.map a.eval = (captured.toList.map a.eval).toArray := by apply Array.toList_inj.1; simp
        rw [e]
        exact .fn _ hc.1 hc.2
    · cases h
  · cases h
end
end Go.Va
