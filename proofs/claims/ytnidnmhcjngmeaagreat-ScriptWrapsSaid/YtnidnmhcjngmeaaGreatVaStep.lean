/-
  Each operation as an abstract step, and that it is sound.
  Conditions: none.
-/
import Derived.Test.YtnidnmhcjngmeaaGreatVaCt
set_option linter.unusedVariables false
set_option linter.unusedSimpArgs false
set_option autoImplicit false
namespace Go.Va

section
variable {β : Type} (P : Program) (tm : List AV) (hp : List Blk) (K : ORes → Option β)

def pickK (c a b : AV) : Option β :=
  match c with
  | .val (.bool x) => match a, b with
    | .val (.bool p), .val (.bool q) => K ⟨.val (.bool (bif x then p else q)), [], [], none⟩
    | a, b => bif x then K ⟨a, [], [], none⟩ else K ⟨b, [], [], none⟩
  | _ => none

def pureK (s : Sem Value) : Option β :=
  match pureRun P s with
  | some v => K ⟨.val v, [], [], none⟩
  | none => none

def unK (op : UnOp) (x : AV) : Option β := match x with
  | .val v => pureK P K (Op.unary op v)
  | _ => none

def convK (src dst : TypeId) (x : AV) : Option β := match x with
  | .val v => pureK P K (convert src dst v)
  | _ => none

def fieldOf (s : TypeId) (f : Nat) : Option (Nat × TypeId) := match P.underlying s with
  | some (.struct fs) => match fs[f]? with
    | some d => match P.info? d.type with
      | some i => bif i.size == 0 then none else some (d.offset, d.type)
      | none => none
    | none => none
  | _ => none

def addA (n : Nat) : AV → Option AV
  | .ptr b o => some (.ptr b (o + n))
  | .pe b i o sz => some (.pe b i (o + n) sz)
  | .cell cs => some (.cell (cs.drop n))
  | _ => none

def fieldAddrK (s : TypeId) (x : AV) (f : Nat) : Option β :=
  match fieldOf P s f with
  | some (n, _) => match addA n x with
    | some v => K ⟨v, [], [], none⟩
    | none => none
  | none => none

def fieldK (s : TypeId) (x : AV) (f : Nat) : Option β :=
  match fieldOf P s f with
  | some (n, t) => match x with
    | .agg cs => match partA P t (cs.drop n) with
      | some v => bif decide (n ≤ cs.length) then K ⟨v, [], [], none⟩ else none
      | none => none
    | _ => none
  | none => none

def extractK (x : AV) (ix : Nat) : Option β :=
  match x with
  | .tup vs => bif decide (ix < vs.length) then K ⟨gt vs ix, [], [], none⟩ else none
  | _ => none

def cellsA : AV → Option (List AV)
  | .agg l => some l
  | v => bif v.one then some [v] else none

def allOne : List AV → Bool
  | [] => true
  | v :: l => v.one && allOne l

def storeK (t : TypeId) (x v : AV) : Option β :=
  match x with
  | .ptr b off => match gb hp b with
    | .row cs e cl => match cellsA v, P.info? t with
      | some vs, some i => bif (decide (vs.length = i.size) && decide (off + vs.length ≤ cs.length)) && allOne vs then
          K ⟨.junk, [b], [(b, .row (cs.take off ++ vs ++ cs.drop (off + vs.length)) e (cl && AV.onlys noneb vs))], none⟩ else none
      | _, _ => none
    | _ => none
  | .pe b i off sz => match gb hp b with
    | .rt c l e => match cellsA v, P.info? t with
      | some vs, some inf => bif (((decide (vs.length = inf.size) && decide (off + vs.length ≤ c.sz)) && sz == c.sz) && (allOne vs && AV.onlys noneb vs)) && decide (i < l.length) then
          match c.decA ((c.enc (l.getD i c.df)).take off ++ vs ++ (c.enc (l.getD i c.df)).drop (off + vs.length)) with
          | some x => K ⟨.junk, [b], [(b, .rt c (l.set i x) e)], none⟩
          | none => none
        else none
      | _, _ => none
    | _ => none
  | _ => none

def newK (p : Nat) (e : TypeId) (cs : List AV) : Option β := match gb hp p with
  | .free => K ⟨.ptr p 0, [p], [(p, .row cs e (AV.onlys noneb cs))], none⟩
  | _ => none

def allocK (p : Nat) (t : TypeId) : Option β := match P.info? t with
  | some i => match i.zero with
    | some z => newK hp K p t (z.cells.toList.map .val)
    | none => none
  | none => none

def boxK (p : Nat) (t : TypeId) (v : AV) : Option β := match cellsA v with
  | some vs => newK hp K p t vs
  | none => none
end

/-! ### Soundness, one by one -/
section
variable {β : Type} {P : Program} {tm : List AV} {hp : List Blk} {K : ORes → Option β} {o : Oper} {r : β}

def Ends (P : Program) (o : Oper) (tm : List AV) (hp : List Blk) {β : Type} (K : ORes → Option β) (r : β) : Prop := ∃ q, K q = some r ∧ OpOk P o tm hp q

theorem move_ok {x : Operand} (ho : o.op = .move x ∨ o.op = .assign x) (h : K ⟨evA tm x, [], [], none⟩ = some r) : Ends P o tm hp K r :=
  ⟨_, h, .of_run fun C tm' hp' a hr hv _ => ⟨a.eval x, by rcases ho with ho | ho <;> (unfold execOp; simp only [ho]; rfl), hv x (by rcases ho with ho | ho <;> simp [ho, Op.operands])⟩⟩

theorem pick_ok {c x y : Operand} (ho : o.op = .pick c x y) (h : pickK K (evA tm c) (evA tm x) (evA tm y) = some r) : Ends P o tm hp K r := by
  unfold pickK at h
  have run : ∀ (a : Act) (C : Cx) (p : Bool), a.eval c = .bool p → (execOp a.eval o).run P C.w = .ok (.value (if p then a.eval x else a.eval y)) C.w := fun a C p hp => by
    unfold execOp; simp only [ho, hp]; rfl
  have mem : c ∈ o.op.operands ∧ x ∈ o.op.operands ∧ y ∈ o.op.operands := by simp [ho, Op.operands]
  split at h
  · rename_i p hc
    split at h
    · rename_i u v hx hy
      refine ⟨_, h, .of_run fun C tm' hp' a hr hv _ => ?_⟩
      have h1 := hv c mem.1; rw [hc] at h1
      have h2 := hv x mem.2.1; rw [hx] at h2
      have h3 := hv y mem.2.2; rw [hy] at h3
      refine ⟨_, run a C p h1.inv_val, ?_⟩
      rw [h2.inv_val, h3.inv_val]
      cases p <;> exact .val _
    · cases p with
      | true =>
        rw [cond_true] at h
        refine ⟨_, h, .of_run fun C tm' hp' a hr hv _ => ?_⟩
        have h1 := hv c mem.1; rw [hc] at h1
        exact ⟨_, run a C true h1.inv_val, hv x mem.2.1⟩
      | false =>
        rw [cond_false] at h
        refine ⟨_, h, .of_run fun C tm' hp' a hr hv _ => ?_⟩
        have h1 := hv c mem.1; rw [hc] at h1
        exact ⟨_, run a C false h1.inv_val, hv y mem.2.2⟩
  · cases h

theorem bin_ok {op : BinOp} {t ty : TypeId} {x y : Operand} (ho : o.op = .binOp op t x y ty) (h : binK P op t x y (evA tm x) (evA tm y) (fun v => K ⟨v, [], [], none⟩) = some r) : Ends P o tm hp K r := by
  obtain ⟨v, hK, hb⟩ := binK_ok h
  refine ⟨_, hK, .of_run fun C tm' hp' a hr hv _ => ?_⟩
  obtain ⟨c, h1, h2⟩ := hb C true _ _ (hv x (by simp [ho, Op.operands])) (hv y (by simp [ho, Op.operands]))
  refine ⟨c, ?_, h2⟩
  unfold execOp
  simp only [ho]
  rw [Sem.run_bind, h1]
  rfl

theorem un_ok {op : UnOp} {t : TypeId} {x : Operand} (ho : o.op = .unOp op t x) (h : unK P K op (evA tm x) = some r) : Ends P o tm hp K r := by
  unfold unK at h
  split at h
  · rename_i v hx
    unfold pureK at h
    split at h
    · rename_i u hu
      refine ⟨_, h, .of_run fun C tm' hp' a hr hv _ => ?_⟩
      have h1 := hv x (by simp [ho, Op.operands]); rw [hx] at h1
      refine ⟨u, ?_, .val _⟩
      unfold execOp
      simp only [ho, h1.inv_val]
      rw [Sem.run_bind, pureRun_run hu]; rfl
    · cases h
  · cases h

theorem conv_ok {src dst : TypeId} {x : Operand} (ho : o.op = .convert src dst x) (h : convK P K src dst (evA tm x) = some r) : Ends P o tm hp K r := by
  unfold convK at h
  split at h
  · rename_i v hx
    unfold pureK at h
    split at h
    · rename_i u hu
      refine ⟨_, h, .of_run fun C tm' hp' a hr hv _ => ?_⟩
      have h1 := hv x (by simp [ho, Op.operands]); rw [hx] at h1
      refine ⟨u, ?_, .val _⟩
      unfold execOp
      simp only [ho, h1.inv_val]
      rw [Sem.run_bind, pureRun_run hu]; rfl
    · cases h
  · cases h

theorem fieldOf_run {s : TypeId} {f n : Nat} {t : TypeId} (h : fieldOf P s f = some (n, t)) :
    ∃ fs d i, P.underlying s = some (.struct fs) ∧ fs[f]? = some d ∧ P.info? t = some i ∧ i.size ≠ 0 ∧ d.offset = n ∧ d.type = t := by
  unfold fieldOf at h
  split at h
  · rename_i fs hu
    split at h
    · rename_i d hd
      split at h
      · rename_i i hi
        cases hz : i.size == 0 with
        | true => rw [hz] at h; cases h
        | false =>
          rw [hz, cond_false, Option.some.injEq, Prod.mk.injEq] at h
          exact ⟨fs, d, i, hu, hd, h.2 ▸ hi, by simpa using hz, h.1, h.2⟩
      · cases h
    · cases h
  · cases h

theorem Addr.add_none (B off n : Nat) : (⟨B, off, none⟩ : Addr).add n = ⟨B, off + n, none⟩ := by unfold Addr.add; split <;> simp_all

theorem addA_ok {n : Nat} {x v : AV} (h : addA n x = some v) {C : Cx} {m : Bool} {c : Value} (hx : VRel C m x c) :
    ∃ B off, c = .pointer (some ⟨B, off, none⟩) ∧ VRel C m v (.pointer (some ⟨B, off + n, none⟩)) := by
  cases x with
  | ptr b off =>
    simp only [addA, Option.some.injEq] at h; subst h
    cases hx with
    | ptr hb => exact ⟨_, _, rfl, .ptr hb⟩
  | cell cs =>
    simp only [addA, Option.some.injEq] at h; subst h
    cases hx with
    | cell vs hB hn hl hc hr =>
      refine ⟨_, _, rfl, .cell (vs.drop n) hB hn (by simp [hl]) (fun j hj => ?_) (fun j => by rw [gt_drop, vg_drop]; exact hr _)⟩
      rw [vg_drop, Nat.add_assoc]; exact hc _ (by simp at hj; omega)
  | pe b i off sz =>
    simp only [addA, Option.some.injEq] at h; subst h
    cases hx with
    | pe hb hnl => exact ⟨_, _, rfl, by rw [Nat.add_assoc]; exact .pe hb hnl⟩
  | _ => simp [addA] at h

theorem fieldAddr_ok {s : TypeId} {f : Nat} {x : Operand} (ho : o.op = .fieldAddr s x f) (h : fieldAddrK P K s (evA tm x) f = some r) : Ends P o tm hp K r := by
  unfold fieldAddrK at h
  split at h
  · rename_i n t hf
    split at h
    · rename_i v hv
      refine ⟨_, h, .of_run fun C tm' hp' a hr hvs _ => ?_⟩
      obtain ⟨fs, d, i, hu, hd, hi, hz, rfl, rfl⟩ := fieldOf_run hf
      obtain ⟨B, off, hc, hv'⟩ := addA_ok hv (hvs x (by simp [ho, Op.operands]))
      refine ⟨_, ?_, hv'⟩
      unfold execOp
      simp only [ho, hc]
      simp only [Instr.fieldAt, Sem.run_bind, run_underlying hu, Result.andThen_ok, hd, Instr.sureAddr, Sem.run_pure, fieldPlace, run_sizeOf hi, hz, if_false, Addr.add_none]
    · cases h
  · cases h

theorem field_ok {s : TypeId} {f : Nat} {x : Operand} (ho : o.op = .field s x f) (h : fieldK P K s (evA tm x) f = some r) : Ends P o tm hp K r := by
  unfold fieldK at h
  split at h
  · rename_i n t hf
    split at h
    · rename_i cs hx
      split at h
      · rename_i v hv
        cases hn : decide (n ≤ cs.length) with
        | false => rw [hn] at h; cases h
        | true =>
          rw [hn, cond_true] at h
          have hle := of_decide_eq_true hn
          refine ⟨_, h, .of_run fun C tm' hp' a hr hvs _ => ?_⟩
          obtain ⟨fs, d, i, hu, hd, hi, hz, rfl, rfl⟩ := fieldOf_run hf
          have h1 := hvs x (by simp [ho, Op.operands]); rw [hx] at h1
          generalize hcc : a.eval x = cc at h1
          cases h1 with
          | agg vs hl hrel =>
            have hc : Cells C true (cs.drop d.offset) (vs.drop d.offset) := Cells.drop ⟨hl, hrel⟩ _
            obtain ⟨c, h2, h3⟩ := partA_val hv hc (vs.take d.offset) C.w
            rw [List.take_append_drop, List.length_take, Nat.min_eq_left (by omega)] at h2
            refine ⟨c, ?_, h3⟩
            unfold execOp
            simp only [ho, hcc]
            simp only [Instr.field, Sem.run_bind, run_underlying hu, Result.andThen_ok, hd, asAgg, Sem.run_pure, h2]
      · cases h
    · cases h
  · cases h

theorem extract_ok {x : Operand} {ix : Nat} (ho : o.op = .extract x ix) (h : extractK K (evA tm x) ix = some r) : Ends P o tm hp K r := by
  unfold extractK at h
  split at h
  · rename_i cs hx
    cases hn : decide (ix < cs.length) with
    | false => rw [hn] at h; cases h
    | true =>
      rw [hn, cond_true] at h
      have hlt := of_decide_eq_true hn
      refine ⟨_, h, .of_run fun C tm' hp' a hr hvs _ => ?_⟩
      have h1 := hvs x (by simp [ho, Op.operands]); rw [hx] at h1
      generalize hcc : a.eval x = cc at h1
      cases h1 with
      | tup vs hl hrel =>
        refine ⟨vg vs ix, ?_, hrel ix⟩
        unfold execOp
        have hlt' : ix < vs.length := by omega
        simp [ho, hcc, Instr.extract, vg, hlt']
  · cases h

theorem cells_one {v : AV} (hone : v.one = true) {C : Cx} {m : Bool} {c : Value} (hv : VRel C m v c) : Cells C m [v] c.cells.toList := by
  have h1 := hv.one hone
  have hc : c.cells = #[c] := by cases c <;> first | rfl | cases h1
  rw [hc]
  exact ⟨rfl, fun j => by
    cases j with
    | zero => exact hv
    | succ j => exact .junk _⟩

theorem cellsA_ok {v : AV} {vs : List AV} (h : cellsA v = some vs) {C : Cx} {m : Bool} {c : Value} (hv : VRel C m v c) : Cells C m vs c.cells.toList := by
  by_cases ha : ∃ l, v = .agg l
  · obtain ⟨l, rfl⟩ := ha
    simp only [cellsA, Option.some.injEq] at h; subst h
    cases hv with
    | agg us hl hr => exact ⟨by simpa [Value.cells] using hl, by simpa [Value.cells] using hr⟩
  · have e : cellsA v = bif v.one then some [v] else none := by
      cases v <;> first | rfl | exact absurd ⟨_, rfl⟩ ha
    rw [e] at h
    cases hone : v.one with
    | false => rw [hone] at h; cases h
    | true => rw [hone, cond_true, Option.some.injEq] at h; subst h; exact cells_one hone hv

theorem allOne_gt {l : List AV} (h : allOne l = true) {j : Nat} (hj : j < l.length) : (gt l j).one = true := by
  induction l generalizing j with
  | nil => simp at hj
  | cons v l ih =>
    simp only [allOne, Bool.and_eq_true] at h
    cases j with
    | zero => exact h.1
    | succ j => exact ih h.2 (by simpa using hj)

theorem new_ok {p : Nat} {e : TypeId} {cs : List AV} (h : newK hp K p e cs = some r)
    (hrun : ∀ (C : Cx) (a : Act), (∀ x ∈ o.op.operands, VRel C true (evA tm x) (a.eval x)) → ∃ cells : Array Value, Cells C true cs cells.toList ∧
      (execOp a.eval o).run P C.w = .ok (.value (.pointer (some ⟨C.w.heap.size, 0, none⟩))) (C.w.alloc (.cells cells e (0, 0)))) : Ends P o tm hp K r := by
  unfold newK at h
  split at h
  · rename_i hfree
    refine ⟨_, h, ?_⟩
    intro w0 O C tm' hp' a hr ha KK Q hK
    obtain ⟨cells, hc, h1⟩ := hrun C a (fun x hx => by rw [← ha.ops x hx]; exact hr.ev x)
    have hf' : gb hp' p = .free := by rw [ha.foot p (by simp), hfree]
    unfold Oper.wp
    rw [h1]
    have hcl : Cells C (!AV.onlys noneb cs) cs cells.toList := by
      cases hn : AV.onlys noneb cs with
      | true => exact hc.down hn
      | false => exact hc
    have hr2 := hr.alloc p hf' cs cells e (AV.onlys noneb cs) (by have := hc.1; simpa using this) (fun j hj => by simpa [vg, Array.getD_eq_getD_getElem?] using hcl.2 j)
    refine hK _ _ (hr2.put o.dst (v := .ptr p 0) ?_)
    have e1 : (C.alloc p cells.size cs.length (.cells cells e (0, 0))).mu p = C.w.heap.size := by simp [Cx.alloc]
    rw [← e1]
    exact .ptr (.inr rfl)
  · cases h

theorem alloc_ok {p : Nat} {t : TypeId} (ho : o.op = .alloc t) (h : allocK P hp K p t = some r) : Ends P o tm hp K r := by
  unfold allocK at h
  split at h
  · rename_i i hi
    split at h
    · rename_i z hz
      refine new_ok h fun C a hv => ⟨z.cells, ?_, ?_⟩
      · simpa using Cells.vals C true z.cells.toList
      · unfold execOp
        simp only [ho]
        simp [Instr.alloc, zeroValue, typeInfo, hi, hz, newVar, newRow]
    · cases h
  · cases h

theorem box_ok {p : Nat} {t : TypeId} {x : Operand} (ho : o.op = .box t x) (h : boxK hp K p t (evA tm x) = some r) : Ends P o tm hp K r := by
  unfold boxK at h
  split at h
  · rename_i vs hvs
    refine new_ok h fun C a hv => ⟨(a.eval x).cells, cellsA_ok hvs (hv x (by simp [ho, Op.operands])), ?_⟩
    unfold execOp
    simp only [ho]
    simp [Instr.box, newVar, newRow]
  · cases h

theorem store_ok {t : TypeId} {x y : Operand} (ho : o.op = .store t x y) (h : storeK P hp K t (evA tm x) (evA tm y) = some r) : Ends P o tm hp K r := by
  unfold storeK at h
  split at h
  · rename_i b off hx
    split at h
    · rename_i cs e cl hb
      split at h
      · rename_i vs i hvs hi
        cases hcond : ((decide (vs.length = i.size) && decide (off + vs.length ≤ cs.length)) && allOne vs) with
        | false => rw [hcond] at h; cases h
        | true =>
          rw [hcond, cond_true] at h
          simp only [Bool.and_eq_true, decide_eq_true_eq] at hcond
          obtain ⟨⟨hsz, hfit⟩, hone⟩ := hcond
          refine ⟨_, h, ?_⟩
          intro w0 O C tm' hp' a hr ha KK Q hK
          have hx' : VRel C true (.ptr b off) (a.eval x) := by rw [← hx, ← ha.ops x (by simp [ho, Op.operands])]; exact hr.ev x
          have hy' : VRel C true (evA tm y) (a.eval y) := by rw [← ha.ops y (by simp [ho, Op.operands])]; exact hr.ev y
          have hb' : gb hp' b = .row cs e cl := by rw [ha.foot b (by simp), hb]
          have hcells := cellsA_ok hvs hy'
          obtain ⟨cur, h2, h3, h4, h5⟩ := hr.hp.cells hb'
          generalize hcx : a.eval x = cx at hx'
          cases hx' with
          | ptr hblt =>
            have hl : (a.eval y).cells.toList.length = vs.length := hcells.1
            have hst := run_storeCells_at P (C.mu b) off e (a.eval y).cells.toList 0 cur C.w h2 (by omega) (fun u hu => by
              obtain ⟨j, hj⟩ := List.getElem?_of_mem hu
              have hjl := (List.getElem?_eq_some_iff.1 hj).1
              have := (hcells.2 j).one (allOne_gt hone (by omega))
              rw [vg, List.getD_eq_getElem?_getD, hj] at this; exact this)
            simp only [Nat.add_zero] at hst
            have hrun : (execOp a.eval o).run P C.w = .ok .skip (C.w.setRow (C.mu b) (cur.toList.take off ++ (a.eval y).cells.toList ++ cur.toList.drop (off + (a.eval y).cells.toList.length)).toArray) := by
              unfold execOp
              simp only [ho, hcx]
              have hs : (a.eval y).cells.size = i.size := by rw [← Array.length_toList, hl, hsz]
              simp only [Instr.storeAt, Instr.sureAddr, Sem.run_bind, Sem.run_pure, Result.andThen_ok, storeVar, run_sizeOf hi, hs, ne_eq, not_true_eq_false, if_false, hst]
            unfold Oper.wp
            rw [hrun]
            refine hK (C.setRow b (cur.toList.take off ++ (a.eval y).cells.toList ++ cur.toList.drop (off + (a.eval y).cells.toList.length)).toArray) _ ?_
            have hcl : ∀ {us : List AV} {zs : List Value}, Cells C (!cl) us zs → Cells C (!(cl && AV.onlys noneb vs)) us zs := fun hz => by
              cases cl
              · exact hz
              · exact hz.up (.inl rfl)
            have hnew : Cells C (!(cl && AV.onlys noneb vs)) vs (a.eval y).cells.toList := by
              cases hn : AV.onlys noneb vs with
              | true => exact (hcells.down hn).up (.inl rfl)
              | false => simpa [hn] using hcells
            have hall : Cells C (!(cl && AV.onlys noneb vs)) (cs.take off ++ vs ++ cs.drop (off + vs.length))
                (((cur.toList.take cs.length).take off) ++ (a.eval y).cells.toList ++ (cur.toList.take cs.length).drop (off + vs.length)) :=
              ((hcl (h5.take off)).append hnew).append (hcl (h5.drop _))
            have hrow := hr.setRow b cs e cl (cl && AV.onlys noneb vs) hb' (cs.take off ++ vs ++ cs.drop (off + vs.length))
              (cur.toList.take off ++ (a.eval y).cells.toList ++ cur.toList.drop (off + (a.eval y).cells.toList.length)).toArray
              (by simp only [List.size_toArray, List.length_append, List.length_take, List.length_drop, Array.length_toList]; have := hl; simp only [Array.length_toList] at this; omega)
              (by simp only [List.length_append, List.length_take, List.length_drop]; omega)
              (fun j hj => by
                have := hall.2 j
                have hj' : j < cs.length := by simp only [List.length_append, List.length_take, List.length_drop] at hj; omega
                rw [vg_toArray]
                have e1 : vg (((cur.toList.take cs.length).take off) ++ (a.eval y).cells.toList ++ (cur.toList.take cs.length).drop (off + vs.length)) j = vg (cur.toList.take off ++ (a.eval y).cells.toList ++ cur.toList.drop (off + (a.eval y).cells.toList.length)) j := by
                  rw [hl, List.take_take, Nat.min_eq_left (by omega)]
                  simp only [vg, List.getD_eq_getElem?_getD, List.getElem?_append, List.getElem?_drop, List.getElem?_take]
                  congr 1
                  split
                  · rfl
                  · rename_i hnlt
                    have hl2 : (a.eval y).cells.size = vs.length := by simpa using hl
                    rw [if_pos]
                    simp only [List.length_append, List.length_take, Array.length_toList] at hnlt ⊢
                    omega
                rw [← e1]; exact this)
            have := hrow.put o.dst (v := .junk) (c := undef) (.junk _)
            exact this
      · cases h
    · cases h
  · rename_i b i off sz hx
    split at h
    · rename_i c l e hb
      split at h
      · rename_i vs inf hvs hi
        cases hcond : ((((decide (vs.length = inf.size) && decide (off + vs.length ≤ c.sz)) && sz == c.sz) && (allOne vs && AV.onlys noneb vs)) && decide (i < l.length)) with
        | false => rw [hcond] at h; cases h
        | true =>
          rw [hcond, cond_true] at h
          simp only [Bool.and_eq_true, decide_eq_true_eq, beq_iff_eq] at hcond
          obtain ⟨⟨⟨⟨hsz, hfit⟩, rfl⟩, hone, honly⟩, hil⟩ := hcond
          split at h
          · rename_i xn hx'
            refine ⟨_, h, ?_⟩
            intro w0 O C tm' hp' a hr ha KK Q hK
            have hxv : VRel C true (.pe b i off c.sz) (a.eval x) := by rw [← hx, ← ha.ops x (by simp [ho, Op.operands])]; exact hr.ev x
            have hy' : VRel C true (evA tm y) (a.eval y) := by rw [← ha.ops y (by simp [ho, Op.operands])]; exact hr.ev y
            have hb' : gb hp' b = .rt c l e := by rw [ha.foot b (by simp), hb]
            have hcells := (cellsA_ok hvs hy').down honly
            generalize hcx : a.eval x = cx at hxv
            cases hxv with
            | pe hal hnl =>
              obtain ⟨cur, h2, h3, h4, h5⟩ := hr.hp.cells_rt hb' hnl
              have hrow := row_le (sz := c.sz) hil
              have hl : (a.eval y).cells.toList.length = vs.length := hcells.1
              have hst := run_storeCells_at P (C.mu b) (i * c.sz + off) e (a.eval y).cells.toList 0 cur C.w h2 (by omega) (fun u hu => by
                obtain ⟨j, hj⟩ := List.getElem?_of_mem hu
                have hjl := (List.getElem?_eq_some_iff.1 hj).1
                have := (hcells.2 j).one (allOne_gt hone (by omega))
                rw [vg, List.getD_eq_getElem?_getD, hj] at this; exact this)
              simp only [Nat.add_zero] at hst
              have hrun : (execOp a.eval o).run P C.w = .ok .skip (C.w.setRow (C.mu b) (cur.toList.take (i * c.sz + off) ++ (a.eval y).cells.toList ++ cur.toList.drop (i * c.sz + off + (a.eval y).cells.toList.length)).toArray) := by
                unfold execOp
                simp only [ho, hcx]
                have hs : (a.eval y).cells.size = inf.size := by rw [← Array.length_toList, hl, hsz]
                simp only [Instr.storeAt, Instr.sureAddr, Sem.run_bind, Sem.run_pure, Result.andThen_ok, storeVar, run_sizeOf hi, hs, ne_eq, not_true_eq_false, if_false, hst]
              unfold Oper.wp
              rw [hrun]
              refine hK (C.setRow b (cur.toList.take (i * c.sz + off) ++ (a.eval y).cells.toList ++ cur.toList.drop (i * c.sz + off + (a.eval y).cells.toList.length)).toArray) _ ?_
              have hnew : Cells C false (c.enc xn) (((cur.toList.drop (i * c.sz)).take c.sz).take off ++ (a.eval y).cells.toList ++ ((cur.toList.drop (i * c.sz)).take c.sz).drop (off + vs.length)) :=
                CT.decA_ok hx' ((((h5 i hil).take off).append hcells).append ((h5 i hil).drop _))
              have hln := (hr.hp.rt b c l e hb').2.1
              have hcl : (a.eval y).cells.size = vs.length := by simpa using hl
              have hset := hr.setB b e (by show (gb hp' b).live = true; rw [hb']; rfl) hnl ⟨cur, h2⟩ (.rt c (l.set i xn) e)
                (cur.toList.take (i * c.sz + off) ++ (a.eval y).cells.toList ++ cur.toList.drop (i * c.sz + off + (a.eval y).cells.toList.length)).toArray
                (by simp only [List.size_toArray, List.length_append, List.length_take, List.length_drop, Array.length_toList]; omega)
                ⟨rfl, by rw [hln, List.length_set], by rw [List.length_set]; simp only [List.size_toArray, List.length_append, List.length_take, List.length_drop, Array.length_toList]; omega, fun j hj k hk => by
                  rw [List.length_set] at hj
                  have hrj := row_le (sz := c.sz) hj
                  rw [vg_toArray]
                  by_cases hji : j = i
                  · subst hji
                    have e1 : (l.set j xn).getD j c.df = xn := by simp [List.getD_eq_getElem?_getD, hil]
                    rw [e1]
                    have := hnew.2 k
                    have e2 : vg (((cur.toList.drop (j * c.sz)).take c.sz).take off ++ (a.eval y).cells.toList ++ ((cur.toList.drop (j * c.sz)).take c.sz).drop (off + vs.length)) k = vg (cur.toList.take (j * c.sz + off) ++ (a.eval y).cells.toList ++ cur.toList.drop (j * c.sz + off + (a.eval y).cells.toList.length)) (j * c.sz + k) := by
                      rw [hl]
                      simp only [vg, List.getD_eq_getElem?_getD, List.getElem?_append, List.getElem?_drop, List.getElem?_take, List.length_append, List.length_take, List.length_drop, Array.length_toList]
                      congr 1
                      repeat' split
                      all_goals first
                        | rfl
                        | (exfalso; omega)
                        | (congr 1; omega)
                    rw [← e2]; exact this
                  · have e1 : (l.set i xn).getD j c.df = l.getD j c.df := by
                      have : i ≠ j := fun e => hji e.symm
                      simp [List.getD_eq_getElem?_getD, List.getElem?_set, this]
                    rw [e1]
                    have := (h5 j hj).2 k
                    have e2 : vg ((cur.toList.drop (j * c.sz)).take c.sz) k = vg (cur.toList.take (i * c.sz + off) ++ (a.eval y).cells.toList ++ cur.toList.drop (i * c.sz + off + (a.eval y).cells.toList.length)) (j * c.sz + k) := by
                      rw [hl, vg_take _ _ _ hk, vg_drop]
                      simp only [vg, List.getD_eq_getElem?_getD, List.getElem?_append, List.getElem?_drop, List.getElem?_take, List.length_append, List.length_take, List.length_drop, Array.length_toList]
                      congr 1
                      rcases Nat.lt_or_ge j i with c1 | c1
                      · have := row_le (sz := c.sz) c1
                        repeat' split
                        all_goals first
                          | rfl
                          | (exfalso; omega)
                          | (congr 1; omega)
                      · have := row_le (sz := c.sz) (show i < j by omega)
                        repeat' split
                        all_goals first
                          | rfl
                          | (exfalso; omega)
                          | (congr 1; omega)
                    rw [← e2]; exact this⟩
              have := hset.put o.dst (v := .junk) (c := undef) (.junk _)
              exact this
          · cases h
      · cases h
    · cases h
  · cases h
end
end Go.Va
