/-
  Places by index, lengths and cuts, abstractly.
  Conditions: none.
-/
import Derived.Test.YtnidnmhcjngmeaaGreatVaBuild
set_option linter.unusedVariables false
set_option linter.unusedSimpArgs false
set_option autoImplicit false
namespace Go.Va

theorem intsA_rel {C : Cx} {m : Bool} {cs : List AV} {r : IntKind × List Int} (h : intsA cs = some r) {vs : List Value} (hc : Cells C m cs vs) : vs = r.2.map (.int r.1) := by
  induction cs generalizing r vs with
  | nil => simp [intsA] at h
  | cons v cs ih =>
    cases vs with
    | nil => have := hc.1; simp at this
    | cons c vs =>
      have h0 : VRel C m v c := hc.2 0
      have ht : Cells C m cs vs := hc.drop 1
      unfold intsA at h
      split at h
      · rename_i k x
        have hcx := h0.inv_val
        subst hcx
        split at h
        · simp only [Option.some.injEq] at h; subst h
          have : vs = [] := List.eq_nil_of_length_eq_zero (by simpa using ht.1)
          subst this; rfl
        · split at h
          · rename_i q hq
            split at h
            · rename_i hk
              simp only [Option.some.injEq] at h; subst h
              rw [ih hq ht, hk]; rfl
            · cases h
          · cases h
      · cases h

theorem boolsA_rel {C : Cx} {m : Bool} {cs : List AV} {r : List Bool} (h : boolsA cs = some r) {vs : List Value} (hc : Cells C m cs vs) : vs = r.map .bool := by
  induction cs generalizing r vs with
  | nil => simp only [boolsA, Option.some.injEq] at h; subst h; exact List.eq_nil_of_length_eq_zero (by simpa using hc.1)
  | cons v cs ih =>
    cases vs with
    | nil => have := hc.1; simp at this
    | cons c vs =>
      have h0 : VRel C m v c := hc.2 0
      have ht : Cells C m cs vs := hc.drop 1
      unfold boolsA at h
      split at h
      · have hcx := h0.inv_val
        subst hcx
        split at h
        · rename_i q hq
          simp only [Option.some.injEq] at h; subst h
          rw [ih hq ht]; rfl
        · cases h
      · cases h

theorem strsA_rel {C : Cx} {m : Bool} {cs : List AV} {r : List ByteArray} (h : strsA cs = some r) {vs : List Value} (hc : Cells C m cs vs) : vs = r.map .string := by
  induction cs generalizing r vs with
  | nil => simp only [strsA, Option.some.injEq] at h; subst h; exact List.eq_nil_of_length_eq_zero (by simpa using hc.1)
  | cons v cs ih =>
    cases vs with
    | nil => have := hc.1; simp at this
    | cons c vs =>
      have h0 : VRel C m v c := hc.2 0
      have ht : Cells C m cs vs := hc.drop 1
      unfold strsA at h
      split at h
      · have hcx := h0.inv_val
        subst hcx
        split at h
        · rename_i q hq
          simp only [Option.some.injEq] at h; subst h
          rw [ih hq ht]; rfl
        · cases h
      · cases h

theorem anyCell_ok {C : Cx} {m : Bool} {cs : List AV} {j : Nat} {v : AV} (h : anyCell cs j = some v) {vs : List Value} (hc : Cells C m cs vs) (hj : j < cs.length) : VRel C m v (vg vs j) := by
  have hjv : j < vs.length := by rw [hc.1]; exact hj
  unfold anyCell at h
  split at h
  · split at h
    · rename_i q hq
      simp only [Option.some.injEq] at h; subst h
      have := intsA_rel hq hc
      have hlen : j < q.2.length := by rw [this] at hjv; simpa using hjv
      have e : vg vs j = .int q.1 (q.2.getD j 0) := by rw [this]; simp [vg, hlen]
      rw [e]; exact .val _
    · cases h
  · split at h
    · rename_i q hq
      simp only [Option.some.injEq] at h; subst h
      have := boolsA_rel hq hc
      have hlen : j < q.length := by rw [this] at hjv; simpa using hjv
      have e : vg vs j = .bool (q.getD j false) := by rw [this]; simp [vg, hlen]
      rw [e]; exact .val _
    · cases h
  · split at h
    · rename_i q hq
      simp only [Option.some.injEq] at h; subst h
      have := strsA_rel hq hc
      have hlen : j < q.length := by rw [this] at hjv; simpa using hjv
      have e : vg vs j = .string (q.getD j ByteArray.empty) := by rw [this]; simp [vg, hlen]
      rw [e]; exact .val _
    · cases h
  · cases h

theorem part_one {P : Program} {t : TypeId} {d : TypeDesc} (hd : P.underlying t = some d) (hr : isRowD d = false) (vs : List Value) (j : Nat) (hj : j < vs.length) (w : World) :
    (part t vs.toArray j).run P w = .ok (vg vs j) w := by
  unfold part
  rw [Sem.run_bind, run_isAgg hd, Result.andThen_ok, hr]
  simp [vg, hj]

/-- A load; of a cell of a row of one kind also where its place is not known ahead. -/
def loadK (P : Program) (hp : List Blk) {β : Type} (K : ORes → Option β) (t : TypeId) (x : AV) : Option β := match x with
  | .ptr b off => match gb hp b with
    | .row cs _ _ => match bif flatT P t then anyCell cs off else none with
      | some v => bif decide (off < cs.length) then K ⟨v, [b], [], none⟩ else none
      | none => match partA P t (cs.drop off) with
        | some v => K ⟨v, [b], [], none⟩
        | none => none
    | _ => none
  | .cell cs => match partA P t cs with
    | some v => K ⟨v, [], [], none⟩
    | none => none
  | .pe b i off sz => match gb hp b with
    | .rt c l _ => match partA P t ((c.enc (l.getD i c.df)).drop off) with
      | some v => bif sz == c.sz && decide (i < l.length) then K ⟨v, [b], [], none⟩ else none
      | none => none
    | _ => none
  | _ => none

section
variable {β : Type} {P : Program} {tm : List AV} {hp : List Blk} {K : ORes → Option β} {o : Oper} {r : β}

theorem load_of {t : TypeId} {x : Operand} (ho : o.op = .load t x) {cs : List AV} {l : List Nat} {v : AV} (hat : atA hp (evA tm x) = some (cs, l)) (hv : partA P t cs = some v) (h : K ⟨v, l, [], none⟩ = some r) : Ends P o tm hp K r := by
  refine ⟨_, h, .of_run fun C tm' hp' a hr hvs ha => ?_⟩
  obtain ⟨B, off, vs, hc, h1, h2⟩ := atA_ok hr (atA_agree hat ha) (hvs x (by simp [ho, Op.operands]))
  obtain ⟨c, h3, h4⟩ := partA_load hv h1 C.w B off h2
  refine ⟨c, ?_, h4⟩
  unfold execOp
  simp only [ho, hc]
  simp only [Instr.loadAt, Instr.sureAddr, Sem.run_bind, Sem.run_pure, Result.andThen_ok, h3]

theorem load_ok {t : TypeId} {x : Operand} (ho : o.op = .load t x) (h : loadK P hp K t (evA tm x) = some r) : Ends P o tm hp K r := by
  unfold loadK at h
  split at h
  · rename_i b off hx
    split at h
    · rename_i cs e cl hb
      split at h
      · rename_i v hv
        cases hfl : flatT P t with
        | false => rw [hfl] at hv; cases hv
        | true =>
          rw [hfl, cond_true] at hv
          cases hlt : decide (off < cs.length) with
          | false => rw [hlt] at h; cases h
          | true =>
            rw [hlt, cond_true] at h
            have hlt := of_decide_eq_true hlt
            refine ⟨_, h, .of_run fun C tm' hp' a hr hvs ha => ?_⟩
            have hb' : gb hp' b = .row cs e cl := by rw [ha b (by simp), hb]
            obtain ⟨cur, h2, h3, h4, h5⟩ := hr.cells hb'
            have h1 := hvs x (by simp [ho, Op.operands])
            rw [hx] at h1
            generalize hcx : a.eval x = cx at h1
            cases h1 with
            | ptr hal =>
              have hrel := anyCell_ok hv h5 hlt
              refine ⟨_, ?_, hrel.up' (by cases cl <;> simp)⟩
              unfold flatT at hfl
              split at hfl
              · rename_i d hd
                have hcell : C.w.cell? ⟨C.mu b, off, none⟩ = some (vg (cur.toList.take cs.length) off) := by
                  rw [cell_of_row C.w (C.mu b) off cur e (0, 0) h2, vg_take _ _ _ hlt]
                  have : off < cur.size := by omega
                  simp [vg, this]
                unfold execOp
                simp only [ho, hcx]
                simp only [Instr.loadAt, Instr.sureAddr, Sem.run_bind, Sem.run_pure, Result.andThen_ok, loadVar, run_isAgg hd]
                have hr0 : isRowD d = false := by simpa using hfl
                simp only [hr0, Bool.false_eq_true, if_false, load, Sem.run, hcell, Result.andThen_ok]
              · cases hfl
      · split at h
        · rename_i v hv
          exact load_of ho (cs := cs.drop off) (l := [b]) (by rw [hx]; simp only [atA, hb]) hv h
        · cases h
    · cases h
  · rename_i cs hx
    split at h
    · rename_i v hv
      exact load_of ho (cs := cs) (l := []) (by rw [hx]; rfl) hv h
    · cases h
  · rename_i b i off sz hx
    split at h
    · rename_i c l e hb
      split at h
      · rename_i v hv
        cases hc : (sz == c.sz && decide (i < l.length)) with
        | false => rw [hc] at h; cases h
        | true =>
          rw [hc, cond_true] at h
          exact load_of ho (cs := (c.enc (l.getD i c.df)).drop off) (l := [b]) (by rw [hx]; simp only [atA, hb, hc, cond_true]) hv h
      · cases h
    · cases h
  · cases h

theorem index_ok {t : TypeId} {x ix : Operand} (ho : o.op = .index t x ix) (h : indexK P K t ix (evA tm x) (evA tm ix) = some r) : Ends P o tm hp K r := by
  unfold indexK at h
  have hmx : x ∈ o.op.operands := by simp [ho, Op.operands]
  have hmi : ix ∈ o.op.operands := by simp [ho, Op.operands]
  split at h
  · rename_i k i hix
    split at h
    · rename_i cs hx
      split at h
      · rename_i n e hu
        split at h
        · rename_i ie hie
          cases hb : (decide (0 ≤ i) && decide (i < n)) with
          | false => rw [hb] at h; cases h
          | true =>
            rw [hb, cond_true] at h
            simp only [Bool.and_eq_true, decide_eq_true_eq] at hb
            have fin : ∀ (v : AV), (∀ (C : Cx) (vs : List Value), Cells C true cs vs → ∃ c, (part e vs.toArray (i.toNat * ie.size)).run P C.w = .ok c C.w ∧ VRel C true v c) → K ⟨v, [], [], none⟩ = some r → Ends P o tm hp K r := by
              intro v hv hK
              refine ⟨_, hK, .of_run fun C tm' hp' a hr hvs _ => ?_⟩
              have h1 := hvs x hmx; rw [hx] at h1
              have h2 := hvs ix hmi; rw [hix] at h2
              generalize hcx : a.eval x = cx at h1
              cases h1 with
              | agg vs hl hrel =>
                obtain ⟨c, h3, h4⟩ := hv C vs ⟨hl, hrel⟩
                refine ⟨c, ?_, h4⟩
                unfold execOp
                simp only [ho, hcx, h2.inv_val]
                simp only [Instr.index, asIntOf, Sem.run_bind, Sem.run_pure, Result.andThen_ok, run_underlying hu]
                rw [if_pos hb]
                simp only [Sem.run_bind, run_sizeOf hie, Result.andThen_ok, h3]
            cases hco : isConstO ix with
            | true =>
              rw [hco, cond_true] at h
              split at h
              · rename_i v hv
                cases hle : decide (i.toNat * ie.size ≤ cs.length) with
                | false => rw [hle] at h; cases h
                | true =>
                  rw [hle, cond_true] at h
                  have hle := of_decide_eq_true hle
                  refine fin v (fun C vs hc => ?_) h
                  obtain ⟨c, h2, h3⟩ := partA_val hv (hc.drop (i.toNat * ie.size)) (vs.take (i.toNat * ie.size)) C.w
                  rw [List.take_append_drop, List.length_take, Nat.min_eq_left (by have := hc.1; omega)] at h2
                  exact ⟨c, h2, h3⟩
              · cases h
            | false =>
              rw [hco, cond_false] at h
              cases hcnd : ((ie.size == 1 && decide (cs.length = n)) && flatT P e) with
              | false => rw [hcnd] at h; cases h
              | true =>
                rw [hcnd, cond_true] at h
                simp only [Bool.and_eq_true, decide_eq_true_eq, beq_iff_eq] at hcnd
                obtain ⟨⟨hs1, hn⟩, hfl⟩ := hcnd
                split at h
                · rename_i v hv
                  refine fin v (fun C vs hc => ?_) h
                  have hjl : i.toNat < cs.length := by omega
                  unfold flatT at hfl
                  split at hfl
                  · rename_i d hd
                    exact ⟨_, by rw [hs1, Nat.mul_one]; exact part_one hd (by simpa using hfl) vs i.toNat (by rw [hc.1]; exact hjl) C.w, anyCell_ok hv hc hjl⟩
                  · cases hfl
                · cases h
        · cases h
      · cases h
    · rename_i s hx
      split at h
      · rename_i hu
        cases hb : (decide (0 ≤ i) && decide (i < (s.size : Int))) with
        | false => rw [hb] at h; cases h
        | true =>
          rw [hb, cond_true] at h
          simp only [Bool.and_eq_true, decide_eq_true_eq] at hb
          refine ⟨_, h, .of_run fun C tm' hp' a hr hvs _ => ?_⟩
          have h1 := hvs x hmx; rw [hx] at h1
          have h2 := hvs ix hmi; rw [hix] at h2
          refine ⟨_, ?_, .val _⟩
          have hlt : i.toNat < s.data.size := by have : s.data.size = s.size := rfl; omega
          have hget : s[i.toNat]? = some (s.data.toList.getD i.toNat 0) := by
            have e1 : s[i.toNat]? = some (s[i.toNat]'hlt) := by exact getElem?_pos s i.toNat hlt
            rw [e1]
            congr 1
            rw [List.getD_eq_getElem?_getD, List.getElem?_eq_getElem (by simpa using hlt)]
            rfl
          unfold execOp
          simp only [ho, h1.inv_val, h2.inv_val]
          simp only [Instr.index, asIntOf, Sem.run_bind, Sem.run_pure, Result.andThen_ok, run_underlying hu]
          rw [if_pos hb.1, hget]
          rfl
      · cases h
    · cases h
  · cases h

theorem indexAddr_ok {t : TypeId} {x ix : Operand} (ho : o.op = .indexAddr t x ix) (h : indexAddrK P hp K t (evA tm x) (evA tm ix) = some r) : Ends P o tm hp K r := by
  unfold indexAddrK at h
  have hmx : x ∈ o.op.operands := by simp [ho, Op.operands]
  have hmi : ix ∈ o.op.operands := by simp [ho, Op.operands]
  split at h
  · rename_i k i hix
    split at h
    · rename_i e hu
      split at h
      · rename_i ie hie
        have run : ∀ (a : Act) (C : Cx) (B off len cap : Nat), a.eval x = .slice (some ⟨B, off, none⟩) len cap → a.eval ix = .int k i → 0 ≤ i → i < (len : Int) →
            (execOp a.eval o).run P C.w = .ok (.value (.pointer (some ⟨B, off + i.toNat * ie.size, none⟩))) C.w := by
          intro a C B off len cap h1 h2 h3 h4
          unfold execOp
          simp only [ho, h1, h2]
          simp only [Instr.indexAt, asIntOf, Sem.run_bind, Sem.run_pure, Result.andThen_ok, run_underlying hu]
          rw [if_pos ⟨h3, h4⟩]
          simp only [Sem.run_bind, run_sizeOf hie, Result.andThen_ok, Sem.run_pure, Addr.add_none]
        split at h
        · rename_i n sz g hx
          cases hb : ((decide (0 ≤ i) && decide (i < (n : Int))) && sz == ie.size) with
          | false => rw [hb] at h; cases h
          | true =>
            rw [hb, cond_true] at h
            simp only [Bool.and_eq_true, decide_eq_true_eq, beq_iff_eq] at hb
            obtain ⟨⟨hb1, hb2⟩, rfl⟩ := hb
            refine ⟨_, h, .of_run fun C tm' hp' a hr hvs _ => ?_⟩
            have h1 := hvs x hmx; rw [hx] at h1
            have h2 := hvs ix hmi; rw [hix] at h2
            generalize hcx : a.eval x = cx at h1
            cases h1 with
            | vec0 => simp at hb2; omega
            | vec f hB hn hcap hmax hl hc hrel =>
              have hlt : i.toNat < n := by omega
              refine ⟨_, run a C _ _ _ _ hcx h2.inv_val hb1 hb2, .cell (f i.toNat) hB hn ?_ (fun j hj => ?_) (fun j => (hrel _ hlt j))⟩
              · rw [(hl _ hlt).1, (hl _ hlt).2]
              · exact hc _ hlt j (by rw [← (hl _ hlt).2]; exact hj)
        · rename_i b off len sz hx
          cases hb : ((decide (0 ≤ i) && decide (i < (len : Int))) && sz == ie.size) with
          | false => rw [hb] at h; cases h
          | true =>
            rw [hb, cond_true] at h
            simp only [Bool.and_eq_true, decide_eq_true_eq, beq_iff_eq] at hb
            obtain ⟨⟨hb1, hb2⟩, rfl⟩ := hb
            refine ⟨_, h, .of_run fun C tm' hp' a hr hvs _ => ?_⟩
            have h1 := hvs x hmx; rw [hx] at h1
            have h2 := hvs ix hmi; rw [hix] at h2
            generalize hcx : a.eval x = cx at h1
            cases h1 with
            | sl hlt hk hl hmax hln => exact ⟨_, run a C _ _ _ _ hcx h2.inv_val hb1 hb2, .ptr hlt⟩
        · rename_i c l hx
          cases hb : (c.sz == ie.size && (decide (0 ≤ i) && decide (i < (l.length : Int)))) with
          | false => rw [hb] at h; cases h
          | true =>
            rw [hb, cond_true] at h
            simp only [Bool.and_eq_true, decide_eq_true_eq, beq_iff_eq] at hb
            obtain ⟨hsz, hb1, hb2⟩ := hb
            refine ⟨_, h, .of_run fun C tm' hp' a hr hvs _ => ?_⟩
            have h1 := hvs x hmx; rw [hx] at h1
            have h2 := hvs ix hmi; rw [hix] at h2
            generalize hcx : a.eval x = cx at h1
            cases h1 with
            | vt h1 =>
              have hlt : i.toNat < l.length := by omega
              generalize hn : l.length = n at h1 hlt
              cases h1 with
              | vec0 => omega
              | vec f hB hn' hcap hmax hl hc hrel =>
                refine ⟨_, run a C _ _ _ _ hcx h2.inv_val hb1 (by omega), .cell (f i.toNat) hB hn' ?_ (fun j hj => ?_) (fun j => (hrel _ hlt j))⟩
                · rw [(hl _ hlt).1, CT.enc_len]
                · rw [← hsz]; exact hc _ hlt j (by rw [CT.enc_len] at hj; exact hj)
        · rename_i b sz hx
          split at h
          · rename_i c l e' hbk
            cases hb : ((c.sz == sz && sz == ie.size) && (decide (0 ≤ i) && decide (i < (l.length : Int)))) with
            | false => rw [hb] at h; cases h
            | true =>
              rw [hb, cond_true] at h
              simp only [Bool.and_eq_true, decide_eq_true_eq, beq_iff_eq] at hb
              obtain ⟨⟨rfl, hsz⟩, hb1, hb2⟩ := hb
              refine ⟨_, h, .of_run fun C tm' hp' a hr hvs hag => ?_⟩
              have h1 := hvs x hmx; rw [hx] at h1
              have h2 := hvs ix hmi; rw [hix] at h2
              have hbk' : gb hp' b = .rt c l e' := by rw [hag b (by simp), hbk]
              obtain ⟨_, hln, hor⟩ := hr.rt b c l e' hbk'
              generalize hcx : a.eval x = cx at h1
              cases h1 with
              | @so _ _ n cap hal hnl hz hn hk hl hmax =>
                have hnn : n = l.length := Nat.eq_of_mul_eq_mul_right hz (hn.trans hln)
                have := run a C _ _ _ _ hcx h2.inv_val hb1 (by omega)
                rw [Nat.zero_add, ← hsz] at this
                exact ⟨_, this, .pe hal hnl⟩
              | so0 hal hnl =>
                rcases hor with ⟨_, rfl⟩ | ⟨h3, _⟩
                · simp at hb2; omega
                · rw [hnl] at h3; cases h3
          · cases h
        · cases h
      · cases h
    · rename_i n e hu
      split at h
      · rename_i ie hie
        cases hb : (decide (0 ≤ i) && decide (i < (n : Int))) with
        | false => rw [hb] at h; cases h
        | true =>
          rw [hb, cond_true] at h
          simp only [Bool.and_eq_true, decide_eq_true_eq] at hb
          split at h
          · rename_i v hv
            refine ⟨_, h, .of_run fun C tm' hp' a hr hvs _ => ?_⟩
            have h2 := hvs ix hmi; rw [hix] at h2
            obtain ⟨B, off, hc, hv'⟩ := addA_ok hv (hvs x hmx)
            refine ⟨_, ?_, hv'⟩
            unfold execOp
            simp only [ho, hc, h2.inv_val]
            simp only [Instr.indexAt, asIntOf, Sem.run_bind, Sem.run_pure, Result.andThen_ok, run_underlying hu, Instr.sureAddr]
            rw [if_pos hb]
            simp only [Sem.run_bind, run_sizeOf hie, Result.andThen_ok, Sem.run_pure, Addr.add_none]
          · cases h
      · cases h
    · cases h
  · cases h
end
end Go.Va
