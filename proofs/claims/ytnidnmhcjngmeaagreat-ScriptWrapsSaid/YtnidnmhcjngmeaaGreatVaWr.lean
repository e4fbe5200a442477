/-
  Calls of functions that write through a pointer: to a struct that is one row of the run's own.
  Conditions: none.
-/
import Derived.Test.YtnidnmhcjngmeaaGreatVaOb
set_option linter.unusedVariables false
set_option linter.unusedSimpArgs false
set_option autoImplicit false
namespace Go.Va

theorem CT.plain_nomem {c : CT} (h : c.plain = true) (x : c.D) : nomemL (c.enc x) = true := by
  induction c with
  | pair a b iha ihb =>
    simp only [CT.plain, Bool.and_eq_true] at h
    have app : ∀ l k : List AV, nomemL l = true → nomemL k = true → nomemL (l ++ k) = true := by
      intro l k h1 h2
      induction l with
      | nil => exact h2
      | cons v l ih =>
        simp only [nomemL, Bool.and_eq_true, List.cons_append] at h1 ⊢
        exact ⟨h1.1, ih h1.2⟩
    exact app _ _ (iha h.1 _) (ihb h.2 _)
  | vec c => cases h
  | _ => rfl

/-- The row of a struct that is just one: what it holds, its number. -/
def rowW (c : CT) (t : TypeId) (hp : List Blk) : List AV → Option (List c.D × Option Nat)
  | [v] => match v with
    | .val (.slice none 0 0) => some ([], none)
    | .so j sz => match gb hp j with
      | .rt c' l u => match CT.same c' c with
        | some h => bif sz == c.sz && u == t then some (h.down ▸ l, some j) else none
        | none => none
      | _ => none
    | _ => none
  | _ => none

def optL : Option Nat → List Nat
  | some j => [j]
  | none => []

theorem rowW_agree {c : CT} {t : TypeId} {hp hp' : List Blk} {cs : List AV} {r : List c.D × Option Nat} (h : rowW c t hp cs = some r) (ha : ∀ j ∈ optL r.2, gb hp' j = gb hp j) : rowW c t hp' cs = some r := by
  unfold rowW at h ⊢
  split at h
  · split at h
    · exact h
    · rename_i j sz
      split at h
      · rename_i c' l u hb
        split at h
        · rename_i hs hse
          cases hz : (sz == c.sz && u == t) with
          | false => rw [hz] at h; cases h
          | true =>
            rw [hz, cond_true] at h
            have e : r.2 = some j := by rw [← Option.some.inj h]
            have hb' : gb hp' j = .rt c' l u := by rw [ha j (by rw [e]; simp [optL]), hb]
            simp only [hb', hse, hz, cond_true]
            exact h
        · cases h
      · cases h
    · cases h
  · cases h

section
variable {β : Type} (P : Program) (tm : List AV) (hp : List Blk) (K : Res → Option β)

def callWK (p : Nat) (W : WFun) (args : List AV) : Option β := match args with
  | x :: rest => match x with
    | .ptr b off => match gb hp b with
      | .row cs T cl => match rowW W.c W.t hp cs with
        | some (l, j) => match W.rd (immL hp rest) with
          | some a => match gb hp p with
            | .free => bif ((off == 0 && T == W.T) && !((refsL rest).contains b)) && !((refsL rest).any (optL j).contains) then
                (W.l l a).bind fun y => K (.ok ⟨.tup [], p :: b :: (optL j ++ refsL rest), (optL j).map (fun j => (j, .gone)) ++ [(b, .row [.so p W.c.sz] W.T false), (p, .rt W.c y W.t)], none⟩)
              else none
            | _ => none
          | none => none
        | none => none
      | _ => none
    | _ => none
  | [] => none
end

def oz (C : Nat → Nat) : Option Nat → Nat
  | some j => C j
  | none => 0
def ob (C : Nat → Bool) : Option Nat → Bool
  | some j => C j
  | none => true

/-- The memory as the function has it. -/
def Cx.lend (C : Cx) (b : Nat) (j : Option Nat) (hide : Nat → Prop) : Cx where
  own B := C.own B ∧ ¬ hide B
  al i := i = 0 ∨ i = 1
  mu i := if i = 0 then C.mu b else oz C.mu j
  ka i := if i = 0 then C.ka b else oz C.ka j
  ln i := if i = 0 then C.ln b else oz C.ln j
  nl i := if i = 0 then false else ob C.nl j
  pin B k := B = C.mu b ∧ k = C.ka b
  w := C.w

/-- The memory as its caller has it behind the call. -/
def Cx.back (C D : Cx) (p : Nat) : Cx where
  own B := C.own B ∨ (D.own B ∧ C.w.heap.size ≤ B)
  al y := C.al y ∨ y = p
  mu y := if y = p then D.mu 1 else C.mu y
  ka y := if y = p then D.ka 1 else C.ka y
  ln y := if y = p then D.ln 1 else C.ln y
  nl y := if y = p then D.nl 1 else C.nl y
  pin := C.pin
  w := D.w

theorem rowW_ok {C : Cx} {hp : List Blk} (hr : HRel C hp) {c : CT} {t : TypeId} {cs : List AV} {l : List c.D} {j : Option Nat} (h : rowW c t hp cs = some (l, j)) :
    ∃ v, cs = [v] ∧ ((v = .val (.slice none 0 0) ∧ l = [] ∧ j = none) ∨ ∃ i, j = some i ∧ v = .so i c.sz ∧ gb hp i = .rt c l t) := by
  unfold rowW at h
  split at h
  · split at h
    · simp only [Option.some.injEq, Prod.mk.injEq] at h
      exact ⟨_, rfl, .inl ⟨rfl, h.1.symm, h.2.symm⟩⟩
    · rename_i i sz
      split at h
      · rename_i c' l' u hb
        split at h
        · rename_i hs hse
          obtain ⟨e⟩ := hs
          subst e
          cases hz : (sz == c'.sz && u == t) with
          | false => rw [hz] at h; cases h
          | true =>
            rw [hz, cond_true, Option.some.injEq, Prod.mk.injEq] at h
            simp only [Bool.and_eq_true, beq_iff_eq] at hz
            obtain ⟨rfl, rfl⟩ := hz
            have h1 : l' = l := h.1
            subst h1
            exact ⟨_, rfl, .inr ⟨i, h.2.symm, rfl, hb⟩⟩
        · cases h
      · cases h
    · cases h
  · cases h

theorem lend_le0 (C : Cx) (b : Nat) (j : Option Nat) (hide : Nat → Prop) : C.Le0 (C.lend b j hide) := ⟨Nat.le_refl _, fun _ _ _ => rfl, fun _ _ h => h.1⟩

/-- The function's memory holds what it should. -/
theorem lend_rel {C : Cx} {hp : List Blk} (hr : HRel C hp) {W : WFun} {b : Nat} {cs : List AV} {cl : Bool} {l : List W.c.D} {j : Option Nat} {hide : Nat → Prop} (hb : gb hp b = .row cs W.T cl) (hw : rowW W.c W.t hp cs = some (l, j))
    (hhb : ¬ hide (C.mu b)) (hhj : ∀ i, j = some i → C.nl i = false → ¬ hide (C.mu i)) : HRel (C.lend b j hide) (wHp W l) := by
  obtain ⟨v, rfl, hv⟩ := rowW_ok hr hw
  obtain ⟨hal, hown, hln, cur, hheap, hcur, hle, hcell⟩ := hr.row b _ _ _ hb
  have hnl := hr.nnl b _ _ _ hb
  have hlive : (gb hp b).live = true := by rw [hb]; rfl
  have hv0 := hcell 0 (by simp)
  refine ⟨fun i hi => ?_, fun i hi => ?_, fun i cs' t' cl' hi => ?_, fun i cs' t' cl' hi => ?_, fun i c' l' t' hi => ?_, fun i o hi => ?_, fun i i' h h' hn hn' he => ?_, fun B hB => hr.ownlt B hB.1⟩
  · simp only [wHp, List.length_cons, List.length_nil]; rcases hi with rfl | rfl <;> omega
  · rcases i with _ | _ | i
    · cases hi
    · cases hi
    · cases i <;> cases hi
  · rcases i with _ | _ | i
    · rfl
    · cases hi
    · cases i <;> cases hi
  · rcases i with _ | _ | i
    · simp only [wHp, gb, Blk.row.injEq] at hi
      obtain ⟨rfl, rfl, rfl⟩ := hi
      refine ⟨.inl rfl, ⟨hown, hhb⟩, hln, cur, hheap, hcur, hle, fun q hq => ?_⟩
      have hq0 : q = 0 := by simp at hq; omega
      subst hq0
      have hv1 : VRel C true v (cur.getD 0 undef) := hv0.up' (by cases cl <;> simp)
      rcases hv with ⟨rfl, _, rfl⟩ | ⟨i, rfl, rfl, hi⟩
      · rw [hv1.inv_val]; exact .so0 (C := C.lend b none hide) (.inr rfl) rfl
      · show VRel (C.lend b (some i) hide) true (.so 1 W.c.sz) _
        generalize cur.getD 0 undef = u at hv1
        cases hv1 with
        | so h1 h2 h3 h4 h5 h6 h7 => exact .so (C := C.lend b (some i) hide) (b := 1) (.inr rfl) h2 h3 h4 h5 h6 h7
        | so0 h1 h2 => exact .so0 (C := C.lend b (some i) hide) (.inr rfl) h2
    · cases hi
    · cases i <;> cases hi
  · rcases i with _ | _ | i
    · cases hi
    · simp only [wHp, gb, Blk.rt.injEq] at hi
      obtain ⟨rfl, hi, rfl⟩ := hi
      have hi := eq_of_heq hi
      subst hi
      rcases hv with ⟨_, rfl, rfl⟩ | ⟨i, rfl, _, hi⟩
      · exact ⟨.inr rfl, by simp [Cx.lend, oz], .inl ⟨rfl, rfl⟩⟩
      · obtain ⟨h1, h2, h3⟩ := hr.rt i _ _ _ hi
        refine ⟨.inr rfl, h2, ?_⟩
        rcases h3 with h3 | ⟨h3, h4, cur2, h5, h6, h7, h8⟩
        · exact .inl h3
        · exact .inr ⟨h3, ⟨h4, hhj i rfl h3⟩, cur2, h5, h6, h7, fun q hq k hk => VRel.mono_false (lend_le0 C b (some i) hide) (h8 q hq k hk) rfl⟩
    · cases i <;> cases hi
  · rcases i with _ | _ | i
    · cases hi
    · cases hi
    · cases i <;> cases hi
  · have key : ∀ q, (gb (wHp W l) q).live = true → q = 0 ∨ q = 1 := fun q hq => by
      rcases q with _ | _ | q
      · exact .inl rfl
      · exact .inr rfl
      · cases q <;> cases hq
    have ne : (C.lend b j hide).nl 1 = false → C.mu b ≠ (C.lend b j hide).mu 1 := fun h1 h2 => by
      rcases hv with ⟨_, _, rfl⟩ | ⟨q, rfl, _, hi⟩
      · cases h1
      · have := hr.inj b q hlive (by rw [hi]; rfl) hnl h1 h2
        subst this
        rw [hb] at hi; cases hi
    rcases key i h with rfl | rfl <;> rcases key i' h' with rfl | rfl
    · rfl
    · exact absurd he (ne hn')
    · exact absurd he.symm (ne hn)
    · rfl

theorem callW_ok {P : Program} {β : Type} {tm : List AV} {hp : List Blk} {K : Res → Option β} {o : Oper} {r : β} {f : Operand} {args : Array Operand} {ats : Array TypeId} {p : Nat} {g : FuncId} {W : WFun} (hW : WOk P g W) (hc : callable P g = true)
    (ho : o.op = .call { callee := .value f, args := args, argTypes := ats }) (hf : evA tm f = .fn g []) (h : callWK hp K p W (args.toList.map (evA tm)) = some r) : EndsR P o tm hp K r := by
  unfold callWK at h
  split at h
  · rename_i xv rest hargs
    split at h
    · rename_i b off
      split at h
      · rename_i cs T cl hb
        split at h
        · rename_i l j hrow
          split at h
          · rename_i aa hrd
            split at h
            · rename_i hfree
              cases hcond : (((off == 0 && T == W.T) && !((refsL rest).contains b)) && !((refsL rest).any (optL j).contains)) with
              | false => rw [hcond] at h; cases h
              | true =>
                rw [hcond, cond_true] at h
                simp only [Bool.and_eq_true, beq_iff_eq, Bool.not_eq_true'] at hcond
                obtain ⟨⟨⟨rfl, rfl⟩, hnb⟩, hnj⟩ := hcond
                obtain ⟨y, hy, h⟩ := Option.bind_eq_some_iff.1 h
                refine ⟨_, h, ?_⟩
                intro w0 O C tm' hp' a hr ha KK Q hK
                have hmf : f ∈ o.op.operands := by simp [ho, Op.operands, Call.operands]
                have hma : ∀ x ∈ args.toList, x ∈ o.op.operands := fun x hx => by simp only [ho, Op.operands, Call.operands]; exact Array.mem_append.2 (.inr (Array.mem_toList_iff.1 hx))
                have hv : ∀ x ∈ o.op.operands, VRel C true (evA tm x) (a.eval x) := fun x hx => by rw [← ha.ops x hx]; exact hr.ev x
                have hfv := hv f hmf
                rw [hf] at hfv
                have hcells := Cells.of_ops (C := C) (tm := tm) (ev := a.eval) args.toList (fun x hx => hv x (hma x hx))
                rw [hargs] at hcells
                obtain ⟨u0, us, hus⟩ : ∃ u0 us, args.toList.map a.eval = u0 :: us := by
                  have := hcells.1
                  cases hm : args.toList.map a.eval with
                  | nil => rw [hm] at this; simp at this
                  | cons u0 us => exact ⟨u0, us, rfl⟩
                rw [hus] at hcells
                have hb' : gb hp' b = .row cs W.T cl := by rw [ha.foot b (by simp), hb]
                have hp0 : gb hp' p = .free := by rw [ha.foot p (by simp), hfree]
                have hagr : ∀ x ∈ refsL rest, gb hp' x = gb hp x := fun x hx => ha.foot x (by simp [hx])
                have hrow' : rowW W.c W.t hp' cs = some (l, j) := rowW_agree hrow (fun i hi => ha.foot i (by simp [hi]))
                have hrd' : W.rd (immL hp' rest) = some aa := by rw [immL_agree rest hagr]; exact hrd
                obtain ⟨v, hcs, hvj⟩ := rowW_ok hr.hp hrow'
                obtain ⟨hal, hown, hln, cur, hheap, hcur, hle, hcell⟩ := hr.hp.row b _ _ _ hb'
                have hnl := hr.hp.nnl b _ _ _ hb'
                have hliveb : (gb hp' b).live = true := by rw [hb']; rfl
                have hlivej : ∀ i, j = some i → (gb hp' i).live = true := fun i hi => by
                  rcases hvj with ⟨_, _, e⟩ | ⟨i', e, _, h2⟩
                  · rw [e] at hi; cases hi
                  · rw [e] at hi; cases hi; rw [h2]; rfl
                have hbj : ∀ i, j = some i → i ≠ b := fun i hi e => by
                  rcases hvj with ⟨_, _, e'⟩ | ⟨i', e', _, h2⟩
                  · rw [e'] at hi; cases hi
                  · rw [e'] at hi; cases hi; subst e; rw [hb'] at h2; cases h2
                have hnotb : ∀ x ∈ refsL rest, x ≠ b := fun x hx e => by
                  subst e
                  have : (refsL rest).contains x = true := by simpa using hx
                  rw [this] at hnb; cases hnb
                have hnotj : ∀ x ∈ refsL rest, ∀ i, j = some i → x ≠ i := fun x hx i hi e => by
                  subst e
                  have : (refsL rest).any (optL j).contains = true := List.any_eq_true.2 ⟨x, hx, by rw [hi]; simp [optL]⟩
                  rw [this] at hnj; cases hnj
                -- what the function has
                let hide : Nat → Prop := fun B => ∃ x ∈ refsL rest, (gb hp' x).live = true ∧ C.nl x = false ∧ B = C.mu x
                have hhb : ¬ hide (C.mu b) := by
                  rintro ⟨x, hx, h1, h2, h3⟩
                  exact hnotb x hx (hr.hp.inj x b h1 hliveb h2 hnl h3.symm)
                have hhj : ∀ i, j = some i → C.nl i = false → ¬ hide (C.mu i) := by
                  rintro i hi hn ⟨x, hx, h1, h2, h3⟩
                  exact hnotj x hx i hi (hr.hp.inj x i h1 (hlivej i hi) h2 hn h3.symm)
                let D := C.lend b j hide
                let may : Nat → Prop := fun B => B = C.mu b ∨ ∃ i, j = some i ∧ C.nl i = false ∧ B = C.mu i
                have hmayown : ∀ B, may B → C.own B := by
                  rintro B (rfl | ⟨i, hi, hn, rfl⟩)
                  · exact hown
                  · exact hr.hp.ownsB (hlivej i hi) hn
                let O' : Env := ⟨may, fun B => D.own B ∧ ¬ may B, fun B k => B = C.mu b ∧ k = C.ka b, []⟩
                have hD : HRel D (wHp W l) := lend_rel hr.hp hb' hrow' hhb hhj
                have hrest : Cells D true (W.st aa) us := by
                  have h1 : Cells C true rest us := hcells.drop 1
                  have h2 : Cells (cx0 D.own C.w) false (immL hp' rest) us := ⟨by rw [immL_length]; exact h1.1, fun q => by
                    rw [immL_gt]
                    exact immV_rel hr.hp (fun B h => h.1) (h1.2 q) (fun x hx hl hn hb => hb.2 ⟨x, refsL_gt hx, hl, hn, rfl⟩)⟩
                  have h3 := W.ok _ _ hrd' _ _ _ h2
                  exact ⟨h3.1, fun q => (VRel.mono_false (C := cx0 D.own C.w) (D := D) ⟨Nat.le_refl _, fun _ _ _ => rfl, fun _ _ h => h⟩ (h3.2 q) rfl).up rfl⟩
                have hptr := hcells.2 0
                have hfz : ∀ B, D.w.heap.size ≤ B ∨ may B → ∀ cur t fr, D.w.heap[B]? = some (.cells cur t fr) → fr = (0, 0) := by
                  rintro B (hB | (rfl | ⟨i, hi, hn, rfl⟩)) c2 t2 fr h
                  · have := (Array.getElem?_eq_some_iff.1 h).1; omega
                  · have h : C.w.heap[C.mu b]? = some (.cells c2 t2 fr) := h
                    rw [hheap] at h; cases h; rfl
                  · have h : C.w.heap[C.mu i]? = some (.cells c2 t2 fr) := h
                    rcases hvj with ⟨_, _, e⟩ | ⟨i', e, _, h2⟩
                    · rw [e] at hi; cases hi
                    · rw [e] at hi; cases hi
                      obtain ⟨_, _, h3⟩ := hr.hp.rt i _ _ _ h2
                      rcases h3 with ⟨h4, _⟩ | ⟨_, _, c3, h5, _⟩
                      · rw [hn] at h4; cases h4
                      · rw [h5] at h; cases h; rfl
                have hRep : Rep D.w O' D ⟨.pp 0 0 :: W.st aa, wHp W l⟩ { tmps := (u0 :: us).toArray, defers := [] } := by
                  refine ⟨rfl, by simp [hrest.1], fun q => ?_, hD, ⟨rfl, rfl, rfl, Nat.le_refl _, fun _ _ _ => rfl, fun B h => h.1, fun B h => hD.ownlt B h.1, fun B h => h.2, rfl, hfz⟩, fun i hi hn => ?_⟩
                  · have e1 : (u0 :: us).toArray.getD q undef = vg (u0 :: us) q := by simp [vg]
                    show VRel D true (gt (.pp 0 0 :: W.st aa) q) ((u0 :: us).toArray.getD q undef)
                    rw [e1]
                    cases q with
                    | zero =>
                      have h1 : VRel C true (.ptr b 0) u0 := hptr
                      cases h1 with
                      | ptr _ => exact .pp (C := D) (b := 0) (.inl rfl) ⟨rfl, rfl⟩
                    | succ q => exact hrest.2 q
                  · rcases i with _ | _ | i
                    · exact .inl (.inl rfl)
                    · refine .inl (.inr ?_)
                      rcases hvj with ⟨_, _, e⟩ | ⟨i, e, _, h2⟩
                      · have : D.nl 1 = true := by show ob C.nl j = true; rw [e]; rfl
                        rw [show D.nl (0 + 1) = D.nl 1 from rfl, this] at hn; cases hn
                      · refine ⟨i, e, ?_, ?_⟩
                        · have : D.nl 1 = C.nl i := by show ob C.nl j = _; rw [e]; rfl
                          rw [← this]; exact hn
                        · show oz C.mu j = _; rw [e]; rfl
                    · cases i <;> cases hi
                have hcall := hW.2 l aa y hy O' D (u0 :: us) hRep
                have hrun : ∀ w, (execOp a.eval o).run P w = .ok (.enter g (u0 :: us).toArray) w := fun w => by
                  generalize hcf : a.eval f = cf at hfv
                  cases hfv with
                  | fn ws hl hrel =>
                    have hws : ws = [] := List.eq_nil_of_length_eq_zero (by simpa using hl)
                    subst hws
                    rw [run_call ho hcf hc w]
                    congr 2
                    apply Array.toList_inj.1
                    simpa using hus
                unfold Oper.wp
                rw [hrun]
                refine Calls.mono hcall fun e w' he => ?_
                obtain ⟨rfl, D', a', hw', hr'⟩ := he
                have hpin : D'.pin = fun B k => B = C.mu b ∧ k = C.ka b := hr'.kept.pin
                obtain ⟨al0, mu0, ka0⟩ : D'.al 0 ∧ D'.mu 0 = C.mu b ∧ D'.ka 0 = C.ka b := by
                  have h1 : VRel D' true (.pp 0 0) _ := hr'.tm 0
                  generalize a'.tmps.getD 0 undef = z at h1
                  cases h1 with
                  | pp h1 h2 => rw [hpin] at h2; exact ⟨h1, h2.1, h2.2⟩
                obtain ⟨_, own0, ln0, cur', heap', cur0', le0', cell0'⟩ := hr'.hp.row 0 [.so 1 W.c.sz] W.T false rfl
                have hso := cell0' 0 (by simp)
                obtain ⟨al1, ln1, rt1⟩ := hr'.hp.rt 1 W.c y W.t rfl
                have mine1 : D'.nl 1 = false → may (D'.mu 1) ∨ C.w.heap.size ≤ D'.mu 1 := fun hn => hr'.mine 1 rfl hn
                have nl0 : D'.nl 0 = false := hr'.hp.nnl 0 _ _ _ rfl
                have hpl : p < hp'.length := gb_len' (fun e => by rw [e] at hp0; cases hp0)
                have hnal := hr.hp.free p hp0
                have hpb : p ≠ b := fun e => by subst e; rw [hb'] at hp0; cases hp0
                have hpj : ∀ i, j = some i → p ≠ i := fun i hi e => by
                  subst e
                  have := hlivej p hi
                  rw [hp0] at this; cases this
                -- the caller's memory
                let C2 := C.back D' p
                have hsize : C.w.heap.size ≤ D'.w.heap.size := hr'.kept.size
                have hblock : ∀ B, B < C.w.heap.size → ¬ may B → D'.w.heap[B]? = C.w.heap[B]? := hr'.kept.block
                have hLe : C.Le anyb C2 := by
                  refine ⟨hsize, fun B hB hn => hblock B hB (fun h => hn (hmayown B h)), fun B hB h => ?_, fun x h => .inl h, fun x hx _ => ?_, rfl⟩
                  · rcases h with h | h
                    · exact h
                    · omega
                  · have : x ≠ p := fun e => hnal (e ▸ hx)
                    simp only [C2, Cx.back]; rw [if_neg this, if_neg this, if_neg this, if_neg this]; exact ⟨rfl, rfl, rfl, rfl⟩
                have mup : C2.mu p = D'.mu 1 := by simp [C2, Cx.back]
                have kap : C2.ka p = D'.ka 1 := by simp [C2, Cx.back]
                have lnp : C2.ln p = D'.ln 1 := by simp [C2, Cx.back]
                have nlp : C2.nl p = D'.nl 1 := by simp [C2, Cx.back]
                have ob' : ∀ x, x ≠ p → C2.mu x = C.mu x ∧ C2.ka x = C.ka x ∧ C2.ln x = C.ln x ∧ C2.nl x = C.nl x := fun x hx => by
                  simp only [C2, Cx.back]; rw [if_neg hx, if_neg hx, if_neg hx, if_neg hx]; exact ⟨rfl, rfl, rfl, rfl⟩
                obtain ⟨mub, kab, lnb, nlb⟩ := ob' b (Ne.symm hpb)
                let hpg := goneL hp' (optL j)
                have hglen : hpg.length = hp'.length := goneL_length _ _
                let hp2 := sb (sb hpg b (.row [.so p W.c.sz] W.T false)) p (.rt W.c y W.t)
                have g2p : gb hp2 p = .rt W.c y W.t := gb_sb_same _ _ _ (by rw [sb_length, hglen]; exact hpl)
                have g2b : gb hp2 b = .row [.so p W.c.sz] W.T false := by
                  show gb (sb _ p _) b = _
                  rw [gb_sb_ne _ _ _ _ (Ne.symm hpb)]
                  exact gb_sb_same _ _ _ (by rw [hglen]; exact gb_len hliveb)
                have g2o : ∀ x, x ≠ p → x ≠ b → (gb hp2 x = gb hp' x ∧ ∀ i, j = some i → x ≠ i) ∨ gb hp2 x = .gone := fun x hx1 hx2 => by
                  show (gb (sb (sb hpg b _) p _) x = _ ∧ _) ∨ _
                  rw [gb_sb_ne _ _ _ _ hx1, gb_sb_ne _ _ _ _ hx2]
                  rcases gb_goneL (optL j) hp' x with ⟨h1, h2⟩ | h1
                  · exact .inl ⟨h1, fun i hi e => h2 (by rw [hi]; simp [optL, e])⟩
                  · exact .inr h1
                have keep : ∀ x, x ≠ b → (∀ i, j = some i → x ≠ i) → (gb hp' x).live = true → C.nl x = false → D'.w.heap[C.mu x]? = C.w.heap[C.mu x]? := fun x hx1 hx2 hl hn => by
                  refine hblock _ (hr.hp.lt hl hn) ?_
                  rintro (h | ⟨i, hi, hni, h⟩)
                  · exact hx1 (hr.hp.inj x b hl hliveb hn hnl h)
                  · exact hx2 i hi (hr.hp.inj x i hl (hlivej i hi) hn hni h)
                have hso2 : ∀ u, VRel D' true (.so 1 W.c.sz) u → VRel C2 true (.so p W.c.sz) u := fun u hu => by
                  cases hu with
                  | so h1 h2 h3 h4 h5 h6 h7 => rw [← mup]; exact .so (.inr rfl) (nlp.trans h2) h3 (h4.trans lnp.symm) (h5.trans kap.symm) h6 h7
                  | so0 h1 h2 => exact .so0 (.inr rfl) (nlp.trans h2)
                have hp1 : D'.nl 1 = false → ∀ x, (gb hp2 x).live = true → x ≠ p → C2.nl x = false → C2.mu x ≠ D'.mu 1 := fun hn1 x hx hxp hnx he => by
                  obtain ⟨e1, _, _, e4⟩ := ob' x hxp
                  rw [e1] at he
                  rw [e4] at hnx
                  by_cases hxb : x = b
                  · subst hxb
                    have := hr'.hp.inj 0 1 rfl rfl nl0 hn1 (mu0.trans he)
                    cases this
                  · rcases g2o x hxp hxb with ⟨h1, h2⟩ | h1
                    · rw [h1] at hx
                      rcases mine1 hn1 with (h | ⟨i, hi, hni, h⟩) | h
                      · exact hxb (hr.hp.inj x b hx hliveb hnx hnl (he.trans h))
                      · exact h2 i hi (hr.hp.inj x i hx (hlivej i hi) hnx hni (he.trans h))
                      · have := hr.hp.lt hx hnx; omega
                    · rw [h1] at hx; cases hx
                have hrel2 : HRel C2 hp2 := by
                  refine ⟨fun x hx => ?_, fun x hx => ?_, fun x cs' t' cl' hx => ?_, fun x cs' t' cl' hx => ?_, fun x c' l' t' hx => ?_, fun x oo hx => ?_, fun x x' h h' hn hn' he => ?_, fun B hB => ?_⟩
                  · show x < (sb (sb hpg b _) p _).length
                    rw [sb_length, sb_length, hglen]
                    rcases hx with hx | hx
                    · exact hr.hp.al x hx
                    · exact hx ▸ hpl
                  · by_cases e1 : x = p
                    · subst e1; rw [g2p] at hx; cases hx
                    · by_cases e2 : x = b
                      · subst e2; rw [g2b] at hx; cases hx
                      · rcases g2o x e1 e2 with ⟨h1, _⟩ | h1
                        · rw [h1] at hx
                          rintro (h | h)
                          · exact hr.hp.free x hx h
                          · exact e1 h
                        · rw [h1] at hx; cases hx
                  · by_cases e1 : x = p
                    · subst e1; rw [g2p] at hx; cases hx
                    · by_cases e2 : x = b
                      · subst e2; exact nlb.trans hnl
                      · rcases g2o x e1 e2 with ⟨h1, _⟩ | h1
                        · rw [h1] at hx; exact (ob' x e1).2.2.2.trans (hr.hp.nnl x _ _ _ hx)
                        · rw [h1] at hx; cases hx
                  · by_cases e1 : x = p
                    · subst e1; rw [g2p] at hx; cases hx
                    · by_cases e2 : x = b
                      · subst e2
                        rw [g2b] at hx
                        simp only [Blk.row.injEq] at hx
                        obtain ⟨rfl, rfl, rfl⟩ := hx
                        refine ⟨.inl hal, by rw [mub]; exact .inl hown, by rw [lnb, hln, hcs]; rfl, cur', by rw [mub, ← mu0]; exact heap', by rw [kab, ← ka0]; exact cur0', by rw [kab, ← ka0]; exact le0', fun q hq => ?_⟩
                        have hq0 : q = 0 := by simp at hq; omega
                        subst hq0
                        exact hso2 _ hso
                      · rcases g2o x e1 e2 with ⟨h1, h2⟩ | h1
                        · rw [h1] at hx
                          obtain ⟨f1, f2, f3, cx, f4, f5, f6, f7⟩ := hr.hp.row x _ _ _ hx
                          obtain ⟨m1, m2, m3, m4⟩ := ob' x e1
                          exact ⟨.inl f1, by rw [m1]; exact .inl f2, m3.trans f3, cx, by rw [m1]; exact (keep x e2 h2 (by rw [hx]; rfl) (hr.hp.nnl x _ _ _ hx)).trans f4, f5.trans m2.symm, by rw [m2]; exact f6, fun q hq => (f7 q hq).le hLe⟩
                        · rw [h1] at hx; cases hx
                  · by_cases e1 : x = p
                    · subst e1
                      rw [g2p] at hx
                      simp only [Blk.rt.injEq] at hx
                      obtain ⟨rfl, hx, rfl⟩ := hx
                      have hx := eq_of_heq hx
                      subst hx
                      refine ⟨.inr rfl, lnp.trans ln1, ?_⟩
                      rcases rt1 with ⟨k1, k2⟩ | ⟨k1, k2, cx, k3, k4, k5, k6⟩
                      · exact .inl ⟨nlp.trans k1, k2⟩
                      · refine .inr ⟨nlp.trans k1, ?_, cx, by rw [mup]; exact k3, by rw [kap]; exact k4, by rw [kap]; exact k5, fun q hq i hi => (k6 q hq i hi).nomem (nomemL_gt (CT.plain_nomem hW.1 _) i)⟩
                        rw [mup]
                        rcases mine1 k1 with h | h
                        · exact .inl (hmayown _ h)
                        · exact .inr ⟨k2, h⟩
                    · by_cases e2 : x = b
                      · subst e2; rw [g2b] at hx; cases hx
                      · rcases g2o x e1 e2 with ⟨h1, h2⟩ | h1
                        · rw [h1] at hx
                          obtain ⟨f1, f2, f3⟩ := hr.hp.rt x _ _ _ hx
                          obtain ⟨m1, m2, m3, m4⟩ := ob' x e1
                          refine ⟨.inl f1, m3.trans f2, ?_⟩
                          rcases f3 with ⟨k1, k2⟩ | ⟨k1, k2, cx, k3, k4, k5, k6⟩
                          · exact .inl ⟨m4.trans k1, k2⟩
                          · exact .inr ⟨m4.trans k1, by rw [m1]; exact .inl k2, cx, by rw [m1]; exact (keep x e2 h2 (by rw [hx]; rfl) k1).trans k3, by rw [m2]; exact k4, by rw [m2]; exact k5, fun q hq i hi => (k6 q hq i hi).le hLe⟩
                        · rw [h1] at hx; cases hx
                  · by_cases e1 : x = p
                    · subst e1; rw [g2p] at hx; cases hx
                    · by_cases e2 : x = b
                      · subst e2; rw [g2b] at hx; cases hx
                      · rcases g2o x e1 e2 with ⟨h1, h2⟩ | h1
                        · rw [h1] at hx
                          obtain ⟨f1, f2, f3, ox, f4, f5⟩ := hr.hp.ob x _ hx
                          obtain ⟨m1, m2, m3, m4⟩ := ob' x e1
                          exact ⟨.inl f1, m4.trans f2, by rw [m1]; exact .inl f3, ox, by rw [m1]; exact (keep x e2 h2 (by rw [hx]; rfl) f2).trans f4, f5⟩
                        · rw [h1] at hx; cases hx
                  · by_cases e1 : x = p <;> by_cases e1' : x' = p
                    · rw [e1, e1']
                    · subst e1
                      rw [nlp] at hn
                      exact absurd (by rw [← he, mup]) (hp1 hn x' h' e1' hn')
                    · subst e1'
                      rw [nlp] at hn'
                      exact absurd (by rw [he, mup]) (hp1 hn' x h e1 hn)
                    · have lv : ∀ z, z ≠ p → (gb hp2 z).live = true → (gb hp' z).live = true := fun z hz hl => by
                        by_cases e2 : z = b
                        · subst e2; exact hliveb
                        · rcases g2o z hz e2 with ⟨h1, _⟩ | h1
                          · rw [← h1]; exact hl
                          · rw [h1] at hl; cases hl
                      obtain ⟨m1, _, _, m4⟩ := ob' x e1
                      obtain ⟨m1', _, _, m4'⟩ := ob' x' e1'
                      exact hr.hp.inj x x' (lv x e1 h) (lv x' e1' h') (m4.symm.trans hn) (m4'.symm.trans hn') (by rw [← m1, ← m1', he])
                  · rcases hB with h | h
                    · exact Nat.lt_of_lt_of_le (hr.hp.ownlt B h) hsize
                    · exact hr'.hp.ownlt B h.1
                have hmine : ∀ B, may B → O.may B ∨ w0.heap.size ≤ B := by
                  rintro B (rfl | ⟨i, hi, hni, rfl⟩)
                  · exact hr.mine b hliveb hnl
                  · exact hr.mine i (hlivej i hi) hni
                have hRep2 : Rep w0 O C2 ⟨tm', hp2⟩ a := by
                  refine ⟨hr.defers, hr.size, fun t => (hr.tm t).le hLe, hrel2, ⟨hr'.kept.os.trans hr.kept.os, hr'.kept.tape.trans hr.kept.tape, hr'.kept.output.trans hr.kept.output, Nat.le_trans hr.kept.size hsize, fun B hB hO => ?_, fun B hB => .inl (hr.kept.ban B hB), hr.kept.banlt, hr.kept.banmay, hr.kept.pin, fun B hB c2 t2 fr h => ?_⟩, fun x hx hn => ?_⟩
                  · refine (hblock B (Nat.lt_of_lt_of_le hB hr.kept.size) (fun h => ?_)).trans (hr.kept.block B hB hO)
                    rcases hmine B h with h | h
                    · exact hO h
                    · omega
                  · by_cases hm : C.w.heap.size ≤ B ∨ may B
                    · exact hr'.kept.frz B hm c2 t2 fr h
                    · have h : D'.w.heap[B]? = some (.cells c2 t2 fr) := h
                      rw [hblock B (by omega) (fun e => hm (.inr e))] at h
                      exact hr.kept.frz B hB c2 t2 fr h
                  · by_cases e1 : x = p
                    · subst e1
                      rw [nlp] at hn
                      rw [mup]
                      rcases mine1 hn with h | h
                      · exact hmine _ h
                      · exact .inr (Nat.le_trans hr.kept.size h)
                    · obtain ⟨m1, _, _, m4⟩ := ob' x e1
                      rw [m1]
                      by_cases e2 : x = b
                      · subst e2; exact hr.mine x hliveb hnl
                      · have hx : (gb hp2 x).live = true := hx
                        rcases g2o x e1 e2 with ⟨h1, _⟩ | h1
                        · rw [h1] at hx; exact hr.mine x hx (m4.symm.trans hn)
                        · rw [h1] at hx; cases hx
                have hfin := hRep2.put o.dst (v := .tup []) (c := .tuple #[]) (.tup [] rfl (fun _ => .junk _))
                rw [← hw']
                refine hK C2 _ ?_
                have e3 : upds hp' ((optL j).map (fun j => (j, Blk.gone)) ++ [(b, .row [.so p W.c.sz] W.T false), (p, .rt W.c y W.t)]) = hp2 := by rw [upds_gone]; rfl
                simpa [ORes.st, killT, killH, e3] using hfin
            · cases h
          · cases h
        · cases h
      · cases h
    · cases h
  · cases h

def callGK (G : Gam) {β : Type} (hp : List Blk) (K : Res → Option β) (p : Nat) (f : AV) (args : List AV) : Option β := match f with
  | .fn g [] => match G.w g with
    | some W => callWK hp K p W args
    | none => callK G hp K (.fn g []) args
  | f => callK G hp K f args

theorem callG_ok {P : Program} {G : Gam} (hG : GamOk P G) {β : Type} {tm : List AV} {hp : List Blk} {K : Res → Option β} {o : Oper} {r : β} {f : Operand} {args : Array Operand} {ats : Array TypeId} {p : Nat}
    (ho : o.op = .call { callee := .value f, args := args, argTypes := ats }) (h : callGK G hp K p (evA tm f) (args.toList.map (evA tm)) = some r) : EndsR P o tm hp K r := by
  unfold callGK at h
  split at h
  · rename_i g hf
    split at h
    · rename_i W hW
      obtain ⟨h1, h2⟩ := hG.2 g W hW
      exact callW_ok h1 h2 ho hf h
    · rw [← hf] at h; exact call_ok hG ho h
  · exact call_ok hG ho h
end Go.Va
