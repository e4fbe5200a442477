/-
  Strings gone through rune by rune, and maps: the operations as abstract steps.
  Conditions: none.
-/
import Derived.Test.YtnidnmhcjngmeaaGreatVaApp
import Derived.Lib.OthersKept
import Derived.Laws.RangeString
import Derived.MapKept
import Derived.Carry
set_option linter.unusedVariables false
set_option linter.unusedSimpArgs false
set_option autoImplicit false
namespace Go.Va

/-! ### Maps as lists -/
def CT.of1 : (c : CT) → AV → Option c.D
  | .int k, v => match v with
    | .val (.int j x) => if j = k then some x else none
    | _ => none
  | .bool, v => match v with
    | .val (.bool x) => some x
    | _ => none
  | .str, v => match v with
    | .val (.string x) => some x
    | _ => none
  | _, _ => none

theorem CT.of1_eq {c : CT} {v : AV} {x : c.D} (h : c.of1 v = some x) : v = .val (c.v1 x) := by
  cases c with
  | int k =>
    simp only [CT.of1] at h
    split at h
    · split at h
      · rename_i e
        simp only [Option.some.injEq] at h; subst h; subst e; rfl
      · cases h
    · cases h
  | bool =>
    simp only [CT.of1] at h
    split at h
    · simp only [Option.some.injEq] at h; subst h; rfl
    · cases h
  | str =>
    simp only [CT.of1] at h
    split at h
    · simp only [Option.some.injEq] at h; subst h; rfl
    · cases h
  | _ => cases h

def CT.eqD : (c : CT) → c.D → c.D → Bool
  | .int _, x, y => x == y
  | .bool, x, y => x == y
  | .str, x, y => x == y
  | _, _, _ => false

theorem CT.eqD_v1 {c : CT} {x y : c.D} (h : c.eqD x y = true) : c.v1 y = c.v1 x := by
  cases c with
  | int k => simp only [CT.eqD, beq_iff_eq] at h; rw [h]
  | bool => simp only [CT.eqD, beq_iff_eq] at h; rw [h]
  | str => rw [show x = y from (MapKept.bytes_beq _ _).1 h]
  | _ => cases h

/-- The kind of a plain type. -/
def ct1 (P : Program) (t : TypeId) : Option CT := match P.underlying t with
  | some (.int k) => some (.int k)
  | some .bool => some .bool
  | some .string => some .str
  | _ => none

def mpGet (k v : CT) : List (k.D × v.D) → k.D → Option v.D
  | [], _ => none
  | p :: l, x => bif k.eqD x p.1 then some p.2 else mpGet k v l x

def mpPut (k v : CT) : List (k.D × v.D) → k.D → v.D → List (k.D × v.D)
  | [], x, z => [(x, z)]
  | p :: l, x, z => bif k.eqD x p.1 then (x, z) :: l else p :: mpPut k v l x z

def zeroIs : CT → Value → Bool
  | .int k, .int j x => j == k && x == 0
  | .bool, .bool x => !x
  | .str, .string x => x == ByteArray.empty
  | _, _ => false

theorem zeroIs_eq {c : CT} {z : Value} (h : zeroIs c z = true) : z = c.v1 c.df := by
  unfold zeroIs at h
  split at h
  · simp only [Bool.and_eq_true, beq_iff_eq] at h; rw [h.1, h.2]; rfl
  · simp only [Bool.not_eq_true'] at h; rw [h]; rfl
  · rw [(MapKept.bytes_beq _ _).1 h]; rfl
  · cases h

def optD {α : Type} (o : Option α) (d : α) : α := match o with
  | some x => x
  | none => d
def optB {α : Type} (o : Option α) : Bool := match o with
  | some _ => true
  | none => false

section
variable {β : Type} (P : Program) (hp : List Blk) (K : ORes → Option β)

def rangeK (p : Nat) (t : TypeId) (x : AV) : Option β := match x with
  | .val (.string s) => match P.underlying t with
    | some .string => match gb hp p with
      | .free => K ⟨.ptr p 0, [p], [(p, .ob (.it s 0))], none⟩
      | _ => none
    | _ => none
  | _ => none

def nextK (i : Bool) (x : AV) : Option β := match x with
  | .ptr b off => match gb hp b with
    | .ob (.it s pos) => bif i && off == 0 then
        (bif decide (pos < s.size) then K ⟨.tup [.val (.bool true), .val (.int .i64 pos), .val (.int .i32 (Utf8.decode s pos).1)], [b], [(b, .ob (.it s (pos + (Utf8.decode s pos).2)))], none⟩
         else K ⟨.tup [.val (.bool false)], [b], [], none⟩) else none
    | _ => none
  | _ => none

def makeMapK (p : Nat) (t : TypeId) : Option β := match P.underlying t with
  | some (.map kt et) => match ct1 P kt, ct1 P et with
    | some k, some v => match gb hp p with
      | .free => K ⟨.mpp p, [p], [(p, .ob (.mp k v []))], none⟩
      | _ => none
    | _, _ => none
  | _ => none

def lookupK (t : TypeId) (x i : AV) (ok : Bool) : Option β := match x with
  | .mpp b => match gb hp b with
    | .ob (.mp k v l) => match P.underlying t with
      | some (.map kt et) => match P.info? et with
        | some inf => match inf.zero with
          | some z => match CT.of1 k i with
            | some q => match ct1 P kt with
              | some k' => match CT.same k' k with
                | some _ => bif zeroIs v z then
                    (bif ok then K ⟨.tup [.val (v.v1 (optD (mpGet k v l q) v.df)), .val (.bool (optB (mpGet k v l q)))], [b], [], none⟩
                     else K ⟨.val (v.v1 (optD (mpGet k v l q) v.df)), [b], [], none⟩) else none
                | none => none
              | none => none
            | none => none
          | none => none
        | none => none
      | _ => none
    | _ => none
  | _ => none

def mapUpdateK (t : TypeId) (m i x : AV) : Option β := match m with
  | .mpp b => match gb hp b with
    | .ob (.mp k v l) => match P.underlying t with
      | some (.map kt et) => match CT.of1 k i, CT.of1 v x with
        | some q, some z => match ct1 P kt with
          | some k' => match CT.same k' k with
            | some _ => K ⟨.junk, [b], [(b, .ob (.mp k v (mpPut k v l q z)))], none⟩
            | none => none
          | none => none
        | _, _ => none
      | _ => none
    | _ => none
  | _ => none
end

/-! ### Soundness -/
theorem ct1_desc {P : Program} {t : TypeId} {k : CT} (h : ct1 P t = some k) : ∃ d, P.underlying t = some d ∧ (∀ x, MapKept.IsKey d (k.v1 x)) ∧ ∀ x y, Instr.sameNow d (k.v1 x) (k.v1 y) = some (k.eqD x y) := by
  unfold ct1 at h
  split at h
  · rename_i q hu
    simp only [Option.some.injEq] at h; subst h
    exact ⟨_, hu, fun x => rfl, fun x y => by simp [Instr.sameNow, CT.v1, CT.eqD]⟩
  · rename_i hu
    simp only [Option.some.injEq] at h; subst h
    exact ⟨_, hu, fun x => trivial, fun x y => by simp [Instr.sameNow, CT.v1, CT.eqD]⟩
  · rename_i hu
    simp only [Option.some.injEq] at h; subst h
    exact ⟨_, hu, fun x => trivial, fun x y => by simp [Instr.sameNow, CT.v1, CT.eqD]⟩
  · cases h

def kv (e : MapEntry) : Value × Value := (e.key, e.val)

theorem find_mp {k v : CT} {d : TypeDesc} (hd : ∀ x y, Instr.sameNow d (k.v1 x) (k.v1 y) = some (k.eqD x y)) (x : k.D) : ∀ (es : List MapEntry) (l : List (k.D × v.D)) (i : Nat), es.map kv = l.map (fun p => (k.v1 p.1, v.v1 p.2)) →
    (Instr.findNow d (k.v1 x) es i = some none ∧ mpGet k v l x = none ∧ ∀ z, mpPut k v l x z = l ++ [(x, z)]) ∨
    ∃ j e y, Instr.findNow d (k.v1 x) es i = some (some (i + j, v.v1 y)) ∧ es[j]? = some e ∧ e.key = k.v1 x ∧ mpGet k v l x = some y ∧
      ∀ z (f : MapEntry → MapEntry), kv (f e) = (k.v1 x, v.v1 z) → (es.modify j f).map kv = (mpPut k v l x z).map (fun p => (k.v1 p.1, v.v1 p.2))
  | [], [], i, _ => .inl ⟨rfl, rfl, fun _ => rfl⟩
  | [], p :: l, i, h => by simp at h
  | e :: es, [], i, h => by simp at h
  | e :: es, p :: l, i, h => by
    simp only [List.map_cons, List.cons.injEq] at h
    obtain ⟨h0, h1⟩ := h
    have hk : e.key = k.v1 p.1 := congrArg Prod.fst h0
    have hv : e.val = v.v1 p.2 := congrArg Prod.snd h0
    simp only [Instr.findNow, hk, hd, mpGet, mpPut]
    cases hq : k.eqD x p.1 with
    | true =>
      refine .inr ⟨0, e, p.2, by simp [hv], rfl, hk.trans (CT.eqD_v1 hq), rfl, fun z f hf => ?_⟩
      simp only [cond_true, List.modify_zero_cons, List.map_cons, h1]
      rw [hf]
    | false =>
      simp only [cond_false]
      rcases find_mp hd x es l (i + 1) h1 with ⟨h2, h3, h4⟩ | ⟨j, e', y, h2, h3, h4, h5, h6⟩
      · exact .inl ⟨h2, h3, fun z => by rw [h4 z]; rfl⟩
      · refine .inr ⟨j + 1, e', y, by rw [h2]; congr 3; omega, by simpa using h3, h4, h5, fun z f hf => ?_⟩
        rw [List.modify_succ_cons, List.map_cons, List.map_cons, h6 z f hf]
        rw [show kv e = (k.v1 p.1, v.v1 p.2) from Prod.ext hk hv]

section
variable {β : Type} {P : Program} {tm : List AV} {hp : List Blk} {K : ORes → Option β} {o : Oper} {r : β}

theorem range_ok {p : Nat} {t : TypeId} {x : Operand} (ho : o.op = .range t x) (h : rangeK P hp K p t (evA tm x) = some r) : Ends P o tm hp K r := by
  unfold rangeK at h
  split at h
  · rename_i s hx
    split at h
    · rename_i hu
      split at h
      · rename_i hfree
        refine ⟨_, h, ?_⟩
        intro w0 O C tm' hp' a hr ha KK Q hK
        have hx' : VRel C true (evA tm x) (a.eval x) := by rw [← ha.ops x (by simp [ho, Op.operands])]; exact hr.ev x
        rw [hx] at hx'
        have hf' : gb hp' p = .free := by rw [ha.foot p (by simp), hfree]
        have hrun : (execOp a.eval o).run P C.w = .ok (.value (.pointer (some ⟨C.w.heap.size, 0, none⟩))) (C.w.alloc (.stringIter s 0)) := by
          unfold execOp
          simp only [ho, hx'.inv_val]
          rw [Sem.run_bind, run_range_string C.w t s hu]
          rfl
        unfold Oper.wp
        rw [hrun]
        have hr2 := hr.allocOb p hf' (.it s 0) (.stringIter s 0) rfl
        refine hK _ _ (hr2.put o.dst (v := .ptr p 0) ?_)
        have e1 : (C.alloc p 0 0 (.stringIter s 0)).mu p = C.w.heap.size := by simp [Cx.alloc]
        rw [← e1]
        exact .ptr (.inr rfl)
      · cases h
    · cases h
  · cases h

theorem next_ok {i : Bool} {x : Operand} (ho : o.op = .next x i) (h : nextK hp K i (evA tm x) = some r) : Ends P o tm hp K r := by
  unfold nextK at h
  split at h
  · rename_i b off hx
    split at h
    · rename_i s pos hb
      cases hc : (i && off == 0) with
      | false => rw [hc] at h; cases h
      | true =>
        rw [hc, cond_true] at h
        simp only [Bool.and_eq_true, beq_iff_eq] at hc
        obtain ⟨rfl, rfl⟩ := hc
        have hmx : x ∈ o.op.operands := by simp [ho, Op.operands]
        cases hlt : decide (pos < s.size) with
        | true =>
          rw [hlt, cond_true] at h
          have hlt := of_decide_eq_true hlt
          refine ⟨_, h, ?_⟩
          intro w0 O C tm' hp' a hr ha KK Q hK
          have hx' : VRel C true (evA tm x) (a.eval x) := by rw [← ha.ops x hmx]; exact hr.ev x
          rw [hx] at hx'
          have hb' : gb hp' b = .ob (.it s pos) := by rw [ha.foot b (by simp), hb]
          obtain ⟨hal, hnl, hown, ob, h1, h2⟩ := hr.hp.ob b _ hb'
          have h2 : ob = .stringIter s pos := h2
          subst h2
          generalize hcx : a.eval x = cx at hx'
          cases hx' with
          | ptr _ =>
            have hrun : (execOp a.eval o).run P C.w = .ok (.value (.tuple #[.bool true, .int .i64 pos, .int .i32 (Utf8.decode s pos).1])) (C.setOb b (.stringIter s (pos + (Utf8.decode s pos).2))).w := by
              unfold execOp
              simp only [ho, hcx]
              rw [Sem.run_bind, Lib.run_next_any_at C.w (C.mu b) s pos o.type h1 hlt]
              rfl
            unfold Oper.wp
            rw [hrun]
            have hr2 := hr.setOb b _ hb' (.it s (pos + (Utf8.decode s pos).2)) (.stringIter s (pos + (Utf8.decode s pos).2)) rfl
            refine hK _ _ (hr2.put o.dst (v := .tup _) ?_)
            exact .tup [.bool true, .int .i64 pos, .int .i32 (Utf8.decode s pos).1] rfl (fun j => by
              rcases j with _ | _ | _ | j
              · exact .val _
              · exact .val _
              · exact .val _
              · exact .junk _)
        | false =>
          rw [hlt, cond_false] at h
          have hlt := of_decide_eq_false hlt
          refine ⟨_, h, .of_run fun C tm' hp' a hr hvs ha => ?_⟩
          have hb' : gb hp' b = .ob (.it s pos) := by rw [ha b (by simp), hb]
          obtain ⟨hal, hnl, hown, ob, h1, h2⟩ := hr.ob b _ hb'
          have h2 : ob = .stringIter s pos := h2
          subst h2
          have hx' := hvs x hmx
          rw [hx] at hx'
          generalize hcx : a.eval x = cx at hx'
          cases hx' with
          | ptr _ =>
            refine ⟨.tuple #[.bool false], ?_, .tup [.bool false] rfl (fun j => by
              rcases j with _ | j
              · exact .val _
              · exact .junk _)⟩
            unfold execOp
            simp only [ho, hcx]
            rw [Sem.run_bind, Lib.run_next_end_at C.w (C.mu b) s pos o.type h1 hlt]
            rfl
    · cases h
  · cases h

theorem makeMap_ok {p : Nat} {t : TypeId} (ho : o.op = .makeMap t none) (h : makeMapK P hp K p t = some r) : Ends P o tm hp K r := by
  unfold makeMapK at h
  split at h
  · rename_i kt et hu
    split at h
    · rename_i k v hk hv
      split at h
      · rename_i hfree
        refine ⟨_, h, ?_⟩
        intro w0 O C tm' hp' a hr ha KK Q hK
        have hf' : gb hp' p = .free := by rw [ha.foot p (by simp), hfree]
        have hrun : (execOp a.eval o).run P C.w = .ok (.value (.map (some C.w.heap.size))) (C.w.alloc (.map #[] 0)) := by
          unfold execOp
          simp only [ho]
          rw [Sem.run_bind, Option.map_none, RowKit.run_makeMap t C.w]
          rfl
        unfold Oper.wp
        rw [hrun]
        have hr2 := hr.allocOb p hf' (.mp k v []) (.map #[] 0) ⟨#[], 0, rfl, rfl⟩
        refine hK _ _ (hr2.put o.dst (v := .mpp p) ?_)
        have e1 : (C.alloc p 0 0 (.map #[] 0)).mu p = C.w.heap.size := by simp [Cx.alloc]
        rw [← e1]
        exact .mpp (.inr rfl)
      · cases h
    · cases h
  · cases h

theorem lookup_ok {t : TypeId} {x i : Operand} {ok : Bool} (ho : o.op = .lookup t x i ok) (h : lookupK P hp K t (evA tm x) (evA tm i) ok = some r) : Ends P o tm hp K r := by
  unfold lookupK at h
  split at h
  · rename_i b hx
    split at h
    · rename_i k v l hb
      split at h
      · rename_i kt et hu
        split at h
        · rename_i inf hinf
          split at h
          · rename_i z hz
            split at h
            · rename_i q hq
              split at h
              · rename_i k' hk
                split at h
                · rename_i hs hse
                  obtain ⟨e⟩ := hs
                  subst e
                  cases hzi : zeroIs v z with
                  | false => rw [hzi] at h; cases h
                  | true =>
                    rw [hzi, cond_true] at h
                    obtain ⟨d, hd, hkey, hsame⟩ := ct1_desc hk
                    have key : ∀ (C : Cx) (tm' : List AV) (hp' : List Blk) (a : Act), HRel C hp' → (∀ x ∈ o.op.operands, VRel C true (evA tm x) (a.eval x)) → gb hp' b = gb hp b →
                        (execOp a.eval o).run P C.w = .ok (.value (if ok then .tuple #[v.v1 (optD (mpGet k' v l q) v.df), .bool (optB (mpGet k' v l q))] else v.v1 (optD (mpGet k' v l q) v.df))) C.w := by
                      intro C tm' hp' a hr hvs hbb
                      have hx' := hvs x (by simp [ho, Op.operands])
                      have hi' := hvs i (by simp [ho, Op.operands])
                      rw [hx] at hx'
                      rw [CT.of1_eq hq] at hi'
                      obtain ⟨hal, hnl, hown, ob, h1, h2⟩ := hr.ob b _ (hbb.trans hb)
                      obtain ⟨es, clock, rfl, hes⟩ := h2
                      generalize hcx : a.eval x = cx at hx'
                      cases hx' with
                      | mpp _ =>
                        have hzv : (zeroValue et).run P C.w = .ok (v.v1 v.df) C.w := by
                          rw [← zeroIs_eq hzi]; simp [zeroValue, typeInfo, hinf, hz]
                        unfold execOp
                        simp only [ho, hcx, hi'.inv_val]
                        rw [Sem.run_bind]
                        have hrun : (Instr.lookup t (.map (some (C.mu b))) (k'.v1 q) ok).run P C.w = .ok (if ok then .tuple #[v.v1 (optD (mpGet k' v l q) v.df), .bool (optB (mpGet k' v l q))] else v.v1 (optD (mpGet k' v l q) v.df)) C.w := by
                          rcases find_mp hsame q es.toList l 0 hes with ⟨h3, h4, _⟩ | ⟨j, e, y, h3, _, _, h4, _⟩
                          · have hf : (Instr.findKey kt (k'.v1 q) es.toList).run P C.w = .ok none C.w := MapKept.run_findKey hd h3
                            have hck : (Instr.checkKey es.isEmpty 10000 kt (k'.v1 q)).run P C.w = .ok () C.w := MapKept.run_checkKey hd (hkey q) _ 9999
                            unfold Instr.lookup
                            simp only [Sem.run_bind, run_underlying hu, Result.andThen_ok, MapKept.run_getObj_map h1, Sem.run_pure, hck, hf, hzv, h4]
                            rfl
                          · have hf : (Instr.findKey kt (k'.v1 q) es.toList).run P C.w = .ok (some (0 + j, v.v1 y)) C.w := MapKept.run_findKey hd h3
                            have hck : (Instr.checkKey es.isEmpty 10000 kt (k'.v1 q)).run P C.w = .ok () C.w := MapKept.run_checkKey hd (hkey q) _ 9999
                            unfold Instr.lookup
                            simp only [Sem.run_bind, run_underlying hu, Result.andThen_ok, MapKept.run_getObj_map h1, Sem.run_pure, hck, hf, h4]
                            rfl
                        rw [hrun]
                        rfl
                    cases ok with
                    | true =>
                      rw [cond_true] at h
                      refine ⟨_, h, .of_run fun C tm' hp' a hr hvs ha => ?_⟩
                      have := key C tm' hp' a hr hvs (ha b (by simp))
                      refine ⟨_, this, ?_⟩
                      rw [if_pos rfl]
                      exact .tup [v.v1 (optD (mpGet k' v l q) v.df), .bool (optB (mpGet k' v l q))] rfl (fun j => by
                        rcases j with _ | _ | j
                        · exact .val _
                        · exact .val _
                        · exact .junk _)
                    | false =>
                      rw [cond_false] at h
                      refine ⟨_, h, .of_run fun C tm' hp' a hr hvs ha => ?_⟩
                      have := key C tm' hp' a hr hvs (ha b (by simp))
                      refine ⟨_, this, ?_⟩
                      rw [if_neg (by simp)]
                      exact .val _
                · cases h
              · cases h
            · cases h
          · cases h
        · cases h
      · cases h
    · cases h
  · cases h

theorem mapUpdate_ok {t : TypeId} {m i x : Operand} (ho : o.op = .mapUpdate t m i x) (h : mapUpdateK P hp K t (evA tm m) (evA tm i) (evA tm x) = some r) : Ends P o tm hp K r := by
  unfold mapUpdateK at h
  split at h
  · rename_i b hm
    split at h
    · rename_i k v l hb
      split at h
      · rename_i kt et hu
        split at h
        · rename_i q z hq hz
          split at h
          · rename_i k' hk
            split at h
            · rename_i hs hse
              obtain ⟨e⟩ := hs
              subst e
              obtain ⟨d, hd, hkey, hsame⟩ := ct1_desc hk
              refine ⟨_, h, ?_⟩
              intro w0 O C tm' hp' a hr ha KK Q hK
              have hm' : VRel C true (evA tm m) (a.eval m) := by rw [← ha.ops m (by simp [ho, Op.operands])]; exact hr.ev m
              have hi' : VRel C true (evA tm i) (a.eval i) := by rw [← ha.ops i (by simp [ho, Op.operands])]; exact hr.ev i
              have hx' : VRel C true (evA tm x) (a.eval x) := by rw [← ha.ops x (by simp [ho, Op.operands])]; exact hr.ev x
              rw [hm] at hm'
              rw [CT.of1_eq hq] at hi'
              rw [CT.of1_eq hz] at hx'
              have hb' : gb hp' b = .ob (.mp k' v l) := by rw [ha.foot b (by simp), hb]
              obtain ⟨hal, hnl, hown, ob, h1, h2⟩ := hr.hp.ob b _ hb'
              obtain ⟨es, clock, rfl, hes⟩ := h2
              generalize hcm : a.eval m = cm at hm'
              cases hm' with
              | mpp _ =>
                have hrun : ∃ ob, (OB.mp k' v (mpPut k' v l q z)).holds ob ∧ (Instr.mapUpdate t (.map (some (C.mu b))) (k'.v1 q) (v.v1 z)).run P C.w = .ok () (C.setOb b ob).w := by
                  have hck : (Instr.checkKey false 10000 kt (k'.v1 q)).run P C.w = .ok () C.w := MapKept.run_checkKey hd (hkey q) _ 9999
                  rcases find_mp hsame q es.toList l 0 hes with ⟨h3, _, h4⟩ | ⟨j, e, y, h3, h5, h6, _, h4⟩
                  · have hf : (Instr.findKey kt (k'.v1 q) es.toList).run P C.w = .ok none C.w := MapKept.run_findKey hd h3
                    refine ⟨.map (es.push { key := k'.v1 q, val := v.v1 z, born := clock }) (clock + 1), ⟨_, _, rfl, ?_⟩, ?_⟩
                    · have hes' : es.toList.map (fun e => (e.key, e.val)) = l.map (fun p => (k'.v1 p.1, v.v1 p.2)) := hes
                      rw [h4 z]; simp only [Array.toList_push, List.map_append, hes']; rfl
                    · unfold Instr.mapUpdate
                      simp only [Sem.run_bind, run_underlying hu, Result.andThen_ok, MapKept.run_getObj_map h1, hck, hf, MapKept.run_setObj_map _ h1]
                      rfl
                  · have hf : (Instr.findKey kt (k'.v1 q) es.toList).run P C.w = .ok (some (0 + j, v.v1 y)) C.w := MapKept.run_findKey hd h3
                    have hst : (Instr.keyThatStays (k'.v1 q) (k'.v1 q)).run P C.w = .ok (k'.v1 q) C.w := by
                      unfold Instr.keyThatStays
                      have : Instr.sameBits 10000 (k'.v1 q) (k'.v1 q) = true := by
                        cases k' with
                        | int _ => simp [CT.v1, Instr.sameBits]
                        | bool => simp [CT.v1, Instr.sameBits]
                        | str => simp [CT.v1, Instr.sameBits, MapKept.bytes_beq]
                        | _ => simp [CT.of1] at hq
                      simp [this]
                    have hget : (((es[0 + j]?).map (·.key)).getD (k'.v1 q)) = k'.v1 q := by
                      rw [Nat.zero_add, ← Array.getElem?_toList, h5]; exact h6
                    refine ⟨.map (es.modify (0 + j) fun e => { e with key := k'.v1 q, val := v.v1 z }) clock, ⟨_, _, rfl, ?_⟩, ?_⟩
                    · rw [Nat.zero_add]
                      have := h4 z (fun e => { e with key := k'.v1 q, val := v.v1 z }) rfl
                      rw [Array.toList_modify]; exact this
                    · unfold Instr.mapUpdate
                      simp only [Sem.run_bind, run_underlying hu, Result.andThen_ok, MapKept.run_getObj_map h1, hck, hf, hget, hst, MapKept.run_setObj_map _ h1]
                      rfl
                obtain ⟨ob, hob, hrun⟩ := hrun
                have hrun2 : (execOp a.eval o).run P C.w = .ok .skip (C.setOb b ob).w := by
                  unfold execOp
                  simp only [ho, hcm, hi'.inv_val, hx'.inv_val]
                  rw [Sem.run_bind, hrun]
                  rfl
                unfold Oper.wp
                rw [hrun2]
                have hr2 := hr.setOb b _ hb' (.mp k' v (mpPut k' v l q z)) ob hob
                have := hr2.put o.dst (v := .junk) (c := undef) (.junk _)
                exact hK _ _ this
            · cases h
          · cases h
        · cases h
      · cases h
    · cases h
  · cases h
end
end Go.Va
