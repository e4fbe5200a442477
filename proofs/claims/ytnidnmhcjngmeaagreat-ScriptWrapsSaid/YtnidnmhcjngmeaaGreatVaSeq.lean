/-
  One operation, and a region that goes by its order.
  Conditions: none.
-/
import Derived.Test.YtnidnmhcjngmeaaGreatVaFz
set_option linter.unusedVariables false
set_option linter.unusedSimpArgs false
set_option autoImplicit false
namespace Go.Va

/-- A panic that the text asks for. -/
def panicK {β : Type} (K : Res → Option β) (x : AV) : Option β := match x with
  | .iface t v => K (.pan (.iface t v) [])
  | _ => none

theorem panic_ok {P : Program} {β : Type} {o : Oper} {tm : List AV} {hp : List Blk} {K : Res → Option β} {r : β} {x : Operand} (ho : o.op = .panic x) (h : panicK K (evA tm x) = some r) : EndsR P o tm hp K r := by
  unfold panicK at h
  split at h
  · rename_i t v hx
    refine ⟨_, h, fun w0 O C tm' hp' a hr ha KK Q hQ => ?_⟩
    have h1 := hr.ev x
    rw [show evA (St.mk tm' hp').tm x = evA tm' x from rfl, ha.ops x (by simp [ho, Op.operands]), hx] at h1
    generalize hc : a.eval x = c at h1
    have h2 := h1
    cases h1 with
    | iface hv =>
      rename_i c'
      have hrun : (execOp a.eval o).run P C.w = .halt (.panic (.iface t c')) C.w := by
        unfold execOp
        simp only [ho, hc]
        rfl
      unfold Oper.wp
      rw [hrun]
      exact hQ C _ hr h2
  · cases h

/-- A type's question, of a value that has just that type. -/
def assertK {β : Type} (P : Program) (K : ORes → Option β) (x : AV) (t : TypeId) (ok : Bool) : Option β := match x with
  | .iface u v => match P.underlying t with
    | some (.interface _) => none
    | some _ => bif (u == t) && ok then K ⟨.tup [v, .val (.bool true)], [], [], none⟩ else none
    | none => none
  | _ => none

theorem assert_ok {P : Program} {β : Type} {o : Oper} {tm : List AV} {hp : List Blk} {K : ORes → Option β} {r : β} {x : Operand} {xT t : TypeId} {ok : Bool} (ho : o.op = .typeAssert x xT t ok) (h : assertK P K (evA tm x) t ok = some r) : Ends P o tm hp K r := by
  unfold assertK at h
  split at h
  · rename_i u v hx
    split at h
    · cases h
    · rename_i d hne hu
      cases hc : ((u == t) && ok) with
      | false => rw [hc] at h; cases h
      | true =>
        rw [hc, cond_true] at h
        simp only [Bool.and_eq_true, beq_iff_eq] at hc
        obtain ⟨rfl, rfl⟩ := hc
        refine ⟨_, h, OpOk.of_run fun C tm' hp' a hr hv hf => ?_⟩
        have h1 := hv x (by simp [ho, Op.operands])
        rw [hx] at h1
        generalize hc : a.eval x = c at h1
        cases h1 with
        | iface hv' =>
          rename_i c'
          refine ⟨.tuple #[c', .bool true], ?_, .tup [c', .bool true] rfl (fun j => ?_)⟩
          · unfold execOp
            simp only [ho, hc]
            have hd : ∀ ms, d ≠ .interface ms := fun ms e => hne ms e
            cases d <;> first | exact absurd rfl (hd _) | simp [Instr.typeAssert, run_underlying hu]
          · rcases j with _ | _ | j
            · exact hv'
            · exact .val _
            · exact .junk _
    · cases h
  · cases h

def stepK (P : Program) (G : Gam) {β : Type} (o : Oper) (p : Nat) (tm : List AV) (hp : List Blk) (K : Res → Option β) : Option β :=
  match o.op with
  | .move x => K (.ok ⟨evA tm x, [], [], none⟩)
  | .assign x => K (.ok ⟨evA tm x, [], [], none⟩)
  | .pick c a b => pickK (fun q => K (.ok q)) (evA tm c) (evA tm a) (evA tm b)
  | .binOp op t x y _ => binK P op t x y (evA tm x) (evA tm y) (fun v => K (.ok ⟨v, [], [], none⟩))
  | .unOp op _ x => unK P (fun q => K (.ok q)) op (evA tm x)
  | .convert s d x => convAK P hp (fun q => K (.ok q)) s d (evA tm x)
  | .fieldAddr s x f => fieldAddrK P (fun q => K (.ok q)) s (evA tm x) f
  | .field s x f => fieldK P (fun q => K (.ok q)) s (evA tm x) f
  | .extract x i => extractK (fun q => K (.ok q)) (evA tm x) i
  | .load t x => loadK P hp (fun q => K (.ok q)) t (evA tm x)
  | .store t x y => storeK P hp (fun q => K (.ok q)) t (evA tm x) (evA tm y)
  | .alloc t => allocK P hp (fun q => K (.ok q)) p t
  | .box t x => boxK hp (fun q => K (.ok q)) p t (evA tm x)
  | .build t l => buildK P tm (fun q => K (.ok q)) t l.toList
  | .buildSlice t n l => buildSliceK P tm hp (fun q => K (.ok q)) p t n l.toList
  | .index t x i => indexK P (fun q => K (.ok q)) t i (evA tm x) (evA tm i)
  | .indexAddr t x i => indexAddrK P hp (fun q => K (.ok q)) t (evA tm x) (evA tm i)
  | .slice t x lo hi mx => match mx with
    | none => sliceK P (fun q => K (.ok q)) t (evA tm x) (optV (evA tm) lo) (optV (evA tm) hi)
    | some _ => none
  | .makeInterface t x => ifaceK P (fun q => K (.ok q)) t (evA tm x)
  | .range t x => rangeK P hp (fun q => K (.ok q)) p t (evA tm x)
  | .next x i => nextK hp (fun q => K (.ok q)) i (evA tm x)
  | .makeMap t h => match h with
    | none => makeMapK P hp (fun q => K (.ok q)) p t
    | some _ => none
  | .lookup t x i ok => lookupK P hp (fun q => K (.ok q)) t (evA tm x) (evA tm i) ok
  | .mapUpdate t m i x => mapUpdateK P hp (fun q => K (.ok q)) t (evA tm m) (evA tm i) (evA tm x)
  | .nilCheck x => nilCheckK (fun q => K (.ok q)) (evA tm x)
  | .panic x => panicK K (evA tm x)
  | .typeAssert x _ t ok => assertK P (fun q => K (.ok q)) (evA tm x) t ok
  | .makeFunc fn first captured => makeFuncK tm (fun q => K (.ok q)) fn first.toList captured.toList
  | .call c => match c.callee with
    | .value f => callGK G hp K p (evA tm f) (c.args.toList.map (evA tm))
    | .builtin b => match b with
      | .len => match c.args, c.argTypes with
        | ⟨[x]⟩, ⟨[t]⟩ => lenK P hp (fun q => K (.ok q)) t (evA tm x)
        | _, _ => none
      | .append => match c.args, c.argTypes with
        | ⟨[x, y]⟩, ⟨[t, u]⟩ => appendAK P hp (fun q => K (.ok q)) p t u (evA tm x) (evA tm y)
        | _, _ => none
      | b => manyK P (fun q => K (.ok q)) b c.argTypes o.type (c.args.toList.map (evA tm))
    | _ => none
  | _ => none

theorem Ends.ends {P : Program} {o : Oper} {tm : List AV} {hp : List Blk} {β : Type} {K : Res → Option β} {r : β} (h : Ends P o tm hp (fun q => K (.ok q)) r) : EndsR P o tm hp K r := by
  obtain ⟨q, h1, h2⟩ := h
  exact ⟨.ok q, h1, h2⟩

theorem stepK_ok {P : Program} {G : Gam} (hG : GamOk P G) {β : Type} {o : Oper} {p : Nat} {tm : List AV} {hp : List Blk} {K : Res → Option β} {r : β} (h : stepK P G o p tm hp K = some r) : EndsR P o tm hp K r := by
  unfold stepK at h
  split at h
  · exact (move_ok (.inl ‹_›) (K := fun q => K (.ok q)) h).ends
  · exact (move_ok (.inr ‹_›) (K := fun q => K (.ok q)) h).ends
  · exact (pick_ok ‹_› h).ends
  · exact (bin_ok (K := fun q => K (.ok q)) ‹_› h).ends
  · exact (un_ok ‹_› h).ends
  · exact (convA_ok ‹_› h).ends
  · exact (fieldAddr_ok ‹_› h).ends
  · exact (field_ok ‹_› h).ends
  · exact (extract_ok ‹_› h).ends
  · exact (load_ok ‹_› h).ends
  · exact (store_ok ‹_› h).ends
  · exact (alloc_ok ‹_› h).ends
  · exact (box_ok ‹_› h).ends
  · exact (build_ok ‹_› h).ends
  · exact (buildSlice_ok ‹_› h).ends
  · exact (index_ok ‹_› h).ends
  · exact (indexAddr_ok ‹_› h).ends
  · rename_i ho
    split at h
    · exact (slice_ok ho h).ends
    · cases h
  · exact (iface_ok ‹_› h).ends
  · exact (range_ok ‹_› h).ends
  · exact (next_ok ‹_› h).ends
  · rename_i ho
    split at h
    · exact (makeMap_ok ho h).ends
    · cases h
  · exact (lookup_ok ‹_› h).ends
  · exact (mapUpdate_ok ‹_› h).ends
  · exact (nilCheck_ok ‹_› h).ends
  · exact panic_ok ‹_› h
  · exact (assert_ok ‹_› h).ends
  · exact (makeFunc_ok ‹_› h).ends
  · rename_i c ho
    obtain ⟨cal, args, ats⟩ := c
    simp only at h
    split at h
    · exact callG_ok hG ho h
    · split at h
      · split at h
        · exact (len_ok ho h).ends
        · cases h
      · split at h
        · exact (appendA_ok ho h).ends
        · cases h
      · exact (many_ok ho h).ends
    · cases h
  · cases h

/-- Does the operation make a block? -/
def makes : Op → Nat
  | .alloc _ | .box _ _ | .buildSlice _ _ _ | .range _ _ | .makeMap _ _ => 1
  | .call c => match c.callee with
    | .builtin .append => 1
    | .value _ => 1
    | _ => 0
  | _ => 0

def madeIn : List Oper → Nat
  | [] => 0
  | o :: l => makes o.op + madeIn l

inductive AEx where
  | normal
  | exit (id : Nat)
  | ret
  | panic (v : AV)

def ExRel (C : Cx) : AEx → Exit → Prop
  | .normal, .normal => True
  | .exit i, .exit j => i = j
  | .ret, .ret => True
  | .panic v, .panic ch => ∃ c, ch = [{ v := c, recovered := false }] ∧ VRel C true v c
  | _, _ => False

def dstOf (ops : List Oper) (j : Nat) : Option Tmp := match ops[j]? with
  | some o => o.dst
  | none => none

/-- The guard of an operation: how it stands, and the state that knows it. -/
def guardK {β : Type} (ops : List Oper) (o : Oper) (s : St) (K : Bool → St → Option β) : Option β :=
  match o.guard with
  | none => K true s
  | some (j, want) => match dstOf ops j with
    | some d => match gt s.tm d with
      | .val (.bool b) => bif b then K want ⟨Va.st s.tm d (.val (.bool true)), s.hp⟩ else K (!want) ⟨Va.st s.tm d (.val (.bool false)), s.hp⟩
      | .tup _ => K false s
      | _ => none
    | none => none

theorem Rep.same {w0 : World} {O : Env} {C : Cx} {s : St} {a : Act} (hr : Rep w0 O C s a) (d : Tmp) {v : AV} (hv : VRel C true v (a.tmps.getD d undef)) : Rep w0 O C ⟨Va.st s.tm d v, s.hp⟩ a where
  defers := hr.defers
  size := by simp only [st_length]; exact hr.size
  tm t := by
    rw [gt_st]
    split
    · rename_i h; rw [h.1]; exact hv
    · exact hr.tm t
  hp := hr.hp
  kept := hr.kept
  mine := hr.mine

theorem yielded_tup {ops : Array Oper} {j : Nat} {d : Tmp} (hd : dstOf ops.toList j = some d) {a : Act} {C : Cx} {l : List AV} (h : VRel C true (.tup l) (a.tmps.getD d undef)) : yielded ops a.tmps j = none := by
  unfold dstOf at hd
  split at hd
  · rename_i o' ho'
    have ho2 : ops[j]? = some o' := by rw [← Array.getElem?_toList]; exact ho'
    unfold yielded
    simp only [ho2, Option.bind_some, hd]
    generalize hc : a.tmps.getD d undef = c at h
    rw [Array.getD_eq_getD_getElem?] at hc
    cases h
    cases hq : a.tmps[d]? with
    | none => rfl
    | some v => rw [hq, Option.getD_some] at hc; rw [hc]
  · cases hd

theorem guardK_ok {β : Type} {ops : Array Oper} {o : Oper} {s : St} {K : Bool → St → Option β} {r : β} (h : guardK ops.toList o s K = some r) :
    ∃ w s', K w s' = some r ∧ s'.hp = s.hp ∧ ∀ w0 O C a, Rep w0 O C s a → Rep w0 O C s' a ∧ Region.wanted o (yielded ops a.tmps) = w := by
  unfold guardK at h
  split at h
  · rename_i hg
    exact ⟨true, s, h, rfl, fun w0 O C a hr => ⟨hr, by simp [Region.wanted, hg]⟩⟩
  · rename_i j want hg
    split at h
    · rename_i d hd
      split at h
      · rename_i b hb
        have key : ∀ w0 O C a, Rep w0 O C s a → yielded ops a.tmps j = some b ∧ a.tmps.getD d undef = .bool b := by
          intro w0 O C a hr
          have h1 := hr.tm d
          rw [hb] at h1
          have h2 := h1.inv_val
          refine ⟨?_, h2⟩
          have hlt : d < a.tmps.size := by
            rcases Nat.lt_or_ge d a.tmps.size with h' | h'
            · exact h'
            · rw [Array.getD_eq_getD_getElem?, Array.getElem?_eq_none h'] at h2; cases h2
          unfold dstOf at hd
          split at hd
          · rename_i o' ho'
            have ho2 : ops[j]? = some o' := by rw [← Array.getElem?_toList]; exact ho'
            unfold yielded
            simp only [ho2, Option.bind_some, hd]
            rw [Array.getElem?_eq_getElem hlt]
            have : a.tmps[d] = .bool b := by simpa [Array.getD_eq_getD_getElem?, hlt] using h2
            rw [this]
          · cases hd
        cases b with
        | true =>
          rw [cond_true] at h
          refine ⟨_, _, h, rfl, fun w0 O C a hr => ?_⟩
          obtain ⟨h1, h2⟩ := key w0 O C a hr
          exact ⟨hr.same d (by rw [h2]; exact .val _), by cases want <;> simp [Region.wanted, hg, h1]⟩
        | false =>
          rw [cond_false] at h
          refine ⟨_, _, h, rfl, fun w0 O C a hr => ?_⟩
          obtain ⟨h1, h2⟩ := key w0 O C a hr
          exact ⟨hr.same d (by rw [h2]; exact .val _), by cases want <;> simp [Region.wanted, hg, h1]⟩
      · rename_i l hl
        refine ⟨_, _, h, rfl, fun w0 O C a hr => ⟨hr, ?_⟩⟩
        have h1 := hr.tm d
        rw [hl] at h1
        simp [Region.wanted, hg, yielded_tup hd h1]
      · cases h
    · cases h

def seqK (P : Program) (G : Gam) (ops : List Oper) {β : Type} : List Oper → Nat → St → (AEx → St → Option β) → Option β
  | [], _, s, K => K .normal s
  | o :: l, p, s, K => guardK ops o s fun w s => bif w then fzK P o s fun s => stepK P G o p s.tm s.hp (fun q => match q with
      | .ok q => seqK P G ops l (p + makes o.op) (q.st o.dst s) K
      | .pan v _ => K (.panic v) s)
    else seqK P G ops l (p + makes o.op) ⟨putA s.tm o.dst (.tup []), s.hp⟩ K

theorem seqK_ok {P : Program} {G : Gam} (hG : GamOk P G) {ops : Array Oper} {β : Type} (l : List Oper) : ∀ {p : Nat} {s : St} {K : AEx → St → Option β} {r : β}, seqK P G ops.toList l p s K = some r →
    ∃ ex s', K ex s' = some r ∧ ∀ w0 O C a, Rep w0 O C s a → ∀ Q : Exit → Act → World → Prop, (∀ C' a' e, ExRel C' ex e → Rep w0 O C' s' a' → Q e a' C'.w) → wpList P ops Q l a C.w := by
  induction l with
  | nil => intro p s K r h; exact ⟨.normal, s, h, fun w0 O C a hr Q hQ => hQ C a .normal trivial hr⟩
  | cons o l ih =>
    intro p s K r h
    simp only [seqK] at h
    obtain ⟨w, s1, h1, -, hs1⟩ := guardK_ok h
    cases w with
    | true =>
      rw [cond_true] at h1
      obtain ⟨s2, h1, -, hs2⟩ := fzK_ok h1
      obtain ⟨q, hq, hok⟩ := stepK_ok hG h1
      cases q with
      | ok q =>
        obtain ⟨ex, s', hK, hwp⟩ := ih hq
        refine ⟨ex, s', hK, fun w0 O C a hr Q hQ => ?_⟩
        obtain ⟨hr1, hw⟩ := hs1 w0 O C a hr
        obtain ⟨C2, hr2, hw2⟩ := hs2 w0 O C a hr1
        unfold wpList
        rw [hw, if_pos rfl, ← hw2]
        exact .inl (hok w0 O C2 s2.tm s2.hp a hr2 (Agree.same o s2.tm s2.hp q) _ _ (fun C' a' hr' => hwp w0 O C' a' hr' Q hQ))
      | pan v ft =>
        refine ⟨_, _, hq, fun w0 O C a hr Q hQ => ?_⟩
        obtain ⟨hr1, hw⟩ := hs1 w0 O C a hr
        obtain ⟨C2, hr2, hw2⟩ := hs2 w0 O C a hr1
        unfold wpList
        rw [hw, if_pos rfl, ← hw2]
        exact .inl (hok w0 O C2 s2.tm s2.hp a hr2 (Agree.same o s2.tm s2.hp ⟨.junk, ft, [], none⟩) _ _ (fun C' c hr' hv => hQ C' a _ ⟨c, rfl, hv⟩ hr'))
    | false =>
      rw [cond_false] at h1
      obtain ⟨ex, s', hK, hwp⟩ := ih h1
      refine ⟨ex, s', hK, fun w0 O C a hr Q hQ => ?_⟩
      obtain ⟨hr1, hw⟩ := hs1 w0 O C a hr
      unfold wpList
      rw [hw, if_neg (by simp)]
      exact hwp w0 O C _ (hr1.put o.dst (VRel.tup [] rfl (fun j => .junk _))) Q hQ
end Go.Va
