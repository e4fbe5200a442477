/-
  A function that defers a closure which catches panics, and answers by two variables that the closure may write.
  Conditions: none.
-/
import Derived.Test.YtmphkmoakamepaaVaWo
import Derived.Recover
set_option linter.unusedVariables false
set_option linter.unusedSimpArgs false
set_option autoImplicit false
namespace Go.Va

/-! ### Other pins -/
def Cx.repin (C : Cx) (p : Nat → Nat → Prop) : Cx := { C with pin := p }

theorem VRel.repin {C : Cx} {p : Nat → Nat → Prop} (hp : ∀ B k, C.pin B k → p B k) {m : Bool} {v : AV} {c : Value} (h : VRel C m v c) : VRel (C.repin p) m v c := by
  induction h with
  | junk c => exact .junk c
  | val v => exact .val v
  | ptr hb => exact VRel.ptr (C := C.repin p) hb
  | cell vs hB hn hl hc hr ih => exact VRel.cell (C := C.repin p) vs hB hn hl hc ih
  | vec0 => exact .vec0
  | vec f hB hn hcap hmax hl hc hr ih => exact VRel.vec (C := C.repin p) f hB hn hcap hmax hl hc ih
  | sl hb hk hl hmax hln => exact VRel.sl (C := C.repin p) hb hk hl hmax hln
  | fn vs hl hr ih => exact .fn vs hl ih
  | iface h ih => exact .iface ih
  | agg vs hl hr ih => exact .agg vs hl ih
  | tup vs hl hr ih => exact .tup vs hl ih
  | vt h ih => exact .vt ih
  | so hb hnl hz hn hk hl hmax => exact VRel.so (C := C.repin p) hb hnl hz hn hk hl hmax
  | so0 hb hnl => exact VRel.so0 (C := C.repin p) hb hnl
  | pe hb hnl => exact VRel.pe (C := C.repin p) hb hnl
  | mpp hb => exact VRel.mpp (C := C.repin p) hb
  | pp hb h1 => exact VRel.pp (C := C.repin p) hb (hp _ _ h1)

theorem Rep.repin {w0 : World} {O : Env} {C : Cx} {s : St} {a : Act} (hr : Rep w0 O C s a) {p : Nat → Nat → Prop} (hp : ∀ B k, C.pin B k → p B k) (ds : List Deferred) :
    Rep w0 { O with pin := p, dfs := ds } (C.repin p) s { a with defers := ds } where
  defers := rfl
  size := hr.size
  tm t := (hr.tm t).repin hp
  hp := ⟨hr.hp.al, hr.hp.free, hr.hp.nnl, fun b cs t cl hb => by
      obtain ⟨h1, h2, h3, cur, h4, h5, h6, h7⟩ := hr.hp.row b cs t cl hb
      exact ⟨h1, h2, h3, cur, h4, h5, h6, fun j hj => (h7 j hj).repin hp⟩, fun b c l t hb => by
      obtain ⟨h1, h2, h3⟩ := hr.hp.rt b c l t hb
      refine ⟨h1, h2, ?_⟩
      rcases h3 with h3 | ⟨h3, h4, cur, h5, h6, h7, h8⟩
      · exact .inl h3
      · exact .inr ⟨h3, h4, cur, h5, h6, h7, fun j hj i hi => (h8 j hj i hi).repin hp⟩, hr.hp.ob, hr.hp.inj, hr.hp.ownlt⟩
  kept := ⟨hr.kept.os, hr.kept.tape, hr.kept.output, hr.kept.size, hr.kept.block, hr.kept.ban, hr.kept.banlt, hr.kept.banmay, rfl, hr.kept.frz⟩
  mine := hr.mine

def twoPins (B0 B1 k0 k1 : Nat) : Nat → Nat → Prop := fun B k => (B = B0 ∧ k = k0) ∨ (B = B1 ∧ k = k1)

/-- Do these two temporaries lead to the two places? -/
def pinsB (t0 t1 k1 : Nat) (s : St) : Bool := match gt s.tm t0 with
  | .pp b0 0 => match gt s.tm t1 with
    | .pp b1 0 => match gb s.hp b0 with
      | .row cs0 _ _ => match gb s.hp b1 with
        | .row _ _ _ => !(b0 == b1) && decide (k1 < cs0.length)
        | _ => false
      | _ => false
    | _ => false
  | _ => false

theorem pins_ok {w0 : World} {O : Env} {C : Cx} {s : St} {a : Act} (hr : Rep w0 O C s a) {B0 B1 k0 k1 : Nat} (hO : O.pin = twoPins B0 B1 k0 k1) {t0 t1 : Nat} (h : pinsB t0 t1 k1 s = true) :
    a.tmps.getD t0 undef = .pointer (some ⟨B0, 0, none⟩) ∧ a.tmps.getD t1 undef = .pointer (some ⟨B1, 0, none⟩) := by
  unfold pinsB at h
  split at h <;> try cases h
  rename_i b0 h0
  split at h <;> try cases h
  rename_i b1 h1
  split at h <;> try cases h
  rename_i cs0 T0 cl0 g0
  split at h <;> try cases h
  rename_i cs1 T1 cl1 g1
  simp only [Bool.and_eq_true, Bool.not_eq_true', beq_eq_false_iff_ne, ne_eq, decide_eq_true_eq] at h
  obtain ⟨hne, hk⟩ := h
  have v0 := hr.tm t0
  have v1 := hr.tm t1
  rw [h0] at v0; rw [h1] at v1
  obtain ⟨a0, _, ln0, cur0, _, _, le0, _⟩ := hr.hp.row b0 cs0 T0 cl0 g0
  have n0 := hr.hp.nnl b0 _ _ _ g0
  have n1 := hr.hp.nnl b1 _ _ _ g1
  have hpin : C.pin = twoPins B0 B1 k0 k1 := hr.kept.pin.trans hO
  generalize a.tmps.getD t0 undef = c0 at v0
  generalize a.tmps.getD t1 undef = c1 at v1
  cases v0 with
  | pp _ p0 => cases v1 with
    | pp _ p1 =>
      rw [hpin] at p0 p1
      have e0 : C.mu b0 = B0 := by
        rcases p0 with ⟨e, _⟩ | ⟨_, e⟩
        · exact e
        · omega
      have e1 : C.mu b1 = B1 := by
        rcases p1 with ⟨e, _⟩ | ⟨e, _⟩
        · exact absurd (hr.hp.inj b0 b1 (by rw [g0]; rfl) (by rw [g1]; rfl) n0 n1 (by rw [e0, e])) hne
        · exact e
      rw [e0, e1]; exact ⟨rfl, rfl⟩

/-! ### A frame's beginning and its results -/
theorem rep_start (w : World) (ban : Nat → Prop) {args : List AV} (n : Nat) {vs : List Value} (hban : ∀ B, ban B → B < w.heap.size) (hc : Cells (cx0 ban w) false args vs) :
    Rep w ⟨fun _ => False, ban, fun _ _ => False, []⟩ (cx0 ban w) ⟨args ++ List.replicate (n - args.length) .junk, []⟩ { tmps := vs.toArray ++ Array.replicate (n - vs.toArray.size) undef, defers := [] } := by
  refine ⟨rfl, by simp [hc.1], fun t => ?_, ⟨fun b h => h.elim, fun b _ h => h, fun b cs t cl h => (by cases h), fun b cs t cl h => (by cases h), fun b c l t h => (by cases h), fun b o h => (by cases h), fun b b' h => (by cases h), hban⟩, ⟨rfl, rfl, rfl, Nat.le_refl _, fun _ _ _ => rfl, fun _ h => h, hban, fun _ _ h => h, rfl, fun B hB cur t fr h => (hB.elim (fun hB => absurd (Array.getElem?_eq_some_iff.1 h).1 (Nat.not_lt.2 hB)) (fun h => h.elim))⟩, fun b h => (by cases h)⟩
  by_cases ht : t < args.length
  · rw [gt_append_left _ _ _ ht]
    have e1 : (vs.toArray ++ Array.replicate (n - vs.toArray.size) undef).getD t undef = vg vs t := by
      have : t < vs.length := by rw [hc.1]; exact ht
      simp [vg, Array.getD_eq_getD_getElem?, Array.getElem?_append, this]
    rw [e1]
    exact (hc.2 t).up rfl
  · rw [gt_append_right _ _ _ (by omega)]
    have e1 : gt (List.replicate (n - args.length) AV.junk) (t - args.length) = .junk := by
      rw [gt_eq, List.getD_eq_getElem?_getD, List.getElem?_replicate]; split <;> rfl
    rw [e1]; exact .junk _

theorem results_ok {P : Program} {fn : Func} {C : Cx} {hp : List Blk} {tm : List AV} {tmps : Array Value} {l : List AV} (hr : HRel C hp) (ht : ∀ t, VRel C true (gt tm t) (tmps.getD t undef)) (hl : resA P hp tm fn.results.toList = some l) :
    ∃ c, (results fn tmps).run P C.w = .ok c C.w ∧ VRel C true (oneOf l) c := by
  obtain ⟨us, h1, h2⟩ := resA_ok hr ht fn.results.toList hl
  have hm : ((fn.results.mapM fun x => match x with
      | .tmp t => pure (tmps.getD t undef)
      | .cell a t => do loadVar t (← asAddr (tmps.getD a undef))) : Sem (Array Value)).run P C.w = .ok us.toArray C.w := by
    rw [Array.mapM_eq_mapM_toList, Sem.run_map]
    exact congrArg (fun z : Result (List Value) => z.andThen fun a w' => Result.ok a.toArray w') h1
  have key : (results fn tmps).run P C.w = .ok (if h : us.toArray.size = 1 then us.toArray[0] else .tuple us.toArray) C.w := by
    unfold results
    rw [Sem.run_bind]
    exact congrArg (fun z : Result (Array Value) => z.andThen fun a w' => Sem.run P (pure (if h : a.size = 1 then a[0] else Value.tuple a)) w') hm
  rw [key]
  rcases l with _ | ⟨v, _ | ⟨v2, l⟩⟩
  · have : us = [] := List.eq_nil_of_length_eq_zero (by simpa using h2.1)
    subst this
    exact ⟨_, rfl, .tup [] rfl (fun j => .junk _)⟩
  · obtain ⟨u, rfl⟩ : ∃ u, us = [u] := by
      rcases us with _ | ⟨u, _ | ⟨u2, us⟩⟩
      · have := h2.1; simp at this
      · exact ⟨u, rfl⟩
      · have := h2.1; simp at this
    exact ⟨u, rfl, h2.2 0⟩
  · have hne : ¬ us.toArray.size = 1 := by have := h2.1; simp at this ⊢; omega
    refine ⟨.tuple us.toArray, ?_, .tup us h2.1 h2.2⟩
    rw [dif_neg hne]

/-! ### The run -/
/-- Behind the closure: the results, out of the two places. -/
def finY (P : Program) (fn : Func) (k1 : Nat) {β : Type} (K : Out → Option β) (ex : AEx) (s : St) : Option β := match ex with
  | .exit _ => none
  | .panic _ => none
  | _ => bif pinsB 0 1 k1 s then match resA P s.hp [.junk, .junk, unpp (gt s.tm 0), unpp (gt s.tm 1)] fn.results.toList with
      | some l => K (.ret (normR P fn.resultTypes.toList (immW s.hp (oneOf l))))
      | none => none
    else none

def stY (n : Nat) (s : St) (v : AV) : St := ⟨[gt s.tm 2, gt s.tm 3, v, .junk, .junk, v] ++ List.replicate (n - 6) .junk, s.hp⟩

/-- Behind the body: the closure. -/
def finD (P : Program) (fn fc : Func) (Y : Code) (k1 : Nat) {β : Type} (K : Out → Option β) (ex : AEx) (s : St) : Option β := match ex with
  | .exit _ => none
  | .panic v => bif pinsB 2 3 k1 s then E P (gamOf []) noLam Y [true] (stY fc.ntmps s v) (finY P fn k1 K) else none
  | _ => bif pinsB 2 3 k1 s then E P (gamOf []) noLam Y [true] (stY fc.ntmps s (.val .nilIface)) (finY P fn k1 K) else none

def rst (n : Nat) (args : List AV) (z0 z1 : Array Value) (T0 T1 : TypeId) : St :=
  ⟨Va.st (Va.st (args ++ List.replicate (n - args.length) .junk) 2 (.pp 0 0)) 3 (.pp 1 0), [.row (z0.toList.map .val) T0 true, .row (z1.toList.map .val) T1 true]⟩

theorem rowVals (C : Cx) (z : Array Value) (j : Nat) : VRel C false (gt (z.toList.map .val) j) (z.getD j undef) := by
  have h := VRel.of_vals C false z.toList j
  have e : vg z.toList j = z.getD j undef := by simp [vg, Array.getD_eq_getD_getElem?]
  rw [e] at h; exact h

theorem getD_two (x y : Value) (n : Nat) : (#[x, y] ++ Array.replicate n undef).getD 0 undef = x ∧ (#[x, y] ++ Array.replicate n undef).getD 1 undef = y := by
  constructor <;> simp [Array.getD_eq_getD_getElem?, Array.getElem?_append]

theorem read_ok {P : Program} {G : Gam} {L : Lam} {f fcn : FuncId} {fn fc : Func} (hf : P.funcs[f]? = some fn) (hfc : P.funcs[fcn]? = some fc) {A B R X Y : Code}
    (hb : fn.body = some (.seq A (.seq B R))) (hbc : fc.body = some (.seq X Y)) (hct : callable P fcn = true) (hcr : fc.results = #[]) (hcn : 6 ≤ fc.ntmps) (hG : GamOk P G) (hL : LamOk P (bodyOf fn) L) (hm : P.follows .mixedOrders = true)
    {z0 z1 : Array Value} {T0 T1 : TypeId} {args args' : List AV} (hargs : RefsL args args') (hn : args'.length < 3) (hnt : 12 ≤ fn.ntmps) (hj : gt (rst fn.ntmps args' z0 z1 T0 T1).tm 11 = .junk)
    (hA : ∀ (Q : Exit → Act → World → Prop) (a : Act) (w : World), a.defers = [] → Q .normal ((a.put (some 2) (.pointer (some ⟨w.heap.size, 0, none⟩))).put (some 3) (.pointer (some ⟨w.heap.size + 1, 0, none⟩))) ((w.alloc (.cells z0 T0 (0, 0))).alloc (.cells z1 T1 (0, 0))) → A.wp P Q a w)
    (hB : ∀ (Q : Exit → Act → World → Prop) (a : Act) (w : World), 11 < a.tmps.size → a.defers = [] → Q .normal { (a.put (some 11) (.func (.func fcn) #[] #[a.tmps.getD 2 undef, a.tmps.getD 3 undef])) with defers := [{ target := .fn (.func fcn) #[a.tmps.getD 2 undef, a.tmps.getD 3 undef], args := #[] }] } w → B.wp P Q a w)
    (hX0 : ∀ (Q : Exit → Act → List Frame → World → Prop) (a : Act) (c0 : Frame) (cs : List Frame) (w : World), 5 < a.tmps.size → c0.mode = .returning → Q .normal ((a.put (some 5) .nilIface).put (some 2) .nilIface) (c0 :: cs) w → X.wpS P Q a (c0 :: cs) w)
    (hX1 : ∀ (Q : Exit → Act → List Frame → World → Prop) (a : Act) (c0 : Frame) (cs : List Frame) (w : World) (v : Value), 5 < a.tmps.size → c0.mode = .panicking [{ v := v, recovered := false }] → Q .normal ((a.put (some 5) v).put (some 2) v) ({ c0 with mode := .panicking [{ v := v, recovered := true }] } :: cs) w → X.wpS P Q a (c0 :: cs) w)
    {β : Type} {K : Out → Option β} {r : β} (h : E P G L R [true, true] (rst fn.ntmps args' z0 z1 T0 T1) (finD P fn fc Y z1.size K) = some r) : ∃ out, K out = some r ∧ SimP P f args out := by
  have hbo : bodyOf fn = .seq A (.seq B R) := by unfold bodyOf; rw [hb]
  have hbco : bodyOf fc = .seq X Y := by unfold bodyOf; rw [hbc]
  have hR : codeAt (bodyOf fn) [true, true] = some R := by rw [hbo]; rfl
  have hY : codeAt (bodyOf fc) [true] = some Y := by rw [hbco]; rfl
  obtain ⟨ex, s1, hK, hcode⟩ := E_ok hG hL hm R hR h
  -- the closure
  obtain ⟨v, hexv, hp1, hE⟩ : ∃ v, ((ex = .normal ∨ ex = .ret) ∧ v = .val .nilIface ∨ ex = .panic v) ∧ pinsB 2 3 z1.size s1 = true ∧ E P (gamOf []) noLam Y [true] (stY fc.ntmps s1 v) (finY P fn z1.size K) = some r := by
    cases ex with
    | exit i => cases hK
    | normal =>
      simp only [finD] at hK
      cases hp : pinsB 2 3 z1.size s1 with
      | false => rw [hp] at hK; cases hK
      | true => rw [hp, cond_true] at hK; exact ⟨_, .inl ⟨.inl rfl, rfl⟩, rfl, hK⟩
    | ret =>
      simp only [finD] at hK
      cases hp : pinsB 2 3 z1.size s1 with
      | false => rw [hp] at hK; cases hK
      | true => rw [hp, cond_true] at hK; exact ⟨_, .inl ⟨.inr rfl, rfl⟩, rfl, hK⟩
    | panic v =>
      simp only [finD] at hK
      cases hp : pinsB 2 3 z1.size s1 with
      | false => rw [hp] at hK; cases hK
      | true => rw [hp, cond_true] at hK; exact ⟨_, .inr rfl, rfl, hK⟩
  obtain ⟨ex2, s2, hK2, hcode2⟩ := E_ok (gamOf_nil P) (noLam_ok P (bodyOf fc)) hm Y hY hE
  obtain ⟨l, hex2, hp2, hl, hKl⟩ : ∃ l, (ex2 = .normal ∨ ex2 = .ret) ∧ pinsB 0 1 z1.size s2 = true ∧ resA P s2.hp [.junk, .junk, unpp (gt s2.tm 0), unpp (gt s2.tm 1)] fn.results.toList = some l ∧ K (.ret (normR P fn.resultTypes.toList (immW s2.hp (oneOf l)))) = some r := by
    cases ex2 with
    | exit i => cases hK2
    | panic v => cases hK2
    | normal =>
      simp only [finY] at hK2
      cases hp : pinsB 0 1 z1.size s2 with
      | false => rw [hp] at hK2; cases hK2
      | true =>
        rw [hp, cond_true] at hK2
        split at hK2
        · exact ⟨_, .inl rfl, rfl, ‹_›, hK2⟩
        · cases hK2
    | ret =>
      simp only [finY] at hK2
      cases hp : pinsB 0 1 z1.size s2 with
      | false => rw [hp] at hK2; cases hK2
      | true =>
        rw [hp, cond_true] at hK2
        split at hK2
        · exact ⟨_, .inr rfl, rfl, ‹_›, hK2⟩
        · cases hK2
  refine ⟨_, hKl, fun w ban vs hban hc0 => ?_⟩
  have hc : Cells (cx0 ban w) false args' vs := hargs.cells hc0
  refine calls_of_wp_defers hf hb (wp_seq (hA _ _ w rfl ?_))
  refine wp_seq (hB _ _ _ (by simp only [Act.put, Array.size_setIfInBounds, Array.size_append, Array.size_replicate, List.size_toArray]; omega) rfl ?_)
  -- the state ahead of the body
  have r0 := (rep_start w ban fn.ntmps hban hc).extend 2
  have hz0 : (z0.toList.map AV.val).length = z0.size := by simp
  have hz1 : (z1.toList.map AV.val).length = z1.size := by simp
  have r1 := r0.alloc 0 rfl (z0.toList.map .val) z0 T0 true (by simp) (fun j _ => rowVals _ _ _)
  have r2 := r1.alloc 1 rfl (z1.toList.map .val) z1 T1 true (by simp) (fun j _ => rowVals _ _ _)
  generalize hC2 : ((cx0 ban w).alloc 0 z0.size (z0.toList.map AV.val).length (.cells z0 T0 (0, 0))).alloc 1 z1.size (z1.toList.map AV.val).length (.cells z1 T1 (0, 0)) = C2 at r2
  have c2w : C2.w = (w.alloc (.cells z0 T0 (0, 0))).alloc (.cells z1 T1 (0, 0)) := by rw [← hC2]; rfl
  have c2m0 : C2.mu 0 = w.heap.size := by rw [← hC2]; rfl
  have c2m1 : C2.mu 1 = w.heap.size + 1 := by rw [← hC2]; simp [Cx.alloc, cx0]
  have c2k0 : C2.ka 0 = z0.size := by rw [← hC2]; rfl
  have c2k1 : C2.ka 1 = z1.size := by rw [← hC2]; rfl
  have c2a0 : C2.al 0 := by rw [← hC2]; exact .inl (.inr rfl)
  have c2a1 : C2.al 1 := by rw [← hC2]; exact .inr rfl
  have c2p : ∀ B k, C2.pin B k → twoPins w.heap.size (w.heap.size + 1) z0.size z1.size B k := by rw [← hC2]; intro B k h; exact h.elim
  let a1 : Act := { tmps := vs.toArray ++ Array.replicate (fn.ntmps - vs.toArray.size) undef, defers := [] }
  let d : Deferred := { target := .fn (.func fcn) #[.pointer (some ⟨w.heap.size, 0, none⟩), .pointer (some ⟨w.heap.size + 1, 0, none⟩)], args := #[] }
  have hvl : vs.length < 3 := by rw [hc.1]; exact hn
  have hsz : a1.tmps.size = fn.ntmps := by simp [a1]; omega
  let a2 : Act := (a1.put (some 2) (.pointer (some ⟨w.heap.size, 0, none⟩))).put (some 3) (.pointer (some ⟨w.heap.size + 1, 0, none⟩))
  have g2 : a2.tmps.getD 2 undef = .pointer (some ⟨w.heap.size, 0, none⟩) := by
    have h1 : 2 < a1.tmps.size := by omega
    show ((a1.put (some 2) _).put (some 3) _).tmps.getD 2 undef = _
    rw [getD_put, getD_put, if_neg (by simp), if_pos (And.intro rfl h1)]
  have g3 : a2.tmps.getD 3 undef = .pointer (some ⟨w.heap.size + 1, 0, none⟩) := by
    have h1 : 3 < (a1.put (some 2) (.pointer (some ⟨w.heap.size, 0, none⟩))).tmps.size := by simp only [Act.put, Array.size_setIfInBounds]; omega
    show ((a1.put (some 2) _).put (some 3) _).tmps.getD 3 undef = _
    rw [getD_put, if_pos (And.intro rfl h1)]
  have r3 := r2.repin c2p [d]
  have p0 : VRel (C2.repin (twoPins w.heap.size (w.heap.size + 1) z0.size z1.size)) true (.pp 0 0) (.pointer (some ⟨w.heap.size, 0, none⟩)) := by
    have := VRel.pp (C := C2.repin (twoPins w.heap.size (w.heap.size + 1) z0.size z1.size)) (b := 0) (off := 0) c2a0 (.inl ⟨c2m0, c2k0⟩)
    rwa [show (C2.repin (twoPins w.heap.size (w.heap.size + 1) z0.size z1.size)).mu 0 = w.heap.size from c2m0] at this
  have p1 : VRel (C2.repin (twoPins w.heap.size (w.heap.size + 1) z0.size z1.size)) true (.pp 1 0) (.pointer (some ⟨w.heap.size + 1, 0, none⟩)) := by
    have := VRel.pp (C := C2.repin (twoPins w.heap.size (w.heap.size + 1) z0.size z1.size)) (b := 1) (off := 0) c2a1 (.inr ⟨c2m1, c2k1⟩)
    rwa [show (C2.repin (twoPins w.heap.size (w.heap.size + 1) z0.size z1.size)).mu 1 = w.heap.size + 1 from c2m1] at this
  have r4 := (r3.put (some 2) p0).put (some 3) p1
  have r5 := r4.put (some 11) (v := .junk) (c := .func (.func fcn) #[] #[a2.tmps.getD 2 undef, a2.tmps.getD 3 undef]) (.junk _)
  have hst : (⟨putA (putA (putA (args' ++ List.replicate (fn.ntmps - args'.length) .junk) (some 2) (.pp 0 0)) (some 3) (.pp 1 0)) (some 11) .junk, sb (sb ([] ++ List.replicate 2 Blk.free) 0 (.row (z0.toList.map .val) T0 true)) 1 (.row (z1.toList.map .val) T1 true)⟩ : St) = rst fn.ntmps args' z0 z1 T0 T1 := by
    have e : putA (rst fn.ntmps args' z0 z1 T0 T1).tm (some 11) .junk = (rst fn.ntmps args' z0 z1 T0 T1).tm := by
      rw [← hj]
      refine st_self ?_
      simp only [rst, st_length, List.length_append, List.length_replicate]; omega
    exact congrArg (fun t => St.mk t _) e
  have r6 : Rep w { may := fun _ => False, ban := ban, pin := twoPins w.heap.size (w.heap.size + 1) z0.size z1.size, dfs := [d] } (C2.repin (twoPins w.heap.size (w.heap.size + 1) z0.size z1.size)) (rst fn.ntmps args' z0 z1 T0 T1)
      { (a2.put (some 11) (.func (.func fcn) #[] #[a2.tmps.getD 2 undef, a2.tmps.getD 3 undef])) with defers := [d] } := by
    rw [← hst]; exact r5
  have goal : ∀ Q : Exit → Act → World → Prop, (∀ C' a' e, ExRel C' ex e → Rep w { may := fun _ => False, ban := ban, pin := twoPins w.heap.size (w.heap.size + 1) z0.size z1.size, dfs := [d] } C' s1 a' → Q e a' C'.w) → R.wp P Q { (a2.put (some 11) (.func (.func fcn) #[] #[a2.tmps.getD 2 undef, a2.tmps.getD 3 undef])) with defers := [d] } ((w.alloc (.cells z0 T0 (0, 0))).alloc (.cells z1 T1 (0, 0))) := fun Q hQ => by
    rw [← c2w]; exact hcode w _ _ _ r6 Q hQ
  have hd : d = { target := .fn (.func fcn) #[a2.tmps.getD 2 undef, a2.tmps.getD 3 undef], args := #[] } := by rw [g2, g3]
  rw [← hd]
  refine goal _ (fun C' a' e he hr => ?_)
  obtain ⟨q0, q1⟩ := pins_ok hr rfl hp1
  -- what comes of the closure
  have below : ∀ {C : Cx} {O : Env}, (∀ B, ¬ O.may B) → Kept w O C → FB w C.w := fun hO hk => ⟨⟨hk.os, hk.tape, hk.output, hk.size, fun B hB => hk.block B hB (hO B)⟩, fun B hB => hk.frz B (.inl hB)⟩
  have tail : ∀ (cv : Value) (c0 : Frame) (cs : List Frame), VRel C' true v cv → ∀ (m : FrameMode), settle m = .returning → ∀ (aX : Act), aX.defers = [] → aX.tmps.size = fc.ntmps → aX.tmps.getD 0 undef = a'.tmps.getD 2 undef → aX.tmps.getD 1 undef = a'.tmps.getD 3 undef →
      Y.wpS P (bodyPostS P fc c0 cs fun e u' w' => match e with
        | .returned _ => Leaves P fn a'.tmps (fun e w'' => FB w w'' ∧ OutRel ban (.ret (normR P fn.resultTypes.toList (immW s2.hp (oneOf l)))) e w'') [] (settle u') w'
        | .panicked chain => Leaves P fn a'.tmps (fun e w'' => FB w w'' ∧ OutRel ban (.ret (normR P fn.resultTypes.toList (immW s2.hp (oneOf l)))) e w'') [] (raised u' chain) w'
        | .outgrown => FB w w' ∧ OutRel ban (.ret (normR P fn.resultTypes.toList (immW s2.hp (oneOf l)))) .outgrown w') ((aX.put (some 5) cv).put (some 2) cv) ({ c0 with mode := m } :: cs) C'.w := by
    intro cv c0 cs hcv m hm' aX hdX hsX hX0 hX1
    have rY : Rep w { may := fun _ => False, ban := ban, pin := twoPins w.heap.size (w.heap.size + 1) z0.size z1.size, dfs := [] } C' (stY fc.ntmps s1 v) ((aX.put (some 5) cv).put (some 2) cv) := by
      refine ⟨hdX, by simp [Act.put, hsX, stY]; omega, fun t => ?_, hr.hp, ⟨hr.kept.os, hr.kept.tape, hr.kept.output, hr.kept.size, hr.kept.block, hr.kept.ban, hr.kept.banlt, hr.kept.banmay, hr.kept.pin, hr.kept.frz⟩, hr.mine⟩
      rw [getD_put, getD_put]
      have hs' : (aX.put (some 5) cv).tmps.size = fc.ntmps := by simp [Act.put, hsX]
      rw [hs', hsX]
      show VRel C' true (gt ([gt s1.tm 2, gt s1.tm 3, v, .junk, .junk, v] ++ List.replicate (fc.ntmps - 6) .junk) t) _
      rcases t with _ | _ | _ | _ | _ | _ | t
      · rw [if_neg (by simp), if_neg (by simp), hX0]; exact hr.tm 2
      · rw [if_neg (by simp), if_neg (by simp), hX1]; exact hr.tm 3
      · rw [if_pos (And.intro rfl (show 2 < fc.ntmps by omega))]; exact hcv
      · exact .junk _
      · exact .junk _
      · rw [if_neg (by simp), if_pos (And.intro rfl (show 5 < fc.ntmps by omega))]; exact hcv
      · have e1 : gt ([gt s1.tm 2, gt s1.tm 3, v, .junk, .junk, v] ++ List.replicate (fc.ntmps - 6) .junk) (t + 1 + 1 + 1 + 1 + 1 + 1) = .junk := by
          show gt (List.replicate (fc.ntmps - 6) AV.junk) t = .junk
          rw [gt_eq, List.getD_eq_getElem?_getD, List.getElem?_replicate]; split <;> rfl
        rw [e1]; exact .junk _
    refine wpS_of_wp (hcode2 w _ C' _ rY _ (fun C3 a3 e3 he3 r3 => ?_))
    obtain ⟨p0, p1⟩ := pins_ok r3 rfl hp2
    have hres := results_ok (fn := fn) (tm := [.junk, .junk, unpp (gt s2.tm 0), unpp (gt s2.tm 1)]) (tmps := a'.tmps) r3.hp (fun t => by
      rcases t with _ | _ | _ | _ | t
      · exact .junk _
      · exact .junk _
      · show VRel C3 true (unpp (gt s2.tm 0)) _
        rw [q0, ← p0]; exact (r3.tm 0).unpp
      · show VRel C3 true (unpp (gt s2.tm 1)) _
        rw [q1, ← p1]; exact (r3.tm 1).unpp
      · exact .junk _) hl
    obtain ⟨c, hc1, hc2⟩ := hres
    have hres0 : (results fc a3.tmps).run P C3.w = .ok (.tuple #[]) C3.w := by
      unfold results
      rw [hcr, Array.mapM_eq_mapM_toList]
      simp
    have still : VRel (cx0 ban C3.w) false (immW s2.hp (oneOf l)) c := immW_rel r3.hp r3.kept.ban hc2 (fun b hlv hn hb => by
      rcases r3.mine b hlv hn with h | h
      · exact h
      · have := hban _ hb; omega)
    have post : a3.defers = [] ∧ ∃ u', ({ c0 with mode := m } :: cs) = { c0 with mode := u' } :: cs ∧ ∃ v, (results fc a3.tmps).run P C3.w = .ok v C3.w ∧
        Leaves P fn a'.tmps (fun e w'' => FB w w'' ∧ OutRel ban (.ret (normR P fn.resultTypes.toList (immW s2.hp (oneOf l)))) e w'') [] (settle u') C3.w := by
      refine ⟨r3.defers, m, rfl, _, hres0, ?_⟩
      rw [hm']
      exact ⟨c, hc1, below (fun _ h => h) r3.kept, c, rfl, normR_rel still⟩
    rcases hex2 with rfl | rfl
    · cases e3 <;> first | exact he3.elim | exact post
    · cases e3 <;> first | exact he3.elim | exact post
  have hargsX : ∀ (cv : Value) (u : FrameMode), (u = .returning ∧ cv = .nilIface ∨ u = .panicking [{ v := cv, recovered := false }]) → VRel C' true v cv →
      Leaves P fn a'.tmps (fun e w'' => FB w w'' ∧ OutRel ban (.ret (normR P fn.resultTypes.toList (immW s2.hp (oneOf l)))) e w'') [d] u C'.w := by
    intro cv u hu hcv
    have hi : (invoke (.fn (.func fcn) #[.pointer (some ⟨w.heap.size, 0, none⟩), .pointer (some ⟨w.heap.size + 1, 0, none⟩)]) #[]).run P C'.w = .ok (.enter fcn #[.pointer (some ⟨w.heap.size, 0, none⟩), .pointer (some ⟨w.heap.size + 1, 0, none⟩)]) C'.w := by
      unfold callable at hct
      rw [hfc] at hct
      simp only [Bool.and_eq_true, bne_iff_ne, ne_eq] at hct
      obtain ⟨_, hname⟩ := hct
      have hbn : fc.body.isNone = false := by rw [hbc]; rfl
      have hn : (fc.name == "runtime.NumGoroutine") = false := by simpa using hname
      simp only [invoke, Array.empty_append, callFunc, program, Sem.run_bind, Sem.run, Result.andThen_ok, hfc, hn, hbn]
      rfl
    refine leaves_cons (f := fcn) (by rcases hu with ⟨rfl, _⟩ | rfl <;> simp) hi ?_
    refine callsD_of_wpS hfc hbc fun c0 cs hc0 => wpS_seq ?_
    have hax : ({ tmps := #[.pointer (some ⟨w.heap.size, 0, none⟩), .pointer (some ⟨w.heap.size + 1, 0, none⟩)] ++ Array.replicate (fc.ntmps - 2) undef, defers := [] } : Act).tmps.size = fc.ntmps := by simp; omega
    rcases hu with ⟨rfl, rfl⟩ | rfl
    · refine hX0 _ _ c0 cs _ (by rw [show (#[_, _] : Array Value).size = 2 from rfl, hax]; omega) hc0 ?_
      have e : c0 = { c0 with mode := .returning } := by rw [← hc0]
      have := tail .nilIface c0 cs hcv .returning rfl _ rfl hax (by rw [q0]; exact (getD_two _ _ _).1) (by rw [q1]; exact (getD_two _ _ _).2)
      rw [← e] at this
      exact this
    · refine hX1 _ _ c0 cs _ cv (by rw [show (#[_, _] : Array Value).size = 2 from rfl, hax]; omega) hc0 ?_
      exact tail cv c0 cs hcv _ rfl _ rfl hax (by rw [q0]; exact (getD_two _ _ _).1) (by rw [q1]; exact (getD_two _ _ _).2)
  have hdf : a'.defers = [d] := hr.defers
  rcases hexv with ⟨hex, rfl⟩ | rfl
  · have := hargsX .nilIface .returning (.inl ⟨rfl, rfl⟩) (.val _)
    rcases hex with rfl | rfl
    · cases e <;> first | exact he.elim | (show Leaves P fn a'.tmps _ a'.defers .returning C'.w; rw [hdf]; exact this)
    · cases e <;> first | exact he.elim | (show Leaves P fn a'.tmps _ a'.defers .returning C'.w; rw [hdf]; exact this)
  · cases e <;> first | exact he.elim | skip
    obtain ⟨c, rfl, hv⟩ := he
    show Leaves P fn a'.tmps _ a'.defers (.panicking [{ v := c, recovered := false }]) C'.w
    rw [hdf]
    exact hargsX c _ (.inr rfl) hv

/-! ### The shapes -/
def asAllocs (c : Code) : Option (TypeId × Tmp × TypeId × Tmp) := match c with
  | .region _ ops false => match ops.toList with
    | [o0, o1] => match o0.op, o0.guard, o0.dst with
      | .alloc T0, none, some t0 => match o1.op, o1.guard, o1.dst with
        | .alloc T1, none, some t1 => some (T0, t0, T1, t1)
        | _, _, _ => none
      | _, _, _ => none
    | _ => none
  | _ => none

theorem run_alloc_op {P : Program} {o : Oper} {T : TypeId} (ho : o.op = .alloc T) {i : TypeInfo} {z : Value} (hi : P.info? T = some i) (hz : i.zero = some z) (ev : Operand → Value) (w : World) :
    (execOp ev o).run P w = .ok (.value (.pointer (some ⟨w.heap.size, 0, none⟩))) (w.alloc (.cells z.cells T (0, 0))) := by
  unfold execOp
  simp only [ho]
  simp [Instr.alloc, zeroValue, typeInfo, hi, hz, newVar, newRow]

theorem allocs_wp {P : Program} {c : Code} {T0 T1 : TypeId} {t0 t1 : Tmp} (h : asAllocs c = some (T0, t0, T1, t1)) {i0 i1 : TypeInfo} {z0 z1 : Value} (hi0 : P.info? T0 = some i0) (hz0 : i0.zero = some z0) (hi1 : P.info? T1 = some i1) (hz1 : i1.zero = some z1)
    (Q : Exit → Act → World → Prop) (a : Act) (w : World)
    (hQ : Q .normal ((a.put (some t0) (.pointer (some ⟨w.heap.size, 0, none⟩))).put (some t1) (.pointer (some ⟨w.heap.size + 1, 0, none⟩))) ((w.alloc (.cells z0.cells T0 (0, 0))).alloc (.cells z1.cells T1 (0, 0)))) : c.wp P Q a w := by
  unfold asAllocs at h
  split at h <;> try cases h
  rename_i id ops
  split at h <;> try cases h
  rename_i o0 o1 hops
  split at h <;> try cases h
  split at h <;> try cases h
  have p0 : o0.op = .alloc T0 := by assumption
  have g0 : o0.guard = none := by assumption
  have d0 : o0.dst = some t0 := by assumption
  have p1 : o1.op = .alloc T1 := by assumption
  have g1 : o1.guard = none := by assumption
  have d1 : o1.dst = some t1 := by assumption
  obtain ⟨ops⟩ := ops
  simp only at hops
  subst hops
  refine wp_region ?_
  show wpOps P #[o0, o1] Q [0, 1] a w
  unfold wpOps
  have e0 : (#[o0, o1] : Array Oper)[0]? = some o0 := rfl
  simp only [e0, Region.wanted, g0, if_true]
  refine .inl ?_
  unfold Oper.wp
  rw [run_alloc_op p0 hi0 hz0, Oper.upon_value, d0]
  show wpOps P #[o0, o1] Q [1] _ _
  unfold wpOps
  have e1 : (#[o0, o1] : Array Oper)[1]? = some o1 := rfl
  simp only [e1, Region.wanted, g1, if_true]
  refine .inl ?_
  unfold Oper.wp
  rw [run_alloc_op p1 hi1 hz1, Oper.upon_value, d1]
  show wpOps P #[o0, o1] Q [] _ _
  unfold wpOps
  have e : (w.alloc (.cells z0.cells T0 (0, 0))).heap.size = w.heap.size + 1 := by simp
  rw [e]
  exact hQ

def asDefer (c : Code) : Option (Tmp × FuncId × Tmp × Tmp) := match c with
  | .region _ ops false => match ops.toList with
    | [o0, o1] => match o0.op, o0.guard, o0.dst with
      | .makeFunc (.func g) ⟨[]⟩ ⟨[.tmp x, .tmp y]⟩, none, some t => match o1.op, o1.guard, o1.dst with
        | .defer ⟨.value (.tmp t'), ⟨[]⟩, _⟩, none, none => bif t' == t then some (t, g, x, y) else none
        | _, _, _ => none
      | _, _, _ => none
    | _ => none
  | _ => none

theorem defer_wp {P : Program} {c : Code} {t x y : Tmp} {g : FuncId} (h : asDefer c = some (t, g, x, y)) (Q : Exit → Act → World → Prop) (a : Act) (w : World) (ht : t < a.tmps.size) (hd : a.defers = [])
    (hQ : Q .normal { (a.put (some t) (.func (.func g) #[] #[a.tmps.getD x undef, a.tmps.getD y undef])) with defers := [{ target := .fn (.func g) #[a.tmps.getD x undef, a.tmps.getD y undef], args := #[] }] } w) : c.wp P Q a w := by
  unfold asDefer at h
  split at h <;> try cases h
  rename_i id ops
  split at h <;> try cases h
  rename_i o0 o1 hops
  split at h <;> try cases h
  rename_i g' x' y' t1 p0 g0 d0
  split at h <;> try cases h
  rename_i t' ats p1 g1 d1
  cases htt : (t' == t1) with
  | false => rw [htt] at h; cases h
  | true =>
    rw [htt, cond_true] at h
    simp only [Option.some.injEq, Prod.mk.injEq] at h
    obtain ⟨rfl, rfl, rfl, rfl⟩ := h
    have htt := beq_iff_eq.1 htt
    subst htt
    obtain ⟨ops⟩ := ops
    simp only at hops
    subst hops
    refine wp_region ?_
    show wpOps P #[o0, o1] Q [0, 1] a w
    unfold wpOps
    have e0 : (#[o0, o1] : Array Oper)[0]? = some o0 := rfl
    simp only [e0, Region.wanted, g0, if_true]
    refine .inl ?_
    unfold Oper.wp
    have r0 : (execOp a.eval o0).run P w = .ok (.value (.func (.func g') #[] #[a.tmps.getD x' undef, a.tmps.getD y' undef])) w := by
      unfold execOp; simp only [p0]; simp [Instr.makeFunc, Act.eval]
    rw [r0, Oper.upon_value, d0]
    show wpOps P #[o0, o1] Q [1] _ _
    unfold wpOps
    have e1 : (#[o0, o1] : Array Oper)[1]? = some o1 := rfl
    simp only [e1, Region.wanted, g1, if_true]
    refine .inl ?_
    unfold Oper.wp
    have r1 : (execOp (a.put (some t') (.func (.func g') #[] #[a.tmps.getD x' undef, a.tmps.getD y' undef])).eval o1).run P w = .ok (.defer { target := .fn (.func g') #[a.tmps.getD x' undef, a.tmps.getD y' undef], args := #[] }) w := by
      have e : (a.put (some t') (.func (.func g') #[] #[a.tmps.getD x' undef, a.tmps.getD y' undef])).eval (.tmp t') = .func (.func g') #[] #[a.tmps.getD x' undef, a.tmps.getD y' undef] := by
        show (a.put (some t') _).tmps.getD t' undef = _
        rw [getD_put, if_pos (And.intro rfl ht)]
      unfold execOp
      simp only [p1, resolve, e, Deferred.ofValue]
      simp
    rw [r1, Oper.upon_defer, d1]
    show wpOps P #[o0, o1] Q [] _ _
    unfold wpOps
    have : (a.put (some t') (.func (.func g') #[] #[a.tmps.getD x' undef, a.tmps.getD y' undef])).defers = [] := hd
    rw [this]
    exact hQ

def asRecover (c : Code) : Option (Tmp × Tmp) := match c with
  | .region _ ops false => match ops.toList with
    | [o0, o1] => match o0.op, o0.guard, o0.dst with
      | .call ⟨.builtin .recover, ⟨[]⟩, _⟩, none, some t => match o1.op, o1.guard, o1.dst with
        | .assign (.tmp t'), none, some u => bif t' == t then some (t, u) else none
        | _, _, _ => none
      | _, _, _ => none
    | _ => none
  | _ => none

theorem recover_wp {P : Program} {c : Code} {t u : Tmp} (h : asRecover c = some (t, u)) (Q : Exit → Act → List Frame → World → Prop) (a : Act) (cs : List Frame) (w : World) (ht : t < a.tmps.size) {v : Value} {cs' : List Frame}
    (hr : (recoverD cs = some (v, cs')) ∨ (recoverD cs = none ∧ v = .nilIface ∧ cs' = cs))
    (hQ : Q .normal ((a.put (some t) v).put (some u) v) cs' w) : c.wpS P Q a cs w := by
  unfold asRecover at h
  split at h <;> try cases h
  rename_i id ops
  split at h <;> try cases h
  rename_i o0 o1 hops
  split at h <;> try cases h
  rename_i ats t1 p0 g0 d0
  split at h <;> try cases h
  rename_i t' u' p1 g1 d1
  cases htt : (t' == t1) with
  | false => rw [htt] at h; cases h
  | true =>
    rw [htt, cond_true] at h
    simp only [Option.some.injEq, Prod.mk.injEq] at h
    obtain ⟨rfl, rfl⟩ := h
    have htt := beq_iff_eq.1 htt
    subst htt
    obtain ⟨ops⟩ := ops
    simp only at hops
    subst hops
    refine wpS_region ?_
    show wpOpsS P #[o0, o1] Q [0, 1] a cs w
    have e0 : (#[o0, o1] : Array Oper)[0]? = some o0 := rfl
    have e1 : (#[o0, o1] : Array Oper)[1]? = some o1 := rfl
    have r0 : (execOp a.eval o0).run P w = .ok .recover w := by unfold execOp; simp only [p0]; rfl
    have r1 : (execOp (a.put (some t') v).eval o1).run P w = .ok (.value v) w := by
      have e : (a.put (some t') v).eval (.tmp t') = v := by
        show (a.put (some t') _).tmps.getD t' undef = _
        rw [getD_put, if_pos (And.intro rfl ht)]
      unfold execOp; simp only [p1, e]; rfl
    have last : wpOpsS P #[o0, o1] Q [1] (a.put (some t') v) cs' w := by
      unfold wpOpsS
      simp only [e1, Region.wanted, g1, if_true, r1, d1, Oper.upon_value]
      unfold wpOpsS
      exact hQ
    unfold wpOpsS
    rcases hr with hr | ⟨hr, rfl, rfl⟩
    · simp only [e0, Region.wanted, g0, if_true, r0, d0, hr]
      exact last
    · simp only [e0, Region.wanted, g0, if_true, r0, d0, hr]
      exact last

/-- By the shapes. -/
theorem defers_ok {P : Program} {G : Gam} {L : Lam} {f fcn : FuncId} {fn fc : Func} (hf : P.funcs[f]? = some fn) (hfc : P.funcs[fcn]? = some fc) {A B R X Y : Code}
    (hb : fn.body = some (.seq A (.seq B R))) (hbc : fc.body = some (.seq X Y)) (hct : callable P fcn = true) (hcr : fc.results.isEmpty = true) (hcn : Nat.ble 6 fc.ntmps = true) (hG : GamOk P G) (hL : LamOk P (bodyOf fn) L) (hm : P.follows .mixedOrders = true)
    {z0 z1 : Array Value} {T0 T1 : TypeId} {args args' : List AV} (hargs : RefsL args args') (hn : Nat.ble (args'.length + 1) 3 = true) (hnt : Nat.ble 12 fn.ntmps = true)
    (hj : (match gt (rst fn.ntmps args' z0 z1 T0 T1).tm 11 with
      | .junk => true
      | _ => false) = true)
    (hz0 : ((P.info? T0).bind fun i => i.zero).map Value.cells = some z0) (hz1 : ((P.info? T1).bind fun i => i.zero).map Value.cells = some z1)
    (hA : asAllocs A = some (T0, 2, T1, 3)) (hB : asDefer B = some (11, fcn, 2, 3)) (hX : asRecover X = some (5, 2))
    {β : Type} {K : Out → Option β} {r : β} (h : E P G L R [true, true] (rst fn.ntmps args' z0 z1 T0 T1) (finD P fn fc Y z1.size K) = some r) : ∃ out, K out = some r ∧ SimP P f args out := by
  obtain ⟨v0, hv0, e0⟩ := Option.map_eq_some_iff.1 hz0
  obtain ⟨i0, hi0, hv0⟩ := Option.bind_eq_some_iff.1 hv0
  obtain ⟨v1, hv1, e1⟩ := Option.map_eq_some_iff.1 hz1
  obtain ⟨i1, hi1, hv1⟩ := Option.bind_eq_some_iff.1 hv1
  subst e0; subst e1
  refine read_ok hf hfc hb hbc hct (by simpa using hcr) (Nat.le_of_ble_eq_true hcn) hG hL hm hargs (Nat.le_of_ble_eq_true hn) (Nat.le_of_ble_eq_true hnt) ?_
    (fun Q a w _ hQ => allocs_wp hA hi0 hv0 hi1 hv1 Q a w hQ) (fun Q a w hsz hd hQ => defer_wp hB Q a w hsz hd hQ)
    (fun Q a c0 cs w hsz hm0 hQ => recover_wp hX Q a _ w hsz (.inr ⟨by simp [recoverD, hm0], rfl, rfl⟩) hQ)
    (fun Q a c0 cs w v hsz hm0 hQ => recover_wp hX Q a _ w hsz (.inl (by simp [recoverD, hm0])) hQ) h
  split at hj
  · assumption
  · cases hj
end Go.Va
