/-
  The run of a function's body, abstractly; and that a function comes to what its body comes to.
  Conditions: none.
-/
import Derived.Test.YtnidnmhcjngmeaaGreatVaAny
import Derived.LoopN
set_option linter.unusedVariables false
set_option linter.unusedSimpArgs false
set_option autoImplicit false
namespace Go.Va

/-- What is known of pieces of a body, by their places: loops, and what stands behind a piece. -/
structure Lam where
  has : List Bool → Bool
  k : ∀ β : Type, List Bool → St → (AEx → St → Option β) → Option β

def noLam : Lam := ⟨fun _ => false, fun _ _ _ _ => none⟩

def codeAt (body : Code) : List Bool → Option Code
  | [] => some body
  | d :: p => match codeAt body p with
    | some (.seq a b) => some (bif d then b else a)
    | some (.cond _ a b) => some (bif d then b else a)
    | some (.block _ c) => some c
    | some (.loop c) => some c
    | _ => none

def E (P : Program) (G : Gam) (L : Lam) {β : Type} : Code → List Bool → St → (AEx → St → Option β) → Option β
  | .skip, _, s, K => K .normal s
  | .region _ ops draw, _, s, K =>
    bif draw then drawK P G ops.toList ops.toList s.hp.length ⟨s.tm, s.hp ++ List.replicate (madeIn ops.toList) .free⟩
      (fun es t => bif edgesOk ops.toList 0 && pairsOk ops.toList (ancs ops.toList []) es 0 then K .normal t else none)
      (panK ops.toList ⟨s.tm, s.hp ++ List.replicate (madeIn ops.toList) .free⟩ K)
    else seqK P G ops.toList ops.toList s.hp.length ⟨s.tm, s.hp ++ List.replicate (madeIn ops.toList) .free⟩ K
  | .seq a b, p, s, K => E P G L a (false :: p) s (fun ex t => match ex with
    | .normal => bif L.has (true :: p) then L.k β (true :: p) t K else E P G L b (true :: p) t K
    | .exit i => K (.exit i) t
    | .ret => K .ret t
    | .panic v => K (.panic v) t)
  | .cond c a b, p, s, K => match evA s.tm c with
    | .val (.bool x) => bif x then E P G L a (false :: p) s K else E P G L b (true :: p) s K
    | _ => none
  | .block id c, p, s, K => E P G L c (false :: p) s (fun ex t => match ex with
    | .normal => K .normal t
    | .exit i => bif i == id then K .normal t else K (.exit i) t
    | .ret => K .ret t
    | .panic v => K (.panic v) t)
  | .loop _, p, s, K => L.k β p s K
  | .exit i, _, s, K => K (.exit i) s
  | .ret, _, s, K => K .ret s
  | _, _, _, _ => none

def CodeOk (P : Program) (c : Code) (s : St) (ex : AEx) (s' : St) : Prop :=
  ∀ (w0 : World) (O : Env) (C : Cx) (a : Act), Rep w0 O C s a → ∀ Q : Exit → Act → World → Prop, (∀ C' a' e, ExRel C' ex e → Rep w0 O C' s' a' → Q e a' C'.w) → c.wp P Q a C.w

def LamOk (P : Program) (body : Code) (L : Lam) : Prop :=
  ∀ p c, codeAt body p = some c → ∀ (β : Type) (s : St) (K : AEx → St → Option β) (r : β), L.k β p s K = some r → ∃ ex s', K ex s' = some r ∧ CodeOk P c s ex s'

theorem noLam_ok (P : Program) (body : Code) : LamOk P body noLam := fun p c _ β s K r h => by cases h

theorem gb_extend (hp : List Blk) (k b : Nat) : gb (hp ++ List.replicate k .free) b = gb hp b ∨ (hp.length ≤ b ∧ gb (hp ++ List.replicate k .free) b = .free) := by
  by_cases h : b < hp.length
  · exact .inl (gb_append _ _ _ h)
  · obtain ⟨n, rfl⟩ : ∃ n, b = hp.length + n := ⟨b - hp.length, by omega⟩
    rw [gb_append_new]
    by_cases h2 : n < k
    · refine .inr ⟨by omega, ?_⟩
      clear h
      induction k generalizing n with
      | zero => omega
      | succ k ih => cases n with
        | zero => rfl
        | succ n => exact ih n (by omega)
    · left
      have e1 : gb (List.replicate k Blk.free) n = .gone := by
        by_cases hg : gb (List.replicate k Blk.free) n = .gone
        · exact hg
        · have := gb_len' hg; simp at this; omega
      have e2 : gb hp (hp.length + n) = .gone := by
        by_cases hg : gb hp (hp.length + n) = .gone
        · exact hg
        · have := gb_len' hg; omega
      rw [e1, e2]

/-- Room for new blocks. -/
theorem Rep.extend {w0 : World} {O : Env} {C : Cx} {s : St} {a : Act} (hr : Rep w0 O C s a) (k : Nat) : Rep w0 O C ⟨s.tm, s.hp ++ List.replicate k .free⟩ a where
  defers := hr.defers
  size := hr.size
  tm := hr.tm
  hp := by
    have lv : ∀ x, (gb (s.hp ++ List.replicate k .free) x).live = true → (gb s.hp x).live = true := fun x hx => by
      rcases gb_extend s.hp k x with h | ⟨_, h⟩
      · rwa [h] at hx
      · rw [h] at hx; cases hx
    refine ⟨fun b hb => ?_, fun b hb hal => ?_, fun b cs t cl hb => ?_, fun b cs t cl hb => ?_, fun b c l t hb => ?_, fun b o hb => ?_, fun b b' hb hb' hn hn' he => hr.hp.inj b b' (lv b hb) (lv b' hb') hn hn' he, hr.hp.ownlt⟩
    · have := hr.hp.al b hb; simp; omega
    · rcases gb_extend s.hp k b with h | ⟨h, _⟩
      · rw [h] at hb; exact hr.hp.free b hb hal
      · have := hr.hp.al b hal; omega
    · rcases gb_extend s.hp k b with h | ⟨_, h⟩
      · rw [h] at hb; exact hr.hp.nnl b cs t cl hb
      · rw [h] at hb; cases hb
    · rcases gb_extend s.hp k b with h | ⟨_, h⟩
      · rw [h] at hb; exact hr.hp.row b cs t cl hb
      · rw [h] at hb; cases hb
    · rcases gb_extend s.hp k b with h | ⟨_, h⟩
      · rw [h] at hb; exact hr.hp.rt b c l t hb
      · rw [h] at hb; cases hb
    · rcases gb_extend s.hp k b with h | ⟨_, h⟩
      · rw [h] at hb; exact hr.hp.ob b o hb
      · rw [h] at hb; cases hb
  kept := hr.kept
  mine := fun b hb hn => by
    rcases gb_extend s.hp k b with h | ⟨_, h⟩
    · rw [h] at hb; exact hr.mine b hb hn
    · rw [h] at hb; cases hb

theorem sOf_init (n k : Nat) : sOf (Array.replicate n false) k = false := by
  simp only [sOf, Array.getD_eq_getD_getElem?, Array.getElem?_replicate]
  split <;> rfl

theorem E_ok {P : Program} {G : Gam} {L : Lam} {body : Code} (hG : GamOk P G) (hL : LamOk P body L) (hm : P.follows .mixedOrders = true) {β : Type} (c : Code) :
    ∀ {p : List Bool} {s : St} {K : AEx → St → Option β} {r : β}, codeAt body p = some c → E P G L c p s K = some r → ∃ ex s', K ex s' = some r ∧ CodeOk P c s ex s' := by
  induction c with
  | skip => intro p s K r hp h; exact ⟨.normal, s, h, fun w0 O C a hr Q hQ => wp_skip (hQ C a .normal trivial hr)⟩
  | region id ops draw =>
    intro p s K r hp h
    simp only [E] at h
    cases draw with
    | true =>
      rw [cond_true] at h
      rcases drawK_ok hG _ h with ⟨es, h1, h2, h3⟩ | ⟨es, x, h1, h2, h3, h4, h5⟩
      · skip
        cases hchk : (edgesOk ops.toList 0 && pairsOk ops.toList (ancs ops.toList []) es 0) with
        | false => rw [hchk] at h1; cases h1
        | true =>
          rw [hchk, cond_true] at h1
          simp only [Bool.and_eq_true] at hchk
          refine ⟨_, _, h1, fun w0 O C a hr Q hQ => ?_⟩
          refine wp_region_any hm ?_
          have hr2 : Rep w0 O (C.at { C.w with drawn := C.w.drawn + 1 }) ⟨s.tm, s.hp ++ List.replicate (madeIn ops.toList) .free⟩ a := (hr.extend _).alike ⟨rfl, rfl, rfl, rfl⟩
          refine draw_any h2 h3 hchk.2 hchk.1 (w0 := w0) (O := O) (fun C' a' hr' => hQ C' a' .normal trivial hr') ops.size _ (C.at { C.w with drawn := C.w.drawn + 1 }) a (by simp) ?_ ?_ ?_
          · intro i o ho hS
            rw [sOf_init] at hS; cases hS
          · unfold unl
            exact Nat.le_trans (List.countP_le_length) (by simp)
          · have e : someE (sOf (Array.replicate ops.size false)) es 0 ⟨s.tm, s.hp ++ List.replicate (madeIn ops.toList) .free⟩ = ⟨s.tm, s.hp ++ List.replicate (madeIn ops.toList) .free⟩ := by
              rw [someE_congr (T := fun _ => false) es 0 _ (fun k _ => sOf_init _ _)]
              exact someE_none es 0 _
            rw [e]; exact hr2
      · unfold panK at h1
        cases hchk : ((edgesOk ops.toList 0 && pairsOk ops.toList (ancs ops.toList []) (es ++ [(x.o, some ⟨.junk, x.foot, [], none⟩)]) 0) && (es.all Ent.noKill && laterOk (ancs ops.toList []) es.length x.rest.length)) with
        | false => rw [hchk] at h1; cases h1
        | true =>
          rw [hchk, cond_true] at h1
          simp only [Bool.and_eq_true] at hchk
          obtain ⟨⟨c1, c2⟩, c3, c4⟩ := hchk
          refine ⟨_, _, h1, fun w0 O C a hr Q hQ => ?_⟩
          refine wp_region_any hm ?_
          have hr2 : Rep w0 O (C.at { C.w with drawn := C.w.drawn + 1 }) ⟨s.tm, s.hp ++ List.replicate (madeIn ops.toList) .free⟩ a := (hr.extend _).alike ⟨rfl, rfl, rfl, rfl⟩
          refine draw_pan h2 h3 h4 h5 c2 c1 c3 c4 (w0 := w0) (O := O) (fun C' a' c hr' hv => hQ C' a' _ ⟨c, rfl, hv⟩ hr') ops.size _ (C.at { C.w with drawn := C.w.drawn + 1 }) a (by simp) ?_ (sOf_init _ _) ?_ ?_
          · intro i o ho hS
            rw [sOf_init] at hS; cases hS
          · unfold unl
            exact Nat.le_trans (List.countP_le_length) (by simp)
          · have e : someE (sOf (Array.replicate ops.size false)) es 0 ⟨s.tm, s.hp ++ List.replicate (madeIn ops.toList) .free⟩ = ⟨s.tm, s.hp ++ List.replicate (madeIn ops.toList) .free⟩ := by
              rw [someE_congr (T := fun _ => false) es 0 _ (fun k _ => sOf_init _ _)]
              exact someE_none es 0 _
            rw [e]; exact hr2
    | false =>
      rw [cond_false] at h
      obtain ⟨ex, s', h1, h2⟩ := seqK_ok hG _ h
      exact ⟨ex, s', h1, fun w0 O C a hr Q hQ => wp_region_list (h2 w0 O C a (hr.extend _) Q hQ)⟩
  | seq x y ihx ihy =>
    intro p s K r hp h
    simp only [E] at h
    have hx : codeAt body (false :: p) = some x := by simp [codeAt, hp]
    have hy : codeAt body (true :: p) = some y := by simp [codeAt, hp]
    obtain ⟨ex, s1, h1, h2⟩ := ihx hx h
    cases ex with
    | normal =>
      have h3 : ∃ ex s', K ex s' = some r ∧ CodeOk P y s1 ex s' := by
        simp only at h1
        cases hh : L.has (true :: p) with
        | true => rw [hh, cond_true] at h1; exact hL _ _ hy _ _ _ _ h1
        | false => rw [hh, cond_false] at h1; exact ihy hy h1
      obtain ⟨ex, s', h4, h5⟩ := h3
      refine ⟨ex, s', h4, fun w0 O C a hr Q hQ => wp_seq (h2 w0 O C a hr _ (fun C' a' e he hr' => ?_))⟩
      cases e <;> first | exact he.elim | exact h5 w0 O C' a' hr' Q hQ
    | exit i =>
      refine ⟨_, _, h1, fun w0 O C a hr Q hQ => wp_seq (h2 w0 O C a hr _ (fun C' a' e he hr' => ?_))⟩
      cases e <;> first | exact he.elim | exact hQ C' a' _ he hr'
    | ret =>
      refine ⟨_, _, h1, fun w0 O C a hr Q hQ => wp_seq (h2 w0 O C a hr _ (fun C' a' e he hr' => ?_))⟩
      cases e <;> first | exact he.elim | exact hQ C' a' _ he hr'
    | panic v =>
      refine ⟨_, _, h1, fun w0 O C a hr Q hQ => wp_seq (h2 w0 O C a hr _ (fun C' a' e he hr' => ?_))⟩
      cases e <;> first | exact he.elim | exact hQ C' a' _ he hr'
  | cond c x y ihx ihy =>
    intro p s K r hp h
    simp only [E] at h
    have hx : codeAt body (false :: p) = some x := by simp [codeAt, hp]
    have hy : codeAt body (true :: p) = some y := by simp [codeAt, hp]
    split at h
    · rename_i b hb
      have ev : ∀ w0 O C a, Rep w0 O C s a → a.eval c = .bool b := fun w0 O C a hr => by
        have := hr.ev c; rw [hb] at this; exact this.inv_val
      cases b with
      | true =>
        rw [cond_true] at h
        obtain ⟨ex, s', h1, h2⟩ := ihx hx h
        exact ⟨ex, s', h1, fun w0 O C a hr Q hQ => wp_cond_true (ev w0 O C a hr) (h2 w0 O C a hr Q hQ)⟩
      | false =>
        rw [cond_false] at h
        obtain ⟨ex, s', h1, h2⟩ := ihy hy h
        exact ⟨ex, s', h1, fun w0 O C a hr Q hQ => wp_cond_false (ev w0 O C a hr) (h2 w0 O C a hr Q hQ)⟩
    · cases h
  | block id c ih =>
    intro p s K r hp h
    simp only [E] at h
    have hc : codeAt body (false :: p) = some c := by simp [codeAt, hp]
    obtain ⟨ex, s1, h1, h2⟩ := ih hc h
    cases ex with
    | normal =>
      refine ⟨_, _, h1, fun w0 O C a hr Q hQ => wp_block (h2 w0 O C a hr _ (fun C' a' e he hr' => ?_))⟩
      cases e <;> first | exact he.elim | exact hQ C' a' _ he hr'
    | exit i =>
      simp only at h1
      cases hid : (i == id) with
      | true =>
        rw [hid, cond_true] at h1
        refine ⟨_, _, h1, fun w0 O C a hr Q hQ => wp_block (h2 w0 O C a hr _ (fun C' a' e he hr' => ?_))⟩
        cases e <;> first | exact he.elim | skip
        rename_i j
        have : j = id := by simp only [ExRel] at he; have := beq_iff_eq.1 hid; omega
        simp only [Exit.inBlock, this, if_true]
        exact hQ C' a' .normal trivial hr'
      | false =>
        rw [hid, cond_false] at h1
        refine ⟨_, _, h1, fun w0 O C a hr Q hQ => wp_block (h2 w0 O C a hr _ (fun C' a' e he hr' => ?_))⟩
        cases e <;> first | exact he.elim | skip
        rename_i j
        have : ¬ j = id := by simp only [ExRel] at he; have := beq_eq_false_iff_ne.1 hid; omega
        simp only [Exit.inBlock, this, if_false]
        exact hQ C' a' (.exit j) he hr'
    | ret =>
      refine ⟨_, _, h1, fun w0 O C a hr Q hQ => wp_block (h2 w0 O C a hr _ (fun C' a' e he hr' => ?_))⟩
      cases e <;> first | exact he.elim | exact hQ C' a' _ he hr'
    | panic v =>
      refine ⟨_, _, h1, fun w0 O C a hr Q hQ => wp_block (h2 w0 O C a hr _ (fun C' a' e he hr' => ?_))⟩
      cases e <;> first | exact he.elim | exact hQ C' a' _ he hr'
  | loop c ih => intro p s K r hp h; exact hL _ _ hp _ _ _ _ h
  | exit i => intro p s K r hp h; exact ⟨_, s, h, fun w0 O C a hr Q hQ => wp_exit (hQ C a (.exit i) rfl hr)⟩
  | ret => intro p s K r hp h; exact ⟨_, s, h, fun w0 O C a hr Q hQ => wp_ret (hQ C a .ret trivial hr)⟩
  | _ => intro p s K r hp h; simp [E] at h

/-! ### Loops -/
/-- Nothing is known any more of the temporaries but these. -/
def keepT (live : List Nat) : Nat → List AV → List AV
  | _, [] => []
  | i, v :: l => (bif live.contains i then v else .junk) :: keepT live (i + 1) l

theorem keepT_length (live : List Nat) (l : List AV) : ∀ i, (keepT live i l).length = l.length := by
  induction l with
  | nil => intro i; rfl
  | cons v l ih => intro i; simp only [keepT, List.length_cons, ih]

theorem keepT_gt (live : List Nat) (l : List AV) : ∀ i j, gt (keepT live i l) j = gt l j ∨ gt (keepT live i l) j = .junk := by
  induction l with
  | nil => intro i j; exact .inl rfl
  | cons v l ih =>
    intro i j
    cases j with
    | zero => simp only [keepT, gt]; cases live.contains i <;> simp
    | succ j => exact ih (i + 1) j

/-- The blocks behind the first n are given up, if nobody names them. -/
def trimH (n : Nat) (s : St) : St :=
  bif AV.onlys (fun b => decide (b < n)) s.tm && (s.hp.take n).all (fun x => match x with
    | .row cs _ cl => cl || AV.onlys (fun b => decide (b < n)) cs
    | _ => true) then ⟨s.tm, s.hp.take n⟩ else s

def St.keep (live : List Nat) (n : Nat) (s : St) : St := trimH n ⟨keepT live 0 s.tm, s.hp⟩

theorem Rep.keepT {w0 : World} {O : Env} {C : Cx} {s : St} {a : Act} (hr : Rep w0 O C s a) (live : List Nat) : Rep w0 O C ⟨Va.keepT live 0 s.tm, s.hp⟩ a where
  defers := hr.defers
  size := by simp only [keepT_length]; exact hr.size
  tm t := by
    rcases keepT_gt live s.tm 0 t with h | h
    · simp only [h]; exact hr.tm t
    · simp only [h]; exact .junk _
  hp := hr.hp
  kept := hr.kept
  mine := hr.mine

theorem gb_take (hp : List Blk) (n b : Nat) : gb (hp.take n) b = if b < n then gb hp b else .gone := by
  induction hp generalizing n b with
  | nil => simp [gb]
  | cons v l ih =>
    cases n with
    | zero => simp [gb]
    | succ n => cases b with
      | zero => simp [gb]
      | succ b => simp only [List.take_succ_cons, gb]; rw [ih n b]; simp

def Cx.cut (C : Cx) (n : Nat) : Cx := { C with al := fun b => C.al b ∧ b < n }

theorem VRel.cut {C : Cx} {n : Nat} {v : AV} {c : Value} {m : Bool} (h : VRel C m v c) : v.only (fun b => decide (b < n)) = true → VRel (C.cut n) m v c := by
  have le0 : C.Le0 (C.cut n) := ⟨Nat.le_refl _, fun _ _ _ => rfl, fun _ _ h => h⟩
  induction h with
  | junk c => intro _; exact .junk c
  | val v => intro _; exact .val v
  | ptr hb => intro h; exact VRel.ptr (C := C.cut n) ⟨hb, of_decide_eq_true h⟩
  | cell vs hB hn hl hc hr ih => intro _; exact VRel.cell (C := C.cut n) vs hB hn hl hc (fun j => (hr j).mono_false le0 rfl)
  | vec0 => intro _; exact .vec0
  | vec f hB hn hcap hmax hl hc hr ih => intro _; exact VRel.vec (C := C.cut n) f hB hn hcap hmax hl hc (fun j hj c => (hr j hj c).mono_false le0 rfl)
  | sl hb hk hl hmax hln => intro h; exact VRel.sl (C := C.cut n) ⟨hb, of_decide_eq_true h⟩ hk hl hmax hln
  | fn vs hl hr ih => intro h; exact .fn vs hl (fun j => ih j (AV.onlys_gt h j))
  | iface h ih => intro h'; exact .iface (ih h')
  | agg vs hl hr ih => intro h; exact .agg vs hl (fun j => ih j (AV.onlys_gt h j))
  | tup vs hl hr ih => intro h; exact .tup vs hl (fun j => ih j (AV.onlys_gt h j))
  | vt h ih => intro _; exact .vt (ih rfl)
  | so hb hnl hz hn hk hl hmax => intro h; exact VRel.so (C := C.cut n) ⟨hb, of_decide_eq_true h⟩ hnl hz hn hk hl hmax
  | so0 hb hnl => intro h; exact VRel.so0 (C := C.cut n) ⟨hb, of_decide_eq_true h⟩ hnl
  | pe hb hnl => intro h; exact VRel.pe (C := C.cut n) ⟨hb, of_decide_eq_true h⟩ hnl
  | mpp hb => intro h; exact VRel.mpp (C := C.cut n) ⟨hb, of_decide_eq_true h⟩
  | pp hb h1 => intro h; exact VRel.pp (C := C.cut n) ⟨hb, of_decide_eq_true h⟩ h1

theorem Rep.trim {w0 : World} {O : Env} {C : Cx} {s : St} {a : Act} (hr : Rep w0 O C s a) (n : Nat) : ∃ C', Rep w0 O C' (trimH n s) a ∧ C'.w = C.w := by
  unfold trimH
  cases hc : (AV.onlys (fun b => decide (b < n)) s.tm && (s.hp.take n).all (fun x => match x with
    | .row cs _ cl => cl || AV.onlys (fun b => decide (b < n)) cs
    | _ => true)) with
  | false => exact ⟨C, hr, rfl⟩
  | true =>
    rw [cond_true]
    simp only [Bool.and_eq_true] at hc
    obtain ⟨h1, h2⟩ := hc
    have row : ∀ b cs t cl, gb (s.hp.take n) b = .row cs t cl → b < n ∧ gb s.hp b = .row cs t cl ∧ (cl || AV.onlys (fun b => decide (b < n)) cs) = true := by
      intro b cs t cl hb
      have hlt := gb_len (l := s.hp.take n) (n := b) (by rw [hb]; rfl)
      have hmem : Blk.row cs t cl ∈ s.hp.take n := by
        clear h1 h2
        generalize s.hp.take n = l at hb hlt
        induction l generalizing b with
        | nil => simp at hlt
        | cons x l ih => cases b with
          | zero => simp only [gb] at hb; subst hb; simp
          | succ b => exact List.mem_cons_of_mem _ (ih b hb (by simpa using hlt))
      have h3 := List.all_eq_true.1 h2 _ hmem
      rw [gb_take] at hb
      split at hb
      · rename_i hbn; exact ⟨hbn, hb, h3⟩
      · cases hb
    refine ⟨C.cut n, ⟨hr.defers, hr.size, fun t => (hr.tm t).cut (AV.onlys_gt h1 t), ⟨fun b hb => ?_, fun b hb hal => ?_, fun b cs t cl hb => ?_, fun b cs t cl hb => ?_, fun b c l t hb => ?_, fun b o hb => ?_, fun b b' hb hb' hn hn' he => ?_, hr.hp.ownlt⟩, ⟨hr.kept.os, hr.kept.tape, hr.kept.output, hr.kept.size, hr.kept.block, hr.kept.ban, hr.kept.banlt, hr.kept.banmay, hr.kept.pin, hr.kept.frz⟩, fun b hb hn => ?_⟩, rfl⟩
    · have := hr.hp.al b hb.1; simp only [List.length_take]; have := hb.2; omega
    · rw [gb_take] at hb
      split at hb
      · exact hr.hp.free b hb hal.1
      · cases hb
    · obtain ⟨hbn, hb', h3⟩ := row b cs t cl hb
      exact hr.hp.nnl b cs t cl hb'
    · obtain ⟨hbn, hb', h3⟩ := row b cs t cl hb
      obtain ⟨h0, h4, hln, cur, h5, h6, h7, h8⟩ := hr.hp.row b cs t cl hb'
      refine ⟨⟨h0, hbn⟩, h4, hln, cur, h5, h6, h7, fun j hj => ?_⟩
      cases cl with
      | true => exact VRel.mono_false (C := C) (D := C.cut n) ⟨Nat.le_refl _, fun _ _ _ => rfl, fun _ _ h => h⟩ (h8 j hj) rfl
      | false => exact (h8 j hj).cut (AV.onlys_gt (by simpa using h3) j)
    · rw [gb_take] at hb
      split at hb
      · rename_i hbn
        obtain ⟨h0, hln, h⟩ := hr.hp.rt b c l t hb
        refine ⟨⟨h0, hbn⟩, hln, ?_⟩
        rcases h with h | ⟨h1, h2, cur, h3, h4, h5, h6⟩
        · exact .inl h
        · exact .inr ⟨h1, h2, cur, h3, h4, h5, fun j hj i hi => VRel.mono_false (C := C) (D := C.cut n) ⟨Nat.le_refl _, fun _ _ _ => rfl, fun _ _ h => h⟩ (h6 j hj i hi) rfl⟩
      · cases hb
    · rw [gb_take] at hb
      split at hb
      · rename_i hbn
        obtain ⟨h0, hn, ho, x, h1, h2⟩ := hr.hp.ob b o hb
        exact ⟨⟨h0, hbn⟩, hn, ho, x, h1, h2⟩
      · cases hb
    · have lv : ∀ x, (gb (s.hp.take n) x).live = true → (gb s.hp x).live = true := fun x hx => by
        rw [gb_take] at hx
        split at hx
        · exact hx
        · cases hx
      exact hr.hp.inj b b' (lv b hb) (lv b' hb') hn hn' he
    · rw [gb_take] at hb
      split at hb
      · exact hr.mine b hb hn
      · cases hb

theorem CodeOk.keep {P : Program} {c : Code} {s s' : St} {ex : AEx} (live : List Nat) (n : Nat) (h : CodeOk P c (s.keep live n) ex s') : CodeOk P c s ex s' := by
  intro w0 O C a hr Q hQ
  obtain ⟨C', hr', hw⟩ := (hr.keepT live).trim n
  rw [← hw]
  exact h w0 O C' a hr' Q hQ

/-! ### Functions -/
def resA (P : Program) (hp : List Blk) (tm : List AV) : List ResultVar → Option (List AV)
  | [] => some []
  | x :: l => match x with
    | .tmp t => match resA P hp tm l with
      | some r => some (gt tm t :: r)
      | none => none
    | .cell a t => match atA hp (gt tm a) with
      | some (cs, _) => match partA P t cs with
        | some v => match resA P hp tm l with
          | some r => some (v :: r)
          | none => none
        | none => none
      | none => none

def oneOf : List AV → AV
  | [v] => v
  | l => .tup l

/-- A slice as a typed row, where it can be read as one. -/
def normV (P : Program) (t : TypeId) (v : AV) : AV := match P.underlying t with
  | some (.slice e) => match ctOf P 6 e with
    | some c => match (CT.vec c).decA [v] with
      | some l => .vt c l
      | none => v
    | none => v
  | some (.struct _) => match v with
    | .agg l => match ctOf P 7 t with
      | some c => match c.decA l with
        | some x => .agg (c.enc x)
        | none => v
      | none => v
    | _ => v
  | _ => v

def normL (P : Program) : List TypeId → List AV → List AV
  | t :: ts, v :: l => normV P t v :: normL P ts l
  | _, l => l

def normR (P : Program) (ts : List TypeId) (v : AV) : AV := match ts with
  | [t] => normV P t v
  | ts => match v with
    | .tup l => .tup (normL P ts l)
    | v => v

theorem normV_rel {P : Program} {t : TypeId} {C : Cx} {m : Bool} {v : AV} {c : Value} (h : VRel C m v c) : VRel C m (normV P t v) c := by
  unfold normV
  split
  · split
    · rename_i ct hct
      split
      · rename_i l hl
        exact (CT.decA_ok hl (C := C) (m := m) (vs := [c]) ⟨rfl, fun j => by cases j with
          | zero => exact h
          | succ j => exact .junk _⟩).2 0
      · exact h
    · exact h
  · split
    · rename_i l
      split
      · rename_i ct hct
        split
        · rename_i x hx
          cases h with
          | agg vs hl hr => have := CT.decA_ok hx (C := C) (m := m) (vs := vs) ⟨hl, hr⟩; exact .agg vs this.1 this.2
        · exact h
      · exact h
    · exact h
  · exact h

theorem normL_rel {P : Program} {C : Cx} {m : Bool} : ∀ (ts : List TypeId) {l : List AV} {vs : List Value}, Cells C m l vs → Cells C m (normL P ts l) vs := by
  intro ts
  induction ts with
  | nil => intro l vs h; exact h
  | cons t ts ih =>
    intro l vs h
    cases l with
    | nil => exact h
    | cons v l =>
      cases vs with
      | nil => have := h.1; simp at this
      | cons c vs =>
        have ht := ih (h.drop 1)
        refine ⟨by have := ht.1; simp only [normL, List.length_cons]; simpa using this, fun j => ?_⟩
        cases j with
        | zero => exact normV_rel (h.2 0)
        | succ j => exact ht.2 j

theorem normR_rel {P : Program} {ts : List TypeId} {C : Cx} {m : Bool} {v : AV} {c : Value} (h : VRel C m v c) : VRel C m (normR P ts v) c := by
  unfold normR
  split
  · exact normV_rel h
  · split
    · rename_i l
      cases h with
      | tup vs hl hr => have := normL_rel (P := P) ts (l := l) (vs := vs) ⟨hl, hr⟩; exact .tup vs this.1 this.2
    · exact h

def finK (P : Program) (fn : Func) {β : Type} (K : Out → Option β) (ex : AEx) (s : St) : Option β :=
  match ex with
  | .exit _ => none
  | .panic v => K (.pan (immW s.hp v))
  | _ => match resA P s.hp s.tm fn.results.toList with
    | some l => K (.ret (normR P fn.resultTypes.toList (immW s.hp (oneOf l))))
    | none => none

def bodyOf (fn : Func) : Code := match fn.body with
  | some c => c
  | none => .skip

theorem bodyOf_eq {fn : Func} (h : fn.body.isSome = true) : fn.body = some (bodyOf fn) := by
  unfold bodyOf
  cases hb : fn.body with
  | none => rw [hb] at h; cases h
  | some c => rfl

def runF (P : Program) (G : Gam) (L : Lam) (fn : Func) {β : Type} (args : List AV) (K : Out → Option β) : Option β :=
  E P G L (bodyOf fn) [] ⟨args ++ List.replicate (fn.ntmps - args.length) .junk, []⟩ (finK P fn K)

theorem resA_ok {P : Program} {C : Cx} {hp : List Blk} {tm : List AV} {tmps : Array Value} (hr : HRel C hp) (ht : ∀ t, VRel C true (gt tm t) (tmps.getD t undef)) : ∀ (l : List ResultVar) {r : List AV}, resA P hp tm l = some r →
    ∃ vs : List Value, ((l.mapM fun x => match x with
      | .tmp t => pure (tmps.getD t undef)
      | .cell a t => do loadVar t (← asAddr (tmps.getD a undef))) : Sem (List Value)).run P C.w = .ok vs C.w ∧ Cells C true r vs
  | [], r, h => by
    simp only [resA, Option.some.injEq] at h; subst h
    exact ⟨[], by simp, rfl, fun j => .junk _⟩
  | x :: l, r, h => by
    have cons : ∀ {v : AV} {c : Value} {r : List AV} {vs : List Value}, VRel C true v c → Cells C true r vs → Cells C true (v :: r) (c :: vs) := fun hv hc =>
      ⟨by simp [hc.1], fun j => by
        cases j with
        | zero => exact hv
        | succ j => exact hc.2 j⟩
    unfold resA at h
    split at h
    · rename_i t
      split at h
      · rename_i q hq
        simp only [Option.some.injEq] at h; subst h
        obtain ⟨vs, h1, h2⟩ := resA_ok hr ht l hq
        refine ⟨tmps.getD t undef :: vs, ?_, cons (ht t) h2⟩
        rw [List.mapM_cons, Sem.run_bind]
        simp only [Sem.run_pure, Result.andThen_ok, Sem.run_bind, h1]
      · cases h
    · rename_i a t
      split at h
      · rename_i cs f hat
        split at h
        · rename_i v hv
          split at h
          · rename_i q hq
            simp only [Option.some.injEq] at h; subst h
            obtain ⟨vs, h1, h2⟩ := resA_ok hr ht l hq
            obtain ⟨B, off, us, hc, h3, h4⟩ := atA_ok hr hat (ht a)
            obtain ⟨c, h5, h6⟩ := partA_load hv h3 C.w B off h4
            refine ⟨c :: vs, ?_, cons h6 h2⟩
            rw [List.mapM_cons, Sem.run_bind]
            have e1 : (asAddr (tmps.getD a undef)).run P C.w = .ok ⟨B, off, none⟩ C.w := by rw [hc]; rfl
            simp only [Sem.run_bind, e1, Sem.run_pure, Result.andThen_ok, h5, h1]
          · cases h
        · cases h
      · cases h

theorem runF_ok {P : Program} {G : Gam} {L : Lam} {f : FuncId} {fn : Func} (hf : P.funcs[f]? = some fn) (hs : fn.body.isSome = true) (hG : GamOk P G) (hL : LamOk P (bodyOf fn) L) (hm : P.follows .mixedOrders = true)
    {β : Type} {args : List AV} {K : Out → Option β} {r : β} (h : runF P G L fn args K = some r) : ∃ out, K out = some r ∧ SimP P f args out := by
  have hb := bodyOf_eq hs
  obtain ⟨ex, s', hK, hcode⟩ := E_ok hG hL hm (bodyOf fn) (p := []) rfl h
  -- from the frame at the end
  have start : ∀ (w : World) (ban : Nat → Prop) (vs : List Value), (∀ B, ban B → B < w.heap.size) → Cells (cx0 ban w) false args vs →
      Rep w ⟨fun _ => False, ban, fun _ _ => False, []⟩ (cx0 ban w) ⟨args ++ List.replicate (fn.ntmps - args.length) .junk, []⟩ { tmps := vs.toArray ++ Array.replicate (fn.ntmps - vs.toArray.size) undef, defers := [] } := by
    intro w ban vs hban hc
    refine ⟨rfl, by simp [hc.1], fun t => ?_, ⟨fun b h => h.elim, fun b _ h => h, fun b cs t cl h => (by cases h), fun b cs t cl h => (by cases h), fun b c l t h => (by cases h), fun b o h => (by cases h), fun b b' h => (by cases h), hban⟩, ⟨rfl, rfl, rfl, Nat.le_refl _, fun _ _ _ => rfl, fun _ h => h, hban, fun _ _ h => h, rfl, fun B hB cur t fr h => (hB.elim (fun hB => absurd (Array.getElem?_eq_some_iff.1 h).1 (Nat.not_lt.2 hB)) (fun h => h.elim))⟩, fun b h => (by cases h)⟩
    by_cases ht : t < args.length
    · rw [gt_append_left _ _ _ ht]
      have e1 : (vs.toArray ++ Array.replicate (fn.ntmps - vs.toArray.size) undef).getD t undef = vg vs t := by
        have : t < vs.length := by rw [hc.1]; exact ht
        simp [vg, Array.getD_eq_getD_getElem?, Array.getElem?_append, this]
      rw [e1]
      exact (hc.2 t).up rfl
    · rw [gt_append_right _ _ _ (by omega)]
      have e1 : gt (List.replicate (fn.ntmps - args.length) AV.junk) (t - args.length) = .junk := by
        rw [gt_eq, List.getD_eq_getElem?_getD, List.getElem?_replicate]; split <;> rfl
      rw [e1]; exact .junk _
  have below : ∀ {w : World} {ban : Nat → Prop} {C : Cx}, Kept w ⟨fun _ => False, ban, fun _ _ => False, []⟩ C → FB w C.w := fun hk => ⟨⟨hk.os, hk.tape, hk.output, hk.size, fun B hB => hk.block B hB (fun h => h)⟩, fun B hB => hk.frz B (.inl hB)⟩
  have still : ∀ {w : World} {ban : Nat → Prop} {C : Cx} {s : St} {a : Act} {v : AV} {c : Value}, (∀ B, ban B → B < w.heap.size) → Rep w ⟨fun _ => False, ban, fun _ _ => False, []⟩ C s a → VRel C true v c → VRel (cx0 ban C.w) false (immW s.hp v) c := by
    intro w ban C s a v c hban hr hv
    refine immW_rel hr.hp hr.kept.ban hv (fun b hl hn hb => ?_)
    rcases hr.mine b hl hn with h | h
    · exact h
    · have := hban _ hb; omega
  have ends : ∀ l, resA P s'.hp s'.tm fn.results.toList = some l → (ex = .normal ∨ ex = .ret) → SimP P f args (.ret (normR P fn.resultTypes.toList (immW s'.hp (oneOf l)))) := by
    intro l hl hex w ban vs hban hc
    refine calls_of_wp hf hb (hcode w ⟨fun _ => False, ban, fun _ _ => False, []⟩ (cx0 ban w) _ (start w ban vs hban hc) _ (fun C' a' e he hr => ?_))
    obtain ⟨us, h1, h2⟩ := resA_ok hr.hp hr.tm fn.results.toList hl
    have hres : ∃ c, (results fn a'.tmps).run P C'.w = .ok c C'.w ∧ VRel C' true (oneOf l) c := by
      have hm : ((fn.results.mapM fun x => match x with
          | .tmp t => pure (a'.tmps.getD t undef)
          | .cell a t => do loadVar t (← asAddr (a'.tmps.getD a undef))) : Sem (Array Value)).run P C'.w = .ok us.toArray C'.w := by
        rw [Array.mapM_eq_mapM_toList, Sem.run_map, h1]; rfl
      have key : (results fn a'.tmps).run P C'.w = .ok (if h : us.toArray.size = 1 then us.toArray[0] else .tuple us.toArray) C'.w := by
        unfold results
        rw [Sem.run_bind]
        exact congrArg (fun z : Result (Array Value) => z.andThen fun a w' => Sem.run P (pure (if h : a.size = 1 then a[0] else Value.tuple a)) w') hm
      rw [key]
      rcases l with _ | ⟨v, _ | ⟨v2, l⟩⟩
      · have : us = [] := List.eq_nil_of_length_eq_zero (by simpa using h2.1)
        subst this
        exact ⟨_, rfl, .tup [] rfl (fun j => .junk _)⟩
      · obtain ⟨u, rfl⟩ : ∃ u, us = [u] := by
          rcases us with _ | ⟨u, _ | ⟨u2, us⟩⟩
          · have := h2.1; simp at this
          · exact ⟨u, rfl⟩
          · have := h2.1; simp at this
        exact ⟨u, rfl, h2.2 0⟩
      · have hne : ¬ us.toArray.size = 1 := by have := h2.1; simp at this ⊢; omega
        refine ⟨.tuple us.toArray, ?_, .tup us h2.1 h2.2⟩
        rw [dif_neg hne]
    obtain ⟨c, h3, h4⟩ := hres
    have hpost : a'.defers = [] ∧ ∃ v, (results fn a'.tmps).run P C'.w = .ok v C'.w ∧ (FB w C'.w ∧ OutRel ban (.ret (normR P fn.resultTypes.toList (immW s'.hp (oneOf l)))) (.returned v) C'.w) :=
      ⟨hr.defers, c, h3, below hr.kept, c, rfl, normR_rel (still hban hr h4)⟩
    rcases hex with rfl | rfl
    · cases e <;> first | exact he.elim | exact hpost
    · cases e <;> first | exact he.elim | exact hpost
  cases ex with
  | normal =>
    simp only [finK] at hK
    split at hK
    · exact ⟨_, hK, ends _ ‹_› (.inl rfl)⟩
    · cases hK
  | ret =>
    simp only [finK] at hK
    split at hK
    · exact ⟨_, hK, ends _ ‹_› (.inr rfl)⟩
    · cases hK
  | exit i => cases hK
  | panic v =>
    refine ⟨_, hK, fun w ban vs hban hc => ?_⟩
    refine calls_of_wp hf hb (hcode w ⟨fun _ => False, ban, fun _ _ => False, []⟩ (cx0 ban w) _ (start w ban vs hban hc) _ (fun C' a' e he hr => ?_))
    cases e <;> first | exact he.elim | skip
    obtain ⟨c, rfl, hv⟩ := he
    exact ⟨hr.defers, below hr.kept, c, rfl, still hban hr hv⟩
end Go.Va
