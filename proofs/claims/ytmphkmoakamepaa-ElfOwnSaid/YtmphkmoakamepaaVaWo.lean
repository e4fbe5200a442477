/-
  Functions that write through a pointer: from a body's run to what callers may know.
  Conditions: none.
-/
import Derived.Test.YtmphkmoakamepaaVaLoop
set_option linter.unusedVariables false
set_option linter.unusedSimpArgs false
set_option autoImplicit false
namespace Go.Va

/-- What is read off at a body's end. -/
def wK {ρ : Type} (X : Head ρ) (ex : AEx) (t : St) : Option ρ := match ex with
  | .normal => X.k ρ t some
  | .ret => X.k ρ t some
  | _ => none

def wSt (W : WFun) (fn : Func) (x : List W.c.D) (a : W.α) : St := ⟨(.pp 0 0 :: W.st a) ++ List.replicate (fn.ntmps - ((W.st a).length + 1)) .junk, wHp W x⟩

theorem Rep.padded {w0 : World} {O : Env} {C : Cx} {tm : List AV} {hp : List Blk} {vs : List Value} (hr : Rep w0 O C ⟨tm, hp⟩ { tmps := vs.toArray, defers := [] }) (n : Nat) :
    Rep w0 O C ⟨tm ++ List.replicate n .junk, hp⟩ { tmps := vs.toArray ++ Array.replicate n undef, defers := [] } := by
  have hsz : vs.length = tm.length := by simpa using hr.size
  refine ⟨hr.defers, by simp [hsz], fun t => ?_, hr.hp, hr.kept, hr.mine⟩
  by_cases ht : t < tm.length
  · show VRel C true (gt (tm ++ List.replicate n .junk) t) _
    rw [gt_append_left _ _ _ ht]
    have e1 : (vs.toArray ++ Array.replicate n undef).getD t undef = vs.toArray.getD t undef := by
      have : t < vs.length := by omega
      simp [Array.getD_eq_getD_getElem?, Array.getElem?_append, this]
    show VRel C true (gt tm t) ((vs.toArray ++ Array.replicate n undef).getD t undef)
    rw [e1]
    exact hr.tm t
  · show VRel C true (gt (tm ++ List.replicate n .junk) t) _
    rw [gt_append_right _ _ _ (by omega)]
    have e1 : gt (List.replicate n AV.junk) (t - tm.length) = .junk := by
      rw [gt_eq, List.getD_eq_getElem?_getD, List.getElem?_replicate]; split <;> rfl
    rw [e1]; exact .junk _

theorem wok_of_run {P : Program} {G : Gam} {L : Lam} {f : FuncId} {fn : Func} (hf : P.funcs[f]? = some fn) (hs : fn.body.isSome = true) (hres : fn.results = #[]) (hm : P.follows .mixedOrders = true) (hG : GamOk P G) (hL : LamOk P (bodyOf fn) L)
    (W : WFun) (hpl : W.c.plain = true) (X : Head (List W.c.D)) (hX : ∀ y, gt (X.st y).tm 0 = .pp 0 0 ∧ (X.st y).hp = wHp W y)
    (h : ∀ x a, E P G L (bodyOf fn) [] (wSt W fn x a) (wK X) = W.l x a) : WOk P f W := by
  refine ⟨hpl, fun x a y hy O D vs hr => ?_⟩
  have hb := bodyOf_eq hs
  obtain ⟨ex, s', hK, hcode⟩ := E_ok hG hL hm (bodyOf fn) (p := []) rfl ((h x a).trans hy)
  have hsz : vs.length = (W.st a).length + 1 := by have := hr.size; simpa using this
  have hr1 := hr.padded (fn.ntmps - ((W.st a).length + 1))
  have hr2 : Rep D.w O D (wSt W fn x a) { tmps := vs.toArray ++ Array.replicate (fn.ntmps - vs.toArray.size) undef, defers := [] } := by
    have e : vs.toArray.size = (W.st a).length + 1 := by simpa using hsz
    rw [e]; exact hr1
  have fin : ∀ (C' : Cx) (a' : Act), Rep D.w O C' s' a' → X.k _ s' some = some y → ∃ (D' : Cx) (a2 : Act), D'.w = C'.w ∧ Rep D.w O D' ⟨[.pp 0 0], wHp W y⟩ a2 := by
    intro C' a' hr' hk
    obtain ⟨y', h1, h2⟩ := X.ok _ _ _ _ hk
    simp only [Option.some.injEq] at h1; subst h1
    obtain ⟨D', hr3, hw⟩ := h2 _ _ _ _ hr'
    obtain ⟨h3, h4⟩ := hX y'
    refine ⟨D', { tmps := #[a'.tmps.getD 0 undef], defers := [] }, hw, hr.defers, rfl, fun t => ?_, h4 ▸ hr3.hp, hr3.kept, fun b hb hn => hr3.mine b (by rw [h4]; exact hb) hn⟩
    cases t with
    | zero =>
      have := hr3.tm 0
      rw [h3] at this
      exact this
    | succ t => exact .junk _
  have hresults : ∀ (tm : Array Value) (w : World), (results fn tm).run P w = .ok (.tuple #[]) w := by
    intro tm w
    unfold results
    rw [hres, Array.mapM_eq_mapM_toList]
    simp
  refine calls_of_wp hf hb (hcode D.w O D _ hr2 _ (fun C' a' e he hr' => ?_))
  cases ex with
  | normal =>
    cases e <;> first | exact he.elim | exact ⟨hr'.defers.trans hr.defers.symm, .tuple #[], hresults _ _, rfl, fin C' a' hr' hK⟩
  | ret =>
    cases e <;> first | exact he.elim | exact ⟨hr'.defers.trans hr.defers.symm, .tuple #[], hresults _ _, rfl, fin C' a' hr' hK⟩
  | exit i => cases hK
  | panic v => cases hK
end Go.Va
