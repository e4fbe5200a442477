/-
  A function whose first result is a row of bytes of the run's own, beside a number: the row is new.
  Conditions: none.
-/
import Derived.Test.YtmphkmoakamepaaVaRead
set_option linter.unusedVariables false
set_option linter.unusedSimpArgs false
set_option autoImplicit false
namespace Go.Va

/-- A row of bytes that was not there before, whole. -/
def OwnB (w w' : World) (t : TypeId) (l : List Int) (v : Value) : Prop :=
  (v = .slice none 0 0 ∧ l = []) ∨ ∃ g cap cur, v = .slice (some ⟨g, 0, none⟩) l.length cap ∧ w.heap.size ≤ g ∧ w'.heap[g]? = some (.cells cur t (0, 0)) ∧ cur.size = cap ∧ l.length ≤ cap ∧ cap ≤ maxLen ∧
    ∀ j, j < l.length → cur.getD j undef = .int .u8 (l.getD j 0)

def SimB (P : Program) (f : FuncId) (args : List AV) (t : TypeId) (l : List Int) (n : Int) : Prop :=
  ∀ (w : World) (ban : Nat → Prop) (vs : List Value), (∀ B, ban B → B < w.heap.size) → Cells (cx0 ban w) false args vs →
    Calls P f vs.toArray w fun e w' => FB w w' ∧ ∃ v, e = .returned (.tuple #[v, .int .i64 n]) ∧ OwnB w w' t l v

def finB (P : Program) (fn : Func) (t : TypeId) {β : Type} (K : List Int → Int → Option β) (ex : AEx) (s : St) : Option β := match ex with
  | .exit _ => none
  | .panic _ => none
  | _ => match resA P s.hp s.tm fn.results.toList with
    | some [.so p 1, .val (.int .i64 n)] => match gb s.hp p with
      | .rt (.int .u8) l t' => bif t' == t then K l n else none
      | _ => none
    | some [.val (.slice none 0 0), .val (.int .i64 n)] => K [] n
    | _ => none

def runB (P : Program) (G : Gam) (L : Lam) (fn : Func) (t : TypeId) {β : Type} (args : List AV) (K : List Int → Int → Option β) : Option β :=
  E P G L (bodyOf fn) [] ⟨args ++ List.replicate (fn.ntmps - args.length) .junk, []⟩ (finB P fn t K)

theorem runB_ok {P : Program} {G : Gam} {L : Lam} {f : FuncId} {fn : Func} (hf : P.funcs[f]? = some fn) (hs : fn.body.isSome = true) (hG : GamOk P G) (hL : LamOk P (bodyOf fn) L) (hm : P.follows .mixedOrders = true)
    {β : Type} {t : TypeId} {args : List AV} {K : List Int → Int → Option β} {r : β} (h : runB P G L fn t args K = some r) : ∃ l n, K l n = some r ∧ SimB P f args t l n := by
  have hb := bodyOf_eq hs
  obtain ⟨ex, s', hK0, hcode⟩ := E_ok hG hL hm (bodyOf fn) (p := []) rfl h
  have below : ∀ {w : World} {ban : Nat → Prop} {C : Cx}, Kept w ⟨fun _ => False, ban, fun _ _ => False, []⟩ C → FB w C.w := fun hk => ⟨⟨hk.os, hk.tape, hk.output, hk.size, fun B hB => hk.block B hB (fun h => h)⟩, fun B hB => hk.frz B (.inl hB)⟩
  have main : ∀ (l : List Int) (n : Int) (v : AV), resA P s'.hp s'.tm fn.results.toList = some [v, .val (.int .i64 n)] → (ex = .normal ∨ ex = .ret) →
      (∀ (w : World) (ban : Nat → Prop) (C : Cx) (a : Act) (c : Value), Rep w ⟨fun _ => False, ban, fun _ _ => False, []⟩ C s' a → VRel C true v c → OwnB w C.w t l c) → SimB P f args t l n := by
    intro l n v hl hex hv w ban vs hban hc
    refine calls_of_wp hf hb (hcode w ⟨fun _ => False, ban, fun _ _ => False, []⟩ (cx0 ban w) _ (rep_start w ban fn.ntmps hban hc) _ (fun C' a' e he hr => ?_))
    obtain ⟨c, h3, h4⟩ := results_ok hr.hp hr.tm hl
    have h4 : VRel C' true (.tup [v, .val (.int .i64 n)]) c := h4
    cases h4 with
    | tup us hl2 hr2 =>
      obtain ⟨c1, c2, rfl⟩ : ∃ c1 c2, us = [c1, c2] := by
        rcases us with _ | ⟨c1, _ | ⟨c2, _ | ⟨c3, us⟩⟩⟩
        · simp at hl2
        · simp at hl2
        · exact ⟨c1, c2, rfl⟩
        · simp at hl2
      have e2 : c2 = .int .i64 n := (hr2 1).inv_val
      subst e2
      have hpost : a'.defers = [] ∧ ∃ v, (results fn a'.tmps).run P C'.w = .ok v C'.w ∧ (FB w C'.w ∧ ∃ u, (Ending.returned v) = .returned (.tuple #[u, .int .i64 n]) ∧ OwnB w C'.w t l u) :=
        ⟨hr.defers, _, h3, below hr.kept, c1, rfl, hv w ban C' a' c1 hr (hr2 0)⟩
      rcases hex with rfl | rfl
      · cases e <;> first | exact he.elim | exact hpost
      · cases e <;> first | exact he.elim | exact hpost
  have go : (ex = .normal ∨ ex = .ret) → finB P fn t K .normal s' = some r → ∃ l n, K l n = some r ∧ SimB P f args t l n := by
    intro hex hK
    simp only [finB] at hK
    split at hK <;> try cases hK
    · rename_i p n hres
      split at hK <;> try cases hK
      rename_i l t' hblk
      have hq := hK
      cases ht : (t' == t) with
      | false => rw [ht] at hK; cases hK
      | true =>
        rw [ht, cond_true] at hK
        have ht : t' = t := by simpa using ht
        subst ht
        refine ⟨l, n, hK, main l n _ hres hex (fun w ban C a c hr hv => ?_)⟩
        have hnls : (gb s'.hp p).live = true := by rw [hblk]; rfl
        obtain ⟨_, hln, hrt⟩ := hr.hp.rt p _ _ _ hblk
        cases hv with
        | so0 ha hn =>
          rcases hrt with ⟨_, h0⟩ | ⟨h0, _⟩
          · exact .inl ⟨rfl, h0⟩
          · rw [hn] at h0; cases h0
        | so ha hn hz h1 h2 h3 h4 =>
          rename_i m cap
          rcases hrt with ⟨h0, _⟩ | ⟨_, _, cur, k1, k2, k3, k4⟩
          · rw [hn] at h0; cases h0
          · have hmine := hr.mine p hnls hn
            have hsz : (CT.int .u8).sz = 1 := rfl
            rw [hsz] at k3 hln k4
            obtain rfl : m = l.length := by omega
            refine .inr ⟨C.mu p, cap, cur, rfl, hmine.elim (fun h => h.elim) id, k1, by omega, by omega, h4, fun j hj => ?_⟩
            have := k4 j hj 0 (by omega)
            have e1 : gt ((CT.int .u8).enc (l.getD j (CT.df (.int .u8)))) 0 = .val (.int .u8 (l.getD j 0)) := rfl
            rw [e1] at this
            have e2 : j * 1 + 0 = j := by omega
            rw [e2] at this
            exact this.inv_val
    · rename_i n hres
      exact ⟨[], n, hK, main [] n _ hres hex (fun w ban C a c hr hv => .inl ⟨hv.inv_val, rfl⟩)⟩
  cases ex with
  | normal => exact go (.inl rfl) hK0
  | ret => exact go (.inr rfl) hK0
  | exit i => cases hK0
  | panic v => cases hK0
end Go.Va
