/-
  A reader of a line's words in the world: what it holds, what it keeps; (*reader).fail.
  Conditions: none.
-/
import Derived.Test.YtnidnmhcjngmeaaGreatG
import Derived.Test.YtnidnmhcjngmeaaGreatWA
import Derived.Test.YtnidnmhcjngmeaaGreatProg
import Derived.WalkKit
import Derived.Below
import Derived.Deep.MidRow
import Derived.Laws.ResultCell
import Derived.StillTailTactics
import Derived.Deep.QuietTactic
import Derived.BigQuiet
import Derived.OwnWalk
import Derived.Test.YtnidnmhcjngmeaaGreatVf0
import Derived.Test.YtnidnmhcjngmeaaGreatVaLaw

set_option linter.unusedVariables false
set_option linter.unusedSimpArgs false
set_option autoImplicit false
namespace Go.Proofs.YtnidnmhcjngmeaaGreat.Scr
open Go.RowKit Go.Proofs.YtnidnmhcjngmeaaGreatW.PrintWords Go.Proofs.YtnidnmhcjngmeaaGreatW.PrintLast Go.Proofs.YtnidnmhcjngmeaaGreatW.PrintMore
/-- All but these blocks is as it was. -/
structure Fr (A : Nat → Prop) (w w' : World) : Prop where
  os : w'.os = w.os
  tape : w'.tape = w.tape
  output : w'.output = w.output
  size : w.heap.size ≤ w'.heap.size
  block : ∀ k, k < w.heap.size → ¬ A k → w'.heap[k]? = w.heap[k]?
theorem Fr.refl (A : Nat → Prop) (w : World) : Fr A w w := ⟨rfl, rfl, rfl, Nat.le_refl _, fun _ _ _ => rfl⟩
theorem Fr.trans {A : Nat → Prop} {a b c : World} (h : Fr A a b) (k : Fr A b c) : Fr A a c :=
  ⟨k.os.trans h.os, k.tape.trans h.tape, k.output.trans h.output, Nat.le_trans h.size k.size, fun i hi ha => (k.block i (Nat.lt_of_lt_of_le hi h.size) ha).trans (h.block i hi ha)⟩
theorem Fr.mono {A B : Nat → Prop} {a b : World} (h : Fr A a b) (hs : ∀ k, k < a.heap.size → A k → B k) : Fr B a b :=
  ⟨h.os, h.tape, h.output, h.size, fun i hi ha => h.block i hi (fun x => ha (hs i hi x))⟩
/-- What is written to is new, or may be. -/
theorem Fr.then {A B : Nat → Prop} {a b c : World} (h : Fr A a b) (k : Fr B b c) (hs : ∀ k, k < a.heap.size → B k → A k) : Fr A a c :=
  ⟨k.os.trans h.os, k.tape.trans h.tape, k.output.trans h.output, Nat.le_trans h.size k.size, fun i hi ha => (k.block i (Nat.lt_of_lt_of_le hi h.size) (fun x => ha (hs i hi x))).trans (h.block i hi ha)⟩
theorem Fr.of_below {A : Nat → Prop} {w w' : World} (h : Below w.heap.size w w') : Fr A w w' := ⟨h.os, h.tape, h.output, h.size, fun k hk _ => h.block k hk⟩
theorem Fr.alloc {A : Nat → Prop} {w w' : World} (h : Fr A w w') (o : Obj) : Fr A w (w'.alloc o) :=
  ⟨h.os, h.tape, h.output, by simp; exact Nat.le_succ_of_le h.size, fun k hk ha => (Below.heap_alloc w' o k (Nat.lt_of_lt_of_le hk h.size)).trans (h.block k hk ha)⟩
theorem Fr.drew {A : Nat → Prop} {w w' : World} (h : Fr A w w') : Fr A w w'.drew := ⟨h.os, h.tape, h.output, h.size, h.block⟩
theorem Fr.drewN {A : Nat → Prop} {w w' : World} (h : Fr A w w') (n : Nat) : Fr A w (w'.drewN n) := ⟨h.os, h.tape, h.output, h.size, h.block⟩
theorem Fr.set {A : Nat → Prop} {w w' : World} (h : Fr A w w') (a : Addr) (v : Value) (ha : a.block < w.heap.size → A a.block) : Fr A w (w'.setCell a v) :=
  ⟨h.os, h.tape, h.output, by simp; exact h.size, fun k hk hA => (Below.heap_setCell w' a v k (fun e => hA (e ▸ ha (e ▸ hk)))).trans (h.block k hk hA)⟩
theorem Fr.blk {A : Nat → Prop} {w w' : World} (h : Fr A w w') {g : Nat} {o : Obj} (hg : w.heap[g]? = some o) (hA : ¬ A g) : w'.heap[g]? = some o := (h.block g (blk_lt hg) hA).trans hg
theorem Fr.below {A : Nat → Prop} {m : Nat} {w w' : World} (h : Fr A w w') (hm : m ≤ w.heap.size) (hA : ∀ k, A k → m ≤ k) : Below m w w' :=
  ⟨h.os, h.tape, h.output, h.size, fun k hk => h.block k (Nat.lt_of_lt_of_le hk hm) (fun x => Nat.not_le.2 hk (hA k x))⟩
abbrev Bad := Option (Int × Int)
/-- The first flaw, and where it lies. -/
def BadP (w : World) : Bad → Value → Prop
  | none, v => v = .pointer none
  | some (c, a), v => ∃ F, v = .pointer (some ⟨F, 0, none⟩) ∧ w.heap[F]? = some (.cells #[.int .i64 c, .int .i64 a] 45 (0, 0))
/-- The cells of a reader. -/
def rdc (g : Nat × Nat) (cp : Nat) (len : Nat) (n : Nat) (v : Value) : Array Value := #[.slice (some ⟨g.1, g.2, none⟩) len cp, .int .i64 (n : Int), v]
/-- A reader of these words, in the world: the words' row lies below m. -/
structure Rd (m : Nat) (g : Nat × Nat) (cp : Nat) (ws : List ByteArray) (R n : Nat) (bad : Bad) (w : World) : Prop where
  gm : g.1 < m
  mR : m ≤ R
  le : n ≤ ws.length
  len : ws.length ≤ 1000
  row : ∀ i (h : i < ws.length), w.cell? ⟨g.1, g.2 + i, none⟩ = some (.string ws[i])
  blk : ∃ v, w.heap[R]? = some (.cells (rdc g cp ws.length n v) 61 (0, 0)) ∧ BadP w bad v
/-- A block that may be written: none of the words, none of the flaws. -/
def Mine (m : Nat) (w : World) (k : Nat) : Prop := m ≤ k ∧ ∃ cs t, w.heap[k]? = some (.cells cs t (0, 0)) ∧ t ≠ 45
theorem BadP.keep {w w' : World} {m : Nat} {A : Nat → Prop} {bad : Bad} {v : Value} (h : BadP w bad v) (hf : Fr A w w') (hA : ∀ k, k < w.heap.size → A k → Mine m w k) : BadP w' bad v := by
  rcases bad with _ | ⟨c, a⟩
  · exact h
  · obtain ⟨F, e, hF⟩ := h
    refine ⟨F, e, hf.blk hF (fun x => ?_)⟩
    obtain ⟨_, cs, t, h1, h2⟩ := hA F (blk_lt hF) x
    rw [hF] at h1
    cases h1
    exact h2 rfl
theorem row_keep {w w' : World} {m : Nat} {g : Nat × Nat} {A : Nat → Prop} {ws : List ByteArray} (h : ∀ i (h : i < ws.length), w.cell? ⟨g.1, g.2 + i, none⟩ = some (.string ws[i])) (gm : g.1 < m) (hf : Fr A w w') (hA : ∀ k, k < w.heap.size → A k → m ≤ k) :
    ∀ i (h : i < ws.length), w'.cell? ⟨g.1, g.2 + i, none⟩ = some (.string ws[i]) := by
  intro i hi
  have hx := h i hi
  have hlt : g.1 < w.heap.size := World.block_lt_of_cell? w ⟨g.1, g.2 + i, none⟩ hx
  have := hf.block g.1 hlt (fun x => Nat.not_le.2 gm (hA g.1 hlt x))
  simpa [World.cell?, this] using hx
/-- What writes neither the reader, nor words, nor flaws, keeps it. -/
theorem Rd.keep {m : Nat} {g : Nat × Nat} {cp : Nat} {ws : List ByteArray} {R n : Nat} {bad : Bad} {w w' : World} {A : Nat → Prop} (h : Rd m g cp ws R n bad w) (hf : Fr A w w') (hA : ∀ k, k < w.heap.size → A k → Mine m w k) (hR : ¬ A R) : Rd m g cp ws R n bad w' := by
  obtain ⟨v, h1, h2⟩ := h.blk
  exact ⟨h.gm, h.mR, h.le, h.len, row_keep h.row h.gm hf (fun k hk x => (hA k hk x).1), v, hf.blk h1 hR, h2.keep hf hA⟩
/-- The reader's own block is written. -/
theorem Rd.put {m : Nat} {g : Nat × Nat} {cp : Nat} {ws : List ByteArray} {R n n' : Nat} {bad bad' : Bad} {w w' : World} {A : Nat → Prop} (h : Rd m g cp ws R n bad w) (hf : Fr A w w') (hA : ∀ k, k < w.heap.size → A k → Mine m w k) (hn : n' ≤ ws.length) {v : Value}
    (hR : w'.heap[R]? = some (.cells (rdc g cp ws.length n' v) 61 (0, 0))) (hb : BadP w' bad' v) : Rd m g cp ws R n' bad' w' :=
  ⟨h.gm, h.mR, hn, h.len, row_keep h.row h.gm hf (fun k hk x => (hA k hk x).1), v, hR, hb⟩
theorem Rd.mine {m : Nat} {g : Nat × Nat} {cp : Nat} {ws : List ByteArray} {R n : Nat} {bad : Bad} {w : World} (h : Rd m g cp ws R n bad w) : Mine m w R := by
  obtain ⟨v, h1, _⟩ := h.blk
  exact ⟨h.mR, _, _, h1, by decide⟩
theorem Rd.lt {m : Nat} {g : Nat × Nat} {cp : Nat} {ws : List ByteArray} {R n : Nat} {bad : Bad} {w : World} (h : Rd m g cp ws R n bad w) : R < w.heap.size := by
  obtain ⟨v, h1, _⟩ := h.blk
  exact blk_lt h1
abbrev failB (bad : Bad) (c a : Int) : Bad := match bad with
  | none => some (c, a)
  | some f => some f
theorem fail_ok (m : Nat) (g : Nat × Nat) (cp : Nat) (ws : List ByteArray) (R n : Nat) (bad : Bad) (c a : Int) (w : World) (h : Rd m g cp ws R n bad w) :
    Calls Tryz.prog 17 #[.pointer (some ⟨R, 0, none⟩), .int .i64 c, .int .i64 a] w fun e w' => e = .returned (.tuple #[]) ∧ Rd m g cp ws R n (failB bad c a) w' ∧ Fr (fun k => k = R) w w' := by
  obtain ⟨v, h1, h2⟩ := h.blk
  have c2 := (blk_cell h1 2).trans (show (rdc g cp ws.length n v)[2]? = some v from rfl)
  have f2 := blk_frozen h1 2
  rcases bad with _ | ⟨c0, a0⟩
  · have h2 : v = .pointer none := h2
    subst h2
    have c3 : ∀ o, (w.alloc o).cell? ⟨R, 2, none⟩ = some (.pointer none) := fun o => blk_cell (blk_alloc h1 o) 2
    have f3 : ∀ o, (w.alloc o).frozen? ⟨R, 2, none⟩ = false := fun o => blk_frozen (blk_alloc h1 o) 2
    go_enter Tryz.func17, Tryz.ntmps17
    go_wp2
    go_end0
    have e1 := blk_set (blk_alloc h1 (.cells #[.int .i64 c, .int .i64 a] 45 (0, 0))) 2 (.pointer (some ⟨w.heap.size, 0, none⟩))
    have hf : Fr (fun k => k = R) w ((w.alloc (.cells #[.int .i64 c, .int .i64 a] 45 (0, 0))).setCell ⟨R, 2, none⟩ (.pointer (some ⟨w.heap.size, 0, none⟩))) := ((Fr.refl _ w).alloc _).set _ _ (fun _ => rfl)
    refine ⟨rfl, h.put hf (fun k hk e => e ▸ h.mine) h.le e1 ⟨w.heap.size, rfl, ?_⟩, hf⟩
    exact blk_far (blk_new w _) (p := ⟨R, 2, none⟩) (fun e => absurd h.lt (by simp at e; omega)) _
  · obtain ⟨F, rfl, hF⟩ := h2
    go_enter Tryz.func17, Tryz.ntmps17
    go_wp2
    go_end0
    exact ⟨rfl, h, Fr.refl _ _⟩
end Go.Proofs.YtnidnmhcjngmeaaGreat.Scr

/-
  (*reader).word.
  Conditions: none.
-/
namespace Go.Proofs.YtnidnmhcjngmeaaGreat.Scr
open Go.RowKit Go.Proofs.YtnidnmhcjngmeaaGreatW.PrintWords Go.Proofs.YtnidnmhcjngmeaaGreatW.PrintLast Go.Proofs.YtnidnmhcjngmeaaGreatW.PrintMore
theorem word_bad (m : Nat) (g : Nat × Nat) (cp : Nat) (ws : List ByteArray) (R n : Nat) (f : Int × Int) (w : World) (h : Rd m g cp ws R n (some f) w) :
    Calls Tryz.prog 82 #[.pointer (some ⟨R, 0, none⟩)] w fun e w' => e = .returned (.tuple #[.string ⟨#[]⟩, .int .i64 0, .bool false]) ∧ w' = w := by
  obtain ⟨v, h1, F, rfl, hF⟩ := h.blk
  have c2 := (blk_cell h1 2).trans (show (rdc g cp ws.length n (.pointer (some ⟨F, 0, none⟩)))[2]? = some (.pointer (some ⟨F, 0, none⟩)) from rfl)
  go_enter Tryz.func82, Tryz.ntmps82
  go_wp2
  (try simp only [Exit.inBlock, Exit.then]); refine bodyPost_ret (results_tmp3 rfl _ _ _) rfl ?_
  exact ⟨rfl, rfl⟩
theorem word_end (m : Nat) (g : Nat × Nat) (cp : Nat) (ws : List ByteArray) (R n : Nat) (w : World) (h : Rd m g cp ws R n none w) (hn : n = ws.length) :
    Calls Tryz.prog 82 #[.pointer (some ⟨R, 0, none⟩)] w fun e w' => e = .returned (.tuple #[.string ⟨#[]⟩, .int .i64 0, .bool false]) ∧ Rd m g cp ws R n (some (152, ws.length)) w' ∧ Fr (fun k => k = R) w w' := by
  have h0 := h
  obtain ⟨v, h1, h2⟩ := h.blk
  have h2 : v = .pointer none := h2
  subst h2
  have c0 := (blk_cell h1 0).trans (show (rdc g cp ws.length n (.pointer none))[0]? = some (.slice (some ⟨g.1, g.2, none⟩) ws.length cp) from rfl)
  have c1 := (blk_cell h1 1).trans (show (rdc g cp ws.length n (.pointer none))[1]? = some (.int .i64 (n : Int)) from rfl)
  have c2 := (blk_cell h1 2).trans (show (rdc g cp ws.length n (.pointer none))[2]? = some (.pointer none) from rfl)
  have d1 : decide ((n : Int) ≥ (ws.length : Int)) = true := decide_eq_true (by omega)
  have d2 : ((n : Int) ≥ (ws.length : Int)) = True := eq_true (by omega)
  go_enter Tryz.func82, Tryz.ntmps82
  go_wp2
  go_quiet (fail)
  have h5 : ∀ k, Rd m g cp ws R n none (w.drewN k) := fun k => h0.keep ((Fr.refl (fun _ => False) w).drewN k) (fun _ _ h => h.elim) (fun h => h)
  go_wp2_with ((go_at_call 17; (with_reducible refine (fail_ok m g cp ws R n none 152 (ws.length : Int) _ (h5 _)).mono ?_); rintro e w1 ⟨rfl, hr1, hf1⟩))
  (try simp only [Exit.inBlock, Exit.then]); refine bodyPost_ret (results_tmp3 rfl _ _ _) rfl ?_
  exact ⟨rfl, hr1, ((Fr.refl _ w).drewN _).trans hf1⟩
theorem word_next (m : Nat) (g : Nat × Nat) (cp : Nat) (ws : List ByteArray) (R n : Nat) (w : World) (h : Rd m g cp ws R n none w) (hn : n < ws.length) :
    Calls Tryz.prog 82 #[.pointer (some ⟨R, 0, none⟩)] w fun e w' => e = .returned (.tuple #[.string ws[n], .int .i64 (n : Int), .bool true]) ∧ Rd m g cp ws R (n + 1) none w' ∧ Fr (fun k => k = R) w w' := by
  have h0 := h
  have hl := h.len
  obtain ⟨v, h1, h2⟩ := h.blk
  have h2 : v = .pointer none := h2
  subst h2
  have c0 := (blk_cell h1 0).trans (show (rdc g cp ws.length n (.pointer none))[0]? = some (.slice (some ⟨g.1, g.2, none⟩) ws.length cp) from rfl)
  have c1 := (blk_cell h1 1).trans (show (rdc g cp ws.length n (.pointer none))[1]? = some (.int .i64 (n : Int)) from rfl)
  have c2 := (blk_cell h1 2).trans (show (rdc g cp ws.length n (.pointer none))[2]? = some (.pointer none) from rfl)
  have f1 := blk_frozen h1 1
  have gR : ¬ g.1 = R := fun e => by have := h.gm; have := h.mR; omega
  have d1 : decide ((n : Int) ≥ (ws.length : Int)) = false := decide_eq_false (by omega)
  have d2 : ¬ ((n : Int) ≥ (ws.length : Int)) := by omega
  have e1 : IntKind.wrap .i64 ((n : Int) + 1) = ((n + 1 : Nat) : Int) := by rw [IntKind.wrap_i64]; omega
  have e2 : IntKind.wrap .i64 (((n + 1 : Nat) : Int) - 1) = (n : Int) := by rw [IntKind.wrap_i64]; omega
  have q1 : 0 ≤ (n : Int) ∧ (n : Int) < (ws.length : Int) := by omega
  have hx := h.row n hn
  go_enter Tryz.func82, Tryz.ntmps82
  go_wp2
  go_quiet (fail)
  go_wp2
  have b1 := blk_set (blk_drewN h1 nq) 1 (.int .i64 ((n : Int) + 1))
  have fr : Fr (fun k => k = R) w ((w.drewN nq).setCell ⟨R, 1, none⟩ (.int .i64 ((n : Int) + 1))) := ((Fr.refl _ w).drewN nq).set _ _ (fun _ => rfl)
  generalize (w.drewN nq).setCell ⟨R, 1, none⟩ (.int .i64 ((n : Int) + 1)) = w1 at *
  have hr1 : Rd m g cp ws R (n + 1) none w1 := h0.put (v := .pointer none) fr (fun k hk e => e ▸ h0.mine) (by omega) b1 rfl
  have k0 := (blk_cell b1 0).trans (show _ = some (.slice (some ⟨g.1, g.2, none⟩) ws.length cp) from rfl)
  have k1 := (blk_cell b1 1).trans (show _ = some (.int .i64 ((n : Int) + 1)) from rfl)
  have hx1 := hr1.row n hn
  go_quiet (fail)
  go_wp2
  (try simp only [Exit.inBlock, Exit.then]); refine bodyPost_ret (results_tmp3 rfl _ _ _) rfl ?_
  exact ⟨rfl, hr1.keep ((Fr.refl (fun _ => False) w1).drewN _) (fun _ _ h => h.elim) (fun h => h), fr.drewN _⟩
end Go.Proofs.YtnidnmhcjngmeaaGreat.Scr

/-
  What words' functions come to, as contracts; (*reader).name, number, size, flag.
  Conditions: none.
-/
namespace Go.Proofs.YtnidnmhcjngmeaaGreat.Scr
open Go.RowKit Go.Proofs.YtnidnmhcjngmeaaGreatW.PrintWords Go.Proofs.YtnidnmhcjngmeaaGreatW.PrintLast Go.Proofs.YtnidnmhcjngmeaaGreatW.PrintMore
open Go.Va (GOk SimP AV Out VRel Cells cx0 cells_cons cells_nil)
theorem sim_of {f : FuncId} {g : Go.Va.GFun} (hg : GOk Tryz.prog f g) {args : List AV} {out : Out} (h : g Out args some = some out) : SimP Tryz.prog f args out := by
  obtain ⟨o, e, hs⟩ := hg Out args some _ h
  cases e
  exact hs
theorem tup2 {C : Go.Va.Cx} {v : AV} {n : Int} {c : Value} (h : VRel C false (.tup [v, .val (.int .i64 n)]) c) : ∃ u, c = .tuple #[u, .int .i64 n] ∧ VRel C false v u := by
  cases h with
  | tup us hl hr =>
    rcases us with _ | ⟨c1, _ | ⟨c2, _ | ⟨c3, us⟩⟩⟩
    · simp at hl
    · simp at hl
    · have e2 : c2 = .int .i64 n := (hr 1).inv_val
      subst e2
      exact ⟨c1, rfl, hr 0⟩
    · simp at hl
theorem con_Name {k : Nat} {x : ByteArray} {b : Bool} (h : Va.words_Name.f k x = some b) (w : World) : Calls Tryz.prog 83 #[.string x] w fun e w' => e = .returned (.bool b) ∧ Fr (fun _ => False) w w' := by
  have hs := sim_of (Va.words_Name.ok k) (args := [.val (.string x)]) (out := .ret (.val (.bool b))) (by
    show (Va.words_Name.f k x).bind _ = _
    rw [h]; rfl)
  exact (hs w (fun _ => False) [.string x] (fun _ h => h.elim) (cells_cons (.val _) cells_nil)).mono fun e w' ⟨hf, c, he, hv⟩ => ⟨by rw [he, hv.inv_val], .of_below hf.b⟩
theorem con_Number {k : Nat} {x : ByteArray} {r : Int × Int} (h : Va.words_Number.f k x = some r) (w : World) : Calls Tryz.prog 84 #[.string x] w fun e w' => e = .returned (.tuple #[.int .u64 r.1, .int .i64 r.2]) ∧ Fr (fun _ => False) w w' := by
  have hs := sim_of (Va.words_Number.ok k) (args := [.val (.string x)]) (out := .ret (.tup [.val (.int .u64 r.1), .val (.int .i64 r.2)])) (by
    show (Va.words_Number.f k x).bind _ = _
    rw [h]; rfl)
  refine (hs w (fun _ => False) [.string x] (fun _ h => h.elim) (cells_cons (.val _) cells_nil)).mono fun e w' ⟨hf, c, he, hv⟩ => ?_
  obtain ⟨u, rfl, hu⟩ := tup2 hv
  exact ⟨by rw [he, hu.inv_val], .of_below hf.b⟩
theorem con_Size {k : Nat} {x : ByteArray} {r : Int × Int} (h : Va.words_Size.f k x = some r) (w : World) : Calls Tryz.prog 86 #[.string x] w fun e w' => e = .returned (.tuple #[.int .i64 r.1, .int .i64 r.2]) ∧ Fr (fun _ => False) w w' := by
  have hs := sim_of (Va.words_Size.ok k) (args := [.val (.string x)]) (out := .ret (.tup [.val (.int .i64 r.1), .val (.int .i64 r.2)])) (by
    show (Va.words_Size.f k x).bind _ = _
    rw [h]; rfl)
  refine (hs w (fun _ => False) [.string x] (fun _ h => h.elim) (cells_cons (.val _) cells_nil)).mono fun e w' ⟨hf, c, he, hv⟩ => ?_
  obtain ⟨u, rfl, hu⟩ := tup2 hv
  exact ⟨by rw [he, hu.inv_val], .of_below hf.b⟩
/-- What the words' functions say of the words. -/
structure Says where
  nm : ByteArray → Bool
  nu : ByteArray → Int × Int
  sz : ByteArray → Int × Int
  rt : ByteArray → (Bool × Bool × Bool) × Int
structure Says.ok (S : Says) (ws : List ByteArray) : Prop where
  nm : ∀ x ∈ ws, ∃ k, Va.words_Name.f k x = some (S.nm x)
  nu : ∀ x ∈ ws, ∃ k, Va.words_Number.f k x = some (S.nu x)
  nu0 : ∀ x ∈ ws, 0 ≤ (S.nu x).1
  sz : ∀ x ∈ ws, ∃ k, Va.words_Size.f k x = some (S.sz x)
/-- The next word, handed to what is made of it: the reader's place, the first flaw, and what the field holds then. -/
def step {α : Type} (ws : List ByteArray) (n : Nat) (bad : Bad) (old : α) (go : ByteArray → Except Int α) : Nat × Bad × α := match bad with
  | some f => (n, some f, old)
  | none => if h : n < ws.length then
      match go ws[n] with
      | .ok v => (n + 1, none, v)
      | .error c => (n + 1, some (c, (n : Int)), old)
    else (n, some (152, (ws.length : Int)), old)
theorem Rd.le' {m : Nat} {g : Nat × Nat} {cp : Nat} {ws : List ByteArray} {R n : Nat} {bad : Bad} {w : World} (h : Rd m g cp ws R n bad w) (hn : ¬ n < ws.length) : n = ws.length := by have := h.le; omega
/-- What a method does to the cell b, o. -/
def MP (m : Nat) (g : Nat × Nat) (cp : Nat) (ws : List ByteArray) (R b : Nat) (t : TypeId) (w : World) (n : Nat) (bad : Bad) (cs : Array Value) (e : Ending) (w' : World) : Prop :=
  e = .returned (.tuple #[]) ∧ Rd m g cp ws R n bad w' ∧ w'.heap[b]? = some (.cells cs t (0, 0)) ∧ Fr (fun k => k = R ∨ k = b) w w'
theorem set_same {cs : Array Value} {o : Nat} {v : Value} (h : cs[o]? = some v) : cs.setIfInBounds o v = cs := by
  apply Array.ext_getElem?
  intro i
  by_cases e : o = i
  · subst e
    have hl := (Array.getElem?_eq_some_iff.1 h).1
    rw [Array.getElem?_eq_getElem hl] at h; simp [hl]; exact (Option.some.inj h).symm
  · simp [e]
theorem MP.err {m : Nat} {g : Nat × Nat} {cp : Nat} {ws : List ByteArray} {R b : Nat} {t : TypeId} {w w' : World} {n : Nat} {bad : Bad} {cs : Array Value} {o : Nat} {v : Value} (hb : w.heap[b]? = some (.cells cs t (0, 0))) (ho : cs[o]? = some v) (hne : b ≠ R)
    (hr : Rd m g cp ws R n bad w') (hf : Fr (fun k => k = R) w w') : MP m g cp ws R b t w n bad (cs.setIfInBounds o v) (.returned (.tuple #[])) w' :=
  ⟨rfl, hr, by rw [set_same ho]; exact hf.blk hb hne, hf.mono fun k _ e => Or.inl e⟩
theorem MP.put {m : Nat} {g : Nat × Nat} {cp : Nat} {ws : List ByteArray} {R b : Nat} {t : TypeId} {w w' : World} {n : Nat} {bad : Bad} {cs : Array Value} {o : Nat} (v : Value) (hb : w.heap[b]? = some (.cells cs t (0, 0))) (hm : m ≤ b) (ht : t ≠ 45) (hne : b ≠ R)
    (hr : Rd m g cp ws R n bad w') (hf : Fr (fun k => k = R) w w') : MP m g cp ws R b t w n bad (cs.setIfInBounds o v) (.returned (.tuple #[])) (w'.setCell ⟨b, o, none⟩ v) := by
  have hb2 := hf.blk hb hne
  have h3 : Fr (fun k => k = b) w' (w'.setCell ⟨b, o, none⟩ v) := (Fr.refl _ w').set _ _ (fun _ => rfl)
  exact ⟨rfl, hr.keep h3 (fun k _ e => e ▸ ⟨hm, _, _, hb2, ht⟩) (fun e => hne e.symm), blk_set hb2 o v, (hf.mono fun k _ e => Or.inl e).then h3 (fun k _ e => Or.inr e)⟩
theorem name_ok (S : Says) (m : Nat) (g : Nat × Nat) (cp : Nat) (ws : List ByteArray) (R n : Nat) (bad : Bad) (b o : Nat) (cs : Array Value) (t : TypeId) (old : ByteArray) (w : World) (h : Rd m g cp ws R n bad w) (hS : S.ok ws)
    (hb : w.heap[b]? = some (.cells cs t (0, 0))) (ho : cs[o]? = some (.string old)) (hm : m ≤ b) (ht : t ≠ 45) (hne : b ≠ R) :
    Calls Tryz.prog 78 #[.pointer (some ⟨R, 0, none⟩), .pointer (some ⟨b, o, none⟩)] w (MP m g cp ws R b t w (step ws n bad old (fun x => if S.nm x then .ok x else .error 10)).1 (step ws n bad old (fun x => if S.nm x then .ok x else .error 10)).2.1
      (cs.setIfInBounds o (.string (step ws n bad old (fun x => if S.nm x then .ok x else .error 10)).2.2))) := by
  have hR : ∀ w1, Fr (fun k => k = R) w w1 → w1.heap[b]? = some (.cells cs t (0, 0)) := fun w1 hf => hf.blk hb hne
  rcases bad with _ | f
  · by_cases hn : n < ws.length
    · obtain ⟨k, hk⟩ := hS.nm ws[n] (List.getElem_mem hn)
      simp only [step, hn, dite_true]
      generalize hv : S.nm ws[n] = v at hk ⊢
      cases v with
      | false =>
        go_enter Tryz.func78, Tryz.ntmps78
        go_wp2_with (first
          | (go_at_call 82; (with_reducible refine (word_next m g cp ws R n _ h hn).mono ?_); rintro e w1 ⟨rfl, hr1, hf1⟩)
          | (go_at_call 83; (with_reducible refine (con_Name hk _).mono ?_); rintro e w2 ⟨rfl, hf2⟩)
          | (go_at_call 17; (with_reducible refine (fail_ok m g cp ws R (n + 1) none 10 n _ (hr1.keep hf2 (fun _ _ h => h.elim) (fun h => h))).mono ?_); rintro e w3 ⟨rfl, hr3, hf3⟩))
        go_end0
        exact .err hb ho hne hr3 ((hf1.then hf2 (fun _ _ h => h.elim)).trans hf3)
      | true =>
        go_enter Tryz.func78, Tryz.ntmps78
        go_wp2_with (first
          | (go_at_call 82; (with_reducible refine (word_next m g cp ws R n _ h hn).mono ?_); rintro e w1 ⟨rfl, hr1, hf1⟩)
          | (go_at_call 83; (with_reducible refine (con_Name hk _).mono ?_); rintro e w2 ⟨rfl, hf2⟩
             have hb2 := hR _ (hf1.then hf2 (fun _ _ h => h.elim))
             have cb := (blk_cell hb2 o).trans ho
             have fb := blk_frozen hb2 o))
        go_end0
        exact .put (.string ws[n]) hb hm ht hne (hr1.keep hf2 (fun _ _ h => h.elim) (fun h => h)) (hf1.then hf2 (fun _ _ h => h.elim))
    · simp only [step, hn, dite_false]
      go_enter Tryz.func78, Tryz.ntmps78
      go_wp2_with (first
        | (go_at_call 82; (with_reducible refine (word_end m g cp ws R n _ h (h.le' hn)).mono ?_); rintro e w1 ⟨rfl, hr1, hf1⟩))
      go_end0
      exact .err hb ho hne hr1 hf1
  · simp only [step]
    go_enter Tryz.func78, Tryz.ntmps78
    go_wp2_with (first
      | (go_at_call 82; (with_reducible refine (word_bad m g cp ws R n f _ h).mono ?_); rintro e w1 ⟨rfl, rfl⟩))
    go_end0
    exact .err hb ho hne h (.refl _ _)
theorem number_ok (S : Says) (m : Nat) (g : Nat × Nat) (cp : Nat) (ws : List ByteArray) (R n : Nat) (bad : Bad) (b o : Nat) (cs : Array Value) (t : TypeId) (old : Int) (limit : Int) (hex : Bool) (w : World) (h : Rd m g cp ws R n bad w) (hS : S.ok ws)
    (hb : w.heap[b]? = some (.cells cs t (0, 0))) (ho : cs[o]? = some (.int .u64 old)) (hm : m ≤ b) (ht : t ≠ 45) (hne : b ≠ R) :
    Calls Tryz.prog 79 #[.pointer (some ⟨R, 0, none⟩), .pointer (some ⟨b, o, none⟩), .int .u64 limit, .bool hex] w (MP m g cp ws R b t w (step ws n bad old (fun x => if (S.nu x).2 == 0 && decide ((S.nu x).1 < limit) then .ok (S.nu x).1 else .error 11)).1 (step ws n bad old (fun x => if (S.nu x).2 == 0 && decide ((S.nu x).1 < limit) then .ok (S.nu x).1 else .error 11)).2.1
      (cs.setIfInBounds o (.int .u64 (step ws n bad old (fun x => if (S.nu x).2 == 0 && decide ((S.nu x).1 < limit) then .ok (S.nu x).1 else .error 11)).2.2))) := by
  have hR : ∀ w1, Fr (fun k => k = R) w w1 → w1.heap[b]? = some (.cells cs t (0, 0)) := fun w1 hf => hf.blk hb hne
  rcases bad with _ | f
  · by_cases hn : n < ws.length
    · obtain ⟨k, hk⟩ := hS.nu ws[n] (List.getElem_mem hn)
      simp only [step, hn, dite_true]
      generalize hv : S.nu ws[n] = r at hk ⊢
      obtain ⟨v, c⟩ := r
      by_cases hc : c = 0
      · subst hc
        by_cases hl : v < limit
        · have q1 : ¬ v ≥ limit := by omega
          have q2 : ¬ limit ≤ v := by omega
          simp only [hl, decide_true, beq_self_eq_true, Bool.and_self, if_true]
          go_enter Tryz.func79, Tryz.ntmps79
          go_wp2_with (first
            | (go_at_call 82; (with_reducible refine (word_next m g cp ws R n _ h hn).mono ?_); rintro e w1 ⟨rfl, hr1, hf1⟩)
            | (go_at_call 84; (with_reducible refine (con_Number hk _).mono ?_); rintro e w2 ⟨rfl, hf2⟩
               have hb2 := hR _ (hf1.then hf2 (fun _ _ h => h.elim))
               have cb := (blk_cell hb2 o).trans ho
               have fb := blk_frozen hb2 o))
          go_end0
          exact .put (.int .u64 v) hb hm ht hne (hr1.keep hf2 (fun _ _ h => h.elim) (fun h => h)) (hf1.then hf2 (fun _ _ h => h.elim))
        · have q1 : v ≥ limit := by omega
          have q2 : limit ≤ v := by omega
          simp only [hl, decide_false, Bool.and_false, Bool.false_eq_true, if_false]
          go_enter Tryz.func79, Tryz.ntmps79
          go_wp2_with (first
            | (go_at_call 82; (with_reducible refine (word_next m g cp ws R n _ h hn).mono ?_); rintro e w1 ⟨rfl, hr1, hf1⟩)
            | (go_at_call 84; (with_reducible refine (con_Number hk _).mono ?_); rintro e w2 ⟨rfl, hf2⟩)
            | (go_at_call 17; (with_reducible refine (fail_ok m g cp ws R (n + 1) none 11 n _ (hr1.keep hf2 (fun _ _ h => h.elim) (fun h => h))).mono ?_); rintro e w3 ⟨rfl, hr3, hf3⟩))
          go_end0
          exact .err hb ho hne hr3 ((hf1.then hf2 (fun _ _ h => h.elim)).trans hf3)
      · have q0 : (c == 0) = false := by simpa using hc
        have q1 : (c != 0) = true := by simpa using hc
        simp only [q0, Bool.false_and, Bool.false_eq_true, if_false]
        go_enter Tryz.func79, Tryz.ntmps79
        go_wp2_with (first
          | (go_at_call 82; (with_reducible refine (word_next m g cp ws R n _ h hn).mono ?_); rintro e w1 ⟨rfl, hr1, hf1⟩)
          | (go_at_call 84; (with_reducible refine (con_Number hk _).mono ?_); rintro e w2 ⟨rfl, hf2⟩)
          | (go_at_call 17; (with_reducible refine (fail_ok m g cp ws R (n + 1) none 11 n _ (hr1.keep hf2 (fun _ _ h => h.elim) (fun h => h))).mono ?_); rintro e w3 ⟨rfl, hr3, hf3⟩))
        go_end0
        exact .err hb ho hne hr3 ((hf1.then hf2 (fun _ _ h => h.elim)).trans hf3)
    · simp only [step, hn, dite_false]
      go_enter Tryz.func79, Tryz.ntmps79
      go_wp2_with (first
        | (go_at_call 82; (with_reducible refine (word_end m g cp ws R n _ h (h.le' hn)).mono ?_); rintro e w1 ⟨rfl, hr1, hf1⟩))
      go_end0
      exact .err hb ho hne hr1 hf1
  · simp only [step]
    go_enter Tryz.func79, Tryz.ntmps79
    go_wp2_with (first
      | (go_at_call 82; (with_reducible refine (word_bad m g cp ws R n f _ h).mono ?_); rintro e w1 ⟨rfl, rfl⟩))
    go_end0
    exact .err hb ho hne h (.refl _ _)
theorem size_ok (S : Says) (m : Nat) (g : Nat × Nat) (cp : Nat) (ws : List ByteArray) (R n : Nat) (bad : Bad) (b o : Nat) (cs : Array Value) (t : TypeId) (old : Int) (w : World) (h : Rd m g cp ws R n bad w) (hS : S.ok ws)
    (hb : w.heap[b]? = some (.cells cs t (0, 0))) (ho : cs[o]? = some (.int .i64 old)) (hm : m ≤ b) (ht : t ≠ 45) (hne : b ≠ R) :
    Calls Tryz.prog 81 #[.pointer (some ⟨R, 0, none⟩), .pointer (some ⟨b, o, none⟩)] w (MP m g cp ws R b t w (step ws n bad old (fun x => if (S.sz x).2 == 0 then .ok (S.sz x).1 else .error (S.sz x).2)).1 (step ws n bad old (fun x => if (S.sz x).2 == 0 then .ok (S.sz x).1 else .error (S.sz x).2)).2.1
      (cs.setIfInBounds o (.int .i64 (step ws n bad old (fun x => if (S.sz x).2 == 0 then .ok (S.sz x).1 else .error (S.sz x).2)).2.2))) := by
  have hR : ∀ w1, Fr (fun k => k = R) w w1 → w1.heap[b]? = some (.cells cs t (0, 0)) := fun w1 hf => hf.blk hb hne
  rcases bad with _ | f
  · by_cases hn : n < ws.length
    · obtain ⟨k, hk⟩ := hS.sz ws[n] (List.getElem_mem hn)
      simp only [step, hn, dite_true]
      generalize hv : S.sz ws[n] = r at hk ⊢
      obtain ⟨v, c⟩ := r
      by_cases hc : c = 0
      · subst hc
        simp only [beq_self_eq_true, if_true]
        go_enter Tryz.func81, Tryz.ntmps81
        go_wp2_with (first
          | (go_at_call 82; (with_reducible refine (word_next m g cp ws R n _ h hn).mono ?_); rintro e w1 ⟨rfl, hr1, hf1⟩)
          | (go_at_call 86; (with_reducible refine (con_Size hk _).mono ?_); rintro e w2 ⟨rfl, hf2⟩
             have hb2 := hR _ (hf1.then hf2 (fun _ _ h => h.elim))
             have cb := (blk_cell hb2 o).trans ho
             have fb := blk_frozen hb2 o))
        go_end0
        exact .put (.int .i64 v) hb hm ht hne (hr1.keep hf2 (fun _ _ h => h.elim) (fun h => h)) (hf1.then hf2 (fun _ _ h => h.elim))
      · have q0 : (c == 0) = false := by simpa using hc
        have q1 : (c != 0) = true := by simpa using hc
        simp only [q0, Bool.false_eq_true, if_false]
        go_enter Tryz.func81, Tryz.ntmps81
        go_wp2_with (first
          | (go_at_call 82; (with_reducible refine (word_next m g cp ws R n _ h hn).mono ?_); rintro e w1 ⟨rfl, hr1, hf1⟩)
          | (go_at_call 86; (with_reducible refine (con_Size hk _).mono ?_); rintro e w2 ⟨rfl, hf2⟩)
          | (go_at_call 17; (with_reducible refine (fail_ok m g cp ws R (n + 1) none c n _ (hr1.keep hf2 (fun _ _ h => h.elim) (fun h => h))).mono ?_); rintro e w3 ⟨rfl, hr3, hf3⟩))
        go_end0
        exact .err hb ho hne hr3 ((hf1.then hf2 (fun _ _ h => h.elim)).trans hf3)
    · simp only [step, hn, dite_false]
      go_enter Tryz.func81, Tryz.ntmps81
      go_wp2_with (first
        | (go_at_call 82; (with_reducible refine (word_end m g cp ws R n _ h (h.le' hn)).mono ?_); rintro e w1 ⟨rfl, hr1, hf1⟩))
      go_end0
      exact .err hb ho hne hr1 hf1
  · simp only [step]
    go_enter Tryz.func81, Tryz.ntmps81
    go_wp2_with (first
      | (go_at_call 82; (with_reducible refine (word_bad m g cp ws R n f _ h).mono ?_); rintro e w1 ⟨rfl, rfl⟩))
    go_end0
    exact .err hb ho hne h (.refl _ _)
end Go.Proofs.YtnidnmhcjngmeaaGreat.Scr

/-
  (*reader).flag and choice.
  Conditions: none.
-/
namespace Go.Proofs.YtnidnmhcjngmeaaGreat.Scr
open Go.RowKit Go.Proofs.YtnidnmhcjngmeaaGreatW.PrintWords Go.Proofs.YtnidnmhcjngmeaaGreatW.PrintLast Go.Proofs.YtnidnmhcjngmeaaGreatW.PrintMore
/-- A word that may be missing. -/
def flagP (ws : List ByteArray) (n : Nat) (bad : Bad) (old : Bool) (word : ByteArray) : Nat × Bad × Bool := match bad with
  | some f => (n, some f, old)
  | none => if h : n < ws.length then (if ws[n].toList == word.toList then (n + 1, none, true) else (n + 1, some (12, (n : Int)), old)) else (n, none, old)
theorem flag_ok (m : Nat) (g : Nat × Nat) (cp : Nat) (ws : List ByteArray) (R n : Nat) (bad : Bad) (b o : Nat) (cs : Array Value) (t : TypeId) (old : Bool) (word : ByteArray) (w : World) (h : Rd m g cp ws R n bad w)
    (hb : w.heap[b]? = some (.cells cs t (0, 0))) (ho : cs[o]? = some (.bool old)) (hm : m ≤ b) (ht : t ≠ 45) (hne : b ≠ R) :
    Calls Tryz.prog 77 #[.pointer (some ⟨R, 0, none⟩), .pointer (some ⟨b, o, none⟩), .string word] w (MP m g cp ws R b t w (flagP ws n bad old word).1 (flagP ws n bad old word).2.1
      (cs.setIfInBounds o (.bool (flagP ws n bad old word).2.2))) := by
  have h0 := h
  obtain ⟨v, h1, h2⟩ := h.blk
  have c0 := (blk_cell h1 0).trans (show (rdc g cp ws.length n v)[0]? = some (.slice (some ⟨g.1, g.2, none⟩) ws.length cp) from rfl)
  have c1 := (blk_cell h1 1).trans (show (rdc g cp ws.length n v)[1]? = some (.int .i64 (n : Int)) from rfl)
  have c2 := (blk_cell h1 2).trans (show (rdc g cp ws.length n v)[2]? = some v from rfl)
  have hR : ∀ w1, Fr (fun k => k = R) w w1 → w1.heap[b]? = some (.cells cs t (0, 0)) := fun w1 hf => hf.blk hb hne
  have hdr : ∀ k, Rd m g cp ws R n bad (w.drewN k) := fun k => h0.keep ((Fr.refl (fun _ => False) w).drewN k) (fun _ _ h => h.elim) (fun h => h)
  rcases bad with _ | ⟨f1, f2⟩
  · have h2 : v = .pointer none := h2
    subst h2
    by_cases hn : n < ws.length
    · have q1 : ¬ (n : Int) ≥ (ws.length : Int) := by omega
      have q2 : ¬ ws.length ≤ n := by omega
      have q3 : decide ((n : Int) ≥ (ws.length : Int)) = false := decide_eq_false q1
      simp only [flagP, hn, dite_true]
      have q4 : (ws[n].toList != word.toList) = !(ws[n].toList == word.toList) := rfl
      generalize hx : (ws[n].toList == word.toList) = x at q4 ⊢
      cases x with
      | true =>
        go_enter Tryz.func77, Tryz.ntmps77
        go_wp2
        go_quiet (fail)
        go_wp2_with (first
          | (go_at_call 82; (with_reducible refine (word_next m g cp ws R n _ (hdr _) hn).mono ?_); rintro e w1 ⟨rfl, hr1, hf1⟩
             have hf2 := ((Fr.refl (fun k => k = R) w).drewN _).trans hf1
             have hb2 := hR _ hf2
             have cb := (blk_cell hb2 o).trans ho
             have fb := blk_frozen hb2 o))
        go_end0
        exact .put (.bool true) hb hm ht hne hr1 hf2
      | false =>
        go_enter Tryz.func77, Tryz.ntmps77
        go_wp2
        go_quiet (fail)
        go_wp2_with (first
          | (go_at_call 82; (with_reducible refine (word_next m g cp ws R n _ (hdr _) hn).mono ?_); rintro e w1 ⟨rfl, hr1, hf1⟩
             have hf2 := ((Fr.refl (fun k => k = R) w).drewN _).trans hf1)
          | (go_at_call 17; (with_reducible refine (fail_ok m g cp ws R (n + 1) none 12 n _ hr1).mono ?_); rintro e w3 ⟨rfl, hr3, hf3⟩))
        go_end0
        exact .err hb ho hne hr3 (hf2.trans hf3)
    · have q1 : (n : Int) ≥ (ws.length : Int) := by omega
      have q2 : ws.length ≤ n := by omega
      have q3 : decide ((n : Int) ≥ (ws.length : Int)) = true := decide_eq_true q1
      simp only [flagP, hn, dite_false]
      go_enter Tryz.func77, Tryz.ntmps77
      go_wp2
      go_quiet (fail)
      go_wp2
      go_end0
      exact .err hb ho hne (hdr _) ((Fr.refl _ w).drewN _)
  · obtain ⟨F, rfl, hF⟩ := h2
    simp only [flagP]
    go_enter Tryz.func77, Tryz.ntmps77
    go_wp2
    go_quiet (fail)
    go_wp2
    go_end0
    exact .err hb ho hne (hdr _) ((Fr.refl _ w).drewN _)
/-- One of some words: which, from 1 on. -/
def choice (l : List ByteArray) (x : ByteArray) : Except Int Int := match l.findIdx? (fun s => s.toList == x.toList) with
  | some i => .ok ((i : Int) + 1)
  | none => .error 12
set_option maxHeartbeats 1000000 in
theorem choice_ok (m : Nat) (g : Nat × Nat) (cp : Nat) (ws : List ByteArray) (R n : Nat) (bad : Bad) (b o : Nat) (cs : Array Value) (t : TypeId) (old : Int) (l : List ByteArray) (q : Nat) (w : World) (h : Rd m g cp ws R n bad w)
    (hb : w.heap[b]? = some (.cells cs t (0, 0))) (ho : cs[o]? = some (.int .i64 old)) (hm : m ≤ b) (ht : t ≠ 45) (hne : b ≠ R)
    (hl : ∀ i (h : i < l.length), w.cell? ⟨q, i, none⟩ = some (.string l[i])) (hq : q ≠ R) (hlen : l.length ≤ 1000) :
    Calls Tryz.prog 76 #[.pointer (some ⟨R, 0, none⟩), .pointer (some ⟨b, o, none⟩), .slice (some ⟨q, 0, none⟩) l.length l.length] w (MP m g cp ws R b t w (step ws n bad old (choice l)).1 (step ws n bad old (choice l)).2.1
      (cs.setIfInBounds o (.int .i64 (step ws n bad old (choice l)).2.2))) := by
  have hR : ∀ w1, Fr (fun k => k = R) w w1 → w1.heap[b]? = some (.cells cs t (0, 0)) := fun w1 hf => hf.blk hb hne
  rcases bad with _ | f
  · by_cases hn : n < ws.length
    · generalize hres : step ws n none old (choice l) = res
      have HR := Aside0.mk hres
      clear hres
      go_enter Tryz.func76, Tryz.ntmps76
      go_wp2_with (first
        | (go_at_call 82; (with_reducible refine (word_next m g cp ws R n _ h hn).mono ?_); rintro e w1 ⟨rfl, hr1, hf1⟩
           have hb2 := hR _ hf1
           have cb := (blk_cell hb2 o).trans ho
           have fb := blk_frozen hb2 o))
      have HL := Aside0.mk (fun i hi => show w1.cell? ⟨q, i, none⟩ = some (.string l[i]) by
        have hx := hl i hi
        have hlt : q < w.heap.size := World.block_lt_of_cell? w ⟨q, i, none⟩ hx
        have := hf1.block q hlt hq
        simpa [World.cell?, this] using hx)
      clear hl
      have HX := Aside0.mk (show step ws n none old (choice l) = match choice l ws[n] with | .ok v => (n + 1, none, v) | .error c => (n + 1, some (c, (n : Int)), old) by simp only [step, hn, dite_true]; cases choice l ws[n] <;> rfl)
      generalize ws[n] = x at *
      go_loopg [21] (l.length + 1) (fun kq v21 w' => ∃ i : Nat, v21 = .int .i64 (i : Int) ∧ Aside0 (i + kq = l.length + 1 ∧ i ≤ l.length ∧ ∀ j (h : j < l.length), j < i → (l[j].toList == x.toList) = false) ∧ w' = w1)
      case atStart => exact ⟨0, rfl, ⟨by omega, by omega, fun _ _ h => absurd h (by omega)⟩, rfl⟩
      case round =>
        obtain ⟨i, rfl, HI, rfl⟩ := hrel
        have hI := HI.out
        cases gk with
        | zero => omega
        | succ k1 =>
          by_cases hi : i < l.length
          · have d1 : decide ((i : Int) < (l.length : Int)) = true := decide_eq_true (by omega)
            have q1 : 0 ≤ (i : Int) ∧ (i : Int) < (l.length : Int) := by omega
            have hx := HL.out i hi
            generalize hy : (l[i].toList == x.toList) = y
            cases y with
            | true =>
              have hfi : l.findIdx? (fun s => s.toList == x.toList) = some i := by
                rw [List.findIdx?_eq_some_iff_getElem]
                exact ⟨hi, hy, fun j hj => by simpa using hI.2.2 j (by omega) hj⟩
              go_wp2
              go_end0
              rw [← HR.out, HX.out]
              simp only [choice, hfi]
              exact .put (.int .i64 ((i : Int) + 1)) hb hm ht hne hr1 hf1
            | false =>
              go_wp2
              go_roundg k1
              case measure => omega
              case rel => exact ⟨i + 1, rfl, ⟨by omega, by omega, fun j h1 h2 => by
                rcases Nat.lt_or_eq_of_le (Nat.le_of_lt_succ h2) with h3 | h3
                · exact hI.2.2 j h1 h3
                · subst h3; exact hy⟩, rfl⟩
          · have d1 : decide ((i : Int) < (l.length : Int)) = false := decide_eq_false (by omega)
            have hfi : l.findIdx? (fun s => s.toList == x.toList) = none := by
              rw [List.findIdx?_eq_none_iff]
              intro y hy
              obtain ⟨j, hj, rfl⟩ := List.getElem_of_mem hy
              exact hI.2.2 j hj (by omega)
            go_wp2_with (first
              | (go_at_call 17; (with_reducible refine (fail_ok m g cp ws R (n + 1) none 12 n _ hr1).mono ?_); rintro e w3 ⟨rfl, hr3, hf3⟩))
            go_end0
            rw [← HR.out, HX.out]
            simp only [choice, hfi]
            exact .err hb ho hne hr3 (hf1.trans hf3)
    · simp only [step, hn, dite_false]
      go_enter Tryz.func76, Tryz.ntmps76
      go_wp2_with (first
        | (go_at_call 82; (with_reducible refine (word_end m g cp ws R n _ h (h.le' hn)).mono ?_); rintro e w1 ⟨rfl, hr1, hf1⟩))
      go_end0
      exact .err hb ho hne hr1 hf1
  · simp only [step]
    go_enter Tryz.func76, Tryz.ntmps76
    go_wp2_with (first
      | (go_at_call 82; (with_reducible refine (word_bad m g cp ws R n f _ h).mono ?_); rintro e w1 ⟨rfl, rfl⟩))
    go_end0
    exact .err hb ho hne h (.refl _ _)
end Go.Proofs.YtnidnmhcjngmeaaGreat.Scr
