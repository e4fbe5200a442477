/-
  elf.Write's bytes are a row of its own. (Written by a program of this session, wip/eo/genwb.py.)
  Conditions: none.
-/
import Derived.Test.YtmphkmoakamepaaVaOwn
import Derived.Test.YtmphkmoakamepaaVf3
import Derived.Test.YtmphkmoakamepaaPureMd
import Derived.Below
import Derived.Deep.Draws
import Derived.WalkKit
import Derived.OwnWalk
import Derived.Deep.MidRow
import Derived.Deep.QuietTactic
import Derived.Deep.LoopGhost
import Derived.BigQuiet
import Derived.Laws.Slices
import Derived.RowKit3

set_option linter.unusedVariables false
set_option linter.unusedSimpArgs false
set_option autoImplicit false
set_option maxRecDepth 100000
namespace Go.Va
open Go.Proofs
theorem elf_Write.runB (k : Nat) (x0 : T25) : runB Try.prog (gamW (gamOf [(15, elf_Right.g k), (31, elf_laid.g k), (34, elf_bits.g)]) [(32, elf_writer_half.w k), (33, elf_writer_word.w k), (35, elf_writer_pad.w), (36, elf_tables.w k)]) (lamOf [elf_Write.q0.p k, elf_Write.q1.p k]) Try.f17 5 [(T25.av x0)] (fun l n => some (l, n)) = (elf_Write.f k x0).bind fun r => some (r.1, r.2) := by
  unfold elf_Write.f
  try simp only [cond_bind, elim_bind, Option.bind_some, Option.bind_none, Option.bind_assoc, Sum.elim_inl, Sum.elim_inr]
  kernel_rfl
theorem elf_Write.simB (k : Nat) (x0 : T25) (l : List Int) (n : Int) (h : elf_Write.f k x0 = some (l, n)) : SimB Try.prog 17 [(T25.av x0)] 5 l n := by
  have hrun := elf_Write.runB k x0
  rw [h] at hrun
  obtain ⟨l', n', e, hs⟩ := runB_ok Try.func17 (by kernel_rfl) (gamW_ok (gamOf_cons (elf_Right.ok k) elf_Right.callable (gamOf_cons (elf_laid.ok k) elf_laid.callable (gamOf_cons (elf_bits.ok) elf_bits.callable (gamOf_nil _)))) (wsOk_cons (elf_writer_half.wok k) elf_writer_half.callable (wsOk_cons (elf_writer_word.wok k) elf_writer_word.callable (wsOk_cons (elf_writer_pad.wok) elf_writer_pad.callable (wsOk_cons (elf_tables.wok k) elf_tables.callable (wsOk_nil _)))))) (lamOf_cons (elf_Write.q0.ok k) (lamOf_cons (elf_Write.q1.ok k) (lamOf_nil _ _))) mixed hrun
  simp only [Option.some.injEq, Prod.mk.injEq] at e
  obtain ⟨rfl, rfl⟩ := e
  exact hs
end Go.Va

/-
  The contracts of the program's functions at a world, with what may not be met (banned blocks).
  Conditions: none.
-/
namespace Go.Va
open Go.Proofs
def Img (W : World) (ban : Nat → Prop) (x : T25) (v : Value) : Prop := VRel (cx0 ban W) false (T25.av x) v
def Byt (W : World) (ban : Nat → Prop) (l : List Int) (v : Value) : Prop := VRel (cx0 ban W) false (.vt (.int .u8) l) v
theorem Img.le {W W1 : World} {ban ban1 : Nat → Prop} {x : T25} {v : Value} (h : Img W ban x v) (hs : W.heap.size ≤ W1.heap.size) (hb : ∀ B, B < W.heap.size → ¬ ban B → W1.heap[B]? = W.heap[B]?) (ho : ∀ B, B < W.heap.size → ban1 B → ban B) : Img W1 ban1 x v :=
  VRel.mono_false (C := cx0 ban W) (D := cx0 ban1 W1) ⟨hs, hb, ho⟩ h rfl
theorem Byt.le {W W1 : World} {ban ban1 : Nat → Prop} {x : List Int} {v : Value} (h : Byt W ban x v) (hs : W.heap.size ≤ W1.heap.size) (hb : ∀ B, B < W.heap.size → ¬ ban B → W1.heap[B]? = W.heap[B]?) (ho : ∀ B, B < W.heap.size → ban1 B → ban B) : Byt W1 ban1 x v :=
  VRel.mono_false (C := cx0 ban W) (D := cx0 ban1 W1) ⟨hs, hb, ho⟩ h rfl
theorem sim_of {f : FuncId} {g : GFun} (hg : GOk Try.prog f g) {args : List AV} {out : Out} (h : g Out args some = some out) : SimP Try.prog f args out := by
  obtain ⟨o, e, hs⟩ := hg Out args some _ h
  cases e
  exact hs
theorem cells1 {C : Cx} {m : Bool} {v : AV} {c : Value} (h : VRel C m v c) : Cells C m [v] [c] := cells_cons h cells_nil
theorem con_alive (k : Nat) (h : atlaslaw23_alive.f k = some true) (w : World) : Calls Try.prog 22 #[] w fun e w' => FB w w' ∧ e = .returned (.bool true) := by
  have hs := sim_of (atlaslaw23_alive.ok k) (args := []) (out := .ret (.val (.bool true))) (by unfold atlaslaw23_alive.g; rw [h]; rfl)
  refine (hs w (fun _ => False) [] (fun _ h => h.elim) cells_nil).mono fun e w' ⟨hf, c, he, hv⟩ => ⟨hf, by rw [he, hv.inv_val]⟩
theorem tup2 {C : Cx} {v : AV} {n : Int} {c : Value} (h : VRel C false (.tup [v, .val (.int .i64 n)]) c) : ∃ u, c = .tuple #[u, .int .i64 n] ∧ VRel C false v u := by
  cases h with
  | tup us hl hr =>
    rcases us with _ | ⟨c1, _ | ⟨c2, _ | ⟨c3, us⟩⟩⟩
    · simp at hl
    · simp at hl
    · have e2 : c2 = .int .i64 n := (hr 1).inv_val
      subst e2
      exact ⟨c1, rfl, hr 0⟩
    · simp at hl
theorem con_ref (k : Nat) {x : T25} {l : List Int} {n : Int} (h : atlasref23_Write.f k x = some (l, n)) {w : World} {ban : Nat → Prop} {v : Value} (hb : ∀ B, ban B → B < w.heap.size) (hv : Img w ban x v) :
    Calls Try.prog 18 #[v] w fun e w' => FB w w' ∧ ∃ u, e = .returned (.tuple #[u, .int .i64 n]) ∧ Byt w' ban l u := by
  have hs := sim_of (atlasref23_Write.ok k) (args := [T25.av x]) (out := .ret (.tup [.vt (.int .u8) l, .val (.int .i64 n)])) (by
    show (atlasref23_Write.f k x).bind _ = _
    rw [h]; rfl)
  refine (hs w ban [v] hb (cells1 hv)).mono fun e w' ⟨hf, c, he, hv⟩ => ?_
  obtain ⟨u, rfl, hu⟩ := tup2 hv
  exact ⟨hf, u, he, hu⟩
theorem con_own (k : Nat) {x y : T25} (h : atlaslaw23_own.f k x = some y) {w : World} {ban : Nat → Prop} {v : Value} (hb : ∀ B, ban B → B < w.heap.size) (hv : Img w ban x v) :
    Calls Try.prog 11 #[v] w fun e w' => FB w w' ∧ ∃ u, e = .returned u ∧ Img w' ban y u := by
  have hs := sim_of (atlaslaw23_own.ok k) (args := [T25.av x]) (out := .ret (T25.av y)) (by
    show (atlaslaw23_own.f k x).bind _ = _
    rw [h]; rfl)
  exact (hs w ban [v] hb (cells1 hv)).mono fun e w' ⟨hf, c, he, hv⟩ => ⟨hf, c, he, hv⟩
theorem con_write (k : Nat) {x : T25} {l : List Int} {n : Int} (h : elf_Write.f k x = some (l, n)) {w : World} {ban : Nat → Prop} {v : Value} (hb : ∀ B, ban B → B < w.heap.size) (hv : Img w ban x v) :
    Calls Try.prog 17 #[v] w fun e w' => FB w w' ∧ ∃ u, e = .returned (.tuple #[u, .int .i64 n]) ∧ Byt w' ban l u := by
  have hs := sim_of (elf_Write.ok k) (args := [T25.av x]) (out := .ret (.tup [.vt (.int .u8) l, .val (.int .i64 n)])) (by
    show (elf_Write.f k x).bind _ = _
    rw [h]; rfl)
  refine (hs w ban [v] hb (cells1 hv)).mono fun e w' ⟨hf, c, he, hv⟩ => ?_
  obtain ⟨u, rfl, hu⟩ := tup2 hv
  exact ⟨hf, u, he, hu⟩
theorem con_writeB (k : Nat) {x : T25} {l : List Int} {n : Int} (h : elf_Write.f k x = some (l, n)) {w : World} {ban : Nat → Prop} {v : Value} (hb : ∀ B, ban B → B < w.heap.size) (hv : Img w ban x v) :
    Calls Try.prog 17 #[v] w fun e w' => FB w w' ∧ ∃ u, e = .returned (.tuple #[u, .int .i64 n]) ∧ OwnB w w' 5 l u :=
  (elf_Write.simB k x l n h) w ban [v] hb (cells1 hv)
theorem con_read (k : Nat) {l : List Int} {x : T25} {n : Int} (h : elf_Read.f k l = some (x, n)) {w : World} {ban : Nat → Prop} {v : Value} (hb : ∀ B, ban B → B < w.heap.size) (hv : Byt w ban l v) :
    Calls Try.prog 20 #[v] w fun e w' => FB w w' ∧ ∃ u, e = .returned (.tuple #[u, .int .i64 n]) ∧ Img w' ban x u := by
  have hs := sim_of (elf_Read.ok k) (args := [.vt (.int .u8) l]) (out := .ret (.tup [T25.av x, .val (.int .i64 n)])) (by
    show (elf_Read.f k l).bind _ = _
    rw [h]; rfl)
  refine (hs w ban [v] hb (cells1 hv)).mono fun e w' ⟨hf, c, he, hv⟩ => ?_
  obtain ⟨u, rfl, hu⟩ := tup2 hv
  exact ⟨hf, u, he, hu⟩
theorem con_same (k : Nat) {x : T25} (h : atlaslaw23_same.f k x x = some true) {w : World} {ban : Nat → Prop} {v u : Value} (hb : ∀ B, ban B → B < w.heap.size) (hv : Img w ban x v) (hu : Img w ban x u) :
    Calls Try.prog 19 #[v, u] w fun e w' => FB w w' ∧ e = .returned (.bool true) := by
  have hs := sim_of (atlaslaw23_same.ok k) (args := [T25.av x, T25.av x]) (out := .ret (.val (.bool true))) (by
    show (atlaslaw23_same.f k x x).bind _ = _
    rw [h]; rfl)
  exact (hs w ban [v, u] hb (cells_cons hv (cells1 hu))).mono fun e w' ⟨hf, c, he, hv⟩ => ⟨hf, by rw [he, hv.inv_val]⟩
/-- The bytes as a text. -/
theorem con_string {w : World} {ban : Nat → Prop} {l : List Int} {v : Value} (h : Byt w ban l v) (hl : ByB l) : (convert 34 9 v).run Try.prog w = .ok (.string (bytesO l)) w := by
  have h := h
  cases h with
  | vt h =>
    generalize hn : l.length = n at h
    cases h with
    | vec0 =>
      rename_i o
      have : l = [] := List.eq_nil_of_length_eq_zero hn
      subst this
      cases o with
      | none => rw [run_convert_bytes_string w 34 9 5 none 0 0 Try.underlying34 Try.underlying5 Try.underlying9]; rfl
      | some ad => exact run_convert_bytes_back w 34 9 5 ad 0 [] Try.underlying34 Try.underlying5 Try.underlying9 (fun j hj => by simp at hj)
    | vec f hB hnn hcap hmax hlf hc hr =>
      rename_i B off cap
      subst hn
      have hlen : l.length = (l.map fun x => UInt8.ofNat x.toNat).length := by simp
      rw [hlen]
      refine run_convert_bytes_back w 34 9 5 ⟨B, off, none⟩ cap _ Try.underlying34 Try.underlying5 Try.underlying9 (fun j hj => ?_)
      have hj' : j < l.length := by simpa using hj
      have h1 := hc j hj' 0 (by simp [CT.sz])
      have h2 := hr j hj' 0
      have e2 : gt ((CT.int .u8).enc (l.getD j (CT.df (.int .u8)))) 0 = .val (.int .u8 l[j]) := by
        show AV.val (.int .u8 (l.getD j 0)) = _
        simp [List.getD_eq_getElem?_getD, hj']
      have h2 : VRel (cx0 ban w) false (gt ((CT.int .u8).enc (l.getD j (CT.df (.int .u8)))) 0) (vg (f j) 0) := h2
      rw [e2] at h2
      have h3 := h2.inv_val
      rw [Addr.add_none]
      have h1 : w.cell? ⟨B, off + j, none⟩ = some (vg (f j) 0) := by simpa [CT.sz, cx0] using h1
      rw [h1, h3]
      have hb := hl l[j] (List.getElem_mem hj')
      simp
      omega
end Go.Va

/-
  A region that is written, each cell keeping its kind; what a still value leads to.
  Conditions: none.
-/
namespace Go.Va
open Go.Proofs
/-- The same, or a number or a text in place of one of its kind. -/
def Kin (v u : Value) : Prop := u = v ∨ (∃ k a b, v = .int k a ∧ u = .int k b) ∨ ∃ a b, v = .string a ∧ u = .string b
theorem Kin.trans {a b c : Value} (h : Kin a b) (k : Kin b c) : Kin a c := by
  rcases h with rfl | ⟨i, x, y, rfl, rfl⟩ | ⟨x, y, rfl, rfl⟩
  · exact k
  · rcases k with rfl | ⟨i', x', y', e, rfl⟩ | ⟨x', y', e, rfl⟩
    · exact .inr (.inl ⟨i, x, y, rfl, rfl⟩)
    · cases e; exact .inr (.inl ⟨_, _, _, rfl, rfl⟩)
    · cases e
  · rcases k with rfl | ⟨i', x', y', e, rfl⟩ | ⟨x', y', e, rfl⟩
    · exact .inr (.inr ⟨x, y, rfl, rfl⟩)
    · cases e
    · exact .inr (.inr ⟨_, _, rfl, rfl⟩)
theorem Kin.slice {o : Option Addr} {n c : Nat} {u : Value} (h : Kin (.slice o n c) u) : u = .slice o n c := by
  rcases h with h | ⟨_, _, _, e, _⟩ | ⟨_, _, e, _⟩
  · exact h
  · cases e
  · cases e
theorem Kin.num {k : IntKind} {a : Int} {u : Value} (h : Kin (.int k a) u) : ∃ b, u = .int k b := by
  rcases h with h | ⟨_, _, _, e, h⟩ | ⟨_, _, e, _⟩
  · exact ⟨a, h⟩
  · cases e; exact ⟨_, h⟩
  · cases e
theorem Kin.text {a : ByteArray} {u : Value} (h : Kin (.string a) u) : ∃ b, u = .string b := by
  rcases h with h | ⟨_, _, _, e, _⟩ | ⟨_, _, e, h⟩
  · exact ⟨a, h⟩
  · cases e
  · exact ⟨_, h⟩
structure Soft (R : Nat → Prop) (W W' : World) : Prop where
  os : W'.os = W.os
  tape : W'.tape = W.tape
  output : W'.output = W.output
  size : W'.heap.size = W.heap.size
  out : ∀ B, ¬ R B → W'.heap[B]? = W.heap[B]?
  cell : ∀ B o v, R B → W.cell? ⟨B, o, none⟩ = some v → ∃ u, W'.cell? ⟨B, o, none⟩ = some u ∧ Kin v u
  frz : ∀ B o, R B → W.frozen? ⟨B, o, none⟩ = false → W'.frozen? ⟨B, o, none⟩ = false
theorem Soft.refl (R : Nat → Prop) (W : World) : Soft R W W := ⟨rfl, rfl, rfl, rfl, fun _ _ => rfl, fun _ _ v _ h => ⟨v, h, .inl rfl⟩, fun _ _ _ h => h⟩
theorem Soft.set {R : Nat → Prop} {W W' : World} (h : Soft R W W') {B o : Nat} {v u : Value} (hR : R B) (hc : W'.cell? ⟨B, o, none⟩ = some v) (hk : Kin v u) : Soft R W (W'.setCell ⟨B, o, none⟩ u) where
  os := h.os
  tape := h.tape
  output := h.output
  size := by simp [World.setCell, h.size]
  out b hb := (RowKit.Below.heap_setCell W' ⟨B, o, none⟩ u b (fun e => hb (by rw [e]; exact hR))).trans (h.out b hb)
  cell b p x hb hx := by
    obtain ⟨y, hy, hxy⟩ := h.cell b p x hb hx
    by_cases e : (⟨B, o, none⟩ : Addr) = ⟨b, p, none⟩
    · obtain ⟨rfl, rfl, _⟩ := Addr.mk.inj e
      rw [hc] at hy
      cases hy
      exact ⟨u, World.cell?_setCell_same _ _ _ hc, hxy.trans hk⟩
    · exact ⟨y, by rw [World.cell?_setCell_other _ _ _ _ e]; exact hy, hxy⟩
  frz b p hb hf := by rw [World.frozen?_setCell]; exact h.frz b p hb hf
theorem Soft.drewN {R : Nat → Prop} {W W' : World} (h : Soft R W W') (n : Nat) : Soft R W (W'.drewN n) := ⟨h.os, h.tape, h.output, h.size, h.out, h.cell, h.frz⟩
theorem Soft.below {R : Nat → Prop} {w W W' : World} (h : Soft R W W') (hb : RowKit.Below w.heap.size w W) (hR : ∀ B, R B → w.heap.size ≤ B) : RowKit.Below w.heap.size w W' :=
  ⟨h.os.trans hb.os, h.tape.trans hb.tape, h.output.trans hb.output, by rw [h.size]; exact hb.size, fun k hk => (h.out k (fun hr => by have := hR k hr; omega)).trans (hb.block k hk)⟩
theorem Img.soft {W W' : World} {R : Nat → Prop} {x : T25} {v : Value} (h : Img W R x v) (hs : Soft R W W') : Img W' R x v :=
  h.le (Nat.le_of_eq hs.size.symm) (fun B _ hn => hs.out B hn) (fun _ _ h => h)
theorem Byt.soft {W W' : World} {R : Nat → Prop} {l : List Int} {v : Value} (h : Byt W R l v) (hs : Soft R W W') : Byt W' R l v :=
  h.le (Nat.le_of_eq hs.size.symm) (fun B _ hn => hs.out B hn) (fun _ _ h => h)
/-- What a typed row's slice leads to. -/
theorem vt_open {W : World} {ban : Nat → Prop} {c : CT} {l : List c.D} {v : Value} (h : VRel (cx0 ban W) false (.vt c l) v) :
    ∃ o cap, v = .slice o l.length cap ∧ ∀ j, j < l.length → ∃ B off, o = some ⟨B, off, none⟩ ∧ ¬ ban B ∧ B < W.heap.size ∧ l.length ≤ maxLen ∧ ∀ i, i < c.sz → ∃ u, W.cell? ⟨B, off + j * c.sz + i, none⟩ = some u ∧ VRel (cx0 ban W) false (gt (c.enc (l.getD j c.df)) i) u := by
  cases h with
  | vt h =>
    generalize hn : l.length = n at h
    cases h with
    | vec0 => exact ⟨_, 0, rfl, fun j hj => absurd hj (Nat.not_lt_zero _)⟩
    | vec f hB hnn hcap hmax hlf hc hr =>
      rename_i B off cap
      exact ⟨_, cap, rfl, fun j hj => ⟨B, off, rfl, hnn, hB, Nat.le_trans hcap hmax, fun i hi => ⟨_, hc j hj i hi, hr j hj i⟩⟩⟩
theorem img_open {W : World} {ban : Nat → Prop} {x : T25} {v : Value} (h : Img W ban x v) : ∃ s1 s2, v = .agg #[.int .u32 x.f0_Entry, s1, s2] ∧ VRel (cx0 ban W) false (.vt SegC x.f1_Segments) s1 ∧ VRel (cx0 ban W) false (.vt SymC x.f2_Symbols) s2 := by
  have h : VRel (cx0 ban W) false (.agg (T25.cells x)) v := h
  cases h with
  | agg us hl hr =>
    rcases us with _ | ⟨c1, _ | ⟨c2, _ | ⟨c3, _ | ⟨c4, us⟩⟩⟩⟩
    · simp [T25.cells] at hl
    · simp [T25.cells] at hl
    · simp [T25.cells] at hl
    · have e1 : c1 = .int .u32 x.f0_Entry := (hr 0).inv_val
      subst e1
      exact ⟨c2, c3, rfl, hr 1, hr 2⟩
    · simp [T25.cells] at hl
/-- A segment's two cells that are looked at. -/
theorem seg_open {W : World} {ban : Nat → Prop} {l : List SegT} {v : Value} (h : VRel (cx0 ban W) false (.vt SegC l) v) :
    ∃ o cap, v = .slice o l.length cap ∧ ∀ j, j < l.length → ∃ B off, o = some ⟨B, off, none⟩ ∧ ¬ ban B ∧ B < W.heap.size ∧ l.length ≤ maxLen ∧ (∃ a, W.cell? ⟨B, off + j * 6, none⟩ = some (.int .u32 a)) ∧
      ∃ d u, W.cell? ⟨B, off + j * 6 + 5, none⟩ = some u ∧ VRel (cx0 ban W) false (.vt (.int .u8) d) u := by
  obtain ⟨o, cap, e, hj⟩ := vt_open h
  refine ⟨o, cap, e, fun j hl => ?_⟩
  obtain ⟨B, off, e1, h1, h2, h3, h4⟩ := hj j hl
  obtain ⟨u0, hu0, hv0⟩ := h4 0 (by decide)
  obtain ⟨u5, hu5, hv5⟩ := h4 5 (by decide)
  have e0 : u0 = .int .u32 _ := VRel.inv_val hv0
  rw [e0] at hu0
  exact ⟨B, off, e1, h1, h2, h3, ⟨_, hu0⟩, _, u5, hu5, hv5⟩
theorem sym_open {W : World} {ban : Nat → Prop} {l : List SymT} {v : Value} (h : VRel (cx0 ban W) false (.vt SymC l) v) :
    ∃ o cap, v = .slice o l.length cap ∧ ∀ j, j < l.length → ∃ B off, o = some ⟨B, off, none⟩ ∧ ¬ ban B ∧ B < W.heap.size ∧ l.length ≤ maxLen ∧ ∃ a, W.cell? ⟨B, off + j * 2, none⟩ = some (.string a) := by
  obtain ⟨o, cap, e, hj⟩ := vt_open h
  refine ⟨o, cap, e, fun j hl => ?_⟩
  obtain ⟨B, off, e1, h1, h2, h3, h4⟩ := hj j hl
  obtain ⟨u0, hu0, hv0⟩ := h4 0 (by decide)
  have e0 : u0 = .string _ := VRel.inv_val hv0
  rw [e0] at hu0
  exact ⟨B, off, e1, h1, h2, h3, _, hu0⟩
theorem byt_open {W : World} {ban : Nat → Prop} {l : List Int} {v : Value} (h : VRel (cx0 ban W) false (.vt (.int .u8) l) v) :
    ∃ o cap, v = .slice o l.length cap ∧ ∀ j, j < l.length → ∃ B off, o = some ⟨B, off, none⟩ ∧ ¬ ban B ∧ B < W.heap.size ∧ l.length ≤ maxLen ∧ ∃ a, W.cell? ⟨B, off + j, none⟩ = some (.int .u8 a) := by
  obtain ⟨o, cap, e, hj⟩ := vt_open h
  refine ⟨o, cap, e, fun j hl => ?_⟩
  obtain ⟨B, off, e1, h1, h2, h3, h4⟩ := hj j hl
  obtain ⟨u0, hu0, hv0⟩ := h4 0 (by decide)
  have e0 : u0 = .int .u8 _ := VRel.inv_val hv0
  rw [e0] at hu0
  exact ⟨B, off, e1, h1, h2, h3, _, by simpa [CT.sz] using hu0⟩
end Go.Va

/-
  What Write and Read hand out is the caller's: the walk of the law.
  Conditions: none.
-/
namespace Go.Va
open Go.Proofs Go.RowKit
/-- A fact that the walk leaves alone. -/
structure Asd (p : Prop) : Prop where
  out : p
abbrev Bot : Nat → Prop := fun _ => False
theorem Img.bl {W W1 : World} {ban : Nat → Prop} {x : T25} {v : Value} (h : Img W ban x v) (hb : RowKit.Below W.heap.size W W1) : Img W1 ban x v := h.le hb.size (fun B hB _ => hb.block B hB) (fun _ _ h => h)
theorem Byt.bl {W W1 : World} {ban : Nat → Prop} {l : List Int} {v : Value} (h : Byt W ban l v) (hb : RowKit.Below W.heap.size W W1) : Byt W1 ban l v := h.le hb.size (fun B hB _ => hb.block B hB) (fun _ _ h => h)
theorem Img.free {W : World} {ban : Nat → Prop} {x : T25} {v : Value} (h : Img W ban x v) : Img W Bot x v := h.le (Nat.le_refl _) (fun _ _ _ => rfl) (fun _ _ h => h.elim)
theorem Byt.free {W : World} {ban : Nat → Prop} {l : List Int} {v : Value} (h : Byt W ban l v) : Byt W Bot l v := h.le (Nat.le_refl _) (fun _ _ _ => rfl) (fun _ _ h => h.elim)
theorem no_ban {W : World} : ∀ B, Bot B → B < W.heap.size := fun _ h => h.elim
theorem bl_trans {w W W1 : World} (h : RowKit.Below w.heap.size w W) (k : RowKit.Below W.heap.size W W1) : RowKit.Below w.heap.size w W1 :=
  ⟨k.os.trans h.os, k.tape.trans h.tape, k.output.trans h.output, Nat.le_trans h.size k.size, fun i hi => (k.block i (Nat.lt_of_lt_of_le hi h.size)).trans (h.block i hi)⟩
theorem bl_alloc (w : World) (o : Obj) : RowKit.Below w.heap.size w (w.alloc o) := ⟨rfl, rfl, rfl, by simp, fun k hk => heap_alloc_old _ _ hk⟩
/-- An image in its variable. -/
structure Bx (W : World) (b : Nat) (E : Int) (s1 s2 : Value) : Prop where
  c0 : W.cell? ⟨b, 0, none⟩ = some (.int .u32 E)
  c1 : W.cell? ⟨b, 1, none⟩ = some s1
  c2 : W.cell? ⟨b, 2, none⟩ = some s2
theorem cell_blk {W W1 : World} {a : Addr} {v : Value} (h : W.cell? a = some v) (hb : W1.heap[a.block]? = W.heap[a.block]?) : W1.cell? a = some v := by
  simp only [World.cell?, hb] at h ⊢; exact h
theorem Bx.lt {W : World} {b : Nat} {E : Int} {s1 s2 : Value} (h : Bx W b E s1 s2) : b < W.heap.size := World.block_lt_of_cell? W ⟨b, 0, none⟩ h.c0
theorem Bx.mv {W W1 : World} {b : Nat} {E : Int} {s1 s2 : Value} (h : Bx W b E s1 s2) (hb : W1.heap[b]? = W.heap[b]?) : Bx W1 b E s1 s2 := ⟨cell_blk h.c0 hb, cell_blk h.c1 hb, cell_blk h.c2 hb⟩
theorem Bx.bl {W W1 : World} {b : Nat} {E : Int} {s1 s2 : Value} (h : Bx W b E s1 s2) (hb : RowKit.Below W.heap.size W W1) : Bx W1 b E s1 s2 := h.mv (hb.block b h.lt)
theorem Bx.new (w : World) (E : Int) (s1 s2 : Value) (t : TypeId) : Bx (w.alloc (.cells #[.int .u32 E, s1, s2] t)) w.heap.size E s1 s2 := ⟨by simp, by simp, by simp⟩
section
variable {P : Program} {ops : Array Oper} {o : Oper} {rest : List Oper} {a : Act} {Q : Exit → Act → World → Prop} {W : World}
theorem gate_st {t : TypeId} {p : Tmp} {v : Operand} (_ho : o.op = .store t (.tmp p) v) (h : wpList P ops Q (o :: rest) a W) : wpList P ops Q (o :: rest) a W := h
theorem box_store (hi : (P.info? 26).map (·.size) = some 3) (hgd : o.guard = none) (x y : Operand) {E : Int} {s1 s2 : Value} (ho : o.op = .store 26 x y) (hx : a.eval x = .pointer (some ⟨W.heap.size, 0, none⟩)) (hy : a.eval y = .agg #[.int .u32 E, s1, s2])
    (h1 : s1.oneCell' = true) (h2 : s2.oneCell' = true) (h : ∀ w3, RowKit.Below W.heap.size W w3 → W.heap.size < w3.heap.size → Bx w3 W.heap.size E s1 s2 → wpList P ops Q rest (a.put o.dst undef) w3) :
    wpList P ops Q (o :: rest) a (W.alloc (.cells #[.int .u32 0, .slice none 0 0, .slice none 0 0] 26)) := by
  have ht : (W.alloc (.cells #[.int .u32 0, .slice none 0 0, .slice none 0 0] 26)).there W.heap.size 0 3 := fun j hj => by
    match j, hj with
    | 0, _ => exact ⟨by simp, by simp⟩
    | 1, _ => exact ⟨by simp, by simp⟩
    | 2, _ => exact ⟨by simp, by simp⟩
  refine wpList_store_mid hgd 26 x y ho W.heap.size 0 #[.int .u32 E, s1, s2] hx hy ht hi (all_oneCell_toArray (cs := [.int .u32 E, s1, s2]) (fun v hv => by
    simp only [List.mem_cons, List.not_mem_nil, or_false] at hv
    rcases hv with rfl | rfl | rfl
    · rfl
    · exact h1
    · exact h2)) ?_
  have hr := World.rangeAt_setCells_same (W.alloc (.cells #[.int .u32 0, .slice none 0 0, .slice none 0 0] 26)) W.heap.size 0 [.int .u32 E, s1, s2] ht
  refine h _ ⟨rfl, rfl, rfl, by simp [World.setCells, World.setCell], fun k hk => ?_⟩ (by simp [World.setCells, World.setCell]) ⟨hr 0 _ rfl, hr 1 _ rfl, hr 2 _ rfl⟩
  simp only [World.setCells]
  rw [RowKit.Below.heap_setCell _ _ _ _ (by show k ≠ W.heap.size; omega), RowKit.Below.heap_setCell _ _ _ _ (by show k ≠ W.heap.size; omega), RowKit.Below.heap_setCell _ _ _ _ (by show k ≠ W.heap.size; omega)]
  exact heap_alloc_old _ _ hk
end
theorem own_some {w w' : World} {t : TypeId} {l : List Int} {v : Value} (h : OwnB w w' t l v) (hl : l ≠ []) : ∃ g cap cur, v = .slice (some ⟨g, 0, none⟩) l.length cap ∧ w.heap.size ≤ g ∧ w'.heap[g]? = some (.cells cur t (0, 0)) ∧ cur.size = cap ∧ l.length ≤ cap ∧ cap ≤ maxLen ∧
    ∀ j, j < l.length → cur.getD j undef = .int .u8 (l.getD j 0) := by
  rcases h with ⟨_, h⟩ | h
  · exact absurd h hl
  · exact h
theorem own_byt {W : World} {ban : Nat → Prop} {g cap : Nat} {cur : Array Value} {t : TypeId} {l : List Int} (hn : ¬ ban g) (hh : W.heap[g]? = some (.cells cur t (0, 0))) (hs : cur.size = cap) (hl : l.length ≤ cap) (hm : cap ≤ maxLen)
    (hc : ∀ j, j < l.length → cur.getD j undef = .int .u8 (l.getD j 0)) : Byt W ban l (.slice (some ⟨g, 0, none⟩) l.length cap) := by
  refine .vt (.vec (C := cx0 ban W) (fun j => [.int .u8 (l.getD j 0)]) (Array.getElem?_eq_some_iff.1 hh).1 hn hl hm (fun j hj => ⟨rfl, rfl⟩) (fun j hj c hc' => ?_) (fun j hj c => ?_))
  · have hc0 : c = 0 := by have : c < 1 := hc'; omega
    subst hc0
    have h1 := hc j hj
    have hjs : j < cur.size := by omega
    show W.cell? ⟨g, 0 + j * 1 + 0, none⟩ = some (.int .u8 (l.getD j 0))
    rw [← h1]
    have e : 0 + j * 1 + 0 = j := by omega
    rw [e]
    simp [World.cell?, hh, hjs, Array.getD_eq_getD_getElem?]
  · match c with
    | 0 => exact .val _
    | c + 1 => exact .junk _
def Hp (W : World) (g : Nat) (cur : Array Value) : Prop := W.heap[g]? = some (.cells cur 5 (0, 0))
theorem Hp.bl {W W1 : World} {g : Nat} {cur : Array Value} (h : Hp W g cur) (hb : RowKit.Below W.heap.size W W1) : Hp W1 g cur := (hb.block g (Array.getElem?_eq_some_iff.1 h).1).trans h
theorem Hp.lt {W : World} {g : Nat} {cur : Array Value} (h : Hp W g cur) : g < W.heap.size := (Array.getElem?_eq_some_iff.1 h).1
/-- What may be written: a block, and what a call made. -/
def Rg (ga lo hi : Nat) : Nat → Prop := fun B => B = ga ∨ (lo ≤ B ∧ B < hi)
/-- What a call may not meet: all that was there, but a block. -/
def Xb (ga hi : Nat) : Nat → Prop := fun B => B < hi ∧ B ≠ ga
/-- The bytes' row. -/
structure Rw (l : List Int) (cap : Nat) (cur : Array Value) : Prop where
  sz : cur.size = cap
  ln : l.length ≤ cap
  mx : cap ≤ maxLen
  ct : ∀ j, j < l.length → cur.getD j undef = .int .u8 (l.getD j 0)
theorem Rw.byt {W : World} {ban : Nat → Prop} {g cap : Nat} {cur : Array Value} {l : List Int} (h : Rw l cap cur) (hh : Hp W g cur) (hn : ¬ ban g) : Byt W ban l (.slice (some ⟨g, 0, none⟩) l.length cap) := own_byt hn hh h.sz h.ln h.mx h.ct
theorem Xb_lt (ga n : Nat) : ∀ B, Xb ga n B → B < n := fun B h => h.1
theorem Xb_no (ga n : Nat) : ¬ Xb ga n ga := fun h => h.2 rfl
theorem ban_one {ga n : Nat} (h : ga < n) : ∀ B, (fun B => B = ga) B → B < n := fun B e => by
  have e : B = ga := e
  omega
theorem Rg_lt {ga lo hi n : Nat} (h : ga < n) (h2 : hi ≤ n) : ∀ B, Rg ga lo hi B → B < n := fun B hB => by
  rcases hB with hB | hB
  · omega
  · omega
theorem Byt.reg {w6 w7 w8 : World} {ga hi : Nat} {l : List Int} {u : Value} (h : Byt w6 (fun B => B = ga) l u) (h7 : RowKit.Below w6.heap.size w6 w7) (h8 : RowKit.Below w7.heap.size w7 w8) : Byt w8 (Rg ga w6.heap.size hi) l u :=
  h.le (Nat.le_trans h7.size h8.size) (fun B hB _ => (h8.block B (Nat.lt_of_lt_of_le hB h7.size)).trans (h7.block B hB)) (fun B hB h => by
    rcases h with h | h
    · exact h
    · have := h.1; omega)
theorem info26 : (Try.prog.info? 26).map (·.size) = some 3 := by kernel_rfl
theorem slice_one {c : CT} {l : List c.D} {ban : Nat → Prop} {W : World} {v : Value} (h : VRel (cx0 ban W) false (.vt c l) v) : v.oneCell' = true := by
  obtain ⟨o, cap, rfl, _⟩ := vt_open h
  rfl
end Go.Va

/-
  What the marks meet: the region's shape.
  Conditions: none.
-/
namespace Go.Va
open Go.Proofs Go.RowKit
theorem frozen_zero {W : World} {B o : Nat} (h : ∀ cur t fr, W.heap[B]? = some (.cells cur t fr) → fr = (0, 0)) : W.frozen? ⟨B, o, none⟩ = false := by
  unfold World.frozen?
  cases hh : W.heap[B]? with
  | none => simp [hh]
  | some ob =>
    cases ob with
    | cells cur t fr =>
      have := h cur t fr hh
      subst this
      simp [hh]
    | _ => simp [hh]
theorem reg_frz {w6 w7 W : World} {ga : Nat} {cur : Array Value} (hu : Unf w6.heap.size w7) (hb : RowKit.Below w7.heap.size w7 W) (hg : Hp W ga cur) : ∀ B o, Rg ga w6.heap.size w7.heap.size B → W.frozen? ⟨B, o, none⟩ = false := by
  intro B o hB
  refine frozen_zero (fun c t fr hh => ?_)
  rcases hB with rfl | hB
  · rw [show W.heap[B]? = some (.cells cur 5 (0, 0)) from hg] at hh
    cases hh; rfl
  · rw [hb.block B hB.2] at hh
    exact hu B hB.1 c t fr hh
theorem Rg_ge {ga lo hi n : Nat} (h1 : n ≤ ga) (h2 : n ≤ lo) : ∀ B, Rg ga lo hi B → n ≤ B := fun B hB => by
  rcases hB with hB | hB
  · omega
  · omega
theorem Rg_no {ga lo hi n : Nat} (h1 : ga < n) (h2 : hi ≤ n) : ¬ Rg ga lo hi n := fun hB => by
  rcases hB with hB | hB
  · omega
  · omega
theorem Img.reg {W0 W12 wr : World} {R : Nat → Prop} {x : T25} {v : Value} (h : Img W0 Bot x v) (hb : RowKit.Below W0.heap.size W0 W12) (hs : Soft R W12 wr) (hR : ∀ B, R B → W0.heap.size ≤ B) : Img wr R x v :=
  h.le (by rw [hs.size]; exact hb.size) (fun B hB _ => (hs.out B (fun r => by have := hR B r; omega)).trans (hb.block B hB)) (fun B hB r => absurd (hR B r) (by omega))
theorem Byt.reg0 {W0 W12 wr : World} {R : Nat → Prop} {l : List Int} {v : Value} (h : Byt W0 Bot l v) (hb : RowKit.Below W0.heap.size W0 W12) (hs : Soft R W12 wr) (hR : ∀ B, R B → W0.heap.size ≤ B) : Byt wr R l v :=
  h.le (by rw [hs.size]; exact hb.size) (fun B hB _ => (hs.out B (fun r => by have := hR B r; omega)).trans (hb.block B hB)) (fun B hB r => absurd (hR B r) (by omega))
theorem reg_of {ga lo hi B : Nat} (h : ¬ Xb ga lo B) (hB : B < hi) : Rg ga lo hi B := by
  by_cases e : B = ga
  · exact .inl e
  · refine .inr ⟨?_, hB⟩
    rcases Nat.lt_or_ge B lo with h2 | h2
    · exact absurd ⟨h2, e⟩ h
    · exact h2
/-- A byte row's places. -/
def BytF (W : World) (R : Nat → Prop) (o : Option Addr) (n cap : Nat) : Prop := ∀ j, j < n → ∃ B off, o = some ⟨B, off, none⟩ ∧ R B ∧ n ≤ maxLen ∧ ∃ a, W.cell? ⟨B, off + j, none⟩ = some (.int .u8 a)
def SegF (W : World) (R : Nat → Prop) (o : Option Addr) (n cap : Nat) : Prop := ∀ j, j < n → ∃ B off, o = some ⟨B, off, none⟩ ∧ R B ∧ n ≤ maxLen ∧ (∃ a, W.cell? ⟨B, off + j * 6, none⟩ = some (.int .u32 a)) ∧
  ∃ od nd cd, W.cell? ⟨B, off + j * 6 + 5, none⟩ = some (.slice od nd cd) ∧ BytF W R od nd cd
def SymF (W : World) (R : Nat → Prop) (o : Option Addr) (n cap : Nat) : Prop := ∀ j, j < n → ∃ B off, o = some ⟨B, off, none⟩ ∧ R B ∧ n ≤ maxLen ∧ ∃ a, W.cell? ⟨B, off + j * 2, none⟩ = some (.string a)
theorem mv7 {w7 W : World} (hb : RowKit.Below w7.heap.size w7 W) {B o : Nat} {v : Value} (h : w7.cell? ⟨B, o, none⟩ = some v) : W.cell? ⟨B, o, none⟩ = some v := cell_blk h (hb.block B (World.block_lt_of_cell? w7 ⟨B, o, none⟩ h))
theorem byt_fact {w7 W : World} {ga lo : Nat} {l : List Int} {v : Value} (h : VRel (cx0 (Xb ga lo) w7) false (.vt (.int .u8) l) v) (hb : RowKit.Below w7.heap.size w7 W) : ∃ o n cap, v = .slice o n cap ∧ BytF W (Rg ga lo w7.heap.size) o n cap := by
  obtain ⟨o, cap, e, hj⟩ := byt_open h
  refine ⟨o, _, cap, e, fun j hl => ?_⟩
  obtain ⟨B, off, e1, h1, h2, h3, a, h4⟩ := hj j hl
  exact ⟨B, off, e1, reg_of h1 h2, h3, a, mv7 hb h4⟩
theorem img_fact {w7 W : World} {ga lo : Nat} {x : T25} {E : Int} {x1 x2 : Value} (h : Img w7 (Xb ga lo) x (.agg #[.int .u32 E, x1, x2])) (hb : RowKit.Below w7.heap.size w7 W) :
    (∃ o n cap, x1 = .slice o n cap ∧ SegF W (Rg ga lo w7.heap.size) o n cap) ∧ ∃ o n cap, x2 = .slice o n cap ∧ SymF W (Rg ga lo w7.heap.size) o n cap := by
  obtain ⟨s1, s2, e, h1, h2⟩ := img_open h
  have e1 : s1 = x1 := by have := Value.agg.inj e; simp at this; exact this.2.1.symm
  have e2 : s2 = x2 := by have := Value.agg.inj e; simp at this; exact this.2.2.symm
  subst e1; subst e2
  constructor
  · obtain ⟨o, cap, e, hj⟩ := seg_open h1
    refine ⟨o, _, cap, e, fun j hl => ?_⟩
    obtain ⟨B, off, e1, k1, k2, k3, ⟨a, k4⟩, d, u, k5, k6⟩ := hj j hl
    obtain ⟨od, nd, cd, e2, hd⟩ := byt_fact (W := W) k6 hb
    subst e2
    exact ⟨B, off, e1, reg_of k1 k2, k3, ⟨a, mv7 hb k4⟩, od, nd, cd, mv7 hb k5, hd⟩
  · obtain ⟨o, cap, e, hj⟩ := sym_open h2
    refine ⟨o, _, cap, e, fun j hl => ?_⟩
    obtain ⟨B, off, e1, k1, k2, k3, a, k4⟩ := hj j hl
    exact ⟨B, off, e1, reg_of k1 k2, k3, a, mv7 hb k4⟩
theorem Rw.fact {W : World} {R : Nat → Prop} {g cap : Nat} {cur : Array Value} {l : List Int} (h : Rw l cap cur) (hh : Hp W g cur) (hR : R g) : BytF W R (some ⟨g, 0, none⟩) l.length cap := fun j hj => by
  refine ⟨g, 0, rfl, hR, Nat.le_trans h.ln h.mx, l.getD j 0, ?_⟩
  have h1 := h.ct j hj
  have hjs : j < cur.size := by have := h.ln; have := h.sz; omega
  rw [← h1, Nat.zero_add]
  simp [World.cell?, show W.heap[g]? = some (.cells cur 5 (0, 0)) from hh, hjs, Array.getD_eq_getD_getElem?]
section
variable {R : Nat → Prop} {W W' : World}
theorem Soft.sl (hs : Soft R W W') {B o : Nat} {a : Option Addr} {n c : Nat} (hR : R B) (h : W.cell? ⟨B, o, none⟩ = some (.slice a n c)) : W'.cell? ⟨B, o, none⟩ = some (.slice a n c) := by
  obtain ⟨u, hu, hk⟩ := hs.cell B o _ hR h
  rw [hu, hk.slice]
theorem Soft.nm (hs : Soft R W W') {B o : Nat} {k : IntKind} {a : Int} (hR : R B) (h : W.cell? ⟨B, o, none⟩ = some (.int k a)) : ∃ b, W'.cell? ⟨B, o, none⟩ = some (.int k b) := by
  obtain ⟨u, hu, hk⟩ := hs.cell B o _ hR h
  obtain ⟨b, rfl⟩ := hk.num
  exact ⟨b, hu⟩
/-- A byte's place behind marks. -/
theorem byt_at {o : Option Addr} {n cap : Nat} (h : BytF W R o n cap) (hs : Soft R W W') (hf : ∀ B o, R B → W.frozen? ⟨B, o, none⟩ = false) {j : Nat} (hj : j < n) :
    ∃ B off, o = some ⟨B, off, none⟩ ∧ R B ∧ n ≤ maxLen ∧ (∃ a, W'.cell? ⟨B, off + j, none⟩ = some (.int .u8 a)) ∧ W'.frozen? ⟨B, off + j, none⟩ = false := by
  obtain ⟨B, off, e, h1, h2, a, h3⟩ := h j hj
  obtain ⟨u, hu, hk⟩ := hs.cell B _ _ h1 h3
  obtain ⟨b, rfl⟩ := hk.num
  exact ⟨B, off, e, h1, h2, ⟨b, hu⟩, hs.frz B _ h1 (hf B _ h1)⟩
theorem seg_at {o : Option Addr} {n cap : Nat} (h : SegF W R o n cap) (hs : Soft R W W') (hf : ∀ B o, R B → W.frozen? ⟨B, o, none⟩ = false) {j : Nat} (hj : j < n) :
    ∃ B off, o = some ⟨B, off, none⟩ ∧ R B ∧ n ≤ maxLen ∧ (∃ a, W'.cell? ⟨B, off + j * 6, none⟩ = some (.int .u32 a)) ∧ W'.frozen? ⟨B, off + j * 6, none⟩ = false ∧
      ∃ od nd cd, W'.cell? ⟨B, off + j * 6 + 5, none⟩ = some (.slice od nd cd) ∧ BytF W R od nd cd := by
  obtain ⟨B, off, e, h1, h2, ⟨a, h3⟩, od, nd, cd, h4, h5⟩ := h j hj
  obtain ⟨u, hu, hk⟩ := hs.cell B _ _ h1 h3
  obtain ⟨b, rfl⟩ := hk.num
  obtain ⟨u, hu2, hk2⟩ := hs.cell B _ _ h1 h4
  have := hk2.slice
  subst this
  exact ⟨B, off, e, h1, h2, ⟨b, hu⟩, hs.frz B _ h1 (hf B _ h1), od, nd, cd, hu2, h5⟩
theorem sym_at {o : Option Addr} {n cap : Nat} (h : SymF W R o n cap) (hs : Soft R W W') (hf : ∀ B o, R B → W.frozen? ⟨B, o, none⟩ = false) {j : Nat} (hj : j < n) :
    ∃ B off, o = some ⟨B, off, none⟩ ∧ R B ∧ n ≤ maxLen ∧ (∃ a, W'.cell? ⟨B, off + j * 2, none⟩ = some (.string a)) ∧ W'.frozen? ⟨B, off + j * 2, none⟩ = false := by
  obtain ⟨B, off, e, h1, h2, a, h3⟩ := h j hj
  obtain ⟨u, hu, hk⟩ := hs.cell B _ _ h1 h3
  obtain ⟨b, rfl⟩ := hk.text
  exact ⟨B, off, e, h1, h2, ⟨b, hu⟩, hs.frz B _ h1 (hf B _ h1)⟩
end
end Go.Va

/-
  What Write and Read hand out is the caller's: the walk of the law. (Printed by wip/eo/genox.py.)
  Conditions: none.
-/
namespace Go.Va
open Go.Proofs Go.RowKit
set_option maxHeartbeats 8000000 in
set_option maxRecDepth 100000 in
theorem own_walk0 (k : Nat) {x : T25} {l : List Int} (hal : atlaslaw23_alive.f k = some true) (hwr : elf_Write.f k x = some (l, 0)) (hrw : atlasref23_Write.f k x = some (l, 0)) (how : atlaslaw23_own.f k x = some x)
    (hsm : atlaslaw23_same.f k x x = some true) (hrd : elf_Read.f k l = some (x, 0)) (hby : ByB l) (hpos : l ≠ []) {w : World} {v : Value} (hv : Img w Bot x v) :
    Calls Try.prog 7 #[v] w fun e w' => e = .returned (.bool true) ∧ RowKit.Below w.heap.size w w' := by
  obtain ⟨i1, i2, rfl, hi1, hi2⟩ := img_open hv
  have HI0 := Asd.mk (hv.bl (bl_alloc w (.cells #[.int .u32 x.f0_Entry, i1, i2] 26)))
  have HB0 := Asd.mk (bl_alloc w (.cells #[.int .u32 x.f0_Entry, i1, i2] 26))
  have iB0 : Bx (w.alloc (.cells #[.int .u32 x.f0_Entry, i1, i2] 26)) w.heap.size x.f0_Entry i1 i2 := Bx.new _ _ _ _ _
  have ic0 := iB0.c0; have ic1 := iB0.c1; have ic2 := iB0.c2
  clear hv hi1 hi2
  go_enter Try.func7, Try.ntmps7
  go_wp2_with (first
    | (go_at_call 22; with_reducible refine (con_alive k hal _).mono ?_; rintro e w1 ⟨hf1, rfl⟩
       have HB1 := Asd.mk (bl_trans HB0.out hf1.b)
       have iB1 := iB0.bl hf1.b
       clear ic0 ic1 ic2
       have ic0 := iB1.c0; have ic1 := iB1.c1; have ic2 := iB1.c2
       have HI1 := Asd.mk (HI0.out.bl hf1.b))
    | (go_at_call 18; with_reducible refine (con_ref k hrw no_ban HI1.out).mono ?_; rintro e w2 ⟨hf2, uw, rfl, hw2⟩
       have HB2 := Asd.mk (bl_trans HB1.out hf2.b)
       have iB2 := iB1.bl hf2.b
       clear ic0 ic1 ic2
       have ic0 := iB2.c0; have ic1 := iB2.c1; have ic2 := iB2.c2
       have HI2 := Asd.mk (HI1.out.bl hf2.b)
       have HW2 := Asd.mk hw2)
    | (go_at_call 11; with_reducible refine (con_own k how no_ban HI2.out).mono ?_; rintro e w3 ⟨hf3, um, rfl, hm3⟩
       have HB3 := Asd.mk (bl_trans HB2.out hf3.b)
       have iB3 := iB2.bl hf3.b
       clear ic0 ic1 ic2
       have ic0 := iB3.c0; have ic1 := iB3.c1; have ic2 := iB3.c2
       have HI3 := Asd.mk (HI2.out.bl hf3.b)
       have HW3 := Asd.mk (HW2.out.bl hf3.b)
       obtain ⟨m1, m2, rfl, hm1, hm2⟩ := img_open hm3
       have pm1 := slice_one hm1
       have pm2 := slice_one hm2
       have HM3 := Asd.mk hm3
       clear hm1 hm2 hm3)
    | ((with_reducible refine gate_st (t := 26) (p := 5) rfl ?_); go_loud (refine box_store info26 rfl (.tmp 5) (.tmp 30) rfl rfl rfl pm1 pm2 ?_); intro w4 hb4 hl4 hE4
       have HB4 := Asd.mk (bl_trans HB3.out hb4)
       have iB4 := iB3.bl hb4
       clear ic0 ic1 ic2
       have ic0 := iB4.c0; have ic1 := iB4.c1; have ic2 := iB4.c2
       have HI4 := Asd.mk (HI3.out.bl hb4)
       have HW4 := Asd.mk (HW3.out.bl hb4)
       have HM4 := Asd.mk (HM3.out.bl hb4)
       have mB4 := hE4
       have mc0 := mB4.c0; have mc1 := mB4.c1; have mc2 := mB4.c2)
    | (have _x := HMA; go_at_call 17; with_reducible refine (con_write k hwr (ban_one HG5.out.lt) HMA.out).mono ?_; rintro e w6 ⟨hf6, ub, rfl, hby6⟩
       have HB6 := Asd.mk (bl_trans HB5.out hf6.b)
       have iB6 := iB5.bl hf6.b
       clear ic0 ic1 ic2
       have ic0 := iB6.c0; have ic1 := iB6.c1; have ic2 := iB6.c2
       have mB6 := mB5.bl hf6.b
       clear mc0 mc1 mc2
       have mc0 := mB6.c0; have mc1 := mB6.c1; have mc2 := mB6.c2
       have HI6 := Asd.mk (HI5.out.bl hf6.b)
       have HW6 := Asd.mk (HW5.out.bl hf6.b)
       have HM6 := Asd.mk (HM5.out.bl hf6.b)
       have HG6 := Asd.mk (HG5.out.bl hf6.b)
       have HY6 := Asd.mk hby6
       clear _x hby6 HMA
       have cva := con_string (RWA.out.byt (ban := Bot) HG6.out (fun h => h)) hby
       have cvw := con_string HW6.out hby
       have cvb := con_string HY6.out hby)
    | (go_at_call 17; with_reducible refine (con_writeB k hwr no_ban HM4.out).mono ?_; rintro e w5 ⟨hf5, ua, rfl, ha5⟩
       have HB5 := Asd.mk (bl_trans HB4.out hf5.b)
       have iB5 := iB4.bl hf5.b
       clear ic0 ic1 ic2
       have ic0 := iB5.c0; have ic1 := iB5.c1; have ic2 := iB5.c2
       have mB5 := mB4.bl hf5.b
       clear mc0 mc1 mc2
       have mc0 := mB5.c0; have mc1 := mB5.c1; have mc2 := mB5.c2
       have HI5 := Asd.mk (HI4.out.bl hf5.b)
       have HW5 := Asd.mk (HW4.out.bl hf5.b)
       have HM5 := Asd.mk (HM4.out.bl hf5.b)
       obtain ⟨ga, capa, cura, rfl, hga, hha, hsa, hla, hca, hcca⟩ := own_some ha5 hpos
       have RWA := Asd.mk (Rw.mk hsa hla hca hcca)
       have HG5 := Asd.mk (show Hp w5 ga cura from hha)
       have LGA := Asd.mk hga
       have HMA : Asd (Img w5 (fun B => B = ga) x (.agg #[.int .u32 x.f0_Entry, m1, m2])) := ⟨HM3.out.le (Nat.le_trans hb4.size hf5.b.size) (fun B hB _ => (hf5.b.block B (Nat.lt_of_lt_of_le hB hb4.size)).trans (hb4.block B hB)) (fun B hB e => by have e : B = ga := e; have := hb4.size; omega)⟩
       clear ha5 hha hsa hla hca hcca hga)
    | (have hR8 := Rg_lt (lo := w6.heap.size) HG8.out.lt hb8.size; have hY8 := HY6.out.reg (hi := w7.heap.size) hf7.b hb8; go_at_call 20; with_reducible refine (con_read k hrd hR8 hY8).mono ?_; rintro e w9 ⟨hf9, uy, rfl, hy9⟩
       have HB9 := Asd.mk (bl_trans HB8.out hf9.b)
       have iB9 := iB8.bl hf9.b
       clear ic0 ic1 ic2
       have ic0 := iB9.c0; have ic1 := iB9.c1; have ic2 := iB9.c2
       have mB9 := mB8.bl hf9.b
       clear mc0 mc1 mc2
       have mc0 := mB9.c0; have mc1 := mB9.c1; have mc2 := mB9.c2
       have xB9 := xB8.bl hf9.b
       clear xc0 xc1 xc2
       have xc0 := xB9.c0; have xc1 := xB9.c1; have xc2 := xB9.c2
       have HI9 := Asd.mk (HI8.out.bl hf9.b)
       have HW9 := Asd.mk (HW8.out.bl hf9.b)
       have HM9 := Asd.mk (HM8.out.bl hf9.b)
       have HG9 := Asd.mk (HG8.out.bl hf9.b)
       have HY9 := Asd.mk (HY8.out.bl hf9.b)
       have HX9 := Asd.mk (HX8.out.bl hf9.b)
       obtain ⟨y1, y2, rfl, hy1, hy2⟩ := img_open hy9
       have py1 := slice_one hy1
       have py2 := slice_one hy2
       have HK9 := Asd.mk hy9
       clear hy1 hy2 hy9 hR8 hY8)
    | (have hX6 := Xb_lt ga w6.heap.size; have hXa := RWA.out.byt HG6.out (Xb_no ga w6.heap.size); go_at_call 20; with_reducible refine (con_read k hrd hX6 hXa).mono ?_; rintro e w7 ⟨hf7, ux, rfl, hx7⟩
       have HB7 := Asd.mk (bl_trans HB6.out hf7.b)
       have iB7 := iB6.bl hf7.b
       clear ic0 ic1 ic2
       have ic0 := iB7.c0; have ic1 := iB7.c1; have ic2 := iB7.c2
       have mB7 := mB6.bl hf7.b
       clear mc0 mc1 mc2
       have mc0 := mB7.c0; have mc1 := mB7.c1; have mc2 := mB7.c2
       have HI7 := Asd.mk (HI6.out.bl hf7.b)
       have HW7 := Asd.mk (HW6.out.bl hf7.b)
       have HM7 := Asd.mk (HM6.out.bl hf7.b)
       have HG7 := Asd.mk (HG6.out.bl hf7.b)
       have HY7 := Asd.mk (HY6.out.bl hf7.b)
       obtain ⟨x1, x2, rfl, hx1, hx2⟩ := img_open hx7
       have px1 := slice_one hx1
       have px2 := slice_one hx2
       have HX7 := Asd.mk hx7
       have HU := Asd.mk hf7.u
       clear hx1 hx2 hx7 cva cvw cvb hX6 hXa)
    | ((with_reducible refine gate_st (t := 26) (p := 10) rfl ?_); go_loud (refine box_store info26 rfl (.tmp 10) (.tmp 61) rfl rfl rfl px1 px2 ?_); intro w8 hb8 hl8 hE8
       have HB8 := Asd.mk (bl_trans HB7.out hb8)
       have iB8 := iB7.bl hb8
       clear ic0 ic1 ic2
       have ic0 := iB8.c0; have ic1 := iB8.c1; have ic2 := iB8.c2
       have mB8 := mB7.bl hb8
       clear mc0 mc1 mc2
       have mc0 := mB8.c0; have mc1 := mB8.c1; have mc2 := mB8.c2
       have HI8 := Asd.mk (HI7.out.bl hb8)
       have HW8 := Asd.mk (HW7.out.bl hb8)
       have HM8 := Asd.mk (HM7.out.bl hb8)
       have HG8 := Asd.mk (HG7.out.bl hb8)
       have HY8 := Asd.mk (HY7.out.bl hb8)
       have HX8 := Asd.mk (HX7.out.bl hb8)
       have xB8 := hE8
       have xc0 := xB8.c0; have xc1 := xB8.c1; have xc2 := xB8.c2)
    | ((with_reducible refine gate_st (t := 26) (p := 12) rfl ?_); go_loud (refine box_store info26 rfl (.tmp 12) (.tmp 66) rfl rfl rfl py1 py2 ?_); intro w10 hb10 hl10 hE10
       have HB10 := Asd.mk (bl_trans HB9.out hb10)
       have iB10 := iB9.bl hb10
       clear ic0 ic1 ic2
       have ic0 := iB10.c0; have ic1 := iB10.c1; have ic2 := iB10.c2
       have mB10 := mB9.bl hb10
       clear mc0 mc1 mc2
       have mc0 := mB10.c0; have mc1 := mB10.c1; have mc2 := mB10.c2
       have xB10 := xB9.bl hb10
       clear xc0 xc1 xc2
       have xc0 := xB10.c0; have xc1 := xB10.c1; have xc2 := xB10.c2
       have HI10 := Asd.mk (HI9.out.bl hb10)
       have HW10 := Asd.mk (HW9.out.bl hb10)
       have HM10 := Asd.mk (HM9.out.bl hb10)
       have HG10 := Asd.mk (HG9.out.bl hb10)
       have HY10 := Asd.mk (HY9.out.bl hb10)
       have HX10 := Asd.mk (HX9.out.bl hb10)
       have HK10 := Asd.mk (HK9.out.bl hb10)
       have yB10 := hE10
       have yc0 := yB10.c0; have yc1 := yB10.c1; have yc2 := yB10.c2)
    | (have _x := HS_; go_at_call 19; with_reducible refine (con_same k hsm no_ban HK11.out.free HI11.out).mono ?_; rintro e w12 ⟨hf12, rfl⟩
       have HB12 := Asd.mk (bl_trans HB11.out hf12.b)
       have iB12 := iB11.bl hf12.b
       clear ic0 ic1 ic2
       have ic0 := iB12.c0; have ic1 := iB12.c1; have ic2 := iB12.c2
       have mB12 := mB11.bl hf12.b
       clear mc0 mc1 mc2
       have mc0 := mB12.c0; have mc1 := mB12.c1; have mc2 := mB12.c2
       have xB12 := xB11.bl hf12.b
       clear xc0 xc1 xc2
       have xc0 := xB12.c0; have xc1 := xB12.c1; have xc2 := xB12.c2
       have yB12 := yB11.bl hf12.b
       clear yc0 yc1 yc2
       have yc0 := yB12.c0; have yc1 := yB12.c1; have yc2 := yB12.c2
       have HI12 := Asd.mk (HI11.out.bl hf12.b)
       have HW12 := Asd.mk (HW11.out.bl hf12.b)
       have HM12 := Asd.mk (HM11.out.bl hf12.b)
       have HG12 := Asd.mk (HG11.out.bl hf12.b)
       have HY12 := Asd.mk (HY11.out.bl hf12.b)
       have HX12 := Asd.mk (HX11.out.bl hf12.b)
       have HK12 := Asd.mk (HK11.out.bl hf12.b)
       clear _x)
    | (go_at_call 19; with_reducible refine (con_same k hsm no_ban HX10.out.free HI10.out).mono ?_; rintro e w11 ⟨hf11, rfl⟩
       have HB11 := Asd.mk (bl_trans HB10.out hf11.b)
       have iB11 := iB10.bl hf11.b
       clear ic0 ic1 ic2
       have ic0 := iB11.c0; have ic1 := iB11.c1; have ic2 := iB11.c2
       have mB11 := mB10.bl hf11.b
       clear mc0 mc1 mc2
       have mc0 := mB11.c0; have mc1 := mB11.c1; have mc2 := mB11.c2
       have xB11 := xB10.bl hf11.b
       clear xc0 xc1 xc2
       have xc0 := xB11.c0; have xc1 := xB11.c1; have xc2 := xB11.c2
       have yB11 := yB10.bl hf11.b
       clear yc0 yc1 yc2
       have yc0 := yB11.c0; have yc1 := yB11.c1; have yc2 := yB11.c2
       have HI11 := Asd.mk (HI10.out.bl hf11.b)
       have HW11 := Asd.mk (HW10.out.bl hf11.b)
       have HM11 := Asd.mk (HM10.out.bl hf11.b)
       have HG11 := Asd.mk (HG10.out.bl hf11.b)
       have HY11 := Asd.mk (HY10.out.bl hf11.b)
       have HX11 := Asd.mk (HX10.out.bl hf11.b)
       have HK11 := Asd.mk (HK10.out.bl hf11.b)
       have HS_ := Asd.mk True.intro))
  have HBl := Asd.mk (bl_trans (bl_trans (bl_trans (bl_trans hb8 hf9.b) hb10) hf11.b) hf12.b)
  have HF := Asd.mk (reg_frz HU.out HBl.out HG12.out)
  obtain ⟨⟨oS, nS, cS, rfl, hS⟩, oY, nY, cY, rfl, hY⟩ := img_fact HX7.out HBl.out
  have SF := Asd.mk hS
  have YF := Asd.mk hY
  have AF := Asd.mk (RWA.out.fact HG12.out (R := Rg ga w6.heap.size w7.heap.size) (.inl rfl))
  have N10 : Asd (¬ Rg ga w6.heap.size w7.heap.size w7.heap.size) := ⟨fun h => by
    rcases h with h | h
    · have := HG7.out.lt; omega
    · omega⟩
  clear hS hY
  go_loopg [14] (l.length + 1) (fun kq v14 w' => ∃ j : Nat, v14 = .int .i64 (j : Int) ∧ Asd (j + kq = l.length + 1 ∧ j ≤ l.length) ∧ Asd (Soft (Rg ga w6.heap.size w7.heap.size) w12 w'))
  case atStart => exact ⟨0, rfl, ⟨by omega⟩, ⟨Soft.refl _ _⟩⟩
  case round =>
    obtain ⟨j, rfl, HJ, HS1⟩ := hrel
    have hJ := HJ.out
    cases gk with
    | zero => omega
    | succ k1 =>
      by_cases hj : j < l.length
      · have d1 : decide ((j : Int) < (l.length : Int)) = true := decide_eq_true (by omega)
        obtain ⟨B, off, e, hR, hn, ⟨a, hz⟩, hf⟩ := byt_at AF.out HS1.out HF.out hj
        cases e
        rw [Nat.zero_add] at hz hf
        have HR1 := Asd.mk hR
        have j0 : (0 ≤ (j : Int)) = True := eq_true (by omega)
        have j3 : ((j : Int) < (l.length : Int)) = True := eq_true (by omega)
        have hLL := Asd.mk (show l.length ≤ 9223372036854775807 by have h1 := RWA.out.ln; have h2 := RWA.out.mx; have h3 := maxLen_v; omega)
        clear hJ hR hn
        go_wp2
        go_roundg k1
        case measure => omega
        case rel => exact ⟨j + 1, by have := hLL.out; rw [show wrap64 ((j : Int) + 1) = ((j + 1 : Nat) : Int) by unfold wrap64; omega], ⟨by have := HJ.out; omega⟩, ⟨HS1.out.set HR1.out hz (.inr (.inl ⟨_, _, _, rfl, rfl⟩))⟩⟩
      · have hjn : j = l.length := by omega
        have d1 : decide ((j : Int) < (l.length : Int)) = false := decide_eq_false (by omega)
        subst hjn
        clear hJ hj HJ
        go_wp2
        go_loopg [15] (nS + 1) (fun kq v15 w' => ∃ j : Nat, v15 = .int .i64 (j : Int) ∧ Asd (j + kq = nS + 1 ∧ j ≤ nS) ∧ Asd (Soft (Rg ga w6.heap.size w7.heap.size) w12 w'))
        case atStart => exact ⟨0, rfl, ⟨by omega⟩, HS1⟩
        case round =>
          clear HS1
          obtain ⟨j, rfl, HJ, HS2⟩ := hrel
          have hJ := HJ.out
          cases gk with
          | zero => omega
          | succ k2 =>
            have xd := (xB12.mv (HS2.out.out _ N10.out)).c1
            by_cases hj : j < nS
            · have d1 : decide ((j : Int) < (nS : Int)) = true := decide_eq_true (by omega)
              have HJJ := Asd.mk hj
              clear hJ
              go_wp2
              obtain ⟨B, off, e, hR, hn, ⟨a0, ha0⟩, od, nd, cd, h5, hBF⟩ := SF.out j hj
              cases e
              have HA0 := Asd.mk ha0
              have H5 := Asd.mk h5
              have BF := Asd.mk hBF
              have HRS := Asd.mk hR
              have HNS := Asd.mk hn
              clear ha0 h5 hBF hR hn d1 hj
              go_loopg [16] (nd + 1) (fun kq v16 w' => ∃ i : Nat, v16 = .int .i64 (i : Int) ∧ Asd (i + kq = nd + 1 ∧ i ≤ nd) ∧ Asd (Soft (Rg ga w6.heap.size w7.heap.size) w12 w'))
              case atStart => exact ⟨0, rfl, ⟨by omega⟩, HS2⟩
              case round =>
                clear HS2 xd
                obtain ⟨i, rfl, HII, HS3⟩ := hrel
                have hI := HII.out
                cases gk with
                | zero => omega
                | succ k3 =>
                  have xd := (xB12.mv (HS3.out.out _ N10.out)).c1
                  have hz5 := HS3.out.sl HRS.out H5.out
                  have j0 : (0 ≤ (j : Int)) = True := eq_true (by omega)
                  have j3 : ((j : Int) < (nS : Int)) = True := eq_true (by have := HJJ.out; omega)
                  by_cases hi : i < nd
                  · have d2 : decide ((i : Int) < (nd : Int)) = true := decide_eq_true (by omega)
                    obtain ⟨B2, off2, e2, hR2, hn2, ⟨a2, hz⟩, hf⟩ := byt_at BF.out HS3.out HF.out hi
                    cases e2
                    have HR2 := Asd.mk hR2
                    have i0 : (0 ≤ (i : Int)) = True := eq_true (by omega)
                    have i3 : ((i : Int) < (nd : Int)) = True := eq_true (by omega)
                    have HN2 := Asd.mk hn2
                    clear hI hR2 hn2
                    go_wp2
                    go_roundg k3
                    case measure => omega
                    case rel => exact ⟨i + 1, by have h1 := HN2.out; have h2 := maxLen_v; rw [show wrap64 ((i : Int) + 1) = ((i + 1 : Nat) : Int) by unfold wrap64; omega], ⟨by have := HII.out; omega⟩, ⟨HS3.out.set HR2.out hz (.inr (.inl ⟨_, _, _, rfl, rfl⟩))⟩⟩
                  · have hin : i = nd := by omega
                    have d2 : decide ((i : Int) < (nd : Int)) = false := decide_eq_false (by omega)
                    subst hin
                    obtain ⟨b0, hz0⟩ := HS3.out.nm HRS.out HA0.out
                    have hf0 := HS3.out.frz _ (off + j * 6) HRS.out (HF.out _ _ HRS.out)
                    clear hI hi
                    go_wp2
                    go_roundg k2
                    case measure => omega
                    case rel => exact ⟨j + 1, by have h1 := HNS.out; have h2 := maxLen_v; have h3 := HJJ.out; rw [show wrap64 ((j : Int) + 1) = ((j + 1 : Nat) : Int) by unfold wrap64; omega], ⟨by have := HJ.out; have := HJJ.out; omega⟩, ⟨HS3.out.set HRS.out hz0 (.inr (.inl ⟨_, _, _, rfl, rfl⟩))⟩⟩
            · have hjn : j = nS := by omega
              have d1 : decide ((j : Int) < (nS : Int)) = false := decide_eq_false (by omega)
              subst hjn
              clear hJ hj HJ
              go_wp2
              go_loopg [17] (nY + 1) (fun kq v17 w' => ∃ i : Nat, v17 = .int .i64 (i : Int) ∧ Asd (i + kq = nY + 1 ∧ i ≤ nY) ∧ Asd (Soft (Rg ga w6.heap.size w7.heap.size) w12 w'))
              case atStart => exact ⟨0, rfl, ⟨by omega⟩, HS2⟩
              case round =>
                clear HS2 xd
                obtain ⟨i, rfl, HII, HS3⟩ := hrel
                have hI := HII.out
                cases gk with
                | zero => omega
                | succ k3 =>
                  have xd := (xB12.mv (HS3.out.out _ N10.out)).c2
                  by_cases hi : i < nY
                  · have d2 : decide ((i : Int) < (nY : Int)) = true := decide_eq_true (by omega)
                    obtain ⟨B2, off2, e2, hR2, hn2, ⟨a2, hz⟩, hf⟩ := sym_at YF.out HS3.out HF.out hi
                    cases e2
                    have HR2 := Asd.mk hR2
                    have HN2 := Asd.mk hn2
                    have i0 : (0 ≤ (i : Int)) = True := eq_true (by omega)
                    have i3 : ((i : Int) < (nY : Int)) = True := eq_true (by omega)
                    clear hI hR2 hn2
                    go_wp2
                    go_roundg k3
                    case measure => omega
                    case rel => exact ⟨i + 1, by have h1 := HN2.out; have h2 := maxLen_v; rw [show wrap64 ((i : Int) + 1) = ((i + 1 : Nat) : Int) by unfold wrap64; omega], ⟨by have := HII.out; omega⟩, ⟨HS3.out.set HR2.out hz (.inr (.inr ⟨_, _, rfl, rfl⟩))⟩⟩
                  · have hin : i = nY := by omega
                    have d2 : decide ((i : Int) < (nY : Int)) = false := decide_eq_false (by omega)
                    subst hin
                    clear hI hi HII
                    have z1 := hf1.b.size
                    have z2 := hf2.b.size
                    have z3 := hf3.b.size
                    have z4 := hb4.size
                    have z5 := hf5.b.size
                    have z6 := hf6.b.size
                    have z7 := hf7.b.size
                    have z8 := hb8.size
                    have z9 := hf9.b.size
                    have z10 := hb10.size
                    have z11 := hf11.b.size
                    have z12 := hf12.b.size
                    have zs := HS3.out.size
                    have zg := LGA.out
                    have hge := Rg_ge (hi := w7.heap.size) zg (Nat.le_trans z5 z6)
                    have k34 := bl_trans hb4 (bl_trans hf5.b (bl_trans hf6.b (bl_trans hf7.b (bl_trans hb8 (bl_trans hf9.b (bl_trans hb10 (bl_trans hf11.b hf12.b)))))))
                    have k2 := bl_trans hf3.b k34
                    have k0 := bl_trans hf1.b (bl_trans hf2.b k2)
                    have k8 := bl_trans hf9.b (bl_trans hb10 (bl_trans hf11.b hf12.b))
                    have HB20 := Asd.mk (HS3.out.below HB12.out (fun B h => Nat.le_trans HB4.out.size (hge B h)))
                    have iB20 := iB12.mv (HS3.out.out _ (fun h => absurd (hge _ h) (by have := iB4.lt; omega)))
                    have mB20 := mB12.mv (HS3.out.out _ (fun h => absurd (hge _ h) (by have := mB4.lt; omega)))
                    have yB20 := yB12.mv (HS3.out.out _ (Rg_no HG9.out.lt (Nat.le_trans z8 z9)))
                    clear ic0 ic1 ic2 mc0 mc1 mc2 xc0 xc1 xc2 yc0 yc1 yc2
                    have ic0 := iB20.c0; have ic1 := iB20.c1; have ic2 := iB20.c2
                    have mc0 := mB20.c0; have mc1 := mB20.c1; have mc2 := mB20.c2
                    have yc0 := yB20.c0; have yc1 := yB20.c1; have yc2 := yB20.c2
                    have HI20 := Asd.mk (HI0.out.reg k0 HS3.out (fun B h => Nat.le_trans (Nat.le_trans z1 (Nat.le_trans z2 (Nat.le_trans z3 z4))) (hge B h)))
                    have HM20 := Asd.mk (HM3.out.reg k34 HS3.out (fun B h => Nat.le_trans z4 (hge B h)))
                    have HW20 := Asd.mk (HW2.out.reg0 k2 HS3.out (fun B h => Nat.le_trans (Nat.le_trans z3 z4) (hge B h)))
                    have HK20 := Asd.mk (HK12.out.soft HS3.out)
                    have HY20 := Asd.mk (((HY6.out.reg (hi := w7.heap.size) hf7.b hb8).bl k8).soft HS3.out)
                    have HRL := Asd.mk (Rg_lt (ga := ga) (lo := w6.heap.size) (hi := w7.heap.size) (n := wr.heap.size) (by have := HG12.out.lt; omega) (by omega))
                    clear z1 z2 z3 z4 z5 z6 z7 z8 z9 z10 z11 z12 zs zg hge k34 k2 k0 k8
                    go_wp2_with (first
                      | (go_at_call 17; with_reducible refine (con_write k hwr HRL.out HM20.out).mono ?_; rintro e w21 ⟨hf21, uc, rfl, hc21⟩
                         have HB21 := Asd.mk (bl_trans HB20.out hf21.b)
                         have iB21 := iB20.bl hf21.b
                         clear ic0 ic1 ic2
                         have ic0 := iB21.c0; have ic1 := iB21.c1; have ic2 := iB21.c2
                         have mB21 := mB20.bl hf21.b
                         clear mc0 mc1 mc2
                         have mc0 := mB21.c0; have mc1 := mB21.c1; have mc2 := mB21.c2
                         have yB21 := yB20.bl hf21.b
                         clear yc0 yc1 yc2
                         have yc0 := yB21.c0; have yc1 := yB21.c1; have yc2 := yB21.c2
                         have HI21 := Asd.mk (HI20.out.bl hf21.b)
                         have HM21 := Asd.mk (HM20.out.bl hf21.b)
                         have HK21 := Asd.mk (HK20.out.bl hf21.b)
                         have HY21 := Asd.mk (HY20.out.bl hf21.b)
                         have HW21 := Asd.mk (HW20.out.bl hf21.b)
                         have HC21 := Asd.mk hc21
                         have HRM := Asd.mk (fun B h => Nat.lt_of_lt_of_le (HRL.out B h) hf21.b.size)
                         clear hc21)
                      | (go_at_call 20; with_reducible refine (con_read k hrd HRM.out HY21.out).mono ?_; rintro e w22 ⟨hf22, uz, rfl, hz22⟩
                         have HB22 := Asd.mk (bl_trans HB21.out hf22.b)
                         have iB22 := iB21.bl hf22.b
                         clear ic0 ic1 ic2
                         have ic0 := iB22.c0; have ic1 := iB22.c1; have ic2 := iB22.c2
                         have mB22 := mB21.bl hf22.b
                         clear mc0 mc1 mc2
                         have mc0 := mB22.c0; have mc1 := mB22.c1; have mc2 := mB22.c2
                         have yB22 := yB21.bl hf22.b
                         clear yc0 yc1 yc2
                         have yc0 := yB22.c0; have yc1 := yB22.c1; have yc2 := yB22.c2
                         have HI22 := Asd.mk (HI21.out.bl hf22.b)
                         have HM22 := Asd.mk (HM21.out.bl hf22.b)
                         have HK22 := Asd.mk (HK21.out.bl hf22.b)
                         have HY22 := Asd.mk (HY21.out.bl hf22.b)
                         have HW22 := Asd.mk (HW21.out.bl hf22.b)
                         have HC22 := Asd.mk (HC21.out.bl hf22.b)
                         obtain ⟨z1, z2, rfl, hz1, hz2⟩ := img_open hz22
                         have pz1 := slice_one hz1
                         have pz2 := slice_one hz2
                         have HZ22 := Asd.mk hz22
                         clear hz1 hz2 hz22)
                      | ((with_reducible refine gate_st (t := 26) (p := 20) rfl ?_); go_loud (refine box_store info26 rfl (.tmp 20) (.tmp 148) rfl rfl rfl pz1 pz2 ?_); intro w23 hb23 hl23 hE23
                         have HB23 := Asd.mk (bl_trans HB22.out hb23)
                         have iB23 := iB22.bl hb23
                         clear ic0 ic1 ic2
                         have ic0 := iB23.c0; have ic1 := iB23.c1; have ic2 := iB23.c2
                         have mB23 := mB22.bl hb23
                         clear mc0 mc1 mc2
                         have mc0 := mB23.c0; have mc1 := mB23.c1; have mc2 := mB23.c2
                         have yB23 := yB22.bl hb23
                         clear yc0 yc1 yc2
                         have yc0 := yB23.c0; have yc1 := yB23.c1; have yc2 := yB23.c2
                         have HI23 := Asd.mk (HI22.out.bl hb23)
                         have HM23 := Asd.mk (HM22.out.bl hb23)
                         have HK23 := Asd.mk (HK22.out.bl hb23)
                         have HY23 := Asd.mk (HY22.out.bl hb23)
                         have HW23 := Asd.mk (HW22.out.bl hb23)
                         have HC23 := Asd.mk (HC22.out.bl hb23)
                         have HZ23 := Asd.mk (HZ22.out.bl hb23)
                         have zB23 := hE23
                         have zc0 := zB23.c0; have zc1 := zB23.c1; have zc2 := zB23.c2
                         have cvb := con_string HY23.out hby
                         have cvw := con_string HW23.out hby
                         have cvc := con_string HC23.out hby)
                      | (have _x := T2; go_at_call 19; with_reducible refine (con_same k hsm no_ban HM25.out.free HI25.out.free).mono ?_; rintro e w26 ⟨hf26, rfl⟩
                         have HB26 := Asd.mk (bl_trans HB25.out hf26.b)
                         have iB26 := iB25.bl hf26.b
                         clear ic0 ic1 ic2
                         have ic0 := iB26.c0; have ic1 := iB26.c1; have ic2 := iB26.c2
                         have mB26 := mB25.bl hf26.b
                         clear mc0 mc1 mc2
                         have mc0 := mB26.c0; have mc1 := mB26.c1; have mc2 := mB26.c2
                         have yB26 := yB25.bl hf26.b
                         clear yc0 yc1 yc2
                         have yc0 := yB26.c0; have yc1 := yB26.c1; have yc2 := yB26.c2
                         have zB26 := zB25.bl hf26.b
                         clear zc0 zc1 zc2
                         have zc0 := zB26.c0; have zc1 := zB26.c1; have zc2 := zB26.c2
                         have HI26 := Asd.mk (HI25.out.bl hf26.b)
                         have HM26 := Asd.mk (HM25.out.bl hf26.b)
                         have HK26 := Asd.mk (HK25.out.bl hf26.b)
                         have HY26 := Asd.mk (HY25.out.bl hf26.b)
                         have HW26 := Asd.mk (HW25.out.bl hf26.b)
                         have HC26 := Asd.mk (HC25.out.bl hf26.b)
                         have HZ26 := Asd.mk (HZ25.out.bl hf26.b)
                         clear _x)
                      | (have _x := T1; go_at_call 19; with_reducible refine (con_same k hsm no_ban HZ24.out.free HI24.out.free).mono ?_; rintro e w25 ⟨hf25, rfl⟩
                         have HB25 := Asd.mk (bl_trans HB24.out hf25.b)
                         have iB25 := iB24.bl hf25.b
                         clear ic0 ic1 ic2
                         have ic0 := iB25.c0; have ic1 := iB25.c1; have ic2 := iB25.c2
                         have mB25 := mB24.bl hf25.b
                         clear mc0 mc1 mc2
                         have mc0 := mB25.c0; have mc1 := mB25.c1; have mc2 := mB25.c2
                         have yB25 := yB24.bl hf25.b
                         clear yc0 yc1 yc2
                         have yc0 := yB25.c0; have yc1 := yB25.c1; have yc2 := yB25.c2
                         have zB25 := zB24.bl hf25.b
                         clear zc0 zc1 zc2
                         have zc0 := zB25.c0; have zc1 := zB25.c1; have zc2 := zB25.c2
                         have HI25 := Asd.mk (HI24.out.bl hf25.b)
                         have HM25 := Asd.mk (HM24.out.bl hf25.b)
                         have HK25 := Asd.mk (HK24.out.bl hf25.b)
                         have HY25 := Asd.mk (HY24.out.bl hf25.b)
                         have HW25 := Asd.mk (HW24.out.bl hf25.b)
                         have HC25 := Asd.mk (HC24.out.bl hf25.b)
                         have HZ25 := Asd.mk (HZ24.out.bl hf25.b)
                         have T2 := Asd.mk True.intro; clear _x)
                      | (go_at_call 19; with_reducible refine (con_same k hsm no_ban HK23.out.free HI23.out.free).mono ?_; rintro e w24 ⟨hf24, rfl⟩
                         have HB24 := Asd.mk (bl_trans HB23.out hf24.b)
                         have iB24 := iB23.bl hf24.b
                         clear ic0 ic1 ic2
                         have ic0 := iB24.c0; have ic1 := iB24.c1; have ic2 := iB24.c2
                         have mB24 := mB23.bl hf24.b
                         clear mc0 mc1 mc2
                         have mc0 := mB24.c0; have mc1 := mB24.c1; have mc2 := mB24.c2
                         have yB24 := yB23.bl hf24.b
                         clear yc0 yc1 yc2
                         have yc0 := yB24.c0; have yc1 := yB24.c1; have yc2 := yB24.c2
                         have zB24 := zB23.bl hf24.b
                         clear zc0 zc1 zc2
                         have zc0 := zB24.c0; have zc1 := zB24.c1; have zc2 := zB24.c2
                         have HI24 := Asd.mk (HI23.out.bl hf24.b)
                         have HM24 := Asd.mk (HM23.out.bl hf24.b)
                         have HK24 := Asd.mk (HK23.out.bl hf24.b)
                         have HY24 := Asd.mk (HY23.out.bl hf24.b)
                         have HW24 := Asd.mk (HW23.out.bl hf24.b)
                         have HC24 := Asd.mk (HC23.out.bl hf24.b)
                         have HZ24 := Asd.mk (HZ23.out.bl hf24.b)
                         have T1 := Asd.mk True.intro))
                    go_ret
                    exact ⟨rfl, HB26.out⟩
end Go.Va

/-
  What Write and Read hand out is the caller's: the walk of the law. (Printed by wip/eo/genox.py.)
  Conditions: none.
-/
namespace Go.Va
open Go.Proofs Go.RowKit
set_option maxHeartbeats 8000000 in
set_option maxRecDepth 100000 in
theorem own_walk9 (k : Nat) {x : T25} {y : T25} {g : Int} (hal : atlaslaw23_alive.f k = some true) (hwr : elf_Write.f k x = some ([], 239)) (hrw : atlasref23_Write.f k x = some ([], 239)) (how : atlaslaw23_own.f k x = some x)
    (hsm : atlaslaw23_same.f k x x = some true) (hrd : elf_Read.f k [] = some (y, g)) {w : World} {v : Value} (hv : Img w Bot x v) :
    Calls Try.prog 7 #[v] w fun e w' => e = .returned (.bool true) ∧ RowKit.Below w.heap.size w w' := by
  obtain ⟨i1, i2, rfl, hi1, hi2⟩ := img_open hv
  have HI0 := Asd.mk (hv.bl (bl_alloc w (.cells #[.int .u32 x.f0_Entry, i1, i2] 26)))
  have HB0 := Asd.mk (bl_alloc w (.cells #[.int .u32 x.f0_Entry, i1, i2] 26))
  have iB0 : Bx (w.alloc (.cells #[.int .u32 x.f0_Entry, i1, i2] 26)) w.heap.size x.f0_Entry i1 i2 := Bx.new _ _ _ _ _
  have ic0 := iB0.c0; have ic1 := iB0.c1; have ic2 := iB0.c2
  clear hv hi1 hi2
  have hby : ByB [] := fun x h => by cases h
  go_enter Try.func7, Try.ntmps7
  go_wp2_with (first
    | (go_at_call 22; with_reducible refine (con_alive k hal _).mono ?_; rintro e w1 ⟨hf1, rfl⟩
       have HB1 := Asd.mk (bl_trans HB0.out hf1.b)
       have iB1 := iB0.bl hf1.b
       clear ic0 ic1 ic2
       have ic0 := iB1.c0; have ic1 := iB1.c1; have ic2 := iB1.c2
       have HI1 := Asd.mk (HI0.out.bl hf1.b))
    | (go_at_call 18; with_reducible refine (con_ref k hrw no_ban HI1.out).mono ?_; rintro e w2 ⟨hf2, uw, rfl, hw2⟩
       have HB2 := Asd.mk (bl_trans HB1.out hf2.b)
       have iB2 := iB1.bl hf2.b
       clear ic0 ic1 ic2
       have ic0 := iB2.c0; have ic1 := iB2.c1; have ic2 := iB2.c2
       have HI2 := Asd.mk (HI1.out.bl hf2.b)
       have HW2 := Asd.mk hw2)
    | (go_at_call 11; with_reducible refine (con_own k how no_ban HI2.out).mono ?_; rintro e w3 ⟨hf3, um, rfl, hm3⟩
       have HB3 := Asd.mk (bl_trans HB2.out hf3.b)
       have iB3 := iB2.bl hf3.b
       clear ic0 ic1 ic2
       have ic0 := iB3.c0; have ic1 := iB3.c1; have ic2 := iB3.c2
       have HI3 := Asd.mk (HI2.out.bl hf3.b)
       have HW3 := Asd.mk (HW2.out.bl hf3.b)
       obtain ⟨m1, m2, rfl, hm1, hm2⟩ := img_open hm3
       have pm1 := slice_one hm1
       have pm2 := slice_one hm2
       have HM3 := Asd.mk hm3
       clear hm1 hm2 hm3)
    | ((with_reducible refine gate_st (t := 26) (p := 5) rfl ?_); go_loud (refine box_store info26 rfl (.tmp 5) (.tmp 30) rfl rfl rfl pm1 pm2 ?_); intro w4 hb4 hl4 hE4
       have HB4 := Asd.mk (bl_trans HB3.out hb4)
       have iB4 := iB3.bl hb4
       clear ic0 ic1 ic2
       have ic0 := iB4.c0; have ic1 := iB4.c1; have ic2 := iB4.c2
       have HI4 := Asd.mk (HI3.out.bl hb4)
       have HW4 := Asd.mk (HW3.out.bl hb4)
       have HM4 := Asd.mk (HM3.out.bl hb4)
       have mB4 := hE4
       have mc0 := mB4.c0; have mc1 := mB4.c1; have mc2 := mB4.c2)
    | (have _x := HA5; go_at_call 17; with_reducible refine (con_write k hwr no_ban HM5.out).mono ?_; rintro e w6 ⟨hf6, ub, rfl, hby6⟩
       have HB6 := Asd.mk (bl_trans HB5.out hf6.b)
       have iB6 := iB5.bl hf6.b
       clear ic0 ic1 ic2
       have ic0 := iB6.c0; have ic1 := iB6.c1; have ic2 := iB6.c2
       have mB6 := mB5.bl hf6.b
       clear mc0 mc1 mc2
       have mc0 := mB6.c0; have mc1 := mB6.c1; have mc2 := mB6.c2
       have HI6 := Asd.mk (HI5.out.bl hf6.b)
       have HW6 := Asd.mk (HW5.out.bl hf6.b)
       have HM6 := Asd.mk (HM5.out.bl hf6.b)
       have HA6 := Asd.mk (HA5.out.bl hf6.b)
       have HY6 := Asd.mk hby6
       clear _x hby6
       have cva := con_string HA6.out hby
       have cvw := con_string HW6.out hby
       have cvb := con_string HY6.out hby)
    | (go_at_call 17; with_reducible refine (con_write k hwr no_ban HM4.out).mono ?_; rintro e w5 ⟨hf5, ua, rfl, ha5⟩
       have HB5 := Asd.mk (bl_trans HB4.out hf5.b)
       have iB5 := iB4.bl hf5.b
       clear ic0 ic1 ic2
       have ic0 := iB5.c0; have ic1 := iB5.c1; have ic2 := iB5.c2
       have mB5 := mB4.bl hf5.b
       clear mc0 mc1 mc2
       have mc0 := mB5.c0; have mc1 := mB5.c1; have mc2 := mB5.c2
       have HI5 := Asd.mk (HI4.out.bl hf5.b)
       have HW5 := Asd.mk (HW4.out.bl hf5.b)
       have HM5 := Asd.mk (HM4.out.bl hf5.b)
       have HA5 := Asd.mk ha5
       clear ha5)
    | (have _x := HX8; go_at_call 20; with_reducible refine (con_read k hrd no_ban HY8.out).mono ?_; rintro e w9 ⟨hf9, uy, rfl, hy9⟩
       have HB9 := Asd.mk (bl_trans HB8.out hf9.b)
       have iB9 := iB8.bl hf9.b
       clear ic0 ic1 ic2
       have ic0 := iB9.c0; have ic1 := iB9.c1; have ic2 := iB9.c2
       have mB9 := mB8.bl hf9.b
       clear mc0 mc1 mc2
       have mc0 := mB9.c0; have mc1 := mB9.c1; have mc2 := mB9.c2
       have xB9 := xB8.bl hf9.b
       clear xc0 xc1 xc2
       have xc0 := xB9.c0; have xc1 := xB9.c1; have xc2 := xB9.c2
       have HI9 := Asd.mk (HI8.out.bl hf9.b)
       have HW9 := Asd.mk (HW8.out.bl hf9.b)
       have HM9 := Asd.mk (HM8.out.bl hf9.b)
       have HA9 := Asd.mk (HA8.out.bl hf9.b)
       have HY9 := Asd.mk (HY8.out.bl hf9.b)
       have HX9 := Asd.mk (HX8.out.bl hf9.b)
       obtain ⟨y1, y2, rfl, hy1, hy2⟩ := img_open hy9
       have py1 := slice_one hy1
       have py2 := slice_one hy2
       clear hy1 hy2 hy9 _x)
    | (go_at_call 20; with_reducible refine (con_read k hrd no_ban HA6.out).mono ?_; rintro e w7 ⟨hf7, ux, rfl, hx7⟩
       have HB7 := Asd.mk (bl_trans HB6.out hf7.b)
       have iB7 := iB6.bl hf7.b
       clear ic0 ic1 ic2
       have ic0 := iB7.c0; have ic1 := iB7.c1; have ic2 := iB7.c2
       have mB7 := mB6.bl hf7.b
       clear mc0 mc1 mc2
       have mc0 := mB7.c0; have mc1 := mB7.c1; have mc2 := mB7.c2
       have HI7 := Asd.mk (HI6.out.bl hf7.b)
       have HW7 := Asd.mk (HW6.out.bl hf7.b)
       have HM7 := Asd.mk (HM6.out.bl hf7.b)
       have HA7 := Asd.mk (HA6.out.bl hf7.b)
       have HY7 := Asd.mk (HY6.out.bl hf7.b)
       obtain ⟨x1, x2, rfl, hx1, hx2⟩ := img_open hx7
       have px1 := slice_one hx1
       have px2 := slice_one hx2
       have HX7 := Asd.mk hx7
       clear hx1 hx2 hx7 cva cvw cvb)
    | ((with_reducible refine gate_st (t := 26) (p := 10) rfl ?_); go_loud (refine box_store info26 rfl (.tmp 10) (.tmp 61) rfl rfl rfl px1 px2 ?_); intro w8 hb8 hl8 hE8
       have HB8 := Asd.mk (bl_trans HB7.out hb8)
       have iB8 := iB7.bl hb8
       clear ic0 ic1 ic2
       have ic0 := iB8.c0; have ic1 := iB8.c1; have ic2 := iB8.c2
       have mB8 := mB7.bl hb8
       clear mc0 mc1 mc2
       have mc0 := mB8.c0; have mc1 := mB8.c1; have mc2 := mB8.c2
       have HI8 := Asd.mk (HI7.out.bl hb8)
       have HW8 := Asd.mk (HW7.out.bl hb8)
       have HM8 := Asd.mk (HM7.out.bl hb8)
       have HA8 := Asd.mk (HA7.out.bl hb8)
       have HY8 := Asd.mk (HY7.out.bl hb8)
       have HX8 := Asd.mk (HX7.out.bl hb8)
       have xB8 := hE8
       have xc0 := xB8.c0; have xc1 := xB8.c1; have xc2 := xB8.c2)
    | ((with_reducible refine gate_st (t := 26) (p := 12) rfl ?_); go_loud (refine box_store info26 rfl (.tmp 12) (.tmp 66) rfl rfl rfl py1 py2 ?_); intro w10 hb10 hl10 hE10
       have HB10 := Asd.mk (bl_trans HB9.out hb10)
       have iB10 := iB9.bl hb10
       clear ic0 ic1 ic2
       have ic0 := iB10.c0; have ic1 := iB10.c1; have ic2 := iB10.c2
       have mB10 := mB9.bl hb10
       clear mc0 mc1 mc2
       have mc0 := mB10.c0; have mc1 := mB10.c1; have mc2 := mB10.c2
       have xB10 := xB9.bl hb10
       clear xc0 xc1 xc2
       have xc0 := xB10.c0; have xc1 := xB10.c1; have xc2 := xB10.c2
       have HI10 := Asd.mk (HI9.out.bl hb10)
       have HW10 := Asd.mk (HW9.out.bl hb10)
       have HM10 := Asd.mk (HM9.out.bl hb10)
       have HA10 := Asd.mk (HA9.out.bl hb10)
       have HY10 := Asd.mk (HY9.out.bl hb10)
       have HX10 := Asd.mk (HX9.out.bl hb10)
       have yB10 := hE10
       have yc0 := yB10.c0; have yc1 := yB10.c1; have yc2 := yB10.c2))
  go_ret
  exact ⟨rfl, HB10.out⟩
end Go.Va

/-
  What Write and Read hand out is the caller's: the law.
  Conditions: none.
-/
namespace Go.Va
open Go.Proofs
theorem own_law (x : T25) (h : ImgOk x) {w : World} {v : Value} (hv : Img w Bot x v) : Calls Try.prog 7 #[v] w fun e w' => e = .returned (.bool true) ∧ RowKit.Below w.heap.size w w' := by
  have hr := reach_v
  have hk : reachBytes < reachBytes + 1 := by omega
  generalize reachBytes + 1 = k at hk
  obtain ⟨u, e1, e2, _⟩ := write_both x h k hk
  have hw := wr_eq x h k hk
  have eu : u = wrF x := Option.some.inj (e1.symm.trans hw)
  subst eu
  have how : atlaslaw23_own.f k x = some x := own_eq x h k (by have := h.sl; omega)
  rcases wr_cases x with ⟨g1, g2, g3⟩ | g
  · rw [g3] at hw e2
    refine own_walk0 k (alive_eq k hk) hw e2 how (same_eq x h k hk) (back_read k hk x h g1 g2) (file_byte x h) (fun e => ?_) hv
    have h1 := file_len x.f0_Entry x.f1_Segments x.f2_Symbols
    have h2 := size_pos x.f1_Segments x.f2_Symbols
    rw [e] at h1
    simp at h1
    omega
  · rw [g] at hw e2
    exact own_walk9 k (y := (readF []).1) (g := (readF []).2) (alive_eq k hk) hw e2 how (same_eq x h k hk) (eread_eq k hk [] (fun x h => by cases h) (by simp)) hv
end Go.Va
