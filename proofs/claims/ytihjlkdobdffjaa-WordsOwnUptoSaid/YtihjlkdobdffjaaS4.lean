-- Written by a program of this session (wip/xprint.py), over the kit's print. Not trusted: Lean checks it.
import Derived.Test.YtihjlkdobdffjaaS0
import Derived.Test.YtihjlkdobdffjaaS1
import Derived.Test.YtihjlkdobdffjaaS3
namespace Go.Proofs.Ytihjlkdobdffjaa.S
open Go.Proofs.YtihjlkdobdffjaaG
open Go.RowKit Go.Proofs.YtihjlkdobdffjaaW.PrintWords Go.Proofs.YtihjlkdobdffjaaW.PrintLast Go.Proofs.YtihjlkdobdffjaaW.PrintMore
attribute [local go_sem] max2_int min2_int max_two min_two max_three min_three max_four min_four   -- for this text's walks alone
set_option linter.unusedVariables false
set_option linter.unusedSimpArgs false

/-! ### atlaslaw01_WordsOwn: function 6 -/
/-- What append comes to: nothing; a new row; the old one. -/
theorem atlaslaw01_WordsOwn.run_append_cases {P : Program} (w : World) (t ty e : TypeId) (i : TypeInfo) (z : Value) (ht : P.underlying t = some (.slice e)) (hi : P.info? e = some i) (hz : i.zero = some z)
    (hzs : z.cells.size = i.size) (hsz : 0 < i.size) (v y : Value) (n m : Nat) (xs ys : List Value)
    (hv : (v = .slice none 0 0 ∧ n = 0 ∧ xs = []) ∨ ∃ g cap cur, v = .slice (some ⟨g, 0, none⟩) n cap ∧ w.heap[g]? = some (.cells cur e (0, 0)) ∧ cur.size = cap * i.size ∧ n ≤ cap ∧ cap ≤ maxLen ∧ cur.toList.take (n * i.size) = xs)
    (hxs : xs.length = n * i.size) (hys : ys.length = m * i.size)
    (hy : (y = .slice none 0 0 ∧ m = 0) ∨ ∃ a cap, y = .slice (some a) m cap ∧ ∀ j u, ys[j]? = some u → w.cell? (a.add j) = some u)
    (h1 : ∀ u ∈ ys, u.oneCell' = true) (h63 : n + m ≤ maxLen) (hbytes : (n + m) * i.bytes ≤ 140737488355328) (hbb : i.bytes ≤ 65536) :
    (v = .slice none 0 0 ∧ m = 0 ∧ (Builtin.append_ #[t, t] ty #[v, y]).run P w = .ok v w) ∨
    (∃ cap cells, (Builtin.append_ #[t, t] ty #[v, y]).run P w = .ok (.slice (some ⟨w.heap.size, 0, none⟩) (n + m) cap) (w.drew.alloc (.cells cells e (0, 0))) ∧ cells.size = cap * i.size ∧ n + m ≤ cap ∧ cap ≤ maxLen ∧ cells.toList.take ((n + m) * i.size) = xs ++ ys) ∨
    (∃ g cap cur cur', v = .slice (some ⟨g, 0, none⟩) n cap ∧ w.heap[g]? = some (.cells cur e (0, 0)) ∧ (Builtin.append_ #[t, t] ty #[v, y]).run P w = .ok (.slice (some ⟨g, 0, none⟩) (n + m) cap) (w.setRow g cur') ∧ cur'.size = cur.size ∧ cur.size = cap * i.size ∧ n + m ≤ cap ∧ cap ≤ maxLen ∧ cur'.toList.take ((n + m) * i.size) = xs ++ ys) ∨
    (∃ g cap cur, v = .slice (some ⟨g, 0, none⟩) n cap ∧ w.heap[g]? = some (.cells cur e (0, 0)) ∧ m = 0 ∧ (Builtin.append_ #[t, t] ty #[v, y]).run P w = .ok v w ∧ cur.size = cap * i.size ∧ n ≤ cap ∧ cap ≤ maxLen ∧ cur.toList.take (n * i.size) = xs) := by
  have hlen : (xs ++ ys).length = (n + m) * i.size := by rw [List.length_append, hxs, hys, Nat.add_mul]
  have grown : ∀ (old : Nat), old < n + m →
      (xs.toArray ++ ys.toArray ++ Builtin.zeroCells z.cells (grownCap w (n + m) old e - (n + m))).size = grownCap w (n + m) old e * i.size ∧ n + m ≤ grownCap w (n + m) old e ∧ grownCap w (n + m) old e ≤ maxLen ∧
      (xs.toArray ++ ys.toArray ++ Builtin.zeroCells z.cells (grownCap w (n + m) old e - (n + m))).toList.take ((n + m) * i.size) = xs ++ ys := by
    intro old ho
    have hge := grownCap_ge w (n + m) old e
    refine ⟨?_, hge, grownCap_le_maxLen w (n + m) old e h63, ?_⟩
    · simp only [Array.size_append, List.size_toArray, size_zeroCells, hzs, hxs, hys, ← Nat.add_mul]
      congr 1
      omega
    · simp only [Array.toList_append, List.append_assoc]
      rw [← List.append_assoc, ← hlen]
      exact List.take_left
  have h63' : n + m ≤ 9223372036854775807 := by simp only [maxLen] at h63; omega
  rcases hv with ⟨rfl, rfl, rfl⟩ | ⟨g, cap, cur, rfl, hg, hcs, hnc, hcm, htake⟩
  · by_cases hm : m = 0
    · subst hm
      refine .inl ⟨rfl, rfl, ?_⟩
      have hy0 : ys = [] := List.eq_nil_of_length_eq_zero (by simpa using hys)
      subst hy0
      rcases hy with ⟨rfl, _⟩ | ⟨a, cap, rfl, _⟩ <;> simp [Builtin.append_, run_underlying ht, sizeOf, typeInfo, hi, Builtin.lenOf, Builtin.firstCells, loadCells, loadCellsFrom]
    · rcases hy with ⟨_, h⟩ | ⟨a, cap, rfl, hcell⟩
      · exact absurd h hm
      · have hr := run_append_nil (P := P) w t ty e i z ht hi hz a m cap ys hys hcell (by omega) (by omega) (by simp only [Nat.zero_add] at hbytes; omega)
        have hgr := grown 0 (by omega)
        simp only [Nat.zero_add, List.nil_append, Array.empty_append] at hgr ⊢
        exact .inr (.inl ⟨_, _, hr, hgr.1, hgr.2.1, hgr.2.2.1, hgr.2.2.2⟩)
  · rcases hy with ⟨rfl, rfl⟩ | ⟨a, cy, rfl, hcell⟩
    · refine .inr (.inr (.inr ⟨g, cap, cur, rfl, hg, rfl, ?_, hcs, hnc, hcm, htake⟩))
      simp [Builtin.append_, run_underlying ht, sizeOf, typeInfo, hi, Builtin.lenOf, Builtin.firstCells, hnc, storeCells]
    · by_cases hroom : n + m ≤ cap
      · have hfit : n * i.size + ys.length ≤ cur.size := by rw [hys, hcs, ← Nat.add_mul]; exact Nat.mul_le_mul_right _ hroom
        have hr := run_append_room (P := P) w t ty e i ht hi g n cap cur hg a m cy ys hys hcell h1 hroom hfit
        refine .inr (.inr (.inl ⟨g, cap, cur, _, rfl, hg, hr, ?_, hcs, hroom, hcm, ?_⟩))
        · simp only [List.size_toArray, List.length_append, List.length_take, List.length_drop, Array.length_toList]
          omega
        · rw [htake, ← hlen]
          exact List.take_left
      · have holds : ∀ j u, xs[j]? = some u → w.cell? ((⟨g, 0, none⟩ : Addr).add j) = some u := fun j u hu => by
          have hadd : (⟨g, 0, none⟩ : Addr).add j = ⟨g, j, none⟩ := by unfold Addr.add; split <;> simp_all
          rw [hadd, cell_of_row w g j cur e (0, 0) hg]
          rw [← htake, List.getElem?_take] at hu
          split at hu
          · simpa using hu
          · cases hu
        have hr := run_append_grow (P := P) w t ty e i z ht hi hz ⟨g, 0, none⟩ n cap xs hxs holds a m cy ys hys hcell (by omega) (by omega) (growslice_fits (by omega) hbytes)
        have hgr := grown cap (by omega)
        exact .inr (.inl ⟨_, _, hr, hgr.1, hgr.2.1, hgr.2.2.1, hgr.2.2.2⟩)

/-- The marks. -/
def atlaslaw01_WordsOwn.mkS (q : Nat) : ByteArray := if q = 0 then ⟨#[111, 110, 101]⟩ else if q = 1 then ⟨#[116, 119, 111]⟩ else ⟨#[116, 104, 114, 101, 101]⟩
def atlaslaw01_WordsOwn.tri {α : Type} (x y z : α) (q : Nat) : α := if q = 0 then x else if q = 1 then y else z

/-- A list of the call's own, or none. -/
def atlaslaw01_WordsOwn.RowAt (lo : Nat) (W : World) (o : Option Addr) (n c : Nat) : Prop :=
  (o = none ∧ n = 0 ∧ c = 0) ∨ ∃ g cur, o = some ⟨g, 0, none⟩ ∧ lo ≤ g ∧ W.heap[g]? = some (.cells cur 9 (0, 0)) ∧ cur.size = c ∧ n ≤ c ∧ c ≤ maxLen

theorem atlaslaw01_WordsOwn.RowAt.old {lo : Nat} {W W1 : World} {o : Option Addr} {n c : Nat} (h : atlaslaw01_WordsOwn.RowAt lo W o n c) (hb : ∀ k, k < W.heap.size → W1.heap[k]? = W.heap[k]?) : atlaslaw01_WordsOwn.RowAt lo W1 o n c := by
  rcases h with h | ⟨g, cur, h1, h2, h3, h4⟩
  · exact .inl h
  · exact .inr ⟨g, cur, h1, h2, (hb g (Array.getElem?_eq_some_iff.1 h3).1).trans h3, h4⟩
theorem atlaslaw01_WordsOwn.RowAt.lt {lo : Nat} {W : World} {o : Option Addr} {n c g : Nat} (h : atlaslaw01_WordsOwn.RowAt lo W o n c) (ho : o = some ⟨g, 0, none⟩) : lo ≤ g ∧ g < W.heap.size := by
  rcases h with h | ⟨g', cur, h1, h2, h3, h4⟩
  · rw [h.1] at ho; cases ho
  · rw [h1] at ho
    cases ho
    exact ⟨h2, (Array.getElem?_eq_some_iff.1 h3).1⟩

/-- The three lists, what holds them, and the marks. -/
structure atlaslaw01_WordsOwn.Hold (w W : World) (A M : Nat) (o : Nat → Option Addr) (n c : Nat → Nat) : Prop where
  below : Below w.heap.size w W
  la : w.heap.size ≤ A
  lm : w.heap.size ≤ M
  am : A ≠ M
  a : W.heap[A]? = some (.cells #[.slice (o 0) (n 0) (c 0), .slice (o 1) (n 1) (c 1), .slice (o 2) (n 2) (c 2)] 25 (0, 0))
  m : W.heap[M]? = some (.cells #[.string (atlaslaw01_WordsOwn.mkS 0), .string (atlaslaw01_WordsOwn.mkS 1), .string (atlaslaw01_WordsOwn.mkS 2)] 9 (0, 0))
  row : ∀ q, q < 3 → atlaslaw01_WordsOwn.RowAt w.heap.size W (o q) (n q) (c q)
  neA : ∀ q g, q < 3 → o q = some ⟨g, 0, none⟩ → g ≠ A ∧ g ≠ M
  ne : ∀ q q' g, q < 3 → q' < 3 → q ≠ q' → o q = some ⟨g, 0, none⟩ → o q' ≠ some ⟨g, 0, none⟩

/-- So many of a list's words are the mark. -/
def atlaslaw01_WordsOwn.Mk (W : World) (o : Option Addr) (s : ByteArray) (j : Nat) : Prop := ∀ g x, o = some ⟨g, 0, none⟩ → x < j → W.cell? ⟨g, x, none⟩ = some (.string s)

theorem atlaslaw01_WordsOwn.Mk.zero (W : World) (o : Option Addr) (s : ByteArray) : atlaslaw01_WordsOwn.Mk W o s 0 := fun _ _ _ h => by omega

section
variable {w W : World} {A M : Nat} {o : Nat → Option Addr} {n c : Nat → Nat}

theorem atlaslaw01_WordsOwn.Hold.cell (h : atlaslaw01_WordsOwn.Hold w W A M o n c) (q : Nat) (hq : q < 3) : W.cell? ⟨A, q, none⟩ = some (.slice (o q) (n q) (c q)) := by
  have e := h.a
  match q, hq with
  | 0, _ => simp [World.cell?, e]
  | 1, _ => simp [World.cell?, e]
  | 2, _ => simp [World.cell?, e]
theorem atlaslaw01_WordsOwn.Hold.mark (h : atlaslaw01_WordsOwn.Hold w W A M o n c) (q : Nat) (hq : q < 3) : W.cell? ⟨M, q, none⟩ = some (.string (atlaslaw01_WordsOwn.mkS q)) := by
  have e := h.m
  match q, hq with
  | 0, _ => simp [World.cell?, e]
  | 1, _ => simp [World.cell?, e]
  | 2, _ => simp [World.cell?, e]
theorem atlaslaw01_WordsOwn.Hold.drewN (h : atlaslaw01_WordsOwn.Hold w W A M o n c) (k : Nat) : atlaslaw01_WordsOwn.Hold w (W.drewN k) A M o n c :=
  ⟨pw_below_drewN h.below k, h.la, h.lm, h.am, h.a, h.m, h.row, h.neA, h.ne⟩
theorem atlaslaw01_WordsOwn.Hold.drew (h : atlaslaw01_WordsOwn.Hold w W A M o n c) : atlaslaw01_WordsOwn.Hold w W.drew A M o n c := ⟨below_drew1 h.below, h.la, h.lm, h.am, h.a, h.m, h.row, h.neA, h.ne⟩
theorem atlaslaw01_WordsOwn.Mk.drew {o : Option Addr} {s : ByteArray} {j : Nat} (h : atlaslaw01_WordsOwn.Mk W o s j) : atlaslaw01_WordsOwn.Mk W.drew o s j := h
theorem atlaslaw01_WordsOwn.Mk.drewN {o : Option Addr} {s : ByteArray} {j : Nat} (h : atlaslaw01_WordsOwn.Mk W o s j) (k : Nat) : atlaslaw01_WordsOwn.Mk (W.drewN k) o s j := h

/-- A world that has just one block more, and one of the lists in another state. -/
structure atlaslaw01_WordsOwn.Nud (w W W1 : World) (A M : Nat) (q : Nat) (o : Nat → Option Addr) : Prop where
  below : Below w.heap.size w W → Below w.heap.size w W1
  size : W.heap.size ≤ W1.heap.size
  block : ∀ k, k < W.heap.size → (k = A ∨ k = M ∨ ∃ r, r < 3 ∧ r ≠ q ∧ o r = some ⟨k, 0, none⟩) → W1.heap[k]? = W.heap[k]?
  row : ∀ g cur, o q = some ⟨g, 0, none⟩ → W.heap[g]? = some (.cells cur 9 (0, 0)) → ∃ cur1, W1.heap[g]? = some (.cells cur1 9 (0, 0)) ∧ cur1.size = cur.size

theorem atlaslaw01_WordsOwn.Hold.nud {W1 : World} {q : Nat} (hq : q < 3) (h : atlaslaw01_WordsOwn.Hold w W A M o n c) (hn : atlaslaw01_WordsOwn.Nud w W W1 A M q o) : atlaslaw01_WordsOwn.Hold w W1 A M o n c := by
  have hA : W1.heap[A]? = W.heap[A]? := hn.block A (Array.getElem?_eq_some_iff.1 h.a).1 (.inl rfl)
  have hM : W1.heap[M]? = W.heap[M]? := hn.block M (Array.getElem?_eq_some_iff.1 h.m).1 (.inr (.inl rfl))
  refine ⟨hn.below h.below, h.la, h.lm, h.am, hA.trans h.a, hM.trans h.m, fun r hr => ?_, h.neA, h.ne⟩
  rcases h.row r hr with e | ⟨g, cur, h1, h2, h3, h4, h5⟩
  · exact .inl e
  · by_cases hrq : r = q
    · subst hrq
      obtain ⟨cur1, k1, k2⟩ := hn.row g cur h1 h3
      exact .inr ⟨g, cur1, h1, h2, k1, k2.trans h4, h5⟩
    · exact .inr ⟨g, cur, h1, h2, (hn.block g (Array.getElem?_eq_some_iff.1 h3).1 (.inr (.inr ⟨r, hr, hrq, h1⟩))).trans h3, h4, h5⟩
theorem atlaslaw01_WordsOwn.Mk.nud {W1 : World} {q r : Nat} {s : ByteArray} {j : Nat} (hr : r < 3) (hne : r ≠ q) (h : atlaslaw01_WordsOwn.Hold w W A M o n c) (hn : atlaslaw01_WordsOwn.Nud w W W1 A M q o) (hm : atlaslaw01_WordsOwn.Mk W (o r) s j) : atlaslaw01_WordsOwn.Mk W1 (o r) s j := by
  intro g x hg hx
  have := hn.block g ((h.row r hr).lt hg).2 (.inr (.inr ⟨r, hr, hne, hg⟩))
  have e := hm g x hg hx
  simp only [World.cell?, this] at e ⊢
  exact e

/-- Where a word of a list lies. -/
theorem atlaslaw01_WordsOwn.Hold.place (h : atlaslaw01_WordsOwn.Hold w W A M o n c) {q j : Nat} (hq : q < 3) (hj : j < n q) : ∃ g v, o q = some ⟨g, 0, none⟩ ∧ W.cell? ⟨g, j, none⟩ = some v ∧ W.frozen? ⟨g, j, none⟩ = false := by
  rcases h.row q hq with ⟨_, e, _⟩ | ⟨g, cur, h1, h2, h3, h4, h5, h6⟩
  · omega
  · refine ⟨g, cur[j]'(by omega), h1, ?_, by simp [World.frozen?, h3]⟩
    simp [World.cell?, h3]
/-- A store into one of the lists. -/
theorem atlaslaw01_WordsOwn.Hold.put (h : atlaslaw01_WordsOwn.Hold w W A M o n c) {q g j : Nat} (hq : q < 3) (ho : o q = some ⟨g, 0, none⟩) (v : Value) : atlaslaw01_WordsOwn.Nud w W (W.setCell ⟨g, j, none⟩ v) A M q o where
  below hb := hb.setCell ((h.row q hq).lt ho).1 v
  size := by simp [World.setCell]
  block k hk hne := Below.heap_setCell W ⟨g, j, none⟩ v k (fun e => by
    have e : k = g := e
    subst e
    rcases hne with e | e | ⟨r, hr, hrq, e⟩
    · exact (h.neA q k hq ho).1 e
    · exact (h.neA q k hq ho).2 e
    · exact h.ne q r k hq hr (Ne.symm hrq) ho e)
  row g' cur hg' hc := by
    rw [ho] at hg'
    cases hg'
    exact ⟨_, blk_set hc j v, by simp⟩
theorem atlaslaw01_WordsOwn.Mk.put {q g j : Nat} {s : ByteArray} (h : atlaslaw01_WordsOwn.Hold w W A M o n c) (hq : q < 3) (ho : o q = some ⟨g, 0, none⟩) (hj : j < n q) (hm : atlaslaw01_WordsOwn.Mk W (o q) s j) : atlaslaw01_WordsOwn.Mk (W.setCell ⟨g, j, none⟩ (.string s)) (o q) s (j + 1) := by
  intro g' x hg' hx
  rw [ho] at hg'
  cases hg'
  by_cases e : x = j
  · subst e
    rcases h.row q hq with ⟨e, _⟩ | ⟨g', cur, h1, h2, h3, h4, h5, h6⟩
    · rw [ho] at e; cases e
    · rw [ho] at h1
      cases h1
      obtain ⟨v, hv⟩ : ∃ v, W.cell? ⟨g, x, none⟩ = some v := by
        refine ⟨cur[x]'(by omega), ?_⟩
        simp [World.cell?, h3]
      exact World.cell?_setCell_same _ _ _ hv
  · rw [World.cell?_setCell_other _ _ _ _ (fun e2 => e ((Addr.mk.inj e2).2.1.symm))]
    exact hm g x ho (by omega)

/-- A list that is grown: one of the three, or a row of its own. -/
def atlaslaw01_WordsOwn.More (w W : World) (A M : Nat) (o : Nat → Option Addr) (n : Nat → Nat) (q : Nat) (v : Value) (m : Nat) : Prop :=
  (v = .slice none 0 0 ∧ m = 0) ∨ ∃ g cap cur, v = .slice (some ⟨g, 0, none⟩) m cap ∧ W.heap[g]? = some (.cells cur 9 (0, 0)) ∧ cur.size = cap ∧ m ≤ cap ∧ cap ≤ maxLen ∧ w.heap.size ≤ g ∧
    ((o q = some ⟨g, 0, none⟩ ∧ n q ≤ m) ∨ ((∀ r, r < 3 → o r ≠ some ⟨g, 0, none⟩) ∧ g ≠ A ∧ g ≠ M))

theorem atlaslaw01_WordsOwn.More.start (h : atlaslaw01_WordsOwn.Hold w W A M o n c) (q : Nat) (hq : q < 3) : atlaslaw01_WordsOwn.More w W A M o n q (.slice (o q) (n q) (c q)) (n q) := by
  rcases h.row q hq with ⟨e1, e2, e3⟩ | ⟨g, cur, h1, h2, h3, h4, h5, h6⟩
  · exact .inl ⟨by rw [e1, e2, e3], e2⟩
  · exact .inr ⟨g, c q, cur, by rw [h1], h3, h4, h5, h6, h2, .inl ⟨h1, Nat.le_refl _⟩⟩

theorem atlaslaw01_WordsOwn.info9 : ∃ i z, Try.prog.info? 9 = some i ∧ i.zero = some z ∧ z.cells.size = i.size ∧ i.size = 1 ∧ i.bytes = 16 := by
  cases h : Try.prog.info? 9 with
  | none =>
    have : (Try.prog.info? 9).isSome = true := by kernel_rfl
    rw [h] at this; cases this
  | some i =>
    have e : (Try.prog.info? 9).map (fun i => (i.zero, i.size, i.bytes)) = some (some (.string ⟨#[]⟩), 1, 16) := by kernel_rfl
    rw [h] at e
    simp only [Option.map_some, Option.some.injEq, Prod.mk.injEq] at e
    exact ⟨i, _, rfl, e.1, by rw [e.2.1]; rfl, e.2.1, e.2.2⟩

/-- One more word behind it. -/
theorem atlaslaw01_WordsOwn.More.step {s : ByteArray} (h : atlaslaw01_WordsOwn.Hold w W A M o n c) {q : Nat} (hq : q < 3) (hm : ∀ r, r < 3 → atlaslaw01_WordsOwn.Mk W (o r) (atlaslaw01_WordsOwn.mkS r) (if r ≤ q then n r else 0)) {v : Value} {m : Nat} (hv : atlaslaw01_WordsOwn.More w W A M o n q v m) (hl : m ≤ 1073741824) :
    ∃ v' W', (Builtin.append_ #[25, 25] 25 #[v, .slice (some ⟨W.heap.size, 0, none⟩) 1 1]).run Try.prog (W.alloc (.cells #[.string s] 9)) = .ok v' W' ∧ atlaslaw01_WordsOwn.Hold w W' A M o n c ∧ (∀ r, r < 3 → atlaslaw01_WordsOwn.Mk W' (o r) (atlaslaw01_WordsOwn.mkS r) (if r ≤ q then n r else 0)) ∧ atlaslaw01_WordsOwn.More w W' A M o n q v' (m + 1) := by
  have h63 := (show maxLen = 9223372036854775807 by decide)
  obtain ⟨i, z, hi, hz, hzs, his, hib⟩ := atlaslaw01_WordsOwn.info9
  have hWs : (W.alloc (.cells #[.string s] 9)).heap.size = W.heap.size + 1 := by show (W.heap.push _).size = _; rw [Array.size_push]
  have hold : ∀ k, k < W.heap.size → (W.alloc (.cells #[.string s] 9)).heap[k]? = W.heap[k]? := fun k hk => by
    show (W.heap.push _)[k]? = _
    rw [Array.getElem?_push_lt hk, Array.getElem?_eq_getElem hk]
  have hnew : (W.alloc (.cells #[.string s] 9)).heap[W.heap.size]? = some (.cells #[.string s] 9 (0, 0)) := by
    show (W.heap.push _)[W.heap.size]? = _
    rw [Array.getElem?_push_size]
  have hmm : ∀ W1 : World, (∀ k, k < W.heap.size → W1.heap[k]? = W.heap[k]?) → ∀ r, r < 3 → atlaslaw01_WordsOwn.Mk W1 (o r) (atlaslaw01_WordsOwn.mkS r) (if r ≤ q then n r else 0) := fun W1 hb r hr g x hg hx => by
    have e := hm r hr g x hg hx
    have := hb g ((h.row r hr).lt hg).2
    simp only [World.cell?, this] at e ⊢
    exact e
  have hba := below_alloc h.below (.cells #[.string s] 9)
  have main : ∀ (W1 : World), W1 = W.alloc (.cells #[.string s] 9) → ∃ v' W', (Builtin.append_ #[25, 25] 25 #[v, .slice (some ⟨W.heap.size, 0, none⟩) 1 1]).run Try.prog W1 = .ok v' W' ∧ atlaslaw01_WordsOwn.Hold w W' A M o n c ∧ (∀ r, r < 3 → atlaslaw01_WordsOwn.Mk W' (o r) (atlaslaw01_WordsOwn.mkS r) (if r ≤ q then n r else 0)) ∧ atlaslaw01_WordsOwn.More w W' A M o n q v' (m + 1) := by
    intro W1 hW1
    rw [← hW1] at hWs hold hnew hba
    have key : ∀ xs : List Value, xs.length = m → ((v = .slice none 0 0 ∧ m = 0 ∧ xs = []) ∨ ∃ g cap cur, v = .slice (some ⟨g, 0, none⟩) m cap ∧ W1.heap[g]? = some (.cells cur 9 (0, 0)) ∧ cur.size = cap * i.size ∧ m ≤ cap ∧ cap ≤ maxLen ∧ cur.toList.take (m * i.size) = xs) → _ := fun xs hx hv1 =>
      atlaslaw01_WordsOwn.run_append_cases (P := Try.prog) W1 25 25 9 i z Try.underlying25 hi hz hzs (by omega) v (.slice (some ⟨W.heap.size, 0, none⟩) 1 1) m 1 xs [.string s] hv1 (by rw [his]; omega) (by rw [his]; rfl)
        (.inr ⟨⟨W.heap.size, 0, none⟩, 1, rfl, fun j u hu => by
          have hj : j = 0 := by
            have := (List.getElem?_eq_some_iff.1 hu).1
            simp at this; omega
          subst hj
          have hu : Value.string s = u := by simpa using hu
          subst hu
          simp [Addr.add, World.cell?, hnew]⟩) (fun u hu => by rw [List.mem_singleton.1 hu]; rfl) (by omega) (by rw [hib]; omega) (by rw [hib]; omega)
    have fresh : ∀ (cap : Nat) (cells : Array Value) (X : List Value), cells.size = cap * i.size → m + 1 ≤ cap → cap ≤ maxLen →
        atlaslaw01_WordsOwn.Hold w (W1.drew.alloc (.cells cells 9 (0, 0))) A M o n c ∧ (∀ r, r < 3 → atlaslaw01_WordsOwn.Mk (W1.drew.alloc (.cells cells 9 (0, 0))) (o r) (atlaslaw01_WordsOwn.mkS r) (if r ≤ q then n r else 0)) ∧ atlaslaw01_WordsOwn.More w (W1.drew.alloc (.cells cells 9 (0, 0))) A M o n q (.slice (some ⟨W1.heap.size, 0, none⟩) (m + 1) cap) (m + 1) := by
      intro cap cells X hs hc hcm
      have e2 : ∀ k, k < W.heap.size → (W1.drew.alloc (.cells cells 9 (0, 0))).heap[k]? = W.heap[k]? := fun k hk => by
        show (W1.heap.push _)[k]? = _
        rw [Array.getElem?_push_lt (by omega), ← Array.getElem?_eq_getElem]
        exact hold k hk
      have nd : atlaslaw01_WordsOwn.Nud w W (W1.drew.alloc (.cells cells 9 (0, 0))) A M q o := ⟨fun _ => below_alloc (below_drew1 hba) _, by show _ ≤ (W1.heap.push _).size; rw [Array.size_push]; omega, fun k hk _ => e2 k hk,
        fun g cur hg hc => ⟨cur, (e2 g (Array.getElem?_eq_some_iff.1 hc).1).trans hc, rfl⟩⟩
      refine ⟨h.nud hq nd, hmm _ e2, .inr ⟨_, cap, cells, rfl, ?_, by rw [hs, his]; omega, hc, hcm, ?_, .inr ⟨fun r hr e => ?_, fun e => ?_, fun e => ?_⟩⟩⟩
      · show (W1.heap.push _)[W1.heap.size]? = _
        rw [Array.getElem?_push_size]
      · have := h.below.size; omega
      · have := ((h.row r hr).lt e).2; omega
      · have := (Array.getElem?_eq_some_iff.1 h.a).1; omega
      · have := (Array.getElem?_eq_some_iff.1 h.m).1; omega
    rcases hv with ⟨rfl, rfl⟩ | ⟨g, cap, cur, rfl, hg, hcs, hmc, hcm, hlo, hrel⟩
    · rcases key [] rfl (.inl ⟨rfl, rfl, rfl⟩) with ⟨_, h0, _⟩ | ⟨cap, cells, hr, h1, h2, h3, h4⟩ | ⟨g, cap, cur, cur', h1, _⟩ | ⟨g, cap, cur, h1, _⟩
      · omega
      · obtain ⟨f1, f2, f3⟩ := fresh cap cells [] h1 h2 h3
        exact ⟨_, _, hr, f1, f2, f3⟩
      · cases h1
      · cases h1
    · have hgl : g < W.heap.size := (Array.getElem?_eq_some_iff.1 hg).1
      have hg1 : W1.heap[g]? = some (.cells cur 9 (0, 0)) := (hold g hgl).trans hg
      have hxl : (cur.toList.take m).length = m := by rw [List.length_take, Array.length_toList]; omega
      rcases key (cur.toList.take m) hxl (.inr ⟨g, cap, cur, rfl, hg1, by rw [his]; omega, hmc, hcm, by rw [his, Nat.mul_one]⟩) with ⟨h1, _⟩ | ⟨cap', cells, hr, h1, h2, h3, h4⟩ | ⟨g', cap', cur0, cur', h1, hg2, hr, hs1, hs2, hr1, hr2, hr3⟩ | ⟨g', cap', cur0, h1, _, h2, _⟩
      · cases h1
      · obtain ⟨f1, f2, f3⟩ := fresh cap' cells [] h1 h2 h3
        exact ⟨_, _, hr, f1, f2, f3⟩
      · cases h1
        rw [hg1] at hg2
        cases hg2
        have e3 : ∀ k, k < W.heap.size → k ≠ g → (W1.setRow g cur').heap[k]? = W.heap[k]? := fun k hk hne => (setRow_other W1 g k cur' hne).trans (hold k hk)
        have e4 : (W1.setRow g cur').heap[g]? = some (.cells cur' 9 (0, 0)) := setRow_heap W1 g cur cur' 9 (0, 0) hg1
        have hbs : Below w.heap.size w (W1.setRow g cur') := ⟨hba.os, hba.tape, hba.output, by simpa using hba.size, fun k hk => by rw [setRow_other W1 g k cur' (by omega)]; exact hba.block k hk⟩
        -- the words that were there
        have keep : ∀ x, x < m → (W1.setRow g cur').cell? ⟨g, x, none⟩ = W.cell? ⟨g, x, none⟩ := fun x hx => by
          have c1 : (W1.setRow g cur').cell? ⟨g, x, none⟩ = cur'[x]? := by simp [World.cell?, e4]
          have c2 : W.cell? ⟨g, x, none⟩ = cur[x]? := by simp [World.cell?, hg]
          rw [c1, c2]
          have e5 := congrArg (fun l => l[x]?) hr3
          simp only [his, Nat.mul_one] at e5
          rw [List.getElem?_take_of_lt (by omega), List.getElem?_append_left (by rw [hxl]; exact hx), List.getElem?_take_of_lt hx] at e5
          simpa using e5
        have nd : atlaslaw01_WordsOwn.Nud w W (W1.setRow g cur') A M q o := by
          refine ⟨fun _ => hbs, by simp; omega, fun k hk hne => e3 k hk (fun hkg => ?_), fun g' cur2 hg' hc => ?_⟩
          · subst hkg
            rcases hrel with ⟨ho, _⟩ | ⟨ho, ha, hm'⟩
            · rcases hne with e | e | ⟨r, hr, hrq, e⟩
              · exact (h.neA q k hq ho).1 e
              · exact (h.neA q k hq ho).2 e
              · exact h.ne q r k hq hr (Ne.symm hrq) ho e
            · rcases hne with e | e | ⟨r, hr, hrq, e⟩
              · exact ha e
              · exact hm' e
              · exact ho r hr e
          · by_cases hkg : g' = g
            · subst hkg
              rw [hg] at hc
              cases hc
              exact ⟨cur', e4, hs1⟩
            · exact ⟨cur2, (e3 g' (Array.getElem?_eq_some_iff.1 hc).1 hkg).trans hc, rfl⟩
        refine ⟨_, _, hr, h.nud hq nd, fun r hr' => ?_, .inr ⟨g, _, cur', rfl, e4, by rw [hs1, hs2, his, Nat.mul_one], hr1, hr2, hlo, ?_⟩⟩
        · by_cases hrq : r = q
          · subst hrq
            intro g' x hg' hx
            have e6 := hm r hr' g' x hg' hx
            by_cases hgg : g' = g
            · subst hgg
              rw [keep x ?_]
              · exact e6
              · rcases hrel with ⟨ho, hnm⟩ | ⟨ho, _⟩
                · rw [if_pos (Nat.le_refl _)] at hx; omega
                · exact absurd hg' (ho r hr')
            · have := e3 g' ((h.row r hr').lt hg').2 hgg
              simp only [World.cell?, this] at e6 ⊢
              exact e6
          · exact atlaslaw01_WordsOwn.Mk.nud hr' hrq h nd (hm r hr')
        · rcases hrel with ⟨ho, hnm⟩ | hrel
          · exact .inl ⟨ho, by omega⟩
          · exact .inr hrel
      · cases h2
  exact main _ rfl
end
/-- An append that is known to come to this. -/
theorem atlaslaw01_WordsOwn.own_append {P : Program} {ops : Array Oper} {o : Oper} {a : Act} {rest : List Oper} {Q : Exit → Act → World → Prop} {W W' : World} (hgd : o.guard = none) (s x : Operand) (t : TypeId)
    (ho : o.op = .call { callee := .builtin .append, args := #[s, x], argTypes := #[t, t] }) {v y v' : Value} (hs : a.eval s = v) (hx : a.eval x = y)
    (hrun : (Builtin.append_ #[t, t] o.type #[v, y]).run P W = .ok v' W') (h : wpList P ops Q rest (a.put o.dst v') W') : wpList P ops Q (o :: rest) a W := by
  subst hs
  subst hx
  unfold wpList
  rw [show Region.wanted o (yielded ops a.tmps) = true by simp [Region.wanted, hgd], if_pos rfl]
  refine .inl ?_
  unfold Oper.wp execOp
  simp only [ho, resolve, invoke, builtin, Sem.run_bind, Sem.run_pure, Result.andThen_ok, List.map_toArray, List.map_cons, List.map_nil, hrun]
  exact h
theorem atlaslaw01_WordsOwn.hold_start {w w1 w2 w3 w5 : World} {oa ob oc : Option Addr} {na nb nc ca cb cc : Nat} (hA : Below w.heap.size w w1) (hB : Below w1.heap.size w1 w2) (hC : Below w2.heap.size w2 w3) (hD : Below w3.heap.size w3 w5)
    (ra : atlaslaw01_WordsOwn.RowAt w.heap.size w1 oa na ca) (rb : atlaslaw01_WordsOwn.RowAt w1.heap.size w2 ob nb cb) (rc : atlaslaw01_WordsOwn.RowAt w2.heap.size w3 oc nc cc) :
    atlaslaw01_WordsOwn.Hold w ((w5.alloc (.cells #[.slice oa na ca, .slice ob nb cb, .slice oc nc cc] 25)).alloc (.cells #[.string ⟨#[111, 110, 101]⟩, .string ⟨#[116, 119, 111]⟩, .string ⟨#[116, 104, 114, 101, 101]⟩] 9)) w5.heap.size (w5.heap.size + 1) (atlaslaw01_WordsOwn.tri oa ob oc) (atlaslaw01_WordsOwn.tri na nb nc) (atlaslaw01_WordsOwn.tri ca cb cc) := by
  have s1 := hA.size; have s2 := hB.size; have s3 := hC.size; have s4 := hD.size
  have e0 : (w5.alloc (.cells #[.slice oa na ca, .slice ob nb cb, .slice oc nc cc] 25)).heap.size = w5.heap.size + 1 := by show (w5.heap.push _).size = _; rw [Array.size_push]
  have old : ∀ k, k < w5.heap.size → ((w5.alloc (.cells #[.slice oa na ca, .slice ob nb cb, .slice oc nc cc] 25)).alloc (.cells #[.string ⟨#[111, 110, 101]⟩, .string ⟨#[116, 119, 111]⟩, .string ⟨#[116, 104, 114, 101, 101]⟩] 9)).heap[k]? = w5.heap[k]? := fun k hk => by
    show ((w5.heap.push _).push _)[k]? = _
    rw [Array.getElem?_push_lt (by simp; omega), Array.getElem_push_lt hk, Array.getElem?_eq_getElem hk]
  have oldc : ∀ k, k < w3.heap.size → _ := fun k hk => (old k (by omega)).trans (hD.block k hk)
  have oldb : ∀ k, k < w2.heap.size → _ := fun k hk => (oldc k (by omega)).trans (hC.block k hk)
  have olda : ∀ k, k < w1.heap.size → _ := fun k hk => (oldb k (by omega)).trans (hB.block k hk)
  refine ⟨below_alloc (below_alloc (below_step (below_step (below_step hA hB) hC) hD) _) _, by omega, by omega, by omega, ?_, ?_, fun q hq => ?_, fun q g hq ho => ?_, fun q q' g hq hq' hne h1 h2 => ?_⟩
  · show ((w5.heap.push _).push _)[w5.heap.size]? = _
    rw [Array.getElem?_push_lt (by simp), Array.getElem_push_eq]; rfl
  · show ((w5.heap.push _).push _)[w5.heap.size + 1]? = _
    rw [show w5.heap.size + 1 = (w5.heap.push (Obj.cells #[.slice oa na ca, .slice ob nb cb, .slice oc nc cc] 25)).size by rw [Array.size_push], Array.getElem?_push_size]; rfl
  · match q, hq with
    | 0, _ => exact ra.old olda
    | 1, _ => rcases rb.old oldb with h | ⟨g, cur, h1, h2, h3⟩
              · exact .inl h
              · exact .inr ⟨g, cur, h1, by omega, h3⟩
    | 2, _ => rcases rc.old oldc with h | ⟨g, cur, h1, h2, h3⟩
              · exact .inl h
              · exact .inr ⟨g, cur, h1, by omega, h3⟩
  · have : g < w5.heap.size := by
      match q, hq with
      | 0, _ => have := (ra.lt ho).2; omega
      | 1, _ => have := (rb.lt ho).2; omega
      | 2, _ => have := (rc.lt ho).2; omega
    omega
  · have l0 : ∀ g, atlaslaw01_WordsOwn.tri oa ob oc 0 = some ⟨g, 0, none⟩ → w.heap.size ≤ g ∧ g < w1.heap.size := fun g h => ra.lt h
    have l1 : ∀ g, atlaslaw01_WordsOwn.tri oa ob oc 1 = some ⟨g, 0, none⟩ → w1.heap.size ≤ g ∧ g < w2.heap.size := fun g h => rb.lt h
    have l2 : ∀ g, atlaslaw01_WordsOwn.tri oa ob oc 2 = some ⟨g, 0, none⟩ → w2.heap.size ≤ g ∧ g < w3.heap.size := fun g h => rc.lt h
    match q, hq, q', hq' with
    | 0, _, 0, _ => exact hne rfl
    | 0, _, 1, _ => have := l0 g h1; have := l1 g h2; omega
    | 0, _, 2, _ => have := l0 g h1; have := l2 g h2; omega
    | 1, _, 0, _ => have := l1 g h1; have := l0 g h2; omega
    | 1, _, 1, _ => exact hne rfl
    | 1, _, 2, _ => have := l1 g h1; have := l2 g h2; omega
    | 2, _, 0, _ => have := l2 g h1; have := l0 g h2; omega
    | 2, _, 1, _ => have := l2 g h1; have := l1 g h2; omega
    | 2, _, 2, _ => exact hne rfl
/-- A list that was handed out. -/
theorem atlaslaw01_WordsOwn.rowC {w w' : World} {v : Value} {r : List ByteArray} (h : Kd.R Kd.string 9 w' w.heap.size (fun _ => True) v r) : ∃ o c, v = .slice o r.length c ∧ atlaslaw01_WordsOwn.RowAt w.heap.size w' o r.length c ∧ Kd.C Kd.string w' o r.length r ∧ r.length ≤ c := by
  obtain ⟨A, c, e, hl, hc⟩ := Kd.R_reads h
  obtain ⟨inner, _, ho⟩ := Kd.R_own h
  refine ⟨A, c, e, ?_, hc, hl⟩
  subst e
  rcases ho with ⟨e1, e2⟩ | ⟨g, cap, cur, e1, e2, e3, e4, e5, e6, _⟩
  · have e1 := Value.slice.inj e1
    exact .inl ⟨e1.1, e2, e1.2.2⟩
  · obtain ⟨rfl, -, rfl⟩ := Value.slice.inj e1
    have e6 : cur.size = c * 1 := e6
    exact .inr ⟨g, cur, rfl, e2, e3, by omega, e4, e5⟩
theorem atlaslaw01_WordsOwn.fieldsC (k : Nat) (a0 : ByteArray) (r : List ByteArray) (w : World) (h : words_Fields.f k a0 = some r) :
    Calls Try.prog 16 #[.string a0] w fun e w' => ∃ o c, e = .returned (.slice o r.length c) ∧ atlaslaw01_WordsOwn.RowAt w.heap.size w' o r.length c ∧ Kd.C Kd.string w' o r.length r ∧ r.length ≤ c ∧ Below w.heap.size w w' := by
  refine (words_Fields.calls k a0 r w h).mono fun e w' ⟨v, he, hr, hb⟩ => ?_
  obtain ⟨o, c, e1, h1, h2, h3⟩ := atlaslaw01_WordsOwn.rowC hr
  exact ⟨o, c, by rw [he, e1], h1, h2, h3, hb⟩
theorem atlaslaw01_WordsOwn.refC (k : Nat) (a0 : ByteArray) (r : List ByteArray) (w : World) (h : atlasref01_Fields.f k a0 = some r) :
    Calls Try.prog 17 #[.string a0] w fun e w' => ∃ o c, e = .returned (.slice o r.length c) ∧ atlaslaw01_WordsOwn.RowAt w.heap.size w' o r.length c ∧ Kd.C Kd.string w' o r.length r ∧ r.length ≤ c ∧ Below w.heap.size w w' := by
  refine (atlasref01_Fields.calls k a0 r w h).mono fun e w' ⟨v, he, hr, hb⟩ => ?_
  obtain ⟨o, c, e1, h1, h2, h3⟩ := atlaslaw01_WordsOwn.rowC hr
  exact ⟨o, c, by rw [he, e1], h1, h2, h3, hb⟩
/-- All that the law asks of the program's answers, by rounds. -/
def atlaslaw01_WordsOwn.ok (k : Nat) (s t : ByteArray) : Prop :=
  ∃ la lb ra rb, words_Fields.f k s = some la ∧ words_Fields.f k t = some lb ∧ atlasref01_Fields.f k s = some ra ∧ atlasref01_Fields.f k t = some rb ∧ atlaslaw01_same.f k la ra = some true ∧ atlaslaw01_same.f k lb rb = some true ∧
    atlaslaw01_same.f k la la = some true ∧ la.length ≤ 1073741000 ∧ lb.length ≤ 1073741000
open Classical in
noncomputable def atlaslaw01_WordsOwn.f (k : Nat) (a0 : ByteArray) (a1 : ByteArray) : Option (Bool) := if atlaslaw01_WordsOwn.ok k a0 a1 then some true else none
set_option maxHeartbeats 8000000 in
set_option maxRecDepth 100000 in
theorem atlaslaw01_WordsOwn.calls (k : Nat) (a0 : ByteArray) (a1 : ByteArray) (r : Bool) (w : World) (h : atlaslaw01_WordsOwn.f k a0 a1 = some r) :
    Calls Try.prog 6 #[.string a0, .string a1] w fun e w' => e = .returned (.bool r) ∧ Below w.heap.size w w' := by
  unfold atlaslaw01_WordsOwn.f at h
  by_cases hk : atlaslaw01_WordsOwn.ok k a0 a1
  case neg => rw [if_neg hk] at h; exact absurd h (by simp)
  rw [if_pos hk] at h
  obtain rfl := Option.some.inj h
  clear h
  obtain ⟨la, lb, ra, rb, f1, f2, f3, f4, f5, f6, f7, f8, f9⟩ := hk
  have F1 := Aside0.mk f1
  have F2 := Aside0.mk f2
  have F3 := Aside0.mk f3
  have F4 := Aside0.mk f4
  have F5 := Aside0.mk f5
  have F6 := Aside0.mk f6
  have F7 := Aside0.mk f7
  have F8 := Aside0.mk (And.intro f8 f9)
  clear f1 f2 f3 f4 f5 f6 f7 f8 f9
  have HB0 := Aside0.mk (Below.refl w.heap.size w)
  go_enter Try.func6, Try.ntmps6
  go_wp2_with (first
    | (go_at_call 16; (with_reducible refine (atlaslaw01_WordsOwn.fieldsC k a0 la _ F1.out).mono ?_); have _x := RB; rintro e w3 ⟨oc, cc, rfl, rc, xc, lc, bc⟩; have RC := Aside0.mk rc; have XC := Aside0.mk xc; have LC := Aside0.mk lc; have BC := Aside0.mk bc; clear rc xc lc bc _x)
    | (go_at_call 16; (with_reducible refine (atlaslaw01_WordsOwn.fieldsC k a0 la _ F1.out).mono ?_); rintro e w1 ⟨oa, ca, rfl, ra1, xa, l1, ba⟩; have RA := Aside0.mk ra1; have XA := Aside0.mk xa; have LA := Aside0.mk l1; have BA := Aside0.mk ba; clear ra1 xa l1 ba)
    | (go_at_call 16; (with_reducible refine (atlaslaw01_WordsOwn.fieldsC k a1 lb _ F2.out).mono ?_); rintro e w2 ⟨ob, cb, rfl, rb1, xb, l1, bb⟩; have RB := Aside0.mk rb1; have XB := Aside0.mk xb; have LB := Aside0.mk l1; have BB := Aside0.mk bb; clear rb1 xb l1 bb)
    | (go_at_call 17; (with_reducible refine (atlaslaw01_WordsOwn.refC k a0 ra _ F3.out).mono ?_); rintro e w4 ⟨od, cd, rfl, rd1, xd, l1, bd⟩; have XD := Aside0.mk xd; have LD := Aside0.mk l1; have BD := Aside0.mk bd; clear rd1 xd l1 bd)
    | (go_at_call 17; (with_reducible refine (atlaslaw01_WordsOwn.refC k a1 rb _ F4.out).mono ?_); rintro e w5 ⟨oe, ce, rfl, rd1, xd, l1, bd⟩; have XE := Aside0.mk xd; have LE := Aside0.mk l1; have BE := Aside0.mk bd; clear rd1 xd l1 bd)
    | (go_at_call 15; (with_reducible refine (atlaslaw01_same.calls k _ _ la _ _ ra true _ (Kd.C_below (Kd.C_below (Kd.C_below XA.out BB.out) BC.out) BD.out) LA.out XD.out LD.out F5.out).mono ?_); rintro e w' ⟨rfl, ⟨n1, rfl⟩⟩)
    | (go_at_call 15; (with_reducible refine (atlaslaw01_same.calls k _ _ lb _ _ rb true _ (Kd.C_below (Kd.C_drewN (Kd.C_below (Kd.C_below XB.out BC.out) BD.out) n1) BE.out) LB.out XE.out LE.out F6.out).mono ?_); rintro e w' ⟨rfl, ⟨n2, rfl⟩⟩)
    | (go_at_call 15; (with_reducible refine (atlaslaw01_same.calls k _ _ la _ _ la true _ (Kd.C_drewN (Kd.C_below (Kd.C_drewN (Kd.C_below XC.out BD.out) n1) BE.out) n2) LC.out (Kd.C_drewN (Kd.C_below (Kd.C_drewN (Kd.C_below (Kd.C_below (Kd.C_below XA.out BB.out) BC.out) BD.out) n1) BE.out) n2) LA.out F7.out).mono ?_); rintro e w' ⟨rfl, ⟨n3, rfl⟩⟩))
  have H0 := Aside0.mk (atlaslaw01_WordsOwn.hold_start (w5 := w5.drewN (n2 + n3)) BA.out BB.out BC.out (pw_below_drewN (below_step (pw_below_drewN BD.out n1) BE.out) (n2 + n3)) RA.out RB.out RC.out)
  clear BA BB BC BD BE RA RB RC XA XB XC XD XE LA LB LC LD LE
  go_loopg [10] 4 (fun kq v10 w' => ∃ i : Nat, v10 = .int .i64 (i : Int) ∧ Aside0 (i + kq = 4 ∧ i ≤ 3) ∧ Aside0 (atlaslaw01_WordsOwn.Hold w w' w5.heap.size (w5.heap.size + 1) (atlaslaw01_WordsOwn.tri oa ob oc) (atlaslaw01_WordsOwn.tri la.length lb.length la.length) (atlaslaw01_WordsOwn.tri ca cb cc)) ∧ Aside0 (∀ r, r < 3 → atlaslaw01_WordsOwn.Mk w' (atlaslaw01_WordsOwn.tri oa ob oc r) (atlaslaw01_WordsOwn.mkS r) (if r < i then atlaslaw01_WordsOwn.tri la.length lb.length la.length r else 0)))
  case atStart => exact ⟨0, rfl, ⟨by omega⟩, H0, ⟨fun r _ => atlaslaw01_WordsOwn.Mk.zero _ _ _⟩⟩
  case round =>
    clear H0
    obtain ⟨i, rfl, HI, HH, HM⟩ := hrel
    have hI := HI.out
    cases gk with
    | zero => omega
    | succ k1 =>
      by_cases hi : i < 3
      · have d1 : decide ((i : Int) < 3) = true := decide_eq_true (by omega)
        clear hI
        go_wp2
        obtain ⟨oi, hoi⟩ : ∃ x, atlaslaw01_WordsOwn.tri oa ob oc i = x := ⟨_, rfl⟩
        obtain ⟨ni, hni⟩ : ∃ x, atlaslaw01_WordsOwn.tri la.length lb.length la.length i = x := ⟨_, rfl⟩
        obtain ⟨ci, hci⟩ : ∃ x, atlaslaw01_WordsOwn.tri ca cb cc i = x := ⟨_, rfl⟩
        have E := Aside0.mk (And.intro hoi (And.intro hni (And.intro hci hi)))
        have hnil : ni ≤ 1073741000 := by
          have := F8.out
          rw [← hni]
          unfold atlaslaw01_WordsOwn.tri
          split
          · omega
          · split <;> omega
        have NL := Aside0.mk hnil
        clear hoi hni hci hi hnil d1
        go_loopg [11] (ni + 1) (fun kq v11 w' => ∃ j : Nat, v11 = .int .i64 (j : Int) ∧ Aside0 (j + kq = ni + 1 ∧ j ≤ ni) ∧ Aside0 (atlaslaw01_WordsOwn.Hold w w' w5.heap.size (w5.heap.size + 1) (atlaslaw01_WordsOwn.tri oa ob oc) (atlaslaw01_WordsOwn.tri la.length lb.length la.length) (atlaslaw01_WordsOwn.tri ca cb cc)) ∧ Aside0 ((∀ r, r < 3 → r ≠ i → atlaslaw01_WordsOwn.Mk w' (atlaslaw01_WordsOwn.tri oa ob oc r) (atlaslaw01_WordsOwn.mkS r) (if r < i then atlaslaw01_WordsOwn.tri la.length lb.length la.length r else 0)) ∧ atlaslaw01_WordsOwn.Mk w' oi (atlaslaw01_WordsOwn.mkS i) j))
        case atStart => exact ⟨0, rfl, ⟨by omega⟩, HH, ⟨fun r hr _ => HM.out r hr, atlaslaw01_WordsOwn.Mk.zero _ _ _⟩⟩
        case round =>
          clear HH HM
          obtain ⟨j, rfl, HJ, HH, HM⟩ := hrel
          have hJ := HJ.out
          cases gk with
          | zero => omega
          | succ k2 =>
            have hz1 := HH.out.cell i E.out.2.2.2
            rw [E.out.1, E.out.2.1, E.out.2.2.1] at hz1
            have hz2 := HH.out.mark i E.out.2.2.2
            have i0 : (0 ≤ (i : Int)) = True := eq_true (by omega)
            have i3 : ((i : Int) < 3) = True := eq_true (by have := E.out.2.2.2; omega)
            have i3' : i < 3 := E.out.2.2.2
            by_cases hj : j < ni
            · have d2 : decide ((j : Int) < (ni : Int)) = true := decide_eq_true (by omega)
              clear hJ
              obtain ⟨g, v0, hg, hz3, hf3⟩ := HH.out.place (q := i) (j := j) i3' (by rw [E.out.2.1]; exact hj)
              rw [E.out.1] at hg
              subst hg
              have j0 : (0 ≤ (j : Int)) = True := eq_true (by omega)
              have j3 : ((j : Int) < (ni : Int)) = True := eq_true (by omega)
              go_wp2
              refine start_ (n := 11) (S := fun w' => w'.cell? ⟨w5.heap.size, i, none⟩ = some (.slice (some ⟨g, 0, none⟩) ni ci) ∧ w'.cell? ⟨w5.heap.size + 1, i, none⟩ = some (.string (atlaslaw01_WordsOwn.mkS i)) ∧ w'.cell? ⟨g, j, none⟩ = some v0 ∧ w'.frozen? ⟨g, j, none⟩ = false) (ds := [10]) #[false, false, false, false, false, false, false, false, false, false, false] (by kernel_rfl) rfl rfl ⟨hz1, hz2, hz3, hf3⟩ (fun hHeld => ?_)
              refine pure_ (i := 0) (N := some 60) (v := ?_) (a' := ?_) #[true, false, false, false, false, false, false, false, false, false, false] rfl rfl (by kernel_rfl) (fun _ _ _ h => h) (Or.inl ⟨by rfl, ?_⟩) ?_ ?_
              rotate_left
              · intro w'
                go_simp
                with_reducible rfl
              rotate_left
              · simp only [Act.put, List.setIfInBounds_toArray, List.set_cons_zero, List.set_cons_succ, i64_w, i32_w]
                rfl
              refine pure_ (i := 1) (N := some 61) (v := ?_) (a' := ?_) #[true, true, false, false, false, false, false, false, false, false, false] rfl rfl (by kernel_rfl) (fun _ _ _ h => h) (Or.inl ⟨by rfl, ?_⟩) ?_ ?_
              rotate_left
              · intro w'
                go_simp
                with_reducible rfl
              rotate_left
              · simp only [Act.put, List.setIfInBounds_toArray, List.set_cons_zero, List.set_cons_succ, i64_w, i32_w]
                rfl
              refine pure_ (i := 2) (N := some 62) (v := ?_) (a' := ?_) #[true, true, true, false, false, false, false, false, false, false, false] rfl rfl (by kernel_rfl) (fun _ _ _ h => h) (Or.inl ⟨by rfl, ?_⟩) ?_ ?_
              rotate_left
              · intro w'
                go_simp
                with_reducible rfl
              rotate_left
              · simp only [Act.put, List.setIfInBounds_toArray, List.set_cons_zero, List.set_cons_succ, i64_w, i32_w]
                rfl
              refine pure_ (i := 4) (N := some 64) (v := ?_) (a' := ?_) #[true, true, true, false, true, false, false, false, false, false, false] rfl rfl (by kernel_rfl) (fun _ _ _ h => h) (Or.inl ⟨by rfl, ?_⟩) ?_ ?_
              rotate_left
              · intro w'
                go_simp
                with_reducible rfl
              rotate_left
              · simp only [Act.put, List.setIfInBounds_toArray, List.set_cons_zero, List.set_cons_succ, i64_w, i32_w]
                rfl
              refine pure_ (i := 5) (N := some 65) (v := ?_) (a' := ?_) #[true, true, true, false, true, true, false, false, false, false, false] rfl rfl (by kernel_rfl) (fun _ _ _ h => h) (Or.inl ⟨by rfl, ?_⟩) ?_ ?_
              rotate_left
              · intro w'
                go_simp
                with_reducible rfl
              rotate_left
              · simp only [Act.put, List.setIfInBounds_toArray, List.set_cons_zero, List.set_cons_succ, i64_w, i32_w]
                rfl
              refine pure_ (i := 6) (N := some 66) (v := ?_) (a' := ?_) #[true, true, true, false, true, true, true, false, false, false, false] rfl rfl (by kernel_rfl) (fun _ _ _ h => h) (Or.inl ⟨by rfl, ?_⟩) ?_ ?_
              rotate_left
              · intro w'
                go_simp
                with_reducible rfl
              rotate_left
              · simp only [Act.put, List.setIfInBounds_toArray, List.set_cons_zero, List.set_cons_succ, i64_w, i32_w]
                rfl
              refine pure_ (i := 7) (N := some 67) (v := ?_) (a' := ?_) #[true, true, true, false, true, true, true, true, false, false, false] rfl rfl (by kernel_rfl) (fun _ _ _ h => h) (Or.inl ⟨by rfl, ?_⟩) ?_ ?_
              rotate_left
              · intro w'
                go_simp
                with_reducible rfl
              rotate_left
              · simp only [Act.put, List.setIfInBounds_toArray, List.set_cons_zero, List.set_cons_succ, i64_w, i32_w]
                rfl
              refine take_ (i := 3) (N := some 63) (v := ?_) (a' := ?_) #[true, true, true, true, true, true, true, true, false, false, false] rfl rfl (by kernel_rfl) (fun _ _ _ h => h) (Or.inl ⟨by rfl, ?_⟩) hHeld ?_ ?_
              rotate_left
              · rintro w' ⟨s0, s1, s2, s3⟩
                go_simp
                with_reducible rfl
              rotate_left
              · simp only [Act.put, List.setIfInBounds_toArray, List.set_cons_zero, List.set_cons_succ, i64_w, i32_w]
                rfl
              refine take_ (i := 8) (N := some 68) (v := ?_) (a' := ?_) #[true, true, true, true, true, true, true, true, true, false, false] rfl rfl (by kernel_rfl) (fun _ _ _ h => h) (Or.inl ⟨by rfl, ?_⟩) hHeld ?_ ?_
              rotate_left
              · rintro w' ⟨s0, s1, s2, s3⟩
                go_simp
                with_reducible rfl
              rotate_left
              · simp only [Act.put, List.setIfInBounds_toArray, List.set_cons_zero, List.set_cons_succ, i64_w, i32_w]
                rfl
              refine pure_ (i := 9) (N := some 69) (v := ?_) (a' := ?_) #[true, true, true, true, true, true, true, true, true, true, false] rfl rfl (by kernel_rfl) (fun _ _ _ h => h) (Or.inl ⟨by rfl, ?_⟩) ?_ ?_
              rotate_left
              · intro w'
                go_simp
                with_reducible rfl
              rotate_left
              · simp only [Act.put, List.setIfInBounds_toArray, List.set_cons_zero, List.set_cons_succ, i64_w, i32_w]
                rfl
              refine last_ (i := 10) (N := none) #[true, true, true, true, true, true, true, true, true, true, true] rfl rfl (by kernel_rfl) (by decide) (fun K hK => ?_)
              refine skip_ (w1 := ?_) (by rfl) rfl ?_ ?_
              rotate_left
              · go_simp
                rfl
              refine hK.out _ _ ?_
              clear hK K
              refine done_ (by kernel_rfl) ?_

              clear hHeld
              go_wp2
              go_roundg k2
              case measure => omega
              case rel =>
                have nd := HH.out.put (q := i) (g := g) (j := j) i3' E.out.1 (.string (atlaslaw01_WordsOwn.mkS i))
                refine ⟨j + 1, by rw [show wrap64 ((j : Int) + 1) = ((j + 1 : Nat) : Int) by have := NL.out; unfold wrap64; omega], ⟨by have := HJ.out; omega⟩, ⟨(HH.out.nud i3' nd).drew⟩, ⟨fun r hr hri => (atlaslaw01_WordsOwn.Mk.nud hr hri HH.out nd (HM.out.1 r hr hri)).drew, ?_⟩⟩
                have := atlaslaw01_WordsOwn.Mk.put HH.out i3' E.out.1 (by rw [E.out.2.1]; exact hj) (by rw [E.out.1]; exact HM.out.2)
                rw [E.out.1] at this
                exact this.drew
            · have d2 : decide ((j : Int) < (ni : Int)) = false := decide_eq_false (by omega)
              have hjn : j = ni := by omega
              subst hjn
              have HM2 : Aside0 (∀ r, r < 3 → atlaslaw01_WordsOwn.Mk wr (atlaslaw01_WordsOwn.tri oa ob oc r) (atlaslaw01_WordsOwn.mkS r) (if r ≤ i then atlaslaw01_WordsOwn.tri la.length lb.length la.length r else 0)) := ⟨fun r hr => by
                by_cases hri : r = i
                · subst hri
                  rw [if_pos (Nat.le_refl _), E.out.1, E.out.2.1]
                  exact HM.out.2
                · have := HM.out.1 r hr hri
                  by_cases hlt : r < i
                  · rw [if_pos hlt] at this
                    rw [if_pos (by omega)]; exact this
                  · rw [if_neg hlt] at this
                    rw [if_neg (by omega)]; exact this⟩
              have HV : Aside0 (atlaslaw01_WordsOwn.More w wr w5.heap.size (w5.heap.size + 1) (atlaslaw01_WordsOwn.tri oa ob oc) (atlaslaw01_WordsOwn.tri la.length lb.length la.length) i (.slice oi j ci) (j + 0)) := ⟨by
                have := atlaslaw01_WordsOwn.More.start HH.out i i3'
                rw [E.out.1, E.out.2.1, E.out.2.2.1] at this
                exact this⟩
              clear hJ hj HM
              go_wp2
              go_loopg [12, 13] 65 (fun kq v12 v13 w' => ∃ m : Nat, v13 = .int .i64 (m : Int) ∧ Aside0 (m + kq = 65 ∧ m ≤ 64) ∧ Aside0 (atlaslaw01_WordsOwn.Hold w w' w5.heap.size (w5.heap.size + 1) (atlaslaw01_WordsOwn.tri oa ob oc) (atlaslaw01_WordsOwn.tri la.length lb.length la.length) (atlaslaw01_WordsOwn.tri ca cb cc)) ∧ Aside0 (∀ r, r < 3 → atlaslaw01_WordsOwn.Mk w' (atlaslaw01_WordsOwn.tri oa ob oc r) (atlaslaw01_WordsOwn.mkS r) (if r ≤ i then atlaslaw01_WordsOwn.tri la.length lb.length la.length r else 0)) ∧ Aside0 (atlaslaw01_WordsOwn.More w w' w5.heap.size (w5.heap.size + 1) (atlaslaw01_WordsOwn.tri oa ob oc) (atlaslaw01_WordsOwn.tri la.length lb.length la.length) i v12 (j + m)))
              case atStart => exact ⟨0, rfl, ⟨by omega⟩, HH, HM2, HV⟩
              case round =>
                clear HH HM2 HV hz1 hz2 d2 HJ
                obtain ⟨m, rfl, HJ, HH, HM, HV⟩ := hrel
                have hJ := HJ.out
                cases gk with
                | zero => omega
                | succ k3 =>
                  by_cases hm : m < 64
                  · have d3 : decide ((m : Int) < 64) = true := decide_eq_true (by omega)
                    obtain ⟨v', W', hrun, h1, h2, h3⟩ := atlaslaw01_WordsOwn.More.step (s := ⟨#[101, 110, 100]⟩) HH.out i3' HM.out HV.out (by have := NL.out; omega)
                    have H1 := Aside0.mk h1
                    have H2 := Aside0.mk h2
                    have H3 := Aside0.mk h3
                    clear h1 h2 h3 hJ HH HM HV
                    go_wp2_with (at_builtin; (refine atlaslaw01_WordsOwn.own_append rfl (.tmp 78) (.tmp 79) 25 rfl rfl rfl hrun ?_))
                    go_roundg k3
                    case measure => omega
                    case rel => exact ⟨m + 1, rfl, ⟨by have := HJ.out; omega⟩, H1, H2, H3⟩
                  · have d3 : decide ((m : Int) < 64) = false := decide_eq_false (by omega)
                    clear hJ HV hm
                    go_wp2
                    go_roundg k1
                    case measure => omega
                    case rel =>
                      refine ⟨i + 1, rfl, ⟨by have := HI.out; omega⟩, HH, ⟨fun r hr => ?_⟩⟩
                      have := HM.out r hr
                      by_cases hri : r ≤ i
                      · rw [if_pos hri] at this
                        rw [if_pos (by omega)]; exact this
                      · rw [if_neg hri] at this
                        rw [if_neg (by omega)]; exact this
      · have hi3 : i = 3 := by omega
        subst hi3
        have HM2 : Aside0 (∀ r, r < 3 → atlaslaw01_WordsOwn.Mk wr (atlaslaw01_WordsOwn.tri oa ob oc r) (atlaslaw01_WordsOwn.mkS r) (atlaslaw01_WordsOwn.tri la.length lb.length la.length r)) := ⟨fun r hr => by
          have := HM.out r hr
          rw [if_pos hr] at this
          exact this⟩
        have d1 : decide (((3 : Nat) : Int) < 3) = false := rfl
        clear HM HI hI hi
        go_wp2
        go_loopg [14] 4 (fun kq v14 w' => ∃ i : Nat, v14 = .int .i64 (i : Int) ∧ Aside0 (i + kq = 4 ∧ i ≤ 3) ∧ Aside0 (atlaslaw01_WordsOwn.Hold w w' w5.heap.size (w5.heap.size + 1) (atlaslaw01_WordsOwn.tri oa ob oc) (atlaslaw01_WordsOwn.tri la.length lb.length la.length) (atlaslaw01_WordsOwn.tri ca cb cc)) ∧ Aside0 (∀ r, r < 3 → atlaslaw01_WordsOwn.Mk w' (atlaslaw01_WordsOwn.tri oa ob oc r) (atlaslaw01_WordsOwn.mkS r) (atlaslaw01_WordsOwn.tri la.length lb.length la.length r)))
        case atStart => exact ⟨0, rfl, ⟨by omega⟩, HH, HM2⟩
        case round =>
          clear HH HM2
          obtain ⟨i, rfl, HI, HH, HM⟩ := hrel
          have hI := HI.out
          cases gk with
          | zero => omega
          | succ k4 =>
            by_cases hi : i < 3
            · have d1 : decide ((i : Int) < 3) = true := decide_eq_true (by omega)
              clear hI
              go_wp2
              obtain ⟨oi, hoi⟩ : ∃ x, atlaslaw01_WordsOwn.tri oa ob oc i = x := ⟨_, rfl⟩
              obtain ⟨ni, hni⟩ : ∃ x, atlaslaw01_WordsOwn.tri la.length lb.length la.length i = x := ⟨_, rfl⟩
              obtain ⟨ci, hci⟩ : ∃ x, atlaslaw01_WordsOwn.tri ca cb cc i = x := ⟨_, rfl⟩
              have E := Aside0.mk (And.intro hoi (And.intro hni (And.intro hci hi)))
              have hnil : ni ≤ 1073741000 := by
                have := F8.out
                rw [← hni]
                unfold atlaslaw01_WordsOwn.tri
                split
                · omega
                · split <;> omega
              have NL := Aside0.mk hnil
              clear hoi hni hci hi hnil d1
              go_loopg [15] (ni + 1) (fun kq v15 w' => ∃ j : Nat, v15 = .int .i64 (j : Int) ∧ Aside0 (j + kq = ni + 1 ∧ j ≤ ni) ∧ Aside0 (atlaslaw01_WordsOwn.Hold w w' w5.heap.size (w5.heap.size + 1) (atlaslaw01_WordsOwn.tri oa ob oc) (atlaslaw01_WordsOwn.tri la.length lb.length la.length) (atlaslaw01_WordsOwn.tri ca cb cc)) ∧ Aside0 (∀ r, r < 3 → atlaslaw01_WordsOwn.Mk w' (atlaslaw01_WordsOwn.tri oa ob oc r) (atlaslaw01_WordsOwn.mkS r) (atlaslaw01_WordsOwn.tri la.length lb.length la.length r)))
              case atStart => exact ⟨0, rfl, ⟨by omega⟩, HH, HM⟩
              case round =>
                clear HH HM
                obtain ⟨j, rfl, HJ, HH, HM⟩ := hrel
                have hJ := HJ.out
                cases gk with
                | zero => omega
                | succ k5 =>
                  have hz1 := HH.out.cell i E.out.2.2.2
                  rw [E.out.1, E.out.2.1, E.out.2.2.1] at hz1
                  have hz2 := HH.out.mark i E.out.2.2.2
                  have i0 : (0 ≤ (i : Int)) = True := eq_true (by omega)
                  have i3 : ((i : Int) < 3) = True := eq_true (by have := E.out.2.2.2; omega)
                  have i3' : i < 3 := E.out.2.2.2
                  by_cases hj : j < ni
                  · have d2 : decide ((j : Int) < (ni : Int)) = true := decide_eq_true (by omega)
                    clear hJ
                    obtain ⟨g, v0, hg, _, _⟩ := HH.out.place (q := i) (j := j) i3' (by rw [E.out.2.1]; exact hj)
                    have hz3 : wr.cell? ⟨g, j, none⟩ = some (.string (atlaslaw01_WordsOwn.mkS i)) := HM.out i i3' g j hg (by rw [E.out.2.1]; exact hj)
                    rw [E.out.1] at hg
                    subst hg
                    have j0 : (0 ≤ (j : Int)) = True := eq_true (by omega)
                    have j3 : ((j : Int) < (ni : Int)) = True := eq_true (by omega)
                    go_wp2
                    refine start_ (n := 12) (S := fun w' => w'.cell? ⟨w5.heap.size, i, none⟩ = some (.slice (some ⟨g, 0, none⟩) ni ci) ∧ w'.cell? ⟨w5.heap.size + 1, i, none⟩ = some (.string (atlaslaw01_WordsOwn.mkS i)) ∧ w'.cell? ⟨g, j, none⟩ = some (.string (atlaslaw01_WordsOwn.mkS i))) (ds := []) #[false, false, false, false, false, false, false, false, false, false, false, false] (by kernel_rfl) rfl rfl ⟨hz1, hz2, hz3⟩ (fun hHeld => ?_)
                    refine pure_ (i := 0) (N := some 96) (v := ?_) (a' := ?_) #[true, false, false, false, false, false, false, false, false, false, false, false] rfl rfl (by kernel_rfl) (fun _ _ _ h => h) (Or.inl ⟨by rfl, ?_⟩) ?_ ?_
                    rotate_left
                    · intro w'
                      go_simp
                      with_reducible rfl
                    rotate_left
                    · simp only [Act.put, List.setIfInBounds_toArray, List.set_cons_zero, List.set_cons_succ, i64_w, i32_w]
                      rfl
                    refine pure_ (i := 1) (N := some 97) (v := ?_) (a' := ?_) #[true, true, false, false, false, false, false, false, false, false, false, false] rfl rfl (by kernel_rfl) (fun _ _ _ h => h) (Or.inl ⟨by rfl, ?_⟩) ?_ ?_
                    rotate_left
                    · intro w'
                      go_simp
                      with_reducible rfl
                    rotate_left
                    · simp only [Act.put, List.setIfInBounds_toArray, List.set_cons_zero, List.set_cons_succ, i64_w, i32_w]
                      rfl
                    refine pure_ (i := 2) (N := some 98) (v := ?_) (a' := ?_) #[true, true, true, false, false, false, false, false, false, false, false, false] rfl rfl (by kernel_rfl) (fun _ _ _ h => h) (Or.inl ⟨by rfl, ?_⟩) ?_ ?_
                    rotate_left
                    · intro w'
                      go_simp
                      with_reducible rfl
                    rotate_left
                    · simp only [Act.put, List.setIfInBounds_toArray, List.set_cons_zero, List.set_cons_succ, i64_w, i32_w]
                      rfl
                    refine pure_ (i := 4) (N := some 100) (v := ?_) (a' := ?_) #[true, true, true, false, true, false, false, false, false, false, false, false] rfl rfl (by kernel_rfl) (fun _ _ _ h => h) (Or.inl ⟨by rfl, ?_⟩) ?_ ?_
                    rotate_left
                    · intro w'
                      go_simp
                      with_reducible rfl
                    rotate_left
                    · simp only [Act.put, List.setIfInBounds_toArray, List.set_cons_zero, List.set_cons_succ, i64_w, i32_w]
                      rfl
                    refine pure_ (i := 7) (N := some 103) (v := ?_) (a' := ?_) #[true, true, true, false, true, false, false, true, false, false, false, false] rfl rfl (by kernel_rfl) (fun _ _ _ h => h) (Or.inl ⟨by rfl, ?_⟩) ?_ ?_
                    rotate_left
                    · intro w'
                      go_simp
                      with_reducible rfl
                    rotate_left
                    · simp only [Act.put, List.setIfInBounds_toArray, List.set_cons_zero, List.set_cons_succ, i64_w, i32_w]
                      rfl
                    refine pure_ (i := 8) (N := some 104) (v := ?_) (a' := ?_) #[true, true, true, false, true, false, false, true, true, false, false, false] rfl rfl (by kernel_rfl) (fun _ _ _ h => h) (Or.inl ⟨by rfl, ?_⟩) ?_ ?_
                    rotate_left
                    · intro w'
                      go_simp
                      with_reducible rfl
                    rotate_left
                    · simp only [Act.put, List.setIfInBounds_toArray, List.set_cons_zero, List.set_cons_succ, i64_w, i32_w]
                      rfl
                    refine pure_ (i := 9) (N := some 105) (v := ?_) (a' := ?_) #[true, true, true, false, true, false, false, true, true, true, false, false] rfl rfl (by kernel_rfl) (fun _ _ _ h => h) (Or.inl ⟨by rfl, ?_⟩) ?_ ?_
                    rotate_left
                    · intro w'
                      go_simp
                      with_reducible rfl
                    rotate_left
                    · simp only [Act.put, List.setIfInBounds_toArray, List.set_cons_zero, List.set_cons_succ, i64_w, i32_w]
                      rfl
                    refine take_ (i := 3) (N := some 99) (v := ?_) (a' := ?_) #[true, true, true, true, true, false, false, true, true, true, false, false] rfl rfl (by kernel_rfl) (fun _ _ _ h => h) (Or.inl ⟨by rfl, ?_⟩) hHeld ?_ ?_
                    rotate_left
                    · rintro w' ⟨s0, s1, s2⟩
                      go_simp
                      with_reducible rfl
                    rotate_left
                    · simp only [Act.put, List.setIfInBounds_toArray, List.set_cons_zero, List.set_cons_succ, i64_w, i32_w]
                      rfl
                    refine pure_ (i := 5) (N := some 101) (v := ?_) (a' := ?_) #[true, true, true, true, true, true, false, true, true, true, false, false] rfl rfl (by kernel_rfl) (fun _ _ _ h => h) (Or.inl ⟨by rfl, ?_⟩) ?_ ?_
                    rotate_left
                    · intro w'
                      go_simp
                      with_reducible rfl
                    rotate_left
                    · simp only [Act.put, List.setIfInBounds_toArray, List.set_cons_zero, List.set_cons_succ, i64_w, i32_w]
                      rfl
                    refine take_ (i := 6) (N := some 102) (v := ?_) (a' := ?_) #[true, true, true, true, true, true, true, true, true, true, false, false] rfl rfl (by kernel_rfl) (fun _ _ _ h => h) (Or.inl ⟨by rfl, ?_⟩) hHeld ?_ ?_
                    rotate_left
                    · rintro w' ⟨s0, s1, s2⟩
                      go_simp
                      with_reducible rfl
                    rotate_left
                    · simp only [Act.put, List.setIfInBounds_toArray, List.set_cons_zero, List.set_cons_succ, i64_w, i32_w]
                      rfl
                    refine take_ (i := 10) (N := some 106) (v := ?_) (a' := ?_) #[true, true, true, true, true, true, true, true, true, true, true, false] rfl rfl (by kernel_rfl) (fun _ _ _ h => h) (Or.inl ⟨by rfl, ?_⟩) hHeld ?_ ?_
                    rotate_left
                    · rintro w' ⟨s0, s1, s2⟩
                      go_simp
                      with_reducible rfl
                    rotate_left
                    · simp only [Act.put, List.setIfInBounds_toArray, List.set_cons_zero, List.set_cons_succ, i64_w, i32_w]
                      rfl
                    refine pure_ (i := 11) (N := some 107) (v := ?_) (a' := ?_) #[true, true, true, true, true, true, true, true, true, true, true, true] rfl rfl (by kernel_rfl) (fun _ _ _ h => h) (Or.inl ⟨by rfl, ?_⟩) ?_ ?_
                    rotate_left
                    · intro w'
                      go_simp
                      with_reducible rfl
                    rotate_left
                    · simp only [Act.put, List.setIfInBounds_toArray, List.set_cons_zero, List.set_cons_succ, i64_w, i32_w]
                      rfl
                    refine done_ (by kernel_rfl) ?_

                    clear hHeld
                    go_wp2
                    go_roundg k5
                    case measure => omega
                    case rel => exact ⟨j + 1, by rw [show wrap64 ((j : Int) + 1) = ((j + 1 : Nat) : Int) by have := NL.out; unfold wrap64; omega], ⟨by have := HJ.out; omega⟩, ⟨HH.out.drew⟩, ⟨fun r hr => (HM.out r hr).drew⟩⟩
                  · have d2 : decide ((j : Int) < (ni : Int)) = false := decide_eq_false (by omega)
                    have hjn : j = ni := by omega
                    subst hjn
                    clear hJ hj
                    go_wp2
                    go_roundg k4
                    case measure => omega
                    case rel => exact ⟨i + 1, rfl, ⟨by have := HI.out; omega⟩, HH, HM⟩
            · have hi3 : i = 3 := by omega
              subst hi3
              have d1 : decide (((3 : Nat) : Int) < 3) = false := rfl
              clear HM HI hI hi
              go_wp2_with (first
                | (go_at_call 16; (with_reducible refine (atlaslaw01_WordsOwn.fieldsC k a0 la _ F1.out).mono ?_); rintro e w6 ⟨of, cf, rfl, rf1, xf, l1, bf⟩; have XF := Aside0.mk xf; have LF := Aside0.mk l1; have BF := Aside0.mk bf; clear rf1 xf l1 bf)
                | (go_at_call 17; (with_reducible refine (atlaslaw01_WordsOwn.refC k a0 ra _ F3.out).mono ?_); rintro e w7 ⟨og, cg, rfl, rg1, xg, l1, bg⟩; have XG := Aside0.mk xg; have LG := Aside0.mk l1; have BG := Aside0.mk bg; clear rg1 xg l1 bg)
                | (go_at_call 15; (with_reducible refine (atlaslaw01_same.calls k _ _ la _ _ ra true _ (Kd.C_below XF.out BG.out) LF.out XG.out LG.out F5.out).mono ?_); rintro e w' ⟨rfl, ⟨n4, rfl⟩⟩)
                | (go_at_call 16; (with_reducible refine (atlaslaw01_WordsOwn.fieldsC k a1 lb _ F2.out).mono ?_); rintro e w8 ⟨oh, ch, rfl, rh1, xh, l1, bh⟩; have XH := Aside0.mk xh; have LH := Aside0.mk l1; have BH := Aside0.mk bh; clear rh1 xh l1 bh)
                | (go_at_call 17; (with_reducible refine (atlaslaw01_WordsOwn.refC k a1 rb _ F4.out).mono ?_); rintro e w9 ⟨oi, ci, rfl, ri1, xi, l1, bi⟩; have XI := Aside0.mk xi; have LI := Aside0.mk l1; have BI := Aside0.mk bi; clear ri1 xi l1 bi)
                | (go_at_call 15; (with_reducible refine (atlaslaw01_same.calls k _ _ lb _ _ rb true _ (Kd.C_below XH.out BI.out) LH.out XI.out LI.out F6.out).mono ?_); rintro e w' ⟨rfl, ⟨n5, rfl⟩⟩))
              go_ret
              exact ⟨rfl, pw_below_drewN (below_step (below_step (pw_below_drewN (below_step (below_step HH.out.below BF.out) BG.out) n4) BH.out) BI.out) n5⟩

end Go.Proofs.Ytihjlkdobdffjaa.S
