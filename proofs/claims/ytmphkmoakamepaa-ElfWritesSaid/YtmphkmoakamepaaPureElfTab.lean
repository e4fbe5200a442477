/-
  The tables at a file's end; the whole file.
  Conditions: none.
-/
import Derived.Test.YtmphkmoakamepaaPureElfFile
set_option linter.unusedVariables false
set_option linter.unusedSimpArgs false
set_option autoImplicit false
set_option maxRecDepth 100000
namespace Go.Va
def symE (c : SymT) (a : Nat) : List Int := ([(a : Int), c.2.1, 0] : List Int).flatMap (lay 4) ++ [16, 0] ++ lay 2 65521
def symL : List SymT → Nat → List Int
  | [], _ => []
  | c :: cs, a => symE c a ++ symL cs (a + (c.1.size + 1))
def namesL (Y : List SymT) : List Int := Y.flatMap fun c => strI c.1 ++ [0]
theorem strI_len (s : ByteArray) : (strI s).length = s.size := by simp [strI]
theorem symE_len (c : SymT) (a : Nat) : (symE c a).length = 16 := by
  unfold symE
  rw [List.length_append, List.length_append, flat_len, lay_length]; rfl
theorem symL_len : ∀ (Y : List SymT) (a : Nat), (symL Y a).length = 16 * Y.length
  | [], _ => rfl
  | c :: Y, a => by simp only [symL, List.length_append, symE_len, symL_len Y, List.length_cons]; omega
theorem nt_shift : ∀ (cs : List SymT) (a b : Nat), cs.foldl (fun (a : Nat) (c : SymT) => a + (c.1.size + 1)) (a + b) = a + cs.foldl (fun (a : Nat) (c : SymT) => a + (c.1.size + 1)) b := by
  intro cs
  induction cs with
  | nil => intro a b; rfl
  | cons c cs ih => intro a b; rw [List.foldl_cons, List.foldl_cons, Nat.add_assoc, ih]
theorem namesL_len : ∀ (Y : List SymT), (namesL Y).length = nt Y
  | [] => rfl
  | c :: Y => by
    have h := namesL_len Y
    have h2 := nt_shift Y (c.1.size + 1) 0
    unfold namesL nt at *
    rw [List.flatMap_cons, List.length_append, h, List.foldl_cons, List.length_append, strI_len]
    rw [Nat.add_zero] at h2
    rw [Nat.zero_add, h2]; rfl

/-! ### The symbols, by both -/
def syR (x : List Int × List Int) (c : SymT) : List Int × List Int := ((x.1 ++ strI c.1) ++ [0], x.2 ++ symE c x.1.length)
theorem syR_fold : ∀ (Y : List SymT) (x : List Int × List Int), Y.foldl syR x = (x.1 ++ namesL Y, x.2 ++ symL Y x.1.length)
  | [], x => by simp [namesL, symL]
  | c :: Y, x => by
    have e : (syR x c).1.length = x.1.length + (c.1.size + 1) := by
      simp only [syR, List.length_append, strI_len, List.length_cons, List.length_nil]; omega
    rw [List.foldl_cons, syR_fold Y, e]
    simp only [syR, namesL, List.flatMap_cons, symL, List.append_assoc]
def syE (x : Nat × List Int) (c : SymT) : Nat × List Int := (x.1 + (c.1.size + 1), x.2 ++ symE c x.1)
theorem syE_fold : ∀ (Y : List SymT) (x : Nat × List Int), (Y.foldl syE x).2 = x.2 ++ symL Y x.1
  | [], x => by simp [symL]
  | c :: Y, x => by
    rw [List.foldl_cons, syE_fold Y]
    simp only [syE, symL, List.append_assoc]
theorem rsym_eq (k : Nat) (E : Int) (S : List SegT) (Y : List SymT) (h : RightOk E S Y) (hu : ∀ c ∈ Y, 0 ≤ c.2.1 ∧ c.2.1 < 4294967296) (P : List Int) (st : Int) (hk : 5000 < k) :
    atlasref23_Write.q0.l k k (P, st, 0, E, S, Y, [0], lay 16 0) = some (P, st, E, S, Y, [0] ++ namesL Y, lay 16 0 ++ symL Y 1) := by
  have hY := h.y
  have A := (fold_loop Y (fun q (x : List Int × List Int) => x.1.length ≤ 1 + 65 * q ∧ x.2.length = 16 + 16 * q) syR (fun x : List Int × List Int => (P, st, E, S, Y, x.1, x.2)) (fun n q x => atlasref23_Write.q0.l k n (P, st, (q : Int), E, S, Y, x.1, x.2)) (fun n x _ => ?_) (fun n q c x hc hq hI => ?_) Y k 0 ([0], lay 16 0) rfl (by omega) (by omega) ⟨by simp, by rw [lay_length]⟩).1
  · rw [syR_fold] at A
    exact A
  · simp only [atlasref23_Write.q0.l, decide_eq_false (show ¬ (Y.length : Int) < ((Y.length : Nat) : Int) by omega), cond_false]
  · obtain ⟨i1, i2⟩ := hI
    have hsz := h.size c (mem_at hc)
    have hcu := hu c (mem_at hc)
    refine ⟨⟨by simp only [syR, List.length_append, strI_len, List.length_cons, List.length_nil]; omega, by simp only [syR, List.length_append, symE_len, i2]; omega⟩, ?_⟩
    have w1 : atlasref23_File_words.f k x.2 ([((x.1.length : Nat) : Int), c.2.1, 0] : List Int) = some (x.2 ++ ([((x.1.length : Nat) : Int), c.2.1, 0] : List Int).flatMap (lay 4)) := by
      refine rwords_eq k _ _ (by show 3 < k; omega) (by omega) (fun v hv => ?_) (by show x.2.length + 4 * 3 ≤ _; simp only [Big]; omega)
      simp only [List.mem_cons, List.not_mem_nil, or_false] at hv
      rcases hv with rfl | rfl | rfl <;> omega
    have l1 : (x.2 ++ ([((x.1.length : Nat) : Int), c.2.1, 0] : List Int).flatMap (lay 4)).length = x.2.length + 12 := by rw [List.length_append, flat_len]; rfl
    have w2 := rlay_eq k 1 (x.2 ++ ([((x.1.length : Nat) : Int), c.2.1, 0] : List Int).flatMap (lay 4)) 16 (by omega) (by omega) (by omega) (by omega) (by rw [l1]; simp only [Big]; omega)
    have w3 := rlay_eq k 1 (x.2 ++ ([((x.1.length : Nat) : Int), c.2.1, 0] : List Int).flatMap (lay 4) ++ lay 1 16) 0 (by omega) (by omega) (by omega) (by omega) (by rw [List.length_append, l1, lay_length]; simp only [Big]; omega)
    have w4 := rlay_eq k 2 (x.2 ++ ([((x.1.length : Nat) : Int), c.2.1, 0] : List Int).flatMap (lay 4) ++ lay 1 16 ++ lay 1 0) 65521 (by omega) (by omega) (by omega) (by omega) (by rw [List.length_append, List.length_append, l1, lay_length, lay_length]; simp only [Big]; omega)
    have w2 : atlasref23_File_lay.f k _ 1 16 = _ := w2
    have w3 : atlasref23_File_lay.f k _ 1 0 = _ := w3
    have w4 : atlasref23_File_lay.f k _ 2 65521 = _ := w4
    have r1 := room (n := x.1.length + c.1.size) (by simp only [Big]; omega)
    have r2 := room (n := ((x.1 ++ strI c.1) ++ [(0 : Int)]).length) (by simp only [List.length_append, strI_len, List.length_cons, List.length_nil, Big]; omega)
    simp only [atlasref23_Write.q0.l, decide_eq_true (show (q : Int) < ((Y.length : Nat) : Int) by omega), decide_eq_true (show (0 : Int) ≤ (q : Int) by omega), Bool.and_self, cond_true, Int.toNat_natCast, getD_of hc, wrap_u64e ((x.1.length : Nat) : Int) (by omega) (by omega), wrap_u64e c.2.1 hcu.1 (by omega), w1, Option.bind_some, w2, w3, w4, r1, r2, wrap_i64n q (by omega)]
    have e5 : x.2 ++ ([((x.1.length : Nat) : Int), c.2.1, 0] : List Int).flatMap (lay 4) ++ lay 1 16 ++ lay 1 0 ++ lay 2 65521 = (syR x c).2 := by
      have e6 : lay 1 16 = [16] := rfl
      have e7 : lay 1 0 = [0] := rfl
      rw [e6, e7]
      simp only [syR, symE, List.append_assoc, List.cons_append, List.nil_append]
    rw [e5]
    rfl
theorem esym_eq (k : Nat) (E : Int) (S : List SegT) (Y : List SymT) (h : RightOk E S Y) (P : List Int) (a1 a2 a3 a4 a5 : Int) (f : List Int) (hf : f.length ≤ 300000000) (hk : 5000 < k) :
    elf_tables.q0.l k k (1, Y, ((Y.length : Nat) : Int), 0, E, S, Y, P, a1, a2, a3, a4, a5, f) = some (E, S, Y, P, a1, a2, a3, a4, a5, f ++ symL Y 1) := by
  have hY := h.y
  have A := (fold_loop Y (fun q (x : Nat × List Int) => x.1 ≤ 1 + 65 * q ∧ x.2.length = f.length + 16 * q) syE (fun x : Nat × List Int => (E, S, Y, P, a1, a2, a3, a4, a5, x.2)) (fun n q x => elf_tables.q0.l k n ((x.1 : Int), Y, ((Y.length : Nat) : Int), (q : Int), E, S, Y, P, a1, a2, a3, a4, a5, x.2)) (fun n x _ => ?_) (fun n q c x hc hq hI => ?_) Y k 0 (1, f) rfl (by omega) (by omega) ⟨by simp, by simp⟩).1
  · rw [syE_fold] at A
    exact A
  · simp only [elf_tables.q0.l, decide_eq_false (show ¬ (Y.length : Int) < ((Y.length : Nat) : Int) by omega), cond_false]
  · obtain ⟨i1, i2⟩ := hI
    have hsz := h.size c (mem_at hc)
    refine ⟨⟨by simp only [syE]; omega, by simp only [syE, List.length_append, symE_len, i2]; omega⟩, ?_⟩
    have w1 : elf_writer_word.f k x.2 ([(x.1 : Int), c.2.1, 0] : List Int) = some (x.2 ++ ([(x.1 : Int), c.2.1, 0] : List Int).flatMap (lay 4)) :=
      word_eq k _ _ (by show 3 < k; omega) (by show x.2.length + 4 * 3 ≤ _; simp only [Big]; omega)
    have l1 : (x.2 ++ ([(x.1 : Int), c.2.1, 0] : List Int).flatMap (lay 4)).length = x.2.length + 12 := by rw [List.length_append, flat_len]; rfl
    have r1 := room (n := (x.2 ++ ([(x.1 : Int), c.2.1, 0] : List Int).flatMap (lay 4) ++ [16, 0]).length) (by rw [List.length_append, l1]; simp only [List.length_cons, List.length_nil, Big]; omega)
    have w2 : elf_writer_half.f k (x.2 ++ ([(x.1 : Int), c.2.1, 0] : List Int).flatMap (lay 4) ++ [16, 0]) ([65521] : List Int) = some (x.2 ++ ([(x.1 : Int), c.2.1, 0] : List Int).flatMap (lay 4) ++ [16, 0] ++ ([65521] : List Int).flatMap (lay 2)) :=
      half_eq k _ _ (by show 1 < k; omega) (by rw [List.length_append, l1]; simp only [List.length_cons, List.length_nil, Big]; omega)
    have e1 : IntKind.wrap .u32 ((x.1 : Int) + IntKind.wrap .u32 (IntKind.wrap .u32 ((c.1.size : Nat) : Int) + 1)) = ((x.1 + (c.1.size + 1) : Nat) : Int) := by
      rw [wrap_u32v, wrap_u32v, wrap_u32v]; omega
    have e2 : ([65521] : List Int).flatMap (lay 2) = lay 2 65521 := rfl
    rw [e2] at w2
    simp only [elf_tables.q0.l, decide_eq_true (show (q : Int) < ((Y.length : Nat) : Int) by omega), decide_eq_true (show (0 : Int) ≤ (q : Int) by omega), Bool.and_self, cond_true, Int.toNat_natCast, getD_of hc, w1, Option.bind_some, r1, w2, e1, wrap_i64n q (by omega)]
    have e5 : x.2 ++ ([(x.1 : Int), c.2.1, 0] : List Int).flatMap (lay 4) ++ [16, 0] ++ lay 2 65521 = (syE x c).2 := by
      simp only [syE, symE, List.append_assoc, List.cons_append, List.nil_append]
    rw [e5]
    rfl
theorem enames_eq (k : Nat) (E : Int) (S : List SegT) (Y : List SymT) (h : RightOk E S Y) (P : List Int) (a1 a2 a3 a4 a5 : Int) (f : List Int) (hf : f.length ≤ 300000000) (hk : 5000 < k) :
    elf_tables.q1.l k k (Y, ((Y.length : Nat) : Int), 0, P, a1, a2, a3, a4, a5, f) = some (P, a1, a2, a3, a4, a5, f ++ namesL Y) := by
  have hY := h.y
  have A := (fold_loop Y (fun q (x : List Int) => x.length ≤ f.length + 65 * q) (fun x c => x ++ (strI c.1 ++ [0])) (fun x : List Int => (P, a1, a2, a3, a4, a5, x)) (fun n q x => elf_tables.q1.l k n (Y, ((Y.length : Nat) : Int), (q : Int), P, a1, a2, a3, a4, a5, x)) (fun n x _ => ?_) (fun n q c x hc hq hI => ?_) Y k 0 f rfl (by omega) (by omega) (by omega)).1
  · rw [foldl_app] at A
    exact A
  · simp only [elf_tables.q1.l, decide_eq_false (show ¬ (Y.length : Int) < ((Y.length : Nat) : Int) by omega), cond_false]
  · have hsz := h.size c (mem_at hc)
    have hI : List.length x ≤ f.length + 65 * q := hI
    refine ⟨by simp only [List.length_append, strI_len, List.length_cons, List.length_nil]; omega, ?_⟩
    have r1 := room (n := x.length + c.1.size) (by simp only [Big]; omega)
    have r2 := room (n := ((x ++ strI c.1) ++ [(0 : Int)]).length) (by simp only [List.length_append, strI_len, List.length_cons, List.length_nil, Big]; omega)
    simp only [elf_tables.q1.l, decide_eq_true (show (q : Int) < ((Y.length : Nat) : Int) by omega), decide_eq_true (show (0 : Int) ≤ (q : Int) by omega), Bool.and_self, cond_true, Int.toNat_natCast, getD_of hc, r1, r2, wrap_i64n q (by omega)]
    rw [List.append_assoc]

/-! ### The tables -/
def titI : List Int := [0, 46, 115, 121, 109, 116, 97, 98, 0, 46, 115, 116, 114, 116, 97, 98, 0, 46, 115, 104, 115, 116, 114, 116, 97, 98, 0]
def row1 (S : List SegT) (Y : List SymT) : List Int := [1, 2, 0, 0, (sy S : Int), ((16 * (Y.length + 1) : Nat) : Int), 2, 1, 4, 16]
def row2 (S : List SegT) (Y : List SymT) : List Int := [9, 3, 0, 0, (nm S Y : Int), ((1 + nt Y : Nat) : Int), 0, 0, 1, 0]
def row3 (S : List SegT) (Y : List SymT) : List Int := [17, 3, 0, 0, (ti S Y : Int), 27, 0, 0, 1, 0]
def tabA (S : List SegT) (Y : List SymT) (f : List Int) : List Int := f ++ List.replicate (sy S - stp S) 0 ++ (lay 16 0 ++ symL Y 1) ++ ([0] ++ namesL Y) ++ titI
def tabB (S : List SegT) (Y : List SymT) (f : List Int) : List Int := tabA S Y f ++ List.replicate (se S Y - (ti S Y + 27)) 0 ++ List.replicate 40 0 ++ (row1 S Y).flatMap (lay 4) ++ (row2 S Y).flatMap (lay 4) ++ (row3 S Y).flatMap (lay 4)
theorem tabA_len (S : List SegT) (Y : List SymT) (f : List Int) (hf : f.length = stp S) : (tabA S Y f).length = ti S Y + 27 := by
  have h1 := le_up4 (stp S)
  have h2 : titI.length = 27 := rfl
  unfold tabA ti nm sy
  simp only [List.length_append, List.length_replicate, lay_length, symL_len, namesL_len, List.length_cons, List.length_nil, hf, h2]
  omega
theorem tabB_len (S : List SegT) (Y : List SymT) (f : List Int) (hf : f.length = stp S) : (tabB S Y f).length = se S Y + 160 := by
  have h1 := le_up4 (ti S Y + 27)
  unfold tabB
  simp only [List.length_append, List.length_replicate, flat_len, tabA_len S Y f hf]
  have r1 : (row1 S Y).length = 10 := rfl
  have r2 : (row2 S Y).length = 10 := rfl
  have r3 : (row3 S Y).length = 10 := rfl
  rw [r1, r2, r3]
  unfold se; omega
theorem tables_eq (k : Nat) (E : Int) (S : List SegT) (Y : List SymT) (h : RightOk E S Y) (f : List Int) (hf : f.length = stp S) (hk : 5000 < k) (P : List Int) (sz : Int) :
    elf_tables.f k f ⟨E, S, Y⟩ ⟨P, (sy S : Int), (nm S Y : Int), (ti S Y : Int), (se S Y : Int), sz⟩ = some (tabB S Y f) := by
  obtain ⟨b1, b2, b3, b4, b5⟩ := plan_le h
  have hY := h.y
  have l1 := le_up4 (stp S)
  have l2 := le_up4 (ti S Y + 27)
  have p1 : elf_writer_pad.f f ((sy S : Nat) : Int) = some (f ++ List.replicate (sy S - f.length) 0) := pad_eq f (sy S) (by rw [hf]; exact l1) (by simp only [Big]; omega)
  rw [hf] at p1
  have n1 : (f ++ List.replicate (sy S - stp S) (0 : Int)).length = sy S := by
    simp only [List.length_append, List.length_replicate, hf]
    have : stp S ≤ sy S := l1
    omega
  have e1 : IntKind.wrap .u64 (((sy S : Nat) : Int) + 16) = ((sy S + 16 : Nat) : Int) := by rw [wrap_u64e _ (by omega) (by omega)]; omega
  have p2 : elf_writer_pad.f (f ++ List.replicate (sy S - stp S) 0) ((sy S + 16 : Nat) : Int) = some (f ++ List.replicate (sy S - stp S) 0 ++ lay 16 0) := by
    have := pad_eq (f ++ List.replicate (sy S - stp S) 0) (sy S + 16) (by rw [n1]; omega) (by simp only [Big]; omega)
    rw [n1, show sy S + 16 - sy S = 16 by omega] at this
    exact this
  have n2 : (f ++ List.replicate (sy S - stp S) (0 : Int) ++ lay 16 0).length = sy S + 16 := by rw [List.length_append, n1, lay_length]
  have p3 := esym_eq k E S Y h P ((sy S : Nat) : Int) ((nm S Y : Nat) : Int) ((ti S Y : Nat) : Int) ((se S Y : Nat) : Int) sz (f ++ List.replicate (sy S - stp S) 0 ++ lay 16 0) (by rw [n2]; omega) hk
  have n3 : (f ++ List.replicate (sy S - stp S) (0 : Int) ++ lay 16 0 ++ symL Y 1 ++ [0]).length = nm S Y + 1 := by
    rw [List.length_append, List.length_append, n2, symL_len]; unfold nm; simp; omega
  have r1 := room (n := (f ++ List.replicate (sy S - stp S) (0 : Int) ++ lay 16 0 ++ symL Y 1 ++ [0]).length) (by rw [n3]; simp only [Big]; omega)
  have p4 := enames_eq k E S Y h P ((sy S : Nat) : Int) ((nm S Y : Nat) : Int) ((ti S Y : Nat) : Int) ((se S Y : Nat) : Int) sz (f ++ List.replicate (sy S - stp S) 0 ++ lay 16 0 ++ symL Y 1 ++ [0]) (by rw [n3]; omega) hk
  have n4 : (f ++ List.replicate (sy S - stp S) (0 : Int) ++ lay 16 0 ++ symL Y 1 ++ [0] ++ namesL Y).length = ti S Y := by
    rw [List.length_append, n3, namesL_len]; rfl
  have ht : strI (⟨#[0, 46, 115, 121, 109, 116, 97, 98, 0, 46, 115, 116, 114, 116, 97, 98, 0, 46, 115, 104, 115, 116, 114, 116, 97, 98, 0]⟩ : ByteArray) = titI := by decide
  have hts : (⟨#[0, 46, 115, 121, 109, 116, 97, 98, 0, 46, 115, 116, 114, 116, 97, 98, 0, 46, 115, 104, 115, 116, 114, 116, 97, 98, 0]⟩ : ByteArray).size = 27 := rfl
  have r2 := room (n := (f ++ List.replicate (sy S - stp S) (0 : Int) ++ lay 16 0 ++ symL Y 1 ++ [0] ++ namesL Y).length + 27) (by rw [n4]; simp only [Big]; omega)
  have eA : f ++ List.replicate (sy S - stp S) (0 : Int) ++ lay 16 0 ++ symL Y 1 ++ [0] ++ namesL Y ++ titI = tabA S Y f := by unfold tabA; simp only [List.append_assoc]
  have nA := tabA_len S Y f hf
  have p5 : elf_writer_pad.f (tabA S Y f) ((se S Y : Nat) : Int) = some (tabA S Y f ++ List.replicate (se S Y - (ti S Y + 27)) 0) := by
    have := pad_eq (tabA S Y f) (se S Y) (by rw [nA]; exact l2) (by simp only [Big]; omega)
    rw [nA] at this; exact this
  have n5 : (tabA S Y f ++ List.replicate (se S Y - (ti S Y + 27)) (0 : Int)).length = se S Y := by
    rw [List.length_append, List.length_replicate, nA]
    have : ti S Y + 27 ≤ se S Y := l2
    omega
  have e2 : IntKind.wrap .u64 (((se S Y : Nat) : Int) + 40) = ((se S Y + 40 : Nat) : Int) := by rw [wrap_u64e _ (by omega) (by omega)]; omega
  have p6 : elf_writer_pad.f (tabA S Y f ++ List.replicate (se S Y - (ti S Y + 27)) 0) ((se S Y + 40 : Nat) : Int) = some (tabA S Y f ++ List.replicate (se S Y - (ti S Y + 27)) 0 ++ List.replicate 40 0) := by
    have := pad_eq (tabA S Y f ++ List.replicate (se S Y - (ti S Y + 27)) 0) (se S Y + 40) (by rw [n5]; omega) (by simp only [Big]; omega)
    rw [n5, show se S Y + 40 - se S Y = 40 by omega] at this
    exact this
  have n6 : (tabA S Y f ++ List.replicate (se S Y - (ti S Y + 27)) (0 : Int) ++ List.replicate 40 0).length = se S Y + 40 := by rw [List.length_append, n5, List.length_replicate]
  have hsn : sy S ≤ nm S Y := by unfold nm; omega
  have hnt : nm S Y ≤ ti S Y := by unfold ti; omega
  have u1 : IntKind.wrap .u32 ((sy S : Nat) : Int) = ((sy S : Nat) : Int) := by rw [wrap_u32v]; omega
  have u2 : IntKind.wrap .u32 (IntKind.wrap .u64 (((nm S Y : Nat) : Int) - ((sy S : Nat) : Int))) = ((16 * (Y.length + 1) : Nat) : Int) := by
    rw [wrap_u64e _ (by omega) (by omega), wrap_u32v]; unfold nm; omega
  have u3 : IntKind.wrap .u32 ((nm S Y : Nat) : Int) = ((nm S Y : Nat) : Int) := by rw [wrap_u32v]; omega
  have u4 : IntKind.wrap .u32 (IntKind.wrap .u64 (((ti S Y : Nat) : Int) - ((nm S Y : Nat) : Int))) = ((1 + nt Y : Nat) : Int) := by
    rw [wrap_u64e _ (by omega) (by omega), wrap_u32v]
    have : ti S Y = nm S Y + 1 + nt Y := rfl
    omega
  have u5 : IntKind.wrap .u32 ((ti S Y : Nat) : Int) = ((ti S Y : Nat) : Int) := by rw [wrap_u32v]; omega
  have p7 := word_eq k (tabA S Y f ++ List.replicate (se S Y - (ti S Y + 27)) 0 ++ List.replicate 40 0) (row1 S Y) (by show 10 < k; omega) (by rw [n6]; show _ + 4 * 10 ≤ _; simp only [Big]; omega)
  have n7 : (tabA S Y f ++ List.replicate (se S Y - (ti S Y + 27)) (0 : Int) ++ List.replicate 40 0 ++ (row1 S Y).flatMap (lay 4)).length = se S Y + 80 := by rw [List.length_append, n6, flat_len]; rfl
  have p8 := word_eq k (tabA S Y f ++ List.replicate (se S Y - (ti S Y + 27)) 0 ++ List.replicate 40 0 ++ (row1 S Y).flatMap (lay 4)) (row2 S Y) (by show 10 < k; omega) (by rw [n7]; show _ + 4 * 10 ≤ _; simp only [Big]; omega)
  have n8 : (tabA S Y f ++ List.replicate (se S Y - (ti S Y + 27)) (0 : Int) ++ List.replicate 40 0 ++ (row1 S Y).flatMap (lay 4) ++ (row2 S Y).flatMap (lay 4)).length = se S Y + 120 := by rw [List.length_append, n7, flat_len]; rfl
  have p9 := word_eq k (tabA S Y f ++ List.replicate (se S Y - (ti S Y + 27)) 0 ++ List.replicate 40 0 ++ (row1 S Y).flatMap (lay 4) ++ (row2 S Y).flatMap (lay 4)) (row3 S Y) (by show 10 < k; omega) (by rw [n8]; show _ + 4 * 10 ≤ _; simp only [Big]; omega)
  simp only [row1] at p7
  simp only [row1, row2] at p8
  simp only [row1, row2, row3] at p9
  unfold elf_tables.f
  simp only [p1, Option.bind_some, e1, p2, p3, r1, cond_true, p4, hts, r2, ht, eA, p5, e2, p6, u1, u2, u3, u4, u5, p7, p8, p9, Bool.and_self]
  rfl
end Go.Va
