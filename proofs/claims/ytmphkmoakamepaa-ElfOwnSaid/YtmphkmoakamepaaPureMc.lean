/-
  Which images are right: elf.Right and the document's answer, by one plain sentence.
  Conditions: an image as any may be handed in.
-/
import Derived.Test.YtmphkmoakamepaaPureMa

set_option linter.unusedVariables false
set_option linter.unusedSimpArgs false
set_option autoImplicit false
namespace Go.Va
theorem sym_loop (k : Nat) (E : Int) (S : List SegT) (Y : List SymT) (hy : ∀ c ∈ Y, c.1.size ≤ reachBytes) (hl : Y.length < 4611686018427387904) (hk : reachBytes < k) (hk2 : Y.length < k) :
    elf_Right.q1.l k k (Y, ((Y.length : Nat) : Int), 0, E, S, Y, []) = some (runS (syF Y) (fun _ => .inr (E, S, Y)) Y 0) ∧ atlasref23_Right.q1.l k k (0, E, S, Y) = some (runS (syF Y) (fun _ => .inr (E, S, Y)) Y 0) := by
  have hr := reach_v
  have c0 : ∀ q : Nat, q < Y.length → decide ((q : Int) < ((Y.length : Nat) : Int)) = true := fun q h => decide_eq_true (by omega)
  have c2 : ∀ q : Nat, q < Y.length → decide ((q : Int) ≤ ((Y.length : Nat) : Int)) = true := fun q h => decide_eq_true (by omega)
  have c1 : ∀ q : Nat, decide ((0 : Int) ≤ (q : Int)) = true := fun q => decide_eq_true (by omega)
  refine ⟨?_, ?_⟩
  · have h := loop_run Y (fun q x => x = q) (syF Y) (fun _ => .inr (E, S, Y)) (fun n q _ => elf_Right.q1.l k n (Y, ((Y.length : Nat) : Int), (q : Int), E, S, Y, seenM (Y.take q))) (fun n y _ => ?_) (fun n q c y hc hq hI => ?_) Y k 0 0 rfl (by omega) hk2 rfl
    · exact h
    · simp only [elf_Right.q1.l, decide_eq_false (show ¬ (Y.length : Int) < ((Y.length : Nat) : Int) by omega), cond_false]
    · subst hI
      have hnm := (name_eq c.1 (by have := hy c (mem_at hc); omega) k (by have := hy c (mem_at hc); omega)).1
      have hg : decide (optD (mpGet .str (.int .i64) (seenM (Y.take y)) c.1) 0 > 0) = has (Y.take y) c.1 := by
        unfold seenM
        rw [seen_get]
        cases has (Y.take y) c.1 <;> rfl
      have hstep : elf_Right.q1.l k (n + 1) (Y, ((Y.length : Nat) : Int), (y : Int), E, S, Y, seenM (Y.take y)) = bif has (Y.take y) c.1 then some (.inl false) else bif nameB c.1 then elf_Right.q1.l k n (Y, ((Y.length : Nat) : Int), ((y + 1 : Nat) : Int), E, S, Y, seenM (Y.take (y + 1))) else some (.inl false) := by
        simp only [elf_Right.q1.l, c0 y hq, c1, Bool.and_self, cond_true, Int.toNat_natCast, getD_of hc, wrap_i64n y (by omega), hg, hnm, Option.bind_some, seen_take hc]
        cases has (Y.take y) c.1 <;> cases nameB c.1 <;> rfl
      unfold syF
      refine ⟨fun z hz => ?_, fun r hr => ?_⟩
      · cases hd : has (Y.take y) c.1 with
        | true => rw [hd] at hz; cases hz
        | false =>
          cases hd2 : nameB c.1 with
          | true => rw [hd, hd2] at hz hstep; cases hz; exact ⟨rfl, hstep⟩
          | false => rw [hd, hd2] at hz; cases hz
      · cases hd : has (Y.take y) c.1 with
        | true => rw [hd] at hr hstep; cases hr; exact hstep
        | false =>
          cases hd2 : nameB c.1 with
          | true => rw [hd, hd2] at hr; cases hr
          | false => rw [hd, hd2] at hr hstep; cases hr; exact hstep
  · have h := loop_run Y (fun q x => x = q) (syF Y) (fun _ => .inr (E, S, Y)) (fun n q _ => atlasref23_Right.q1.l k n ((q : Int), E, S, Y)) (fun n y _ => ?_) (fun n q c y hc hq hI => ?_) Y k 0 0 rfl (by omega) hk2 rfl
    · exact h
    · simp only [atlasref23_Right.q1.l, decide_eq_false (show ¬ (Y.length : Int) < ((Y.length : Nat) : Int) by omega), cond_false]
    · subst hI
      have hnm := (name_eq c.1 (by have := hy c (mem_at hc); omega) k (by have := hy c (mem_at hc); omega)).2
      obtain ⟨v, hv⟩ := rfind_eq k ⟨0, [], (Y.drop 0).take (y - 0)⟩ c.1 (by show ((Y.drop 0).take (y - 0)).length < _; simp; omega) (by show ((Y.drop 0).take (y - 0)).length < _; simp; omega)
      have hv2 : has (T25.f2_Symbols ⟨0, [], (Y.drop 0).take (y - 0)⟩) c.1 = has (Y.take y) c.1 := by simp
      rw [hv2] at hv
      have hstep : atlasref23_Right.q1.l k (n + 1) ((y : Int), E, S, Y) = bif has (Y.take y) c.1 then some (.inl false) else bif nameB c.1 then atlasref23_Right.q1.l k n (((y + 1 : Nat) : Int), E, S, Y) else some (.inl false) := by
        simp only [atlasref23_Right.q1.l, c0 y hq, c1, c2 y hq, Bool.and_self, cond_true, Int.toNat_natCast, getD_of hc, wrap_i64n y (by omega), hv, hnm, Option.bind_some]
        cases has (Y.take y) c.1 <;> cases nameB c.1 <;> rfl
      unfold syF
      refine ⟨fun z hz => ?_, fun r hr => ?_⟩
      · cases hd : has (Y.take y) c.1 with
        | true => rw [hd] at hz; cases hz
        | false =>
          cases hd2 : nameB c.1 with
          | true => rw [hd, hd2] at hz hstep; cases hz; exact ⟨rfl, hstep⟩
          | false => rw [hd, hd2] at hz; cases hz
      · cases hd : has (Y.take y) c.1 with
        | true => rw [hd] at hr hstep; cases hr; exact hstep
        | false =>
          cases hd2 : nameB c.1 with
          | true => rw [hd, hd2] at hr; cases hr
          | false => rw [hd, hd2] at hr hstep; cases hr; exact hstep

/-! ### The image -/
def sgF {ρ : Type} (_ : Unit) (c : SegT) : Unit ⊕ (Bool ⊕ ρ) := bif segB c then .inl () else .inr (.inl false)
theorem sg_res {ρ : Type} (r : ρ) : ∀ (cs : List SegT), runS sgF (fun _ => .inr r) cs () = bif cs.all segB then .inr r else .inl false
  | [] => rfl
  | c :: cs => by
    simp only [runS, sgF, List.all_cons]
    cases segB c with
    | true => exact sg_res r cs
    | false => rfl
def rightB (x : T25) : Bool := !decide (((x.f1_Segments.length : Nat) : Int) < 1) && (!decide (((x.f1_Segments.length : Nat) : Int) > 16) && (!decide (((x.f2_Symbols.length : Nat) : Int) > 1024) && (x.f1_Segments.all segB && (symB x.f2_Symbols && (riseB x.f1_Segments && startB x.f1_Segments x.f0_Entry)))))
theorem right_eq (x : T25) (h : ImgOk x) (k : Nat) (hk : reachBytes < k) : elf_Right.f k x = some (rightB x) ∧ atlasref23_Right.f k x = some (rightB x) := by
  have hr := reach_v
  obtain ⟨E, S, Y⟩ := x
  have hS : ∀ c ∈ S, SegOk c := fun c hc => h.seg hc
  have sl : S.length * 40 ≤ reachBytes := h.sl
  have yl : Y.length * 24 ≤ reachBytes := h.yl
  have c1 : ∀ q : Nat, decide ((0 : Int) ≤ (q : Int)) = true := fun q => decide_eq_true (by omega)
  have c0 : ∀ q : Nat, q < S.length → decide ((q : Int) < ((S.length : Nat) : Int)) = true := fun q h => decide_eq_true (by omega)
  have g1 : elf_Right.q0.l k k (S, ((S.length : Nat) : Int), ((0 : Nat) : Int), E, S, Y) = some (runS sgF (fun _ => .inr (E, S, Y)) S ()) := by
    refine loop_run S (fun q x => True) sgF (fun _ => .inr (E, S, Y)) (fun n q _ => elf_Right.q0.l k n (S, ((S.length : Nat) : Int), (q : Int), E, S, Y)) (fun n y _ => ?_) (fun n q c y hc hq hI => ?_) S k 0 () rfl (by omega) (by omega) trivial
    · simp only [elf_Right.q0.l, decide_eq_false (show ¬ (S.length : Int) < ((S.length : Nat) : Int) by omega), cond_false]
    · have hstep : elf_Right.q0.l k (n + 1) (S, ((S.length : Nat) : Int), (q : Int), E, S, Y) = bif segB c then elf_Right.q0.l k n (S, ((S.length : Nat) : Int), ((q + 1 : Nat) : Int), E, S, Y) else some (.inl false) := by
        simp only [elf_Right.q0.l, c0 q hq, c1, Bool.and_self, cond_true, Int.toNat_natCast, getD_of hc, wrap_i64n q (by omega), seg_eq c (hS c (mem_at hc)), Option.bind_some]
        cases segB c <;> rfl
      unfold sgF
      refine ⟨fun z hz => ?_, fun r hr => ?_⟩
      · cases hd : segB c with
        | false => rw [hd] at hz; cases hz
        | true => rw [hd] at hstep; exact ⟨trivial, hstep⟩
      · cases hd : segB c with
        | false => rw [hd] at hr hstep; cases hr; exact hstep
        | true => rw [hd] at hr; cases hr
  have g2 : atlasref23_Right.q0.l k k (((0 : Nat) : Int), E, S, Y) = some (runS sgF (fun _ => .inr (E, S, Y)) S ()) := by
    refine loop_run S (fun q x => True) sgF (fun _ => .inr (E, S, Y)) (fun n q _ => atlasref23_Right.q0.l k n ((q : Int), E, S, Y)) (fun n y _ => ?_) (fun n q c y hc hq hI => ?_) S k 0 () rfl (by omega) (by omega) trivial
    · simp only [atlasref23_Right.q0.l, decide_eq_false (show ¬ (S.length : Int) < ((S.length : Nat) : Int) by omega), cond_false]
    · have hstep : atlasref23_Right.q0.l k (n + 1) ((q : Int), E, S, Y) = bif segB c then atlasref23_Right.q0.l k n (((q + 1 : Nat) : Int), E, S, Y) else some (.inl false) := by
        simp only [atlasref23_Right.q0.l, c0 q hq, c1, Bool.and_self, cond_true, Int.toNat_natCast, getD_of hc, wrap_i64n q (by omega), rseg_eq k c (hS c (mem_at hc)), Option.bind_some]
        cases segB c <;> rfl
      unfold sgF
      refine ⟨fun z hz => ?_, fun r hr => ?_⟩
      · cases hd : segB c with
        | false => rw [hd] at hz; cases hz
        | true => rw [hd] at hstep; exact ⟨trivial, hstep⟩
      · cases hd : segB c with
        | false => rw [hd] at hr hstep; cases hr; exact hstep
        | true => rw [hd] at hr; cases hr
  have g1 : elf_Right.q0.l k k (S, ((S.length : Nat) : Int), 0, E, S, Y) = some (runS sgF (fun _ => .inr (E, S, Y)) S ()) := g1
  have g2 : atlasref23_Right.q0.l k k (0, E, S, Y) = some (runS sgF (fun _ => .inr (E, S, Y)) S ()) := g2
  rw [sg_res] at g1 g2
  obtain ⟨s1, s2⟩ := sym_loop k E S Y (fun c hc => h.yn c hc) (by omega) hk (by omega)
  obtain ⟨r1, r2⟩ := rise_eq k S hS (by omega) (by omega)
  obtain ⟨t1, t2⟩ := start_eq k S hS (by omega) (by omega) E h.e0
  have hsy : (symB Y = true ∧ runS (syF Y) (fun _ => .inr (E, S, Y)) Y 0 = .inr (E, S, Y)) ∨ (symB Y = false ∧ runS (syF Y) (fun _ => .inr (E, S, Y)) Y 0 = .inl false) := by
    unfold symB
    rcases sy_res Y (E, S, Y) Y 0 with ⟨a1, a2⟩ | ⟨a1, a2⟩
    · rw [a1]; exact .inl ⟨rfl, a2⟩
    · rw [a1]; exact .inr ⟨rfl, a2⟩
  unfold elf_Right.f atlasref23_Right.f rightB
  simp only [g1, g2]
  cases decide (((S.length : Nat) : Int) < 1) with
  | true => exact ⟨rfl, rfl⟩
  | false =>
    cases decide (((S.length : Nat) : Int) > 16) with
    | true => exact ⟨rfl, rfl⟩
    | false =>
      cases decide (((Y.length : Nat) : Int) > 1024) with
      | true => exact ⟨rfl, rfl⟩
      | false =>
        cases S.all segB with
        | false => exact ⟨rfl, rfl⟩
        | true =>
          simp only [cond_true, cond_false, Option.bind_some, Sum.elim_inr, s1, s2]
          rcases hsy with ⟨h1, h2⟩ | ⟨h1, h2⟩
          · rw [h1, h2]
            simp only [Option.bind_some, Sum.elim_inr, r1, r2, t1, t2]
            cases riseB S <;> exact ⟨rfl, rfl⟩
          · rw [h1, h2]; exact ⟨rfl, rfl⟩
end Go.Va

/-
  Numbers and zeros laid into a file, by the program and by the document's answer; the places of the segments.
  Conditions: none.
-/
set_option maxRecDepth 100000
namespace Go.Va
theorem wrap_u8v (x : Int) : IntKind.wrap .u8 x = x % 256 := by
  have w : IntKind.wrap .u8 x = if (false && decide (x % 256 ≥ 128)) = true then x % 256 - 256 else x % 256 := by rfl
  rw [w]; simp
theorem shr8 (x : Int) : shrI .u32 x 8 = x / 256 := by
  have e : shrI .u32 x 8 = x.fdiv 256 := rfl
  rw [e, Int.fdiv_eq_ediv_of_nonneg _ (by decide)]
theorem shr16 (x : Int) : shrI .u32 x 16 = x / 65536 := by
  have e : shrI .u32 x 16 = x.fdiv 65536 := rfl
  rw [e, Int.fdiv_eq_ediv_of_nonneg _ (by decide)]
theorem shr24 (x : Int) : shrI .u32 x 24 = x / 16777216 := by
  have e : shrI .u32 x 24 = x.fdiv 16777216 := rfl
  rw [e, Int.fdiv_eq_ediv_of_nonneg _ (by decide)]

/-! ### Loops that fold -/
theorem foldl_app {α β : Type} (f : α → List β) (l : List α) : ∀ x : List β, l.foldl (fun x c => x ++ f c) x = x ++ l.flatMap f := by
  induction l with
  | nil => intro x; simp
  | cons c l ih => intro x; rw [List.foldl_cons, ih, List.flatMap_cons, List.append_assoc]

/-! ### Numbers -/
/-- The number's lowest bytes, the lowest first. -/
def lay : Nat → Int → List Int
  | 0, _ => []
  | n + 1, v => v % 256 :: lay n (v / 256)
theorem lay_length (n : Nat) (v : Int) : (lay n v).length = n := by
  induction n generalizing v with
  | zero => rfl
  | succ n ih => simp [lay, ih]
theorem lay4_mod (v : Int) : lay 4 (v % 4294967296) = lay 4 v := by
  simp only [lay]
  refine congr (congrArg _ (by omega)) (congr (congrArg _ (by omega)) (congr (congrArg _ (by omega)) (congr (congrArg _ (by omega)) rfl)))
theorem lay_byte (n : Nat) (v : Int) : ∀ b ∈ lay n v, 0 ≤ b ∧ b < 256 := by
  induction n generalizing v with
  | zero => intro b hb; cases hb
  | succ n ih =>
    intro b hb
    simp only [lay, List.mem_cons] at hb
    rcases hb with rfl | hb
    · omega
    · exact ih _ b hb
theorem flat_len (n : Nat) (l : List Int) : (l.flatMap (lay n)).length = n * l.length := by
  induction l with
  | nil => simp
  | cons v l ih => rw [List.flatMap_cons, List.length_append, lay_length, ih, List.length_cons, Nat.mul_add]; omega
/-- A file that is not too long to be one row. -/
abbrev Big : Nat := 70368744177664
theorem room {n : Nat} (h : n ≤ Big) : (decide (n ≤ maxLen) && decide (n * 1 ≤ 211106232532992)) = true := by
  have hm := maxLen_v
  simp only [Big] at h
  simp; omega
theorem room2 {n : Nat} (h : n ≤ Big) : decide (n ≤ maxLen) = true ∧ decide (n * 1 ≤ 211106232532992) = true := by
  have hm := maxLen_v
  simp only [Big] at h
  simp; omega
theorem half_eq (k : Nat) (f l : List Int) (hl : l.length < k) (hb : f.length + 2 * l.length ≤ Big) : elf_writer_half.f k f l = some (f ++ l.flatMap (lay 2)) := by
  have h := (fold_loop l (fun q x => x.length + 2 * (l.length - q) ≤ Big) (fun x c => x ++ lay 2 c) id (fun n q x => elf_writer_half.q0.l k n (l, ((l.length : Nat) : Int), (q : Int), x)) (fun n x _ => ?_) (fun n q c x hc hq hI => ?_) l k 0 f rfl (by omega) hl (by omega)).1
  · have h : elf_writer_half.q0.l k k (l, ((l.length : Nat) : Int), 0, f) = some (l.foldl (fun x c => x ++ lay 2 c) f) := h
    unfold elf_writer_half.f
    rw [h, foldl_app]; rfl
  · simp only [elf_writer_half.q0.l, decide_eq_false (show ¬ (l.length : Int) < ((l.length : Nat) : Int) by omega), cond_false]; rfl
  · have hbl : l.length ≤ Big := by omega
    simp only [Big] at hbl
    have e1 : ([IntKind.wrap .u8 c, IntKind.wrap .u8 (shrI .u32 c 8)] : List Int) = lay 2 c := by rw [wrap_u8v, wrap_u8v, shr8]; rfl
    have hlen : (x ++ lay 2 c).length = x.length + 2 := by rw [List.length_append, lay_length]
    refine ⟨by rw [hlen]; omega, ?_⟩
    have hr := room (n := (x ++ lay 2 c).length) (by rw [hlen]; omega)
    simp only [elf_writer_half.q0.l, decide_eq_true (show (q : Int) < ((l.length : Nat) : Int) by omega), decide_eq_true (show (0 : Int) ≤ (q : Int) by omega), Bool.and_self, cond_true, Int.toNat_natCast, getD_of hc, e1, hr, wrap_i64n q (by omega)]
theorem word_eq (k : Nat) (f l : List Int) (hl : l.length < k) (hb : f.length + 4 * l.length ≤ Big) : elf_writer_word.f k f l = some (f ++ l.flatMap (lay 4)) := by
  have h := (fold_loop l (fun q x => x.length + 4 * (l.length - q) ≤ Big) (fun x c => x ++ lay 4 c) id (fun n q x => elf_writer_word.q0.l k n (l, ((l.length : Nat) : Int), (q : Int), x)) (fun n x _ => ?_) (fun n q c x hc hq hI => ?_) l k 0 f rfl (by omega) hl (by omega)).1
  · have h : elf_writer_word.q0.l k k (l, ((l.length : Nat) : Int), 0, f) = some (l.foldl (fun x c => x ++ lay 4 c) f) := h
    unfold elf_writer_word.f
    rw [h, foldl_app]; rfl
  · simp only [elf_writer_word.q0.l, decide_eq_false (show ¬ (l.length : Int) < ((l.length : Nat) : Int) by omega), cond_false]; rfl
  · have hbl : l.length ≤ Big := by omega
    simp only [Big] at hbl
    have e1 : ([IntKind.wrap .u8 c, IntKind.wrap .u8 (shrI .u32 c 8), IntKind.wrap .u8 (shrI .u32 c 16), IntKind.wrap .u8 (shrI .u32 c 24)] : List Int) = lay 4 c := by
      rw [wrap_u8v, wrap_u8v, wrap_u8v, wrap_u8v, shr8, shr16, shr24]
      have a1 : c / 65536 = c / 256 / 256 := by omega
      have a2 : c / 16777216 = c / 256 / 256 / 256 := by omega
      rw [a1, a2]; rfl
    have hlen : (x ++ lay 4 c).length = x.length + 4 := by rw [List.length_append, lay_length]
    refine ⟨by rw [hlen]; omega, ?_⟩
    have hr := room (n := (x ++ lay 4 c).length) (by rw [hlen]; omega)
    simp only [elf_writer_word.q0.l, decide_eq_true (show (q : Int) < ((l.length : Nat) : Int) by omega), decide_eq_true (show (0 : Int) ≤ (q : Int) by omega), Bool.and_self, cond_true, Int.toNat_natCast, getD_of hc, e1, hr, wrap_i64n q (by omega)]
theorem pad_eq (f : List Int) (p : Nat) (h1 : f.length ≤ p) (h2 : p ≤ Big) : elf_writer_pad.f f (p : Int) = some (f ++ List.replicate (p - f.length) 0) := by
  have hp := h2
  simp only [Big] at hp
  unfold elf_writer_pad.f
  have e1 : IntKind.wrap .u64 ((p : Int) - IntKind.wrap .u64 ((f.length : Nat) : Int)) = ((p - f.length : Nat) : Int) := by
    rw [wrap_u64e ((f.length : Nat) : Int) (by omega) (by omega), wrap_u64e _ (by omega) (by omega)]; omega
  have hr := room (n := f.length + (p - f.length)) (by omega)
  simp only [e1, Int.toNat_natCast, decide_eq_true (show (0 : Int) ≤ ((p - f.length : Nat) : Int) by omega), Bool.and_self, Bool.true_and, hr, cond_true]
theorem rlay_loop (k : Nat) (m : Nat) (hm : m < 1000) : ∀ (d i n : Nat) (v : Int) (f : List Int), i + d = m → d < n → 0 ≤ v → v < 18446744073709551616 → f.length + d ≤ Big →
    atlasref23_File_lay.q0.l k n ((m : Int), v, (i : Int), f) = some (f ++ lay d v) := by
  intro d
  induction d with
  | zero =>
    intro i n v f hi hn h0 h1 hb
    obtain ⟨n, rfl⟩ : ∃ j, n = j + 1 := ⟨n - 1, by omega⟩
    simp only [atlasref23_File_lay.q0.l, decide_eq_false (show ¬ (i : Int) < (m : Int) by omega), cond_false, lay, List.append_nil]
  | succ d ih =>
    intro i n v f hi hn h0 h1 hb
    obtain ⟨n, rfl⟩ : ∃ j, n = j + 1 := ⟨n - 1, by omega⟩
    have hlen : (f ++ [v % 256]).length = f.length + 1 := by simp
    have hr := room (n := (f ++ [v % 256]).length) (by rw [hlen]; omega)
    have e1 : IntKind.wrap .u64 (Int.tdiv v 256) = v / 256 := by rw [Int.tdiv_eq_ediv_of_nonneg h0, wrap_u64e _ (by omega) (by omega)]
    simp only [atlasref23_File_lay.q0.l, decide_eq_true (show (i : Int) < (m : Int) by omega), cond_true, wrap_u8v, hr, e1, wrap_i64n i (by omega)]
    rw [ih (i + 1) n (v / 256) (f ++ [v % 256]) (by omega) (by omega) (by omega) (by omega) (by rw [hlen]; omega)]
    simp only [lay, List.append_assoc, List.singleton_append]
theorem rlay_eq (k : Nat) (m : Nat) (f : List Int) (v : Int) (hm : m < 1000) (hk : m < k) (h0 : 0 ≤ v) (h1 : v < 18446744073709551616) (hb : f.length + m ≤ Big) : atlasref23_File_lay.f k f (m : Int) v = some (f ++ lay m v) := by
  have h := rlay_loop k m hm m 0 k v f (by omega) hk h0 h1 hb
  have h : atlasref23_File_lay.q0.l k k ((m : Int), v, 0, f) = some (f ++ lay m v) := h
  unfold atlasref23_File_lay.f
  rw [h]; rfl
theorem rwords_eq (k : Nat) (f l : List Int) (hl : l.length < k) (hk : 4 < k) (hv : ∀ c ∈ l, 0 ≤ c ∧ c < 18446744073709551616) (hb : f.length + 4 * l.length ≤ Big) : atlasref23_File_words.f k f l = some (f ++ l.flatMap (lay 4)) := by
  have h := (fold_loop l (fun q x => x.length + 4 * (l.length - q) ≤ Big) (fun x c => x ++ lay 4 c) id (fun n q x => atlasref23_File_words.q0.l k n (l, (q : Int), x)) (fun n x _ => ?_) (fun n q c x hc hq hI => ?_) l k 0 f rfl (by omega) hl (by omega)).1
  · have h : atlasref23_File_words.q0.l k k (l, 0, f) = some (l.foldl (fun x c => x ++ lay 4 c) f) := h
    unfold atlasref23_File_words.f
    rw [h, foldl_app]; rfl
  · simp only [atlasref23_File_words.q0.l, decide_eq_false (show ¬ (l.length : Int) < ((l.length : Nat) : Int) by omega), cond_false]; rfl
  · have hbl : l.length ≤ Big := by omega
    simp only [Big] at hbl
    have hlen : (x ++ lay 4 c).length = x.length + 4 := by rw [List.length_append, lay_length]
    refine ⟨by rw [hlen]; omega, ?_⟩
    have hcv := hv c (mem_at hc)
    have hlay : atlasref23_File_lay.f k x 4 c = some (x ++ lay 4 c) := rlay_eq k 4 x c (by omega) hk hcv.1 hcv.2 (by omega)
    simp only [atlasref23_File_words.q0.l, decide_eq_true (show (q : Int) < ((l.length : Nat) : Int) by omega), decide_eq_true (show (0 : Int) ≤ (q : Int) by omega), Bool.and_self, cond_true, Int.toNat_natCast, getD_of hc, hlay, Option.bind_some, wrap_i64n q (by omega)]
/-- How many zeros are wanted to a multiple. -/
def upz (len n : Nat) : Nat := (n - len % n) % n
theorem rup_loop (k m : Nat) (hm : 0 < m) (hz : ∀ a, upz a m = 0 ↔ a % m = 0) (hs : ∀ a, a % m ≠ 0 → upz a m = upz (a + 1) m + 1) : ∀ (d n : Nat) (f : List Int), upz f.length m = d → d < n → f.length + d ≤ Big →
    atlasref23_File_up.q0.l k n ((m : Int), f) = some (f ++ List.replicate d 0) := by
  intro d
  induction d with
  | zero =>
    intro n f hd hn hb
    obtain ⟨n, rfl⟩ : ∃ j, n = j + 1 := ⟨n - 1, by omega⟩
    have h0 := (hz f.length).1 hd
    have e1 : (Int.tmod ((f.length : Nat) : Int) (m : Int) != 0) = false := by
      rw [Int.tmod_eq_emod_of_nonneg (by omega), ← Int.natCast_emod, h0]; rfl
    simp only [atlasref23_File_up.q0.l, decide_eq_false (show ¬ (m : Int) = 0 by omega), cond_false, e1, List.replicate_zero, List.append_nil]
  | succ d ih =>
    intro n f hd hn hb
    obtain ⟨n, rfl⟩ : ∃ j, n = j + 1 := ⟨n - 1, by omega⟩
    have h0 : f.length % m ≠ 0 := fun h => by have := (hz f.length).2 h; omega
    have h1 := hs f.length h0
    have e1 : (Int.tmod ((f.length : Nat) : Int) (m : Int) != 0) = true := by
      rw [Int.tmod_eq_emod_of_nonneg (by omega), ← Int.natCast_emod, bne_iff_ne]; omega
    have hlen : (f ++ [(0 : Int)]).length = f.length + 1 := by simp
    have hr := room (n := (f ++ [(0 : Int)]).length) (by rw [hlen]; omega)
    simp only [atlasref23_File_up.q0.l, decide_eq_false (show ¬ (m : Int) = 0 by omega), cond_false, e1, cond_true, hr]
    rw [ih n (f ++ [0]) (by rw [hlen]; omega) (by omega) (by rw [hlen]; omega), List.append_assoc]
    rfl
theorem upz_4096 (a : Nat) : upz a 4096 = (a + 4095) / 4096 * 4096 - a := by unfold upz; omega
theorem upz_4 (a : Nat) : upz a 4 = (a + 3) / 4 * 4 - a := by unfold upz; omega
theorem rup_4096 (k : Nat) (f : List Int) (hk : 4096 < k) (hb : f.length + 4096 ≤ Big) : atlasref23_File_up.f k f 4096 = some (f ++ List.replicate ((f.length + 4095) / 4096 * 4096 - f.length) 0) := by
  have h := rup_loop k 4096 (by omega) (fun a => by unfold upz; omega) (fun a h => by unfold upz; omega) _ k f (upz_4096 _) (by omega) (by omega)
  have h : atlasref23_File_up.q0.l k k (4096, f) = _ := h
  unfold atlasref23_File_up.f
  rw [h]; rfl
theorem rup_4 (k : Nat) (f : List Int) (hk : 4 < k) (hb : f.length + 4 ≤ Big) : atlasref23_File_up.f k f 4 = some (f ++ List.replicate ((f.length + 3) / 4 * 4 - f.length) 0) := by
  have h := rup_loop k 4 (by omega) (fun a => by unfold upz; omega) (fun a h => by unfold upz; omega) _ k f (upz_4 _) (by omega) (by omega)
  have h : atlasref23_File_up.q0.l k k (4, f) = _ := h
  unfold atlasref23_File_up.f
  rw [h]; rfl

/-! ### Places -/
def up4k (a : Nat) : Nat := (a + 4095) / 4096 * 4096
theorem up4k_le (a : Nat) : up4k a ≤ a + 4095 := by unfold up4k; omega
theorem le_up4k (a : Nat) : a ≤ up4k a := by unfold up4k; omega
def plN (a n : Nat) : Nat := if 0 < n then up4k a + n else a
theorem plN_le (a n : Nat) : plN a n ≤ a + 4095 + n := by
  have := up4k_le a
  unfold plN; split <;> omega
def plG (x : Nat × List Int) (c : SegT) : Nat × List Int := (plN x.1 (List.length c.2.2.2.1), x.2 ++ [(up4k x.1 : Int)])
def plc (S : List SegT) : Nat × List Int := S.foldl plG (52 + 32 * S.length, [])
theorem up4k_eq (a : Nat) (h : a < 4611686018427387904) : elf_up.f (a : Int) 4096 = some ((up4k a : Nat) : Int) := by
  rw [up_eq _ _ (by omega) (by omega) (by omega)]
  unfold up4k
  congr 1
  omega
theorem rup4k_eq (a : Nat) (h : a < 4611686018427387904) : IntKind.wrap .u64 (IntKind.wrap .u64 (Int.tdiv (IntKind.wrap .u64 (IntKind.wrap .u64 ((a : Int) + 4096) - 1)) 4096) * 4096) = ((up4k a : Nat) : Int) := by
  have e := up4k_eq a h
  unfold elf_up.f at e
  have e0 : decide ((4096 : Int) = 0) = false := rfl
  rw [e0, cond_false, Option.some.injEq] at e
  exact e
/-- How far the places may come. -/
def PlI (q : Nat) (x : Nat × List Int) : Prop := x.1 ≤ 1000 + q * 16781312 ∧ x.2.length = q
theorem plc_inv (S : List SegT) (hn : S.length ≤ 16) (hd : ∀ c ∈ S, List.length c.2.2.2.1 ≤ 16777216) : PlI S.length (plc S) := by
  have key : ∀ (cs : List SegT) (q : Nat) (x : Nat × List Int), (∀ c ∈ cs, List.length c.2.2.2.1 ≤ 16777216) → PlI q x → PlI (q + cs.length) (cs.foldl plG x) := by
    intro cs
    induction cs with
    | nil => intro q x _ h; exact h
    | cons c cs ih =>
      intro q x hc h
      have h1 := hc c List.mem_cons_self
      have := ih (q + 1) (plG x c) (fun c' hc' => hc c' (List.mem_cons_of_mem _ hc')) ⟨by
        have h2 := h.1
        have h3 := plN_le x.1 (List.length c.2.2.2.1)
        show plN x.1 (List.length c.2.2.2.1) ≤ _
        omega, by simp [plG, h.2]⟩
      rw [List.foldl_cons, List.length_cons, show q + (cs.length + 1) = q + 1 + cs.length by omega]
      exact this
  have := key S 0 (52 + 32 * S.length, []) hd ⟨by simp only; omega, rfl⟩
  rw [Nat.zero_add] at this
  exact this
theorem laid_places (k : Nat) (E : Int) (S : List SegT) (Y : List SymT) (hn : S.length ≤ 16) (hk : S.length < k) (hd : ∀ c ∈ S, List.length c.2.2.2.1 ≤ 16777216) :
    elf_laid.q0.l k k (((52 + 32 * S.length : Nat) : Int), S, ((S.length : Nat) : Int), 0, E, S, Y, 0, 0, 0, 0, 0, 0, 0, 0, 0, 0, [], []) = some (((plc S).1 : Int), E, S, Y, 0, 0, 0, 0, 0, 0, 0, 0, 0, 0, [], (plc S).2) ∧
    atlasref23_places.q0.l k k (((52 + 32 * S.length : Nat) : Int), 0, E, S, Y, []) = some (((plc S).1 : Int), (plc S).2) := by
  have hm := maxLen_v
  have c1 : ∀ q : Nat, decide ((0 : Int) ≤ (q : Int)) = true := fun q => decide_eq_true (by omega)
  have c0 : ∀ q : Nat, q < S.length → decide ((q : Int) < ((S.length : Nat) : Int)) = true := fun q h => decide_eq_true (by omega)
  have inv : ∀ q x c, PlI q x → S[q]? = some c → PlI (q + 1) (plG x c) := fun q x c h hc => by
    have h1 := hd c (mem_at hc)
    refine ⟨?_, by simp [plG, h.2]⟩
    have h2 := h.1
    have h3 := plN_le x.1 (List.length c.2.2.2.1)
    show plN x.1 (List.length c.2.2.2.1) ≤ _
    omega
  have roomp : ∀ q (x : Nat × List Int), q < S.length → PlI q x → (decide ((x.2 ++ [((up4k x.1 : Nat) : Int)]).length ≤ maxLen) && decide ((x.2 ++ [((up4k x.1 : Nat) : Int)]).length * 8 ≤ 211106232532992)) = true := fun q x hq h => by
    have h1 : (x.2 ++ [((up4k x.1 : Nat) : Int)]).length = q + 1 := by simp [h.2]
    rw [h1]; simp; omega
  refine ⟨?_, ?_⟩
  · have h := (fold_loop S PlI plG (fun x : Nat × List Int => ((x.1 : Int), E, S, Y, (0 : Int), (0 : Int), (0 : Int), (0 : Int), (0 : Int), (0 : Int), (0 : Int), (0 : Int), (0 : Int), (0 : Int), ([] : List Int), x.2)) (fun n q x => elf_laid.q0.l k n (((x.1 : Nat) : Int), S, ((S.length : Nat) : Int), (q : Int), E, S, Y, 0, 0, 0, 0, 0, 0, 0, 0, 0, 0, [], x.2)) (fun n x _ => ?_) (fun n q c x hc hq hI => ?_) S k 0 (52 + 32 * S.length, []) rfl (by omega) hk ⟨by simp only; omega, rfl⟩).1
    · exact h
    · simp only [elf_laid.q0.l, decide_eq_false (show ¬ (S.length : Int) < ((S.length : Nat) : Int) by omega), cond_false]
    · refine ⟨inv q x c hI hc, ?_⟩
      have hx := hI.1
      have hdc := hd c (mem_at hc)
      have h1 : up4k x.1 ≤ 1000 + 17 * 16781312 := by have := up4k_le x.1; omega
      have w1 : IntKind.wrap .u64 (((up4k x.1 : Nat) : Int) + IntKind.wrap .u64 (((List.length c.2.2.2.1) : Nat) : Int)) = ((up4k x.1 + List.length c.2.2.2.1 : Nat) : Int) := by
        rw [wrap_u64e ((List.length c.2.2.2.1 : Nat) : Int) (by omega) (by omega), wrap_u64e _ (by omega) (by omega)]; omega
      simp only [elf_laid.q0.l, c0 q hq, c1, Bool.and_self, cond_true, up4k_eq x.1 (by omega), Option.bind_some, roomp q x hq hI, Int.toNat_natCast, getD_of hc, w1, wrap_i64n q (by omega), plG, plN]
      by_cases hp : 0 < List.length c.2.2.2.1
      · simp only [decide_eq_true (show (((List.length c.2.2.2.1) : Nat) : Int) > 0 by omega), cond_true, if_pos hp]
      · simp only [decide_eq_false (show ¬ (((List.length c.2.2.2.1) : Nat) : Int) > 0 by omega), cond_false, if_neg hp]
  · have h := (fold_loop S PlI plG (fun x : Nat × List Int => ((x.1 : Int), x.2)) (fun n q x => atlasref23_places.q0.l k n (((x.1 : Nat) : Int), (q : Int), E, S, Y, x.2)) (fun n x _ => ?_) (fun n q c x hc hq hI => ?_) S k 0 (52 + 32 * S.length, []) rfl (by omega) hk ⟨by simp only; omega, rfl⟩).1
    · exact h
    · simp only [atlasref23_places.q0.l, decide_eq_false (show ¬ (S.length : Int) < ((S.length : Nat) : Int) by omega), cond_false]
    · refine ⟨inv q x c hI hc, ?_⟩
      have hx := hI.1
      have hdc := hd c (mem_at hc)
      have h1 : up4k x.1 ≤ 1000 + 17 * 16781312 := by have := up4k_le x.1; omega
      have w0 : IntKind.wrap .u64 (((List.length c.2.2.2.1) : Nat) : Int) = ((List.length c.2.2.2.1 : Nat) : Int) := wrap_u64e _ (by omega) (by omega)
      have w1 : IntKind.wrap .u64 (((up4k x.1 : Nat) : Int) + (((List.length c.2.2.2.1) : Nat) : Int)) = ((up4k x.1 + List.length c.2.2.2.1 : Nat) : Int) := by
        rw [wrap_u64e _ (by omega) (by omega)]; omega
      simp only [atlasref23_places.q0.l, c0 q hq, c1, Bool.and_self, cond_true, rup4k_eq x.1 (by omega), roomp q x hq hI, Int.toNat_natCast, getD_of hc, w0, w1, wrap_i64n q (by omega), plG, plN]
      by_cases hp : 0 < List.length c.2.2.2.1
      · simp only [decide_eq_true (show (((List.length c.2.2.2.1) : Nat) : Int) > 0 by omega), cond_true, if_pos hp]
      · simp only [decide_eq_false (show ¬ (((List.length c.2.2.2.1) : Nat) : Int) > 0 by omega), cond_false, if_neg hp]
end Go.Va

/-
  What a right image is bounded by; the plan of its file.
  Conditions: none.
-/
namespace Go.Va
theorem decode_w (s : ByteArray) (p : Nat) : (Utf8.decode s p).2 ≤ 4 := by
  rw [decode_dec4]
  unfold dec4
  simp only []
  repeat' split
  all_goals simp
theorem name_len_loop (k : Nat) (s : ByteArray) (hn : s.size ≤ 140737488351232) : ∀ (m p n : Nat) (r : Int), words_Name.q0.l k m ((n : Int), s, p) = some (.inr r) → p ≤ s.size → n ≤ p → (n : Int) ≤ r ∧ (s.size : Int) ≤ p + 4 * (r - n) := by
  intro m
  induction m with
  | zero => intro p n r h; cases h
  | succ m ih =>
    intro p n r h hp hnp
    simp only [words_Name.q0.l, letter_eq, Option.bind_some] at h
    by_cases hz : p < s.size
    · obtain ⟨_, _, _, w1, w2⟩ := rune_eq s hn p hz
      have w3 := decode_w s p
      have e1 : IntKind.wrap .i64 ((n : Int) + 1) = ((n + 1 : Nat) : Int) := wrap_i64n n (by omega)
      rw [decide_eq_true hz, cond_true, e1] at h
      have hrec : words_Name.q0.l k m (((n + 1 : Nat) : Int), s, p + (Utf8.decode s p).2) = some (.inr r) := by
        cases hl : ltr (((Utf8.decode s p).1 : Nat) : Int) with
        | true => rw [hl] at h; exact h
        | false =>
          rw [hl] at h
          cases h0 : ((n : Int) == 0) with
          | true => rw [h0] at h; cases h
          | false =>
            rw [h0] at h
            cases h1 : ((((Utf8.decode s p).1 : Nat) : Int) != 95) with
            | false => rw [h1] at h; exact h
            | true =>
              rw [h1] at h
              cases h2 : decide ((((Utf8.decode s p).1 : Nat) : Int) < 48) with
              | true => rw [h2] at h; cases h
              | false =>
                rw [h2] at h
                cases h3 : decide ((((Utf8.decode s p).1 : Nat) : Int) > 57) with
                | true => rw [h3] at h; cases h
                | false => rw [h3] at h; exact h
      obtain ⟨h1, h2⟩ := ih _ _ _ hrec w2 (by omega)
      omega
    · rw [decide_eq_false hz, cond_false, Option.some.injEq, Sum.inr.injEq] at h
      omega
theorem name_inl {s : ByteArray} {b : Bool} (hn : s.size ≤ 140737488351232) (hl : words_Name.q0.l (s.size + 1) (s.size + 1) (0, s, 0) = some (.inl b)) : b = false ∧ True := by
  -- the loop tells by .inl only what is none
  have key : ∀ (m p : Nat) (n : Int) (b : Bool), words_Name.q0.l (s.size + 1) m (n, s, p) = some (.inl b) → b = false := by
    intro m
    induction m with
    | zero => intro p n b h; cases h
    | succ m ih =>
      intro p n b h
      simp only [words_Name.q0.l, letter_eq, Option.bind_some] at h
      cases hd : decide (p < s.size) with
      | false => rw [hd] at h; cases h
      | true =>
        rw [hd, cond_true] at h
        cases hl1 : ltr (((Utf8.decode s p).1 : Nat) : Int) with
        | true => rw [hl1] at h; exact ih _ _ _ h
        | false =>
          rw [hl1] at h
          cases h0 : (n == 0) with
          | true => rw [h0] at h; simp only [Bool.not_false, cond_true, Option.some.injEq, Sum.inl.injEq] at h; exact h.symm
          | false =>
            rw [h0] at h
            cases h1 : ((((Utf8.decode s p).1 : Nat) : Int) != 95) with
            | false => rw [h1] at h; exact ih _ _ _ h
            | true =>
              rw [h1] at h
              cases h2 : decide ((((Utf8.decode s p).1 : Nat) : Int) < 48) with
              | true => rw [h2] at h; simp only [Bool.not_false, cond_true, cond_false, Option.some.injEq, Sum.inl.injEq] at h; exact h.symm
              | false =>
                rw [h2] at h
                cases h3 : decide ((((Utf8.decode s p).1 : Nat) : Int) > 57) with
                | true => rw [h3] at h; simp only [Bool.not_false, cond_true, cond_false, Option.some.injEq, Sum.inl.injEq] at h; exact h.symm
                | false => rw [h3] at h; exact ih _ _ _ h
  exact ⟨key _ _ _ _ hl, trivial⟩
theorem name_len {s : ByteArray} (hn : s.size ≤ 140737488351232) (h : nameB s = true) : s.size ≤ 64 := by
  have h1 := (name_eq s hn (s.size + 1) (by omega)).1
  unfold words_Name.f at h1
  cases hl : words_Name.q0.l (s.size + 1) (s.size + 1) (0, s, 0) with
  | none => rw [hl] at h1; cases h1
  | some r =>
    rw [hl, Option.bind_some, h] at h1
    cases r with
    | inl b =>
      exfalso
      have hb := (name_inl hn hl).1
      subst hb
      cases h1
    | inr r =>
      have h2 := name_len_loop (s.size + 1) s hn (s.size + 1) 0 0 r hl (by omega) (by omega)
      simp only [Sum.elim_inr] at h1
      cases hd : decide (r ≥ 1) with
      | false => rw [hd] at h1; cases h1
      | true =>
        rw [hd, cond_true, Option.some.injEq, decide_eq_true_eq] at h1
        omega
theorem sym_names {Y : List SymT} (h : symB Y = true) : ∀ c ∈ Y, nameB c.1 = true := by
  have key : ∀ (cs : List SymT) (q : Nat), runS (syF (ρ := Unit) Y) (fun _ => .inr ()) cs q = .inr () → ∀ c ∈ cs, nameB c.1 = true := by
    intro cs
    induction cs with
    | nil => intro q _ c hc; cases hc
    | cons c cs ih =>
      intro q hr
      simp only [runS, syF] at hr
      cases h1 : has (Y.take q) c.1 with
      | true => rw [h1] at hr; cases hr
      | false =>
        rw [h1] at hr
        cases h2 : nameB c.1 with
        | false => rw [h2] at hr; cases hr
        | true =>
          rw [h2] at hr
          intro c' hc'
          rcases List.mem_cons.1 hc' with rfl | hc'
          · exact h2
          · exact ih (q + 1) hr c' hc'
  unfold symB at h
  rcases sy_res (ρ := Unit) Y () Y 0 with ⟨h1, _⟩ | ⟨h1, _⟩
  · exact key Y 0 h1
  · rw [h1] at h; cases h
/-- What is so of a right image. -/
structure RightOk (E : Int) (S : List SegT) (Y : List SymT) : Prop where
  s1 : 1 ≤ S.length
  s16 : S.length ≤ 16
  y : Y.length ≤ 1024
  seg : ∀ c ∈ S, segB c = true
  data : ∀ c ∈ S, List.length c.2.2.2.1 ≤ 16777216
  name : ∀ c ∈ Y, nameB c.1 = true
  size : ∀ c ∈ Y, c.1.size ≤ 64
theorem right_ok {x : T25} (h : ImgOk x) (hr : rightB x = true) : RightOk x.f0_Entry x.f1_Segments x.f2_Symbols := by
  have hreach := reach_v
  unfold rightB at hr
  simp only [Bool.and_eq_true, Bool.not_eq_true', decide_eq_false_iff_not, List.all_eq_true] at hr
  obtain ⟨h1, h2, h3, h4, h5, h6, h7⟩ := hr
  refine ⟨by omega, by omega, by omega, h4, fun c hc => ?_, sym_names h5, fun c hc => ?_⟩
  · have := h4 c hc
    simp only [segB, Bool.and_eq_true, decide_eq_true_eq] at this
    omega
  · exact name_len (by have := h.yn c hc; omega) (sym_names h5 c hc)

/-! ### The plan -/
def up4 (a : Nat) : Nat := (a + 3) / 4 * 4
theorem up4_le (a : Nat) : up4 a ≤ a + 3 := by unfold up4; omega
theorem le_up4 (a : Nat) : a ≤ up4 a := by unfold up4; omega
theorem up4_eq (a : Nat) (h : a < 4611686018427387904) : elf_up.f (a : Int) 4 = some ((up4 a : Nat) : Int) := by
  rw [up_eq _ _ (by omega) (by omega) (by omega)]
  unfold up4
  congr 1
  omega
theorem rup4_eq (a : Nat) (h : a < 4611686018427387904) : IntKind.wrap .u64 (IntKind.wrap .u64 (Int.tdiv (IntKind.wrap .u64 ((a : Int) + 3)) 4) * 4) = ((up4 a : Nat) : Int) := by
  have h1 : up4 a ≤ a + 3 := up4_le a
  rw [wrap_u64e ((a : Int) + 3) (by omega) (by omega), Int.tdiv_eq_ediv_of_nonneg (by omega), wrap_u64e (((a : Int) + 3) / 4) (by omega) (by omega), wrap_u64e _ (by omega) (by omega)]
  unfold up4; omega
def stp (S : List SegT) : Nat := (plc S).1
def nt (Y : List SymT) : Nat := Y.foldl (fun a c => a + (c.1.size + 1)) 0
def sy (S : List SegT) : Nat := up4 (stp S)
def nm (S : List SegT) (Y : List SymT) : Nat := sy S + 16 * (Y.length + 1)
def ti (S : List SegT) (Y : List SymT) : Nat := nm S Y + 1 + nt Y
def se (S : List SegT) (Y : List SymT) : Nat := up4 (ti S Y + 27)
theorem nt_le (Y : List SymT) (h : ∀ c ∈ Y, c.1.size ≤ 64) : nt Y ≤ 65 * Y.length := by
  have key : ∀ (cs : List SymT) (a : Nat), (∀ c ∈ cs, c.1.size ≤ 64) → cs.foldl (fun a c => a + (c.1.size + 1)) a ≤ a + 65 * cs.length := by
    intro cs
    induction cs with
    | nil => intro a _; simp
    | cons c cs ih =>
      intro a hc
      rw [List.foldl_cons]
      have h1 := ih (a + (c.1.size + 1)) (fun c' hc' => hc c' (List.mem_cons_of_mem _ hc'))
      have h2 := hc c List.mem_cons_self
      rw [List.length_cons]; omega
  have := key Y 0 h
  rw [Nat.zero_add] at this
  exact this
theorem plan_le {E : Int} {S : List SegT} {Y : List SymT} (h : RightOk E S Y) : stp S ≤ 268501992 ∧ sy S ≤ 268501995 ∧ nm S Y ≤ 268518395 ∧ ti S Y ≤ 268584956 ∧ se S Y ≤ 268584986 := by
  have h1 := (plc_inv S h.s16 h.data).1
  have h2 : stp S ≤ 1000 + S.length * 16781312 := h1
  have h3 := up4_le (stp S)
  have h4 := nt_le Y h.size
  have h5 := up4_le (ti S Y + 27)
  have h6 := h.s16
  have h7 := h.y
  unfold se
  unfold ti nm sy at *
  omega
theorem laid_eq (k : Nat) (E : Int) (S : List SegT) (Y : List SymT) (h : RightOk E S Y) (hk : 2000 < k) :
    elf_laid.f k ⟨E, S, Y⟩ = some (if Y.length = 0 then ⟨(plc S).2, 0, 0, 0, 0, (stp S : Int)⟩ else ⟨(plc S).2, (sy S : Int), (nm S Y : Int), (ti S Y : Int), (se S Y : Int), ((se S Y + 160 : Nat) : Int)⟩) := by
  have hs16 := h.s16
  have hy := h.y
  have hp := (laid_places k E S Y h.s16 (by omega) h.data).1
  obtain ⟨b1, b2, b3, b4, b5⟩ := plan_le h
  have e0 : IntKind.wrap .u64 (IntKind.wrap .i64 (52 + IntKind.wrap .i64 (32 * ((S.length : Nat) : Int)))) = ((52 + 32 * S.length : Nat) : Int) := by
    rw [wrap_i64e (32 * ((S.length : Nat) : Int)) (by omega) (by omega), wrap_i64e (52 + 32 * ((S.length : Nat) : Int)) (by omega) (by omega), wrap_u64e _ (by omega) (by omega)]
    omega
  unfold elf_laid.f
  simp only [e0, hp, Option.bind_some]
  by_cases hY : Y.length = 0
  · rw [if_pos hY, decide_eq_false (show ¬ ((Y.length : Nat) : Int) > 0 by omega), cond_false]
    rfl
  · rw [if_neg hY, decide_eq_true (show ((Y.length : Nat) : Int) > 0 by omega), cond_true]
    have e1 : elf_up.f ((plc S).1 : Int) 4 = some ((sy S : Nat) : Int) := up4_eq (stp S) (by omega)
    have e2 : IntKind.wrap .u64 (((sy S : Nat) : Int) + IntKind.wrap .u64 (16 * IntKind.wrap .u64 (IntKind.wrap .i64 (((Y.length : Nat) : Int) + 1)))) = ((nm S Y : Nat) : Int) := by
      rw [wrap_i64e _ (by omega) (by omega), wrap_u64e (((Y.length : Nat) : Int) + 1) (by omega) (by omega), wrap_u64e (16 * (((Y.length : Nat) : Int) + 1)) (by omega) (by omega), wrap_u64e _ (by omega) (by omega)]
      unfold nm; omega
    have e3 : IntKind.wrap .u64 (((nm S Y : Nat) : Int) + 1) = ((nm S Y + 1 : Nat) : Int) := by rw [wrap_u64e _ (by omega) (by omega)]; omega
    simp only [e1, Option.bind_some, e2, e3]
    have hloop := (fold_loop Y (fun q x => x ≤ nm S Y + 1 + 65 * q) (fun (a : Nat) (c : SymT) => a + (c.1.size + 1)) (fun a : Nat => ((0 : Int), (0 : Int), (0 : Int), (0 : Int), (0 : Int), ((sy S : Nat) : Int), ((nm S Y : Nat) : Int), (a : Int), (0 : Int), ((plc S).1 : Int), ([] : List Int), (plc S).2)) (fun n q a => elf_laid.q1.l k n (Y, ((Y.length : Nat) : Int), (q : Int), 0, 0, 0, 0, 0, ((sy S : Nat) : Int), ((nm S Y : Nat) : Int), (a : Int), 0, ((plc S).1 : Int), [], (plc S).2)) (fun n x _ => ?_) (fun n q c x hc hq hI => ?_) Y k 0 (nm S Y + 1) rfl (by omega) (by omega) (by omega)).1
    · have hfold : Y.foldl (fun (a : Nat) (c : SymT) => a + (c.1.size + 1)) (nm S Y + 1) = ti S Y := by
        have key : ∀ (cs : List SymT) (a b : Nat), cs.foldl (fun (a : Nat) (c : SymT) => a + (c.1.size + 1)) (a + b) = a + cs.foldl (fun (a : Nat) (c : SymT) => a + (c.1.size + 1)) b := by
          intro cs
          induction cs with
          | nil => intro a b; rfl
          | cons c cs ih => intro a b; rw [List.foldl_cons, List.foldl_cons, Nat.add_assoc, ih]
        exact key Y (nm S Y + 1) 0
      rw [hfold] at hloop
      have hloop : elf_laid.q1.l k k (Y, ((Y.length : Nat) : Int), 0, 0, 0, 0, 0, 0, ((sy S : Nat) : Int), ((nm S Y : Nat) : Int), ((nm S Y + 1 : Nat) : Int), 0, ((plc S).1 : Int), [], (plc S).2) = _ := hloop
      rw [hloop]
      simp only [Option.bind_some]
      have e4 : IntKind.wrap .u64 (((ti S Y : Nat) : Int) + 27) = ((ti S Y + 27 : Nat) : Int) := by rw [wrap_u64e _ (by omega) (by omega)]; omega
      have e5 : elf_up.f ((ti S Y + 27 : Nat) : Int) 4 = some ((se S Y : Nat) : Int) := up4_eq _ (by omega)
      have e6 : IntKind.wrap .u64 (((se S Y : Nat) : Int) + 160) = ((se S Y + 160 : Nat) : Int) := by rw [wrap_u64e _ (by omega) (by omega)]; omega
      simp only [e4, e5, Option.bind_some, e6]
    · simp only [elf_laid.q1.l, decide_eq_false (show ¬ (Y.length : Int) < ((Y.length : Nat) : Int) by omega), cond_false]
    · have hsz := h.size c (mem_at hc)
      have hI : x ≤ nm S Y + 1 + 65 * q := hI
      refine ⟨show x + (c.1.size + 1) ≤ _ by omega, ?_⟩
      have e4 : IntKind.wrap .u64 ((x : Int) + IntKind.wrap .u64 (IntKind.wrap .u64 ((c.1.size : Nat) : Int) + 1)) = ((x + (c.1.size + 1) : Nat) : Int) := by
        rw [wrap_u64e ((c.1.size : Nat) : Int) (by omega) (by omega), wrap_u64e (((c.1.size : Nat) : Int) + 1) (by omega) (by omega), wrap_u64e _ (by omega) (by omega)]; omega
      simp only [elf_laid.q1.l, decide_eq_true (show (q : Int) < ((Y.length : Nat) : Int) by omega), decide_eq_true (show (0 : Int) ≤ (q : Int) by omega), Bool.and_self, cond_true, Int.toNat_natCast, getD_of hc, e4, wrap_i64n q (by omega)]
end Go.Va

/-
  The file of an image, by the program and by the document's answer.
  Conditions: none.
-/
namespace Go.Va
/-! ### The parts -/
def magic : List Int := [127, 69, 76, 70, 1, 1, 1, 0, 0, 0, 0, 0, 0, 0, 0, 0]
def bitsB (c : SegT) : Int := bif c.2.2.1.1 then (bif c.2.2.1.2.1 then (bif c.2.2.1.2.2.1 then 7 else 6) else (bif c.2.2.1.2.2.1 then 5 else 4)) else (bif c.2.2.1.2.1 then (bif c.2.2.1.2.2.1 then 3 else 2) else (bif c.2.2.1.2.2.1 then 1 else 0))
theorem bits_eq (c : SegT) : elf_bits.f ⟨c.2.2.1.1, c.2.2.1.2.1, c.2.2.1.2.2.1⟩ = some (bitsB c) ∧ atlasref23_bits.f ⟨c.2.2.1.1, c.2.2.1.2.1, c.2.2.1.2.2.1⟩ = some (bitsB c) := by
  unfold elf_bits.f atlasref23_bits.f bitsB
  cases c.2.2.1.1 <;> cases c.2.2.1.2.1 <;> cases c.2.2.1.2.2.1 <;> exact ⟨rfl, rfl⟩
theorem bits_lt (c : SegT) : 0 ≤ bitsB c ∧ bitsB c < 8 := by
  unfold bitsB
  cases c.2.2.1.1 <;> cases c.2.2.1.2.1 <;> cases c.2.2.1.2.2.1 <;> exact ⟨by decide, by decide⟩
def phW (c : SegT) (p : Int) : List Int := [1, p, c.1, c.1, ((List.length c.2.2.2.1 : Nat) : Int), c.2.1, bitsB c, 4096]
def phG (P : List Int) (x : Nat × List Int) (c : SegT) : Nat × List Int := (x.1 + 1, x.2 ++ (phW c (P.getD x.1 0)).flatMap (lay 4))
def bdG (f : List Int) (c : SegT) : List Int := if 0 < List.length c.2.2.2.1 then f ++ List.replicate (up4k f.length - f.length) 0 ++ c.2.2.2.1 else f
/-- The place at which the q-th segment is met. -/
def atq (S : List SegT) (q : Nat) : Nat := ((S.take q).foldl plG (52 + 32 * S.length, [])).1

theorem plG_pre : ∀ (cs : List SegT) (x : Nat × List Int), ∃ t, (cs.foldl plG x).2 = x.2 ++ t
  | [], x => ⟨[], by simp⟩
  | c :: cs, x => by
    obtain ⟨t, ht⟩ := plG_pre cs (plG x c)
    exact ⟨(up4k x.1 : Int) :: t, by rw [List.foldl_cons, ht]; simp [plG]⟩
theorem plG_len : ∀ (cs : List SegT) (x : Nat × List Int), (cs.foldl plG x).2.length = x.2.length + cs.length
  | [], x => rfl
  | c :: cs, x => by rw [List.foldl_cons, plG_len cs]; simp [plG]; omega
theorem take_succ_get {α : Type} {S : List α} {q : Nat} {c : α} (h : S[q]? = some c) : S.take (q + 1) = S.take q ++ [c] := by
  rw [List.take_add_one, h]; rfl
theorem atq_succ {S : List SegT} {q : Nat} {c : SegT} (h : S[q]? = some c) : atq S (q + 1) = plN (atq S q) (List.length c.2.2.2.1) := by
  unfold atq
  rw [take_succ_get h, List.foldl_append]; rfl
theorem plc_get {S : List SegT} {q : Nat} {c : SegT} (h : S[q]? = some c) : (plc S).2.getD q 0 = ((up4k (atq S q) : Nat) : Int) ∧ q < (plc S).2.length := by
  have hlt : q < S.length := (List.getElem?_eq_some_iff.1 h).1
  have e1 : S = S.take q ++ c :: S.drop (q + 1) := by
    have h2 := (List.getElem?_eq_some_iff.1 h).2
    exact (List.take_append_drop q S).symm.trans (by rw [List.drop_eq_getElem_cons hlt, h2])
  have hl : (plc S).2.length = S.length := by unfold plc; rw [plG_len]; simp
  have hq : ((S.take q).foldl plG (52 + 32 * S.length, [])).2.length = q := by rw [plG_len]; simp; omega
  refine ⟨?_, by omega⟩
  have e2 : plc S = (S.drop (q + 1)).foldl plG (plG ((S.take q).foldl plG (52 + 32 * S.length, [])) c) := by
    unfold plc
    conv => lhs; rw [show S.foldl plG (52 + 32 * S.length, []) = (S.take q ++ c :: S.drop (q + 1)).foldl plG (52 + 32 * S.length, []) by rw [← e1]]
    rw [List.foldl_append, List.foldl_cons]
  obtain ⟨t, ht⟩ := plG_pre (S.drop (q + 1)) (plG ((S.take q).foldl plG (52 + 32 * S.length, [])) c)
  rw [e2, ht]
  have e3 : (plG ((S.take q).foldl plG (52 + 32 * S.length, [])) c).2 = ((S.take q).foldl plG (52 + 32 * S.length, [])).2 ++ [((up4k (atq S q) : Nat) : Int)] := rfl
  rw [e3, List.append_assoc, List.getD_eq_getElem?_getD, List.getElem?_append_right (by omega), hq]
  simp
theorem atq_le {S : List SegT} (h16 : S.length ≤ 16) (hd : ∀ c ∈ S, List.length c.2.2.2.1 ≤ 16777216) (q : Nat) (hq : q ≤ S.length) : atq S q ≤ 1000 + q * 16781312 := by
  induction q with
  | zero => unfold atq; simp; omega
  | succ q ih =>
    have hlt : q < S.length := by omega
    have hc : S[q]? = some S[q] := List.getElem?_eq_getElem hlt
    rw [atq_succ hc]
    have h1 := ih (by omega)
    have h2 := plN_le (atq S q) (List.length S[q].2.2.2.1)
    have h3 := hd S[q] (List.getElem_mem hlt)
    omega
theorem atq_end (S : List SegT) : atq S S.length = stp S := by unfold atq stp plc; rw [List.take_length]
theorem bdG_len (f : List Int) (c : SegT) : (bdG f c).length = plN f.length (List.length c.2.2.2.1) := by
  unfold bdG plN
  have := le_up4k f.length
  split
  · simp; omega
  · rfl

/-! ### The program headers and the bodies -/
def phI (n : Nat) (q : Nat) (x : Nat × List Int) : Prop := x.1 = q ∧ x.2.length = n + 32 * q
theorem phW_flat (c : SegT) (p : Int) : ((phW c p).flatMap (lay 4)).length = 32 := by rw [flat_len]; rfl
theorem ph_eq (k : Nat) (E : Int) (S : List SegT) (Y : List SymT) (h : RightOk E S Y) (hS : ∀ c ∈ S, SegOk c) (a1 a2 a3 a4 a5 : Int) (f : List Int) (hf : f.length = 52) (hk : 2000 < k) :
    elf_Write.q0.l k k (S, ((S.length : Nat) : Int), 0, E, S, Y, (plc S).2, a1, a2, a3, a4, a5, f) = some (E, S, Y, (plc S).2, a1, a2, a3, a4, a5, (S.foldl (phG (plc S).2) (0, f)).2) ∧
    (∀ (b1 b2 b3 b4 b5 : Int) (L1 L2 : List Int), atlasref23_Write.q2.l k k ((plc S).2, b1, b2, b3, b4, 0, b5, S, Y, L1, L2, f) = some (b1, b2, b3, b4, b5, S, Y, L1, L2, (S.foldl (phG (plc S).2) (0, f)).2)) ∧
    (S.foldl (phG (plc S).2) (0, f)).2.length = 52 + 32 * S.length := by
  have h16 := h.s16
  have c1 : ∀ q : Nat, decide ((0 : Int) ≤ (q : Int)) = true := fun q => decide_eq_true (by omega)
  have c0 : ∀ q : Nat, q < S.length → decide ((q : Int) < ((S.length : Nat) : Int)) = true := fun q h => decide_eq_true (by omega)
  have inv : ∀ q x c, phI 52 q x → phI 52 (q + 1) (phG (plc S).2 x c) := fun q x c hI => ⟨by simp [phG, hI.1], by simp only [phG, List.length_append, phW_flat, hI.2]; omega⟩
  have val : ∀ q c, S[q]? = some c → ((plc S).2.getD q 0 = ((up4k (atq S q) : Nat) : Int) ∧ q < (plc S).2.length) ∧ up4k (atq S q) ≤ 300000000 := fun q c hc => by
    have hlt := (List.getElem?_eq_some_iff.1 hc).1
    refine ⟨plc_get hc, ?_⟩
    have h1 := atq_le h.s16 h.data q (by omega)
    have h2 := up4k_le (atq S q)
    omega
  have A := (fold_loop S (phI 52) (phG (plc S).2) (fun x : Nat × List Int => (E, S, Y, (plc S).2, a1, a2, a3, a4, a5, x.2)) (fun n q x => elf_Write.q0.l k n (S, ((S.length : Nat) : Int), (q : Int), E, S, Y, (plc S).2, a1, a2, a3, a4, a5, x.2)) (fun n x _ => ?_) (fun n q c x hc hq hI => ?_) S k 0 (0, f) rfl (by omega) (by omega) ⟨rfl, hf⟩)
  · refine ⟨A.1, fun b1 b2 b3 b4 b5 L1 L2 => ?_, A.2.2⟩
    exact (fold_loop S (phI 52) (phG (plc S).2) (fun x : Nat × List Int => (b1, b2, b3, b4, b5, S, Y, L1, L2, x.2)) (fun n q x => atlasref23_Write.q2.l k n ((plc S).2, b1, b2, b3, b4, (q : Int), b5, S, Y, L1, L2, x.2)) (fun n x _ => by
        simp only [atlasref23_Write.q2.l, decide_eq_false (show ¬ (S.length : Int) < ((S.length : Nat) : Int) by omega), cond_false]) (fun n q c x hc hq hI => by
        refine ⟨inv q x c hI, ?_⟩
        obtain ⟨⟨v1, v2⟩, v3⟩ := val q c hc
        have oc := hS c (mem_at hc)
        have hdc := h.data c (mem_at hc)
        have hw : atlasref23_File_words.f k x.2 (phW c ((plc S).2.getD q 0)) = some (x.2 ++ (phW c ((plc S).2.getD q 0)).flatMap (lay 4)) := by
          refine rwords_eq k _ _ (by show 8 < k; omega) (by omega) (fun v hv => ?_) (by show x.2.length + 4 * 8 ≤ _; rw [hI.2]; simp only [Big]; omega)
          have hb := bits_lt c
          rw [v1] at hv
          simp only [phW, List.mem_cons, List.not_mem_nil, or_false] at hv
          have o1 := oc.1
          have o2 := oc.2.1
          rcases hv with rfl | rfl | rfl | rfl | rfl | rfl | rfl | rfl <;> omega
        have e1 : x.1 = q := hI.1
        unfold phW at hw
        simp only [atlasref23_Write.q2.l, c0 q hq, c1, Bool.and_self, cond_true, decide_eq_true (show (q : Int) < (((plc S).2.length : Nat) : Int) by omega), Int.toNat_natCast, getD_of hc, (bits_eq c).2, Option.bind_some, wrap_u64e c.1 oc.1.1 (by have := oc.1.2; omega), wrap_u64e c.2.1 oc.2.1.1 (by have := oc.2.1.2; omega), wrap_u64e ((List.length c.2.2.2.1 : Nat) : Int) (by omega) (by omega), hw, wrap_i64n q (by omega)]
        simp only [phG, phW, e1]) S k 0 (0, f) rfl (by omega) (by omega) ⟨rfl, hf⟩).1
  · simp only [elf_Write.q0.l, decide_eq_false (show ¬ (S.length : Int) < ((S.length : Nat) : Int) by omega), cond_false]
  · refine ⟨inv q x c hI, ?_⟩
    obtain ⟨⟨v1, v2⟩, v3⟩ := val q c hc
    have oc := hS c (mem_at hc)
    have hdc := h.data c (mem_at hc)
    have hw : elf_writer_word.f k x.2 (phW c ((plc S).2.getD q 0)) = some (x.2 ++ (phW c ((plc S).2.getD q 0)).flatMap (lay 4)) :=
      word_eq k _ _ (by show 8 < k; omega) (by show x.2.length + 4 * 8 ≤ _; rw [hI.2]; simp only [Big]; omega)
    have e1 : x.1 = q := hI.1
    have w1 : IntKind.wrap .u32 ((plc S).2.getD q 0) = (plc S).2.getD q 0 := by rw [wrap_u32v, v1]; omega
    have w2 : IntKind.wrap .u32 ((List.length c.2.2.2.1 : Nat) : Int) = ((List.length c.2.2.2.1 : Nat) : Int) := by rw [wrap_u32v]; omega
    unfold phW at hw
    simp only [elf_Write.q0.l, c0 q hq, c1, Bool.and_self, cond_true, decide_eq_true (show (q : Int) < (((plc S).2.length : Nat) : Int) by omega), Int.toNat_natCast, getD_of hc, (bits_eq c).1, Option.bind_some, w1, w2, hw, wrap_i64n q (by omega)]
    simp only [phG, phW, e1]
theorem body_eq (k : Nat) (E : Int) (S : List SegT) (Y : List SymT) (h : RightOk E S Y) (a1 a2 a3 a4 a5 : Int) (f : List Int) (hf : f.length = 52 + 32 * S.length) (hk : 5000 < k) :
    elf_Write.q1.l k k (S, ((S.length : Nat) : Int), 0, E, S, Y, (plc S).2, a1, a2, a3, a4, a5, f) = some (E, S, Y, (plc S).2, a1, a2, a3, a4, a5, S.foldl bdG f) ∧
    (∀ (b1 b2 b3 b4 b5 : Int) (L1 L2 : List Int), atlasref23_Write.q3.l k k (b1, b2, b3, b4, 0, b5, S, Y, L1, L2, f) = some (b1, b2, b3, b4, L1, L2, S.foldl bdG f)) ∧
    (S.foldl bdG f).length = stp S := by
  have h16 := h.s16
  have c1 : ∀ q : Nat, decide ((0 : Int) ≤ (q : Int)) = true := fun q => decide_eq_true (by omega)
  have c0 : ∀ q : Nat, q < S.length → decide ((q : Int) < ((S.length : Nat) : Int)) = true := fun q h => decide_eq_true (by omega)
  have inv : ∀ q x c, S[q]? = some c → List.length x = atq S q → List.length (bdG x c) = atq S (q + 1) := fun q x c hc hI => by rw [bdG_len, atq_succ hc, hI]
  have i0 : f.length = atq S 0 := by rw [hf]; rfl
  have bnd : ∀ q c, S[q]? = some c → up4k (atq S q) ≤ 300000000 := fun q c hc => by
    have hlt := (List.getElem?_eq_some_iff.1 hc).1
    have h1 := atq_le h.s16 h.data q (by omega)
    have h2 := up4k_le (atq S q)
    omega
  have A := (fold_loop S (fun q x => List.length x = atq S q) bdG (fun x : List Int => (E, S, Y, (plc S).2, a1, a2, a3, a4, a5, x)) (fun n q x => elf_Write.q1.l k n (S, ((S.length : Nat) : Int), (q : Int), E, S, Y, (plc S).2, a1, a2, a3, a4, a5, x)) (fun n x _ => ?_) (fun n q c x hc hq hI => ?_) S k 0 f rfl (by omega) (by omega) i0)
  · refine ⟨A.1, fun b1 b2 b3 b4 b5 L1 L2 => ?_, A.2.trans (atq_end S)⟩
    exact (fold_loop S (fun q x => List.length x = atq S q) bdG (fun x : List Int => (b1, b2, b3, b4, L1, L2, x)) (fun n q x => atlasref23_Write.q3.l k n (b1, b2, b3, b4, (q : Int), b5, S, Y, L1, L2, x)) (fun n x _ => by
        simp only [atlasref23_Write.q3.l, decide_eq_false (show ¬ (S.length : Int) < ((S.length : Nat) : Int) by omega), cond_false]) (fun n q c x hc hq hI => by
        refine ⟨inv q x c hc hI, ?_⟩
        have hI : List.length x = atq S q := hI
        have hdc := h.data c (mem_at hc)
        have hb := bnd q c hc
        have hle := le_up4k (atq S q)
        by_cases hp : 0 < List.length c.2.2.2.1
        · have hup : atlasref23_File_up.f k x 4096 = some (x ++ List.replicate (up4k x.length - x.length) 0) := rup_4096 k x (by omega) (by simp only [Big]; omega)
          have hr := room (n := (x ++ List.replicate (up4k x.length - x.length) 0 ++ c.2.2.2.1).length) (by simp only [List.length_append, List.length_replicate, Big]; rw [hI]; omega)
          simp only [atlasref23_Write.q3.l, c0 q hq, c1, Bool.and_self, cond_true, Int.toNat_natCast, getD_of hc, decide_eq_true (show ((List.length c.2.2.2.1 : Nat) : Int) > 0 by omega), hup, Option.bind_some, hr, wrap_i64n q (by omega), bdG, if_pos hp]
        · simp only [atlasref23_Write.q3.l, c0 q hq, c1, Bool.and_self, cond_true, Int.toNat_natCast, getD_of hc, decide_eq_false (show ¬ ((List.length c.2.2.2.1 : Nat) : Int) > 0 by omega), cond_false, wrap_i64n q (by omega), bdG, if_neg hp]) S k 0 f rfl (by omega) (by omega) i0).1
  · simp only [elf_Write.q1.l, decide_eq_false (show ¬ (S.length : Int) < ((S.length : Nat) : Int) by omega), cond_false]
  · refine ⟨inv q x c hc hI, ?_⟩
    have hI : List.length x = atq S q := hI
    have hdc := h.data c (mem_at hc)
    have hb := bnd q c hc
    have hle := le_up4k (atq S q)
    obtain ⟨v1, v2⟩ := plc_get hc
    by_cases hp : 0 < List.length c.2.2.2.1
    · have hpad : elf_writer_pad.f x ((plc S).2.getD q 0) = some (x ++ List.replicate (up4k x.length - x.length) 0) := by
        rw [v1, hI]
        have := pad_eq x (up4k (atq S q)) (by omega) (by simp only [Big]; omega)
        rw [hI] at this
        exact this
      have hr := room (n := (x ++ List.replicate (up4k x.length - x.length) 0 ++ c.2.2.2.1).length) (by simp only [List.length_append, List.length_replicate, Big]; rw [hI]; omega)
      simp only [elf_Write.q1.l, c0 q hq, c1, Bool.and_self, cond_true, Int.toNat_natCast, getD_of hc, decide_eq_true (show ((List.length c.2.2.2.1 : Nat) : Int) > 0 by omega), decide_eq_true (show (q : Int) < (((plc S).2.length : Nat) : Int) by omega), hpad, Option.bind_some, hr, wrap_i64n q (by omega), bdG, if_pos hp]
    · simp only [elf_Write.q1.l, c0 q hq, c1, Bool.and_self, cond_true, Int.toNat_natCast, getD_of hc, decide_eq_false (show ¬ ((List.length c.2.2.2.1 : Nat) : Int) > 0 by omega), cond_false, wrap_i64n q (by omega), bdG, if_neg hp]
end Go.Va

/-
  The tables at a file's end; the whole file.
  Conditions: none.
-/
namespace Go.Va
def symE (c : SymT) (a : Nat) : List Int := ([(a : Int), c.2.1, 0] : List Int).flatMap (lay 4) ++ [16, 0] ++ lay 2 65521
def symL : List SymT → Nat → List Int
  | [], _ => []
  | c :: cs, a => symE c a ++ symL cs (a + (c.1.size + 1))
def namesL (Y : List SymT) : List Int := Y.flatMap fun c => strI c.1 ++ [0]
theorem strI_len (s : ByteArray) : (strI s).length = s.size := by simp [strI]
theorem symE_len (c : SymT) (a : Nat) : (symE c a).length = 16 := by
  unfold symE
  rw [List.length_append, List.length_append, flat_len, lay_length]; rfl
theorem symL_len : ∀ (Y : List SymT) (a : Nat), (symL Y a).length = 16 * Y.length
  | [], _ => rfl
  | c :: Y, a => by simp only [symL, List.length_append, symE_len, symL_len Y, List.length_cons]; omega
theorem nt_shift : ∀ (cs : List SymT) (a b : Nat), cs.foldl (fun (a : Nat) (c : SymT) => a + (c.1.size + 1)) (a + b) = a + cs.foldl (fun (a : Nat) (c : SymT) => a + (c.1.size + 1)) b := by
  intro cs
  induction cs with
  | nil => intro a b; rfl
  | cons c cs ih => intro a b; rw [List.foldl_cons, List.foldl_cons, Nat.add_assoc, ih]
theorem namesL_len : ∀ (Y : List SymT), (namesL Y).length = nt Y
  | [] => rfl
  | c :: Y => by
    have h := namesL_len Y
    have h2 := nt_shift Y (c.1.size + 1) 0
    unfold namesL nt at *
    rw [List.flatMap_cons, List.length_append, h, List.foldl_cons, List.length_append, strI_len]
    rw [Nat.add_zero] at h2
    rw [Nat.zero_add, h2]; rfl

/-! ### The symbols, by both -/
def syR (x : List Int × List Int) (c : SymT) : List Int × List Int := ((x.1 ++ strI c.1) ++ [0], x.2 ++ symE c x.1.length)
theorem syR_fold : ∀ (Y : List SymT) (x : List Int × List Int), Y.foldl syR x = (x.1 ++ namesL Y, x.2 ++ symL Y x.1.length)
  | [], x => by simp [namesL, symL]
  | c :: Y, x => by
    have e : (syR x c).1.length = x.1.length + (c.1.size + 1) := by
      simp only [syR, List.length_append, strI_len, List.length_cons, List.length_nil]; omega
    rw [List.foldl_cons, syR_fold Y, e]
    simp only [syR, namesL, List.flatMap_cons, symL, List.append_assoc]
def syE (x : Nat × List Int) (c : SymT) : Nat × List Int := (x.1 + (c.1.size + 1), x.2 ++ symE c x.1)
theorem syE_fold : ∀ (Y : List SymT) (x : Nat × List Int), (Y.foldl syE x).2 = x.2 ++ symL Y x.1
  | [], x => by simp [symL]
  | c :: Y, x => by
    rw [List.foldl_cons, syE_fold Y]
    simp only [syE, symL, List.append_assoc]
theorem rsym_eq (k : Nat) (E : Int) (S : List SegT) (Y : List SymT) (h : RightOk E S Y) (hu : ∀ c ∈ Y, 0 ≤ c.2.1 ∧ c.2.1 < 4294967296) (P : List Int) (st : Int) (hk : 5000 < k) :
    atlasref23_Write.q0.l k k (P, st, 0, E, S, Y, [0], lay 16 0) = some (P, st, E, S, Y, [0] ++ namesL Y, lay 16 0 ++ symL Y 1) := by
  have hY := h.y
  have A := (fold_loop Y (fun q (x : List Int × List Int) => x.1.length ≤ 1 + 65 * q ∧ x.2.length = 16 + 16 * q) syR (fun x : List Int × List Int => (P, st, E, S, Y, x.1, x.2)) (fun n q x => atlasref23_Write.q0.l k n (P, st, (q : Int), E, S, Y, x.1, x.2)) (fun n x _ => ?_) (fun n q c x hc hq hI => ?_) Y k 0 ([0], lay 16 0) rfl (by omega) (by omega) ⟨by simp, by rw [lay_length]⟩).1
  · rw [syR_fold] at A
    exact A
  · simp only [atlasref23_Write.q0.l, decide_eq_false (show ¬ (Y.length : Int) < ((Y.length : Nat) : Int) by omega), cond_false]
  · obtain ⟨i1, i2⟩ := hI
    have hsz := h.size c (mem_at hc)
    have hcu := hu c (mem_at hc)
    refine ⟨⟨by simp only [syR, List.length_append, strI_len, List.length_cons, List.length_nil]; omega, by simp only [syR, List.length_append, symE_len, i2]; omega⟩, ?_⟩
    have w1 : atlasref23_File_words.f k x.2 ([((x.1.length : Nat) : Int), c.2.1, 0] : List Int) = some (x.2 ++ ([((x.1.length : Nat) : Int), c.2.1, 0] : List Int).flatMap (lay 4)) := by
      refine rwords_eq k _ _ (by show 3 < k; omega) (by omega) (fun v hv => ?_) (by show x.2.length + 4 * 3 ≤ _; simp only [Big]; omega)
      simp only [List.mem_cons, List.not_mem_nil, or_false] at hv
      rcases hv with rfl | rfl | rfl <;> omega
    have l1 : (x.2 ++ ([((x.1.length : Nat) : Int), c.2.1, 0] : List Int).flatMap (lay 4)).length = x.2.length + 12 := by rw [List.length_append, flat_len]; rfl
    have w2 := rlay_eq k 1 (x.2 ++ ([((x.1.length : Nat) : Int), c.2.1, 0] : List Int).flatMap (lay 4)) 16 (by omega) (by omega) (by omega) (by omega) (by rw [l1]; simp only [Big]; omega)
    have w3 := rlay_eq k 1 (x.2 ++ ([((x.1.length : Nat) : Int), c.2.1, 0] : List Int).flatMap (lay 4) ++ lay 1 16) 0 (by omega) (by omega) (by omega) (by omega) (by rw [List.length_append, l1, lay_length]; simp only [Big]; omega)
    have w4 := rlay_eq k 2 (x.2 ++ ([((x.1.length : Nat) : Int), c.2.1, 0] : List Int).flatMap (lay 4) ++ lay 1 16 ++ lay 1 0) 65521 (by omega) (by omega) (by omega) (by omega) (by rw [List.length_append, List.length_append, l1, lay_length, lay_length]; simp only [Big]; omega)
    have w2 : atlasref23_File_lay.f k _ 1 16 = _ := w2
    have w3 : atlasref23_File_lay.f k _ 1 0 = _ := w3
    have w4 : atlasref23_File_lay.f k _ 2 65521 = _ := w4
    have r1 := room (n := x.1.length + c.1.size) (by simp only [Big]; omega)
    have r2 := room (n := ((x.1 ++ strI c.1) ++ [(0 : Int)]).length) (by simp only [List.length_append, strI_len, List.length_cons, List.length_nil, Big]; omega)
    simp only [atlasref23_Write.q0.l, decide_eq_true (show (q : Int) < ((Y.length : Nat) : Int) by omega), decide_eq_true (show (0 : Int) ≤ (q : Int) by omega), Bool.and_self, cond_true, Int.toNat_natCast, getD_of hc, wrap_u64e ((x.1.length : Nat) : Int) (by omega) (by omega), wrap_u64e c.2.1 hcu.1 (by omega), w1, Option.bind_some, w2, w3, w4, r1, r2, wrap_i64n q (by omega)]
    have e5 : x.2 ++ ([((x.1.length : Nat) : Int), c.2.1, 0] : List Int).flatMap (lay 4) ++ lay 1 16 ++ lay 1 0 ++ lay 2 65521 = (syR x c).2 := by
      have e6 : lay 1 16 = [16] := rfl
      have e7 : lay 1 0 = [0] := rfl
      rw [e6, e7]
      simp only [syR, symE, List.append_assoc, List.cons_append, List.nil_append]
    rw [e5]
    rfl
theorem esym_eq (k : Nat) (E : Int) (S : List SegT) (Y : List SymT) (h : RightOk E S Y) (P : List Int) (a1 a2 a3 a4 a5 : Int) (f : List Int) (hf : f.length ≤ 300000000) (hk : 5000 < k) :
    elf_tables.q0.l k k (1, Y, ((Y.length : Nat) : Int), 0, E, S, Y, P, a1, a2, a3, a4, a5, f) = some (E, S, Y, P, a1, a2, a3, a4, a5, f ++ symL Y 1) := by
  have hY := h.y
  have A := (fold_loop Y (fun q (x : Nat × List Int) => x.1 ≤ 1 + 65 * q ∧ x.2.length = f.length + 16 * q) syE (fun x : Nat × List Int => (E, S, Y, P, a1, a2, a3, a4, a5, x.2)) (fun n q x => elf_tables.q0.l k n ((x.1 : Int), Y, ((Y.length : Nat) : Int), (q : Int), E, S, Y, P, a1, a2, a3, a4, a5, x.2)) (fun n x _ => ?_) (fun n q c x hc hq hI => ?_) Y k 0 (1, f) rfl (by omega) (by omega) ⟨by simp, by simp⟩).1
  · rw [syE_fold] at A
    exact A
  · simp only [elf_tables.q0.l, decide_eq_false (show ¬ (Y.length : Int) < ((Y.length : Nat) : Int) by omega), cond_false]
  · obtain ⟨i1, i2⟩ := hI
    have hsz := h.size c (mem_at hc)
    refine ⟨⟨by simp only [syE]; omega, by simp only [syE, List.length_append, symE_len, i2]; omega⟩, ?_⟩
    have w1 : elf_writer_word.f k x.2 ([(x.1 : Int), c.2.1, 0] : List Int) = some (x.2 ++ ([(x.1 : Int), c.2.1, 0] : List Int).flatMap (lay 4)) :=
      word_eq k _ _ (by show 3 < k; omega) (by show x.2.length + 4 * 3 ≤ _; simp only [Big]; omega)
    have l1 : (x.2 ++ ([(x.1 : Int), c.2.1, 0] : List Int).flatMap (lay 4)).length = x.2.length + 12 := by rw [List.length_append, flat_len]; rfl
    have r1 := room (n := (x.2 ++ ([(x.1 : Int), c.2.1, 0] : List Int).flatMap (lay 4) ++ [16, 0]).length) (by rw [List.length_append, l1]; simp only [List.length_cons, List.length_nil, Big]; omega)
    have w2 : elf_writer_half.f k (x.2 ++ ([(x.1 : Int), c.2.1, 0] : List Int).flatMap (lay 4) ++ [16, 0]) ([65521] : List Int) = some (x.2 ++ ([(x.1 : Int), c.2.1, 0] : List Int).flatMap (lay 4) ++ [16, 0] ++ ([65521] : List Int).flatMap (lay 2)) :=
      half_eq k _ _ (by show 1 < k; omega) (by rw [List.length_append, l1]; simp only [List.length_cons, List.length_nil, Big]; omega)
    have e1 : IntKind.wrap .u32 ((x.1 : Int) + IntKind.wrap .u32 (IntKind.wrap .u32 ((c.1.size : Nat) : Int) + 1)) = ((x.1 + (c.1.size + 1) : Nat) : Int) := by
      rw [wrap_u32v, wrap_u32v, wrap_u32v]; omega
    have e2 : ([65521] : List Int).flatMap (lay 2) = lay 2 65521 := rfl
    rw [e2] at w2
    simp only [elf_tables.q0.l, decide_eq_true (show (q : Int) < ((Y.length : Nat) : Int) by omega), decide_eq_true (show (0 : Int) ≤ (q : Int) by omega), Bool.and_self, cond_true, Int.toNat_natCast, getD_of hc, w1, Option.bind_some, r1, w2, e1, wrap_i64n q (by omega)]
    have e5 : x.2 ++ ([(x.1 : Int), c.2.1, 0] : List Int).flatMap (lay 4) ++ [16, 0] ++ lay 2 65521 = (syE x c).2 := by
      simp only [syE, symE, List.append_assoc, List.cons_append, List.nil_append]
    rw [e5]
    rfl
theorem enames_eq (k : Nat) (E : Int) (S : List SegT) (Y : List SymT) (h : RightOk E S Y) (P : List Int) (a1 a2 a3 a4 a5 : Int) (f : List Int) (hf : f.length ≤ 300000000) (hk : 5000 < k) :
    elf_tables.q1.l k k (Y, ((Y.length : Nat) : Int), 0, P, a1, a2, a3, a4, a5, f) = some (P, a1, a2, a3, a4, a5, f ++ namesL Y) := by
  have hY := h.y
  have A := (fold_loop Y (fun q (x : List Int) => x.length ≤ f.length + 65 * q) (fun x c => x ++ (strI c.1 ++ [0])) (fun x : List Int => (P, a1, a2, a3, a4, a5, x)) (fun n q x => elf_tables.q1.l k n (Y, ((Y.length : Nat) : Int), (q : Int), P, a1, a2, a3, a4, a5, x)) (fun n x _ => ?_) (fun n q c x hc hq hI => ?_) Y k 0 f rfl (by omega) (by omega) (by omega)).1
  · rw [foldl_app] at A
    exact A
  · simp only [elf_tables.q1.l, decide_eq_false (show ¬ (Y.length : Int) < ((Y.length : Nat) : Int) by omega), cond_false]
  · have hsz := h.size c (mem_at hc)
    have hI : List.length x ≤ f.length + 65 * q := hI
    refine ⟨by simp only [List.length_append, strI_len, List.length_cons, List.length_nil]; omega, ?_⟩
    have r1 := room (n := x.length + c.1.size) (by simp only [Big]; omega)
    have r2 := room (n := ((x ++ strI c.1) ++ [(0 : Int)]).length) (by simp only [List.length_append, strI_len, List.length_cons, List.length_nil, Big]; omega)
    simp only [elf_tables.q1.l, decide_eq_true (show (q : Int) < ((Y.length : Nat) : Int) by omega), decide_eq_true (show (0 : Int) ≤ (q : Int) by omega), Bool.and_self, cond_true, Int.toNat_natCast, getD_of hc, r1, r2, wrap_i64n q (by omega)]
    rw [List.append_assoc]

/-! ### The tables -/
def titI : List Int := [0, 46, 115, 121, 109, 116, 97, 98, 0, 46, 115, 116, 114, 116, 97, 98, 0, 46, 115, 104, 115, 116, 114, 116, 97, 98, 0]
def row1 (S : List SegT) (Y : List SymT) : List Int := [1, 2, 0, 0, (sy S : Int), ((16 * (Y.length + 1) : Nat) : Int), 2, 1, 4, 16]
def row2 (S : List SegT) (Y : List SymT) : List Int := [9, 3, 0, 0, (nm S Y : Int), ((1 + nt Y : Nat) : Int), 0, 0, 1, 0]
def row3 (S : List SegT) (Y : List SymT) : List Int := [17, 3, 0, 0, (ti S Y : Int), 27, 0, 0, 1, 0]
def tabA (S : List SegT) (Y : List SymT) (f : List Int) : List Int := f ++ List.replicate (sy S - stp S) 0 ++ (lay 16 0 ++ symL Y 1) ++ ([0] ++ namesL Y) ++ titI
def tabB (S : List SegT) (Y : List SymT) (f : List Int) : List Int := tabA S Y f ++ List.replicate (se S Y - (ti S Y + 27)) 0 ++ List.replicate 40 0 ++ (row1 S Y).flatMap (lay 4) ++ (row2 S Y).flatMap (lay 4) ++ (row3 S Y).flatMap (lay 4)
theorem tabA_len (S : List SegT) (Y : List SymT) (f : List Int) (hf : f.length = stp S) : (tabA S Y f).length = ti S Y + 27 := by
  have h1 := le_up4 (stp S)
  have h2 : titI.length = 27 := rfl
  unfold tabA ti nm sy
  simp only [List.length_append, List.length_replicate, lay_length, symL_len, namesL_len, List.length_cons, List.length_nil, hf, h2]
  omega
theorem tabB_len (S : List SegT) (Y : List SymT) (f : List Int) (hf : f.length = stp S) : (tabB S Y f).length = se S Y + 160 := by
  have h1 := le_up4 (ti S Y + 27)
  unfold tabB
  simp only [List.length_append, List.length_replicate, flat_len, tabA_len S Y f hf]
  have r1 : (row1 S Y).length = 10 := rfl
  have r2 : (row2 S Y).length = 10 := rfl
  have r3 : (row3 S Y).length = 10 := rfl
  rw [r1, r2, r3]
  unfold se; omega
theorem tables_eq (k : Nat) (E : Int) (S : List SegT) (Y : List SymT) (h : RightOk E S Y) (f : List Int) (hf : f.length = stp S) (hk : 5000 < k) (P : List Int) (sz : Int) :
    elf_tables.f k f ⟨E, S, Y⟩ ⟨P, (sy S : Int), (nm S Y : Int), (ti S Y : Int), (se S Y : Int), sz⟩ = some (tabB S Y f) := by
  obtain ⟨b1, b2, b3, b4, b5⟩ := plan_le h
  have hY := h.y
  have l1 := le_up4 (stp S)
  have l2 := le_up4 (ti S Y + 27)
  have p1 : elf_writer_pad.f f ((sy S : Nat) : Int) = some (f ++ List.replicate (sy S - f.length) 0) := pad_eq f (sy S) (by rw [hf]; exact l1) (by simp only [Big]; omega)
  rw [hf] at p1
  have n1 : (f ++ List.replicate (sy S - stp S) (0 : Int)).length = sy S := by
    simp only [List.length_append, List.length_replicate, hf]
    have : stp S ≤ sy S := l1
    omega
  have e1 : IntKind.wrap .u64 (((sy S : Nat) : Int) + 16) = ((sy S + 16 : Nat) : Int) := by rw [wrap_u64e _ (by omega) (by omega)]; omega
  have p2 : elf_writer_pad.f (f ++ List.replicate (sy S - stp S) 0) ((sy S + 16 : Nat) : Int) = some (f ++ List.replicate (sy S - stp S) 0 ++ lay 16 0) := by
    have := pad_eq (f ++ List.replicate (sy S - stp S) 0) (sy S + 16) (by rw [n1]; omega) (by simp only [Big]; omega)
    rw [n1, show sy S + 16 - sy S = 16 by omega] at this
    exact this
  have n2 : (f ++ List.replicate (sy S - stp S) (0 : Int) ++ lay 16 0).length = sy S + 16 := by rw [List.length_append, n1, lay_length]
  have p3 := esym_eq k E S Y h P ((sy S : Nat) : Int) ((nm S Y : Nat) : Int) ((ti S Y : Nat) : Int) ((se S Y : Nat) : Int) sz (f ++ List.replicate (sy S - stp S) 0 ++ lay 16 0) (by rw [n2]; omega) hk
  have n3 : (f ++ List.replicate (sy S - stp S) (0 : Int) ++ lay 16 0 ++ symL Y 1 ++ [0]).length = nm S Y + 1 := by
    rw [List.length_append, List.length_append, n2, symL_len]; unfold nm; simp; omega
  have r1 := room (n := (f ++ List.replicate (sy S - stp S) (0 : Int) ++ lay 16 0 ++ symL Y 1 ++ [0]).length) (by rw [n3]; simp only [Big]; omega)
  have p4 := enames_eq k E S Y h P ((sy S : Nat) : Int) ((nm S Y : Nat) : Int) ((ti S Y : Nat) : Int) ((se S Y : Nat) : Int) sz (f ++ List.replicate (sy S - stp S) 0 ++ lay 16 0 ++ symL Y 1 ++ [0]) (by rw [n3]; omega) hk
  have n4 : (f ++ List.replicate (sy S - stp S) (0 : Int) ++ lay 16 0 ++ symL Y 1 ++ [0] ++ namesL Y).length = ti S Y := by
    rw [List.length_append, n3, namesL_len]; rfl
  have ht : strI (⟨#[0, 46, 115, 121, 109, 116, 97, 98, 0, 46, 115, 116, 114, 116, 97, 98, 0, 46, 115, 104, 115, 116, 114, 116, 97, 98, 0]⟩ : ByteArray) = titI := by decide
  have hts : (⟨#[0, 46, 115, 121, 109, 116, 97, 98, 0, 46, 115, 116, 114, 116, 97, 98, 0, 46, 115, 104, 115, 116, 114, 116, 97, 98, 0]⟩ : ByteArray).size = 27 := rfl
  have r2 := room (n := (f ++ List.replicate (sy S - stp S) (0 : Int) ++ lay 16 0 ++ symL Y 1 ++ [0] ++ namesL Y).length + 27) (by rw [n4]; simp only [Big]; omega)
  have eA : f ++ List.replicate (sy S - stp S) (0 : Int) ++ lay 16 0 ++ symL Y 1 ++ [0] ++ namesL Y ++ titI = tabA S Y f := by unfold tabA; simp only [List.append_assoc]
  have nA := tabA_len S Y f hf
  have p5 : elf_writer_pad.f (tabA S Y f) ((se S Y : Nat) : Int) = some (tabA S Y f ++ List.replicate (se S Y - (ti S Y + 27)) 0) := by
    have := pad_eq (tabA S Y f) (se S Y) (by rw [nA]; exact l2) (by simp only [Big]; omega)
    rw [nA] at this; exact this
  have n5 : (tabA S Y f ++ List.replicate (se S Y - (ti S Y + 27)) (0 : Int)).length = se S Y := by
    rw [List.length_append, List.length_replicate, nA]
    have : ti S Y + 27 ≤ se S Y := l2
    omega
  have e2 : IntKind.wrap .u64 (((se S Y : Nat) : Int) + 40) = ((se S Y + 40 : Nat) : Int) := by rw [wrap_u64e _ (by omega) (by omega)]; omega
  have p6 : elf_writer_pad.f (tabA S Y f ++ List.replicate (se S Y - (ti S Y + 27)) 0) ((se S Y + 40 : Nat) : Int) = some (tabA S Y f ++ List.replicate (se S Y - (ti S Y + 27)) 0 ++ List.replicate 40 0) := by
    have := pad_eq (tabA S Y f ++ List.replicate (se S Y - (ti S Y + 27)) 0) (se S Y + 40) (by rw [n5]; omega) (by simp only [Big]; omega)
    rw [n5, show se S Y + 40 - se S Y = 40 by omega] at this
    exact this
  have n6 : (tabA S Y f ++ List.replicate (se S Y - (ti S Y + 27)) (0 : Int) ++ List.replicate 40 0).length = se S Y + 40 := by rw [List.length_append, n5, List.length_replicate]
  have hsn : sy S ≤ nm S Y := by unfold nm; omega
  have hnt : nm S Y ≤ ti S Y := by unfold ti; omega
  have u1 : IntKind.wrap .u32 ((sy S : Nat) : Int) = ((sy S : Nat) : Int) := by rw [wrap_u32v]; omega
  have u2 : IntKind.wrap .u32 (IntKind.wrap .u64 (((nm S Y : Nat) : Int) - ((sy S : Nat) : Int))) = ((16 * (Y.length + 1) : Nat) : Int) := by
    rw [wrap_u64e _ (by omega) (by omega), wrap_u32v]; unfold nm; omega
  have u3 : IntKind.wrap .u32 ((nm S Y : Nat) : Int) = ((nm S Y : Nat) : Int) := by rw [wrap_u32v]; omega
  have u4 : IntKind.wrap .u32 (IntKind.wrap .u64 (((ti S Y : Nat) : Int) - ((nm S Y : Nat) : Int))) = ((1 + nt Y : Nat) : Int) := by
    rw [wrap_u64e _ (by omega) (by omega), wrap_u32v]
    have : ti S Y = nm S Y + 1 + nt Y := rfl
    omega
  have u5 : IntKind.wrap .u32 ((ti S Y : Nat) : Int) = ((ti S Y : Nat) : Int) := by rw [wrap_u32v]; omega
  have p7 := word_eq k (tabA S Y f ++ List.replicate (se S Y - (ti S Y + 27)) 0 ++ List.replicate 40 0) (row1 S Y) (by show 10 < k; omega) (by rw [n6]; show _ + 4 * 10 ≤ _; simp only [Big]; omega)
  have n7 : (tabA S Y f ++ List.replicate (se S Y - (ti S Y + 27)) (0 : Int) ++ List.replicate 40 0 ++ (row1 S Y).flatMap (lay 4)).length = se S Y + 80 := by rw [List.length_append, n6, flat_len]; rfl
  have p8 := word_eq k (tabA S Y f ++ List.replicate (se S Y - (ti S Y + 27)) 0 ++ List.replicate 40 0 ++ (row1 S Y).flatMap (lay 4)) (row2 S Y) (by show 10 < k; omega) (by rw [n7]; show _ + 4 * 10 ≤ _; simp only [Big]; omega)
  have n8 : (tabA S Y f ++ List.replicate (se S Y - (ti S Y + 27)) (0 : Int) ++ List.replicate 40 0 ++ (row1 S Y).flatMap (lay 4) ++ (row2 S Y).flatMap (lay 4)).length = se S Y + 120 := by rw [List.length_append, n7, flat_len]; rfl
  have p9 := word_eq k (tabA S Y f ++ List.replicate (se S Y - (ti S Y + 27)) 0 ++ List.replicate 40 0 ++ (row1 S Y).flatMap (lay 4) ++ (row2 S Y).flatMap (lay 4)) (row3 S Y) (by show 10 < k; omega) (by rw [n8]; show _ + 4 * 10 ≤ _; simp only [Big]; omega)
  simp only [row1] at p7
  simp only [row1, row2] at p8
  simp only [row1, row2, row3] at p9
  unfold elf_tables.f
  simp only [p1, Option.bind_some, e1, p2, p3, r1, cond_true, p4, hts, r2, ht, eA, p5, e2, p6, u1, u2, u3, u4, u5, p7, p8, p9, Bool.and_self]
  rfl
end Go.Va

/-
  elf.Write and the document's answer: the same file, or the same error.
  Conditions: an image as any may be handed in.
-/
namespace Go.Va
def headF (E : Int) (S : List SegT) (sec cnt ttl : Int) : List Int := magic ++ ([2, 40] : List Int).flatMap (lay 2) ++ ([1, E, 52, sec, 83886080] : List Int).flatMap (lay 4) ++ ([52, 32, ((S.length : Nat) : Int), 40, cnt, ttl] : List Int).flatMap (lay 2)
theorem headF_len (E : Int) (S : List SegT) (sec cnt ttl : Int) : (headF E S sec cnt ttl).length = 52 := by
  unfold headF
  rw [List.length_append, List.length_append, List.length_append, flat_len, flat_len, flat_len]; rfl
def midF (E : Int) (S : List SegT) (sec cnt ttl : Int) : List Int := S.foldl bdG (S.foldl (phG (plc S).2) (0, headF E S sec cnt ttl)).2
def fileF (E : Int) (S : List SegT) (Y : List SymT) : List Int := if Y.length = 0 then midF E S 0 0 0 else tabB S Y (midF E S (se S Y : Int) 4 3)
def sizeF (S : List SegT) (Y : List SymT) : Nat := if Y.length = 0 then stp S else se S Y + 160
def writeF (E : Int) (S : List SegT) (Y : List SymT) : List Int × Int := if sizeF S Y > 33554432 then ([], 239) else (fileF E S Y, 0)

theorem rhalf_eq (k : Nat) (P N M L f : List Int) (b1 b2 b3 b4 E : Int) (S : List SegT) (Y : List SymT) (h6 : L.length = 6) (hL : ∀ v ∈ L, 0 ≤ v ∧ v < 18446744073709551616) (hf : f.length ≤ 1000) (hk : 5000 < k) :
    atlasref23_Write.q1.l k k (P, b1, b2, b3, b4, 0, E, S, Y, N, L, M, f) = some (P, b1, b2, b3, b4, E, S, Y, N, M, f ++ L.flatMap (lay 2)) := by
  have A := (fold_loop L (fun q (x : List Int) => x.length = f.length + 2 * q) (fun x c => x ++ lay 2 c) (fun x : List Int => (P, b1, b2, b3, b4, E, S, Y, N, M, x)) (fun n q x => atlasref23_Write.q1.l k n (P, b1, b2, b3, b4, (q : Int), E, S, Y, N, L, M, x)) (fun n x _ => ?_) (fun n q c x hc hq hI => ?_) L k 0 f rfl (by omega) (by omega) (by omega)).1
  · rw [foldl_app] at A
    exact A
  · simp only [atlasref23_Write.q1.l, decide_eq_false (show ¬ (L.length : Int) < 6 by omega), cond_false]
  · have hI : List.length x = f.length + 2 * q := hI
    have hcl := hL c (mem_at hc)
    refine ⟨by rw [List.length_append, lay_length]; omega, ?_⟩
    have w := rlay_eq k 2 x c (by omega) (by omega) hcl.1 hcl.2 (by simp only [Big]; omega)
    have w : atlasref23_File_lay.f k x 2 c = some (x ++ lay 2 c) := w
    simp only [atlasref23_Write.q1.l, decide_eq_true (show (q : Int) < 6 by omega), decide_eq_true (show (q : Int) < ((L.length : Nat) : Int) by omega), decide_eq_true (show (0 : Int) ≤ (q : Int) by omega), Bool.and_self, cond_true, Int.toNat_natCast, decide_eq_true hq, getD_of hc, w, Option.bind_some, wrap_i64n q (by omega)]

theorem write_eq (x : T25) (h : ImgOk x) (k : Nat) (hk : reachBytes < k) (hr : rightB x = true) : elf_Write.f k x = some (writeF x.f0_Entry x.f1_Segments x.f2_Symbols) := by
  have hreach := reach_v
  have ho := right_ok h hr
  have h1 := (right_eq x h k hk).1
  obtain ⟨E, S, Y⟩ := x
  have ho : RightOk E S Y := ho
  have h16 := ho.s16
  have hS : ∀ c ∈ S, SegOk c := fun c hc => h.seg hc
  obtain ⟨b1, b2, b3, b4, b5⟩ := plan_le ho
  have hl := laid_eq k E S Y ho (by omega)
  have u1 : IntKind.wrap .u32 ((S.length : Nat) : Int) = ((S.length : Nat) : Int) := by rw [wrap_u32v]; omega
  have hm : ([127, 69, 76, 70, 1, 1, 1, 0, 0, 0, 0, 0, 0, 0, 0, 0] : List Int) = magic := rfl
  have hml : magic.length = 16 := rfl
  have r1 := room (n := magic.length) (by rw [hml]; simp only [Big]; omega)
  have w1 := half_eq k magic [2, 40] (by show 2 < k; omega) (by rw [hml]; show 16 + 2 * 2 ≤ _; simp only [Big]; omega)
  have n1 : (magic ++ ([2, 40] : List Int).flatMap (lay 2)).length = 20 := by rw [List.length_append, flat_len]; rfl
  have w2 := fun sec : Int => word_eq k (magic ++ ([2, 40] : List Int).flatMap (lay 2)) [1, E, 52, sec, 83886080] (by show 5 < k; omega) (by rw [n1]; show 20 + 4 * 5 ≤ _; simp only [Big]; omega)
  have n2 : ∀ sec : Int, (magic ++ ([2, 40] : List Int).flatMap (lay 2) ++ ([1, E, 52, sec, 83886080] : List Int).flatMap (lay 4)).length = 40 := fun sec => by rw [List.length_append, n1, flat_len]; rfl
  have w3 := fun sec cnt ttl : Int => half_eq k (magic ++ ([2, 40] : List Int).flatMap (lay 2) ++ ([1, E, 52, sec, 83886080] : List Int).flatMap (lay 4)) [52, 32, ((S.length : Nat) : Int), 40, cnt, ttl] (by show 6 < k; omega) (by rw [n2]; show 40 + 2 * 6 ≤ _; simp only [Big]; omega)
  have e3 : ∀ sec cnt ttl : Int, (magic ++ ([2, 40] : List Int).flatMap (lay 2) ++ ([1, E, 52, sec, 83886080] : List Int).flatMap (lay 4)) ++ ([52, 32, ((S.length : Nat) : Int), 40, cnt, ttl] : List Int).flatMap (lay 2) = headF E S sec cnt ttl := fun _ _ _ => rfl
  simp only [e3] at w3
  unfold elf_Write.f
  simp only [h1, Option.bind_some, hr, Bool.not_true, cond_false, hl]
  by_cases hY : Y.length = 0
  · have hw : writeF E S Y = if stp S > 33554432 then ([], 239) else (midF E S 0 0 0, 0) := by unfold writeF sizeF fileF; rw [if_pos hY, if_pos hY]
    rw [hw, if_pos hY]
    by_cases hbig : stp S > 33554432
    · rw [if_pos hbig]
      simp only [decide_eq_true (show ((stp S : Nat) : Int) > 33554432 by omega), cond_true]
    · have hp := (ph_eq k E S Y ho hS 0 0 0 0 ((stp S : Nat) : Int) (headF E S 0 0 0) (headF_len _ _ _ _ _) (by omega))
      have hb := (body_eq k E S Y ho 0 0 0 0 ((stp S : Nat) : Int) _ hp.2.2 (by omega))
      rw [if_neg hbig]
      simp only [decide_eq_false (show ¬ ((stp S : Nat) : Int) > 33554432 by omega), cond_false, List.nil_append, hm, r1, cond_true, w1, Option.bind_some, u1]
      have hz : IntKind.wrap .u32 0 = 0 := rfl
      have hg : decide ((0 : Int) > 0) = false := rfl
      simp only [hz, w2, Option.bind_some, hg, cond_false, w3, hp.1, hb.1]
      rfl
  · have hw : writeF E S Y = if se S Y + 160 > 33554432 then ([], 239) else (tabB S Y (midF E S (se S Y : Int) 4 3), 0) := by unfold writeF sizeF fileF; rw [if_neg hY, if_neg hY]
    rw [hw, if_neg hY]
    by_cases hbig : se S Y + 160 > 33554432
    · rw [if_pos hbig]
      simp only [decide_eq_true (show ((se S Y + 160 : Nat) : Int) > 33554432 by omega), cond_true]
    · have hp := (ph_eq k E S Y ho hS ((sy S : Nat) : Int) ((nm S Y : Nat) : Int) ((ti S Y : Nat) : Int) ((se S Y : Nat) : Int) ((se S Y + 160 : Nat) : Int) (headF E S (se S Y : Int) 4 3) (headF_len _ _ _ _ _) (by omega))
      have hb := (body_eq k E S Y ho ((sy S : Nat) : Int) ((nm S Y : Nat) : Int) ((ti S Y : Nat) : Int) ((se S Y : Nat) : Int) ((se S Y + 160 : Nat) : Int) _ hp.2.2 (by omega))
      have ht := tables_eq k E S Y ho _ hb.2.2 (by omega) (plc S).2 ((se S Y + 160 : Nat) : Int)
      have hpos : 0 < se S Y := by have := le_up4 (ti S Y + 27); unfold se; omega
      have u2 : IntKind.wrap .u32 ((se S Y : Nat) : Int) = ((se S Y : Nat) : Int) := by rw [wrap_u32v]; omega
      have hg : decide (((se S Y : Nat) : Int) > 0) = true := decide_eq_true (by omega)
      rw [if_neg hbig]
      simp only [decide_eq_false (show ¬ ((se S Y + 160 : Nat) : Int) > 33554432 by omega), cond_false, List.nil_append, hm, r1, cond_true, w1, Option.bind_some, u1, u2, w2, hg, w3, hp.1, hb.1, ht]
      rfl

theorem rwrite_eq (x : T25) (h : ImgOk x) (k : Nat) (hk : reachBytes < k) (hr : rightB x = true) : atlasref23_Write.f k x = some (writeF x.f0_Entry x.f1_Segments x.f2_Symbols) := by
  have hreach := reach_v
  have ho := right_ok h hr
  have h1 := (right_eq x h k hk).2
  obtain ⟨E, S, Y⟩ := x
  have ho : RightOk E S Y := ho
  have hE : 0 ≤ E ∧ E < 4294967296 := h.e0
  have h16 := ho.s16
  have hYl := ho.y
  have hS : ∀ c ∈ S, SegOk c := fun c hc => h.seg hc
  obtain ⟨b1, b2, b3, b4, b5⟩ := plan_le ho
  have hp0 := (laid_places k E S Y ho.s16 (by omega) ho.data).2
  have e0 : IntKind.wrap .u64 (IntKind.wrap .i64 (52 + IntKind.wrap .i64 (32 * ((S.length : Nat) : Int)))) = ((52 + 32 * S.length : Nat) : Int) := by
    rw [wrap_i64e (32 * ((S.length : Nat) : Int)) (by omega) (by omega), wrap_i64e (52 + 32 * ((S.length : Nat) : Int)) (by omega) (by omega), wrap_u64e _ (by omega) (by omega)]
    omega
  have hpl : atlasref23_places.f k ⟨E, S, Y⟩ = some ((plc S).2, ((stp S : Nat) : Int)) := by
    unfold atlasref23_places.f
    simp only [e0, hp0, Option.bind_some]
    rfl
  have hl16 := rlay_eq k 16 [] 0 (by omega) (by omega) (by omega) (by omega) (by simp [Big])
  have hl16 : atlasref23_File_lay.f k [] 16 0 = some (lay 16 0) := hl16
  have hsym := rsym_eq k E S Y ho h.yu (plc S).2 ((stp S : Nat) : Int) (by omega)
  have hm : ([127, 69, 76, 70, 1, 1, 1, 0, 0, 0, 0, 0, 0, 0, 0, 0] : List Int) = magic := rfl
  have hml : magic.length = 16 := rfl
  have w1 := rlay_eq k 2 magic 2 (by omega) (by omega) (by omega) (by omega) (by rw [hml]; simp only [Big]; omega)
  have w1 : atlasref23_File_lay.f k magic 2 2 = some (magic ++ lay 2 2) := w1
  have w1' := rlay_eq k 2 (magic ++ lay 2 2) 40 (by omega) (by omega) (by omega) (by omega) (by rw [List.length_append, hml, lay_length]; simp only [Big]; omega)
  have e1 : magic ++ lay 2 2 ++ lay 2 40 = magic ++ ([2, 40] : List Int).flatMap (lay 2) := by simp only [List.flatMap_cons, List.flatMap_nil, List.append_nil, List.append_assoc]
  rw [e1] at w1'
  have w1' : atlasref23_File_lay.f k (magic ++ lay 2 2) 2 40 = some (magic ++ ([2, 40] : List Int).flatMap (lay 2)) := w1'
  have n1 : (magic ++ ([2, 40] : List Int).flatMap (lay 2)).length = 20 := by rw [List.length_append, flat_len]; rfl
  have hEu : IntKind.wrap .u64 E = E := wrap_u64e _ hE.1 (by omega)
  have w2 : ∀ sec : Int, 0 ≤ sec ∧ sec < 18446744073709551616 → atlasref23_File_words.f k (magic ++ ([2, 40] : List Int).flatMap (lay 2)) [1, E, 52, sec, 83886080] = some (magic ++ ([2, 40] : List Int).flatMap (lay 2) ++ ([1, E, 52, sec, 83886080] : List Int).flatMap (lay 4)) := fun sec hs =>
    rwords_eq k _ _ (by show 5 < k; omega) (by omega) (fun v hv => by
      simp only [List.mem_cons, List.not_mem_nil, or_false] at hv
      rcases hv with rfl | rfl | rfl | rfl | rfl <;> omega) (by rw [n1]; show 20 + 4 * 5 ≤ _; simp only [Big]; omega)
  have n2 : ∀ sec : Int, (magic ++ ([2, 40] : List Int).flatMap (lay 2) ++ ([1, E, 52, sec, 83886080] : List Int).flatMap (lay 4)).length = 40 := fun sec => by rw [List.length_append, n1, flat_len]; rfl
  have e3 : ∀ sec cnt ttl : Int, (magic ++ ([2, 40] : List Int).flatMap (lay 2) ++ ([1, E, 52, sec, 83886080] : List Int).flatMap (lay 4)) ++ ([52, 32, ((S.length : Nat) : Int), 40, cnt, ttl] : List Int).flatMap (lay 2) = headF E S sec cnt ttl := fun _ _ _ => rfl
  have hSu : IntKind.wrap .u64 ((S.length : Nat) : Int) = ((S.length : Nat) : Int) := wrap_u64e _ (by omega) (by omega)
  have w3 : ∀ (sec cnt ttl b1 b2 b3 b4 : Int) (N M : List Int), (0 ≤ cnt ∧ cnt < 5) → (0 ≤ ttl ∧ ttl < 5) → atlasref23_Write.q1.l k k ((plc S).2, b1, b2, b3, b4, 0, E, S, Y, N, [52, 32, ((S.length : Nat) : Int), 40, cnt, ttl], M, magic ++ ([2, 40] : List Int).flatMap (lay 2) ++ ([1, E, 52, sec, 83886080] : List Int).flatMap (lay 4)) = some ((plc S).2, b1, b2, b3, b4, E, S, Y, N, M, headF E S sec cnt ttl) := by
    intro sec cnt ttl b1 b2 b3 b4 N M hc ht
    exact rhalf_eq k (plc S).2 N M [52, 32, ((S.length : Nat) : Int), 40, cnt, ttl] _ b1 b2 b3 b4 E S Y rfl (fun v hv => by
      simp only [List.mem_cons, List.not_mem_nil, or_false] at hv
      rcases hv with rfl | rfl | rfl | rfl | rfl | rfl <;> omega) (by rw [n2]; omega) (by omega)
  -- the numbers
  have hsy : IntKind.wrap .u64 (IntKind.wrap .u64 (Int.tdiv (IntKind.wrap .u64 (((stp S : Nat) : Int) + 3)) 4) * 4) = ((sy S : Nat) : Int) := rup4_eq (stp S) (by omega)
  have hslen : (lay 16 0 ++ symL Y 1).length = 16 * (Y.length + 1) := by rw [List.length_append, lay_length, symL_len]; omega
  have hnlen : (([0] : List Int) ++ namesL Y).length = 1 + nt Y := by rw [List.length_append, namesL_len]; rfl
  have hntb := nt_le Y ho.size
  have us : IntKind.wrap .u64 (((16 * (Y.length + 1) : Nat)) : Int) = ((16 * (Y.length + 1) : Nat) : Int) := wrap_u64e _ (by omega) (by omega)
  have un : IntKind.wrap .u64 (((1 + nt Y : Nat)) : Int) = ((1 + nt Y : Nat) : Int) := wrap_u64e _ (by omega) (by omega)
  have hnm : IntKind.wrap .u64 (((sy S : Nat) : Int) + ((16 * (Y.length + 1) : Nat) : Int)) = ((nm S Y : Nat) : Int) := by rw [wrap_u64e _ (by omega) (by omega)]; unfold nm; omega
  have hti : IntKind.wrap .u64 (((nm S Y : Nat) : Int) + ((1 + nt Y : Nat) : Int)) = ((ti S Y : Nat) : Int) := by rw [wrap_u64e _ (by omega) (by omega)]; unfold ti; omega
  have hti2 : IntKind.wrap .u64 (((ti S Y : Nat) : Int) + 27) = ((ti S Y + 27 : Nat) : Int) := by rw [wrap_u64e _ (by omega) (by omega)]; omega
  have hse : IntKind.wrap .u64 (IntKind.wrap .u64 (Int.tdiv (IntKind.wrap .u64 (((ti S Y + 27 : Nat) : Int) + 3)) 4) * 4) = ((se S Y : Nat) : Int) := rup4_eq (ti S Y + 27) (by omega)
  have t0 : IntKind.wrap .u64 (IntKind.wrap .u64 (Int.tdiv 0 4) * 3) = 0 := rfl
  have t4 : IntKind.wrap .u64 (IntKind.wrap .u64 (Int.tdiv 4 4) * 3) = 3 := rfl
  have g0 : decide ((0 : Int) > 0) = false := rfl
  have g4 : decide ((4 : Int) > 0) = true := rfl
  unfold atlasref23_Write.f
  simp only [h1, Option.bind_some, hr, Bool.not_true, cond_false, hpl, hl16, hsym]
  by_cases hY : Y.length = 0
  · have hw : writeF E S Y = if stp S > 33554432 then ([], 239) else (midF E S 0 0 0, 0) := by unfold writeF sizeF fileF; rw [if_pos hY, if_pos hY]
    have hc : (((Y.length : Nat) : Int) == 0) = true := by rw [hY]; rfl
    have hp := (ph_eq k E S Y ho hS 0 0 0 0 0 (headF E S 0 0 0) (headF_len _ _ _ _ _) (by omega))
    have hb := (body_eq k E S Y ho 0 0 0 0 0 _ hp.2.2 (by omega))
    rw [hw]
    simp only [hc, cond_true, hm, w1, w1', Option.bind_some, hEu, w2 0 (by omega), hSu, t0, w3 _ 0 0 _ _ _ _ _ _ (by omega) (by omega), hp.2.1, hb.2.1, g0, cond_false]
    have hlen : (S.foldl bdG (S.foldl (phG (plc S).2) (0, headF E S 0 0 0)).2).length = stp S := hb.2.2
    rw [hlen]
    by_cases hbig : stp S > 33554432
    · rw [if_pos hbig, decide_eq_true (show ((stp S : Nat) : Int) > 33554432 by omega)]; rfl
    · rw [if_neg hbig, decide_eq_false (show ¬ ((stp S : Nat) : Int) > 33554432 by omega)]; rfl
  · have hw : writeF E S Y = if se S Y + 160 > 33554432 then ([], 239) else (tabB S Y (midF E S (se S Y : Int) 4 3), 0) := by unfold writeF sizeF fileF; rw [if_neg hY, if_neg hY]
    have hc : (((Y.length : Nat) : Int) == 0) = false := by rw [beq_eq_false_iff_ne]; omega
    have hp := (ph_eq k E S Y ho hS 0 0 0 0 0 (headF E S (se S Y : Int) 4 3) (headF_len _ _ _ _ _) (by omega))
    have hb := (body_eq k E S Y ho 0 0 0 0 0 _ hp.2.2 (by omega))
    rw [hw]
    have hlen : (midF E S (se S Y : Int) 4 3).length = stp S := hb.2.2
    have hmid : S.foldl bdG (S.foldl (phG (plc S).2) (0, headF E S (se S Y : Int) 4 3)).2 = midF E S (se S Y : Int) 4 3 := rfl
    generalize hF : midF E S (se S Y : Int) 4 3 = F at *
    have l1 := le_up4 (stp S)
    have l2 := le_up4 (ti S Y + 27)
    have p1 : atlasref23_File_up.f k F 4 = some (F ++ List.replicate (sy S - stp S) 0) := by
      have := rup_4 k F (by omega) (by rw [hlen]; simp only [Big]; omega)
      rw [hlen] at this; exact this
    have n3 : (F ++ List.replicate (sy S - stp S) (0 : Int)).length = sy S := by
      rw [List.length_append, List.length_replicate, hlen]
      have : stp S ≤ sy S := l1
      omega
    have r1 := room (n := (F ++ List.replicate (sy S - stp S) (0 : Int) ++ (lay 16 0 ++ symL Y 1)).length) (by rw [List.length_append, n3, hslen]; simp only [Big]; omega)
    have r2 := room (n := (F ++ List.replicate (sy S - stp S) (0 : Int) ++ (lay 16 0 ++ symL Y 1) ++ ([0] ++ namesL Y)).length) (by rw [List.length_append, List.length_append, n3, hslen, hnlen]; simp only [Big]; omega)
    have r3 := room (n := (F ++ List.replicate (sy S - stp S) (0 : Int) ++ (lay 16 0 ++ symL Y 1) ++ ([0] ++ namesL Y)).length + 27) (by rw [List.length_append, List.length_append, n3, hslen, hnlen]; simp only [Big]; omega)
    have ht : strI (⟨#[0, 46, 115, 121, 109, 116, 97, 98, 0, 46, 115, 116, 114, 116, 97, 98, 0, 46, 115, 104, 115, 116, 114, 116, 97, 98, 0]⟩ : ByteArray) = titI := by decide
    have hts : (⟨#[0, 46, 115, 121, 109, 116, 97, 98, 0, 46, 115, 116, 114, 116, 97, 98, 0, 46, 115, 104, 115, 116, 114, 116, 97, 98, 0]⟩ : ByteArray).size = 27 := rfl
    have eA : F ++ List.replicate (sy S - stp S) (0 : Int) ++ (lay 16 0 ++ symL Y 1) ++ ([0] ++ namesL Y) ++ titI = tabA S Y F := rfl
    have nA := tabA_len S Y F hlen
    have p2 : atlasref23_File_up.f k (tabA S Y F) 4 = some (tabA S Y F ++ List.replicate (se S Y - (ti S Y + 27)) 0) := by
      have := rup_4 k (tabA S Y F) (by omega) (by rw [nA]; simp only [Big]; omega)
      rw [nA] at this; exact this
    have n5 : (tabA S Y F ++ List.replicate (se S Y - (ti S Y + 27)) (0 : Int)).length = se S Y := by
      rw [List.length_append, List.length_replicate, nA]
      have : ti S Y + 27 ≤ se S Y := l2
      omega
    have p3 : atlasref23_File_words.f k (tabA S Y F ++ List.replicate (se S Y - (ti S Y + 27)) 0) [0, 0, 0, 0, 0, 0, 0, 0, 0, 0] = some (tabA S Y F ++ List.replicate (se S Y - (ti S Y + 27)) 0 ++ List.replicate 40 0) :=
      rwords_eq k _ _ (by show 10 < k; omega) (by omega) (fun v hv => by
        simp only [List.mem_cons, List.not_mem_nil, or_false, or_self] at hv
        subst hv; omega) (by rw [n5]; show _ + 4 * 10 ≤ _; simp only [Big]; omega)
    have n6 : (tabA S Y F ++ List.replicate (se S Y - (ti S Y + 27)) (0 : Int) ++ List.replicate 40 0).length = se S Y + 40 := by rw [List.length_append, n5, List.length_replicate]
    have p7 := rwords_eq k (tabA S Y F ++ List.replicate (se S Y - (ti S Y + 27)) 0 ++ List.replicate 40 0) (row1 S Y) (by show 10 < k; omega) (by omega) (fun v hv => by
      simp only [row1, List.mem_cons, List.not_mem_nil, or_false] at hv
      rcases hv with rfl | rfl | rfl | rfl | rfl | rfl | rfl | rfl | rfl | rfl <;> omega) (by rw [n6]; show _ + 4 * 10 ≤ _; simp only [Big]; omega)
    have n7 : (tabA S Y F ++ List.replicate (se S Y - (ti S Y + 27)) (0 : Int) ++ List.replicate 40 0 ++ (row1 S Y).flatMap (lay 4)).length = se S Y + 80 := by rw [List.length_append, n6, flat_len]; rfl
    have p8 := rwords_eq k (tabA S Y F ++ List.replicate (se S Y - (ti S Y + 27)) 0 ++ List.replicate 40 0 ++ (row1 S Y).flatMap (lay 4)) (row2 S Y) (by show 10 < k; omega) (by omega) (fun v hv => by
      simp only [row2, List.mem_cons, List.not_mem_nil, or_false] at hv
      rcases hv with rfl | rfl | rfl | rfl | rfl | rfl | rfl | rfl | rfl | rfl <;> omega) (by rw [n7]; show _ + 4 * 10 ≤ _; simp only [Big]; omega)
    have n8 : (tabA S Y F ++ List.replicate (se S Y - (ti S Y + 27)) (0 : Int) ++ List.replicate 40 0 ++ (row1 S Y).flatMap (lay 4) ++ (row2 S Y).flatMap (lay 4)).length = se S Y + 120 := by rw [List.length_append, n7, flat_len]; rfl
    have p9 := rwords_eq k (tabA S Y F ++ List.replicate (se S Y - (ti S Y + 27)) 0 ++ List.replicate 40 0 ++ (row1 S Y).flatMap (lay 4) ++ (row2 S Y).flatMap (lay 4)) (row3 S Y) (by show 10 < k; omega) (by omega) (fun v hv => by
      simp only [row3, List.mem_cons, List.not_mem_nil, or_false] at hv
      rcases hv with rfl | rfl | rfl | rfl | rfl | rfl | rfl | rfl | rfl | rfl <;> omega) (by rw [n8]; show _ + 4 * 10 ≤ _; simp only [Big]; omega)
    have eB : tabA S Y F ++ List.replicate (se S Y - (ti S Y + 27)) (0 : Int) ++ List.replicate 40 0 ++ (row1 S Y).flatMap (lay 4) ++ (row2 S Y).flatMap (lay 4) ++ (row3 S Y).flatMap (lay 4) = tabB S Y F := rfl
    rw [eB] at p9
    have nB := tabB_len S Y F hlen
    simp only [row1] at p7
    simp only [row1, row2] at p8
    simp only [row1, row2, row3] at p9
    simp only [hc, cond_false, hm, w1, w1', Option.bind_some, hEu, hsy, hslen, us, hnm, hnlen, un, hti, hti2, hse, w2 ((se S Y : Nat) : Int) (by omega), hSu, t4, w3 _ 4 3 _ _ _ _ _ _ (by omega) (by omega), hp.2.1, hb.2.1, hmid, g4, cond_true, p1, r1, r2, hts, r3, ht, eA, p2, p3, p7, p8, p9, nB]
    by_cases hbig : se S Y + 160 > 33554432
    · rw [if_pos hbig, decide_eq_true (show ((se S Y + 160 : Nat) : Int) > 33554432 by omega)]; rfl
    · rw [if_neg hbig, decide_eq_false (show ¬ ((se S Y + 160 : Nat) : Int) > 33554432 by omega)]; rfl
end Go.Va
