/-
  Numbers and zeros laid into a file, by the program and by the document's answer; the places of the segments.
  Conditions: none.
-/
import Derived.Test.YtmphkmoakamepaaPureElfRight
set_option linter.unusedVariables false
set_option linter.unusedSimpArgs false
set_option autoImplicit false
set_option maxRecDepth 100000
namespace Go.Va
theorem wrap_u8v (x : Int) : IntKind.wrap .u8 x = x % 256 := by
  have w : IntKind.wrap .u8 x = if (false && decide (x % 256 ≥ 128)) = true then x % 256 - 256 else x % 256 := by rfl
  rw [w]; simp
theorem wrap_u32v (x : Int) : IntKind.wrap .u32 x = x % 4294967296 := by
  have w : IntKind.wrap .u32 x = if (false && decide (x % 4294967296 ≥ 2147483648)) = true then x % 4294967296 - 4294967296 else x % 4294967296 := by rfl
  rw [w]; simp
theorem shr8 (x : Int) : shrI .u32 x 8 = x / 256 := by
  have e : shrI .u32 x 8 = x.fdiv 256 := rfl
  rw [e, Int.fdiv_eq_ediv_of_nonneg _ (by decide)]
theorem shr16 (x : Int) : shrI .u32 x 16 = x / 65536 := by
  have e : shrI .u32 x 16 = x.fdiv 65536 := rfl
  rw [e, Int.fdiv_eq_ediv_of_nonneg _ (by decide)]
theorem shr24 (x : Int) : shrI .u32 x 24 = x / 16777216 := by
  have e : shrI .u32 x 24 = x.fdiv 16777216 := rfl
  rw [e, Int.fdiv_eq_ediv_of_nonneg _ (by decide)]

/-! ### Loops that fold -/
theorem fold_loop {α σ ρ : Type} (S : List α) (I : Nat → σ → Prop) (g : σ → α → σ) (e : σ → ρ) (l : Nat → Nat → σ → Option ρ)
    (he : ∀ n x, I S.length x → l (n + 1) S.length x = some (e x))
    (hs : ∀ n q c x, S[q]? = some c → q < S.length → I q x → I (q + 1) (g x c) ∧ l (n + 1) q x = l n (q + 1) (g x c)) :
    ∀ (cs : List α) (n q : Nat) (x : σ), S.drop q = cs → q ≤ S.length → cs.length < n → I q x → l n q x = some (e (cs.foldl g x)) ∧ I S.length (cs.foldl g x) := by
  intro cs
  induction cs with
  | nil =>
    intro n q x hq hle hn hI
    obtain ⟨n, rfl⟩ : ∃ m, n = m + 1 := ⟨n - 1, by simp at hn; omega⟩
    have h1 := List.drop_eq_nil_iff.1 hq
    have e1 : q = S.length := by omega
    subst e1
    exact ⟨he n x hI, hI⟩
  | cons c cs ih =>
    intro n q x hq hle hn hI
    obtain ⟨n, rfl⟩ : ∃ m, n = m + 1 := ⟨n - 1, by simp at hn; omega⟩
    obtain ⟨h1, h2, h3⟩ := drop_cons hq
    obtain ⟨h4, h5⟩ := hs n q c x h1 h2 hI
    rw [h5, List.foldl_cons]
    exact ih n (q + 1) (g x c) h3 (by omega) (by simp at hn; omega) h4
theorem foldl_app {α β : Type} (f : α → List β) (l : List α) : ∀ x : List β, l.foldl (fun x c => x ++ f c) x = x ++ l.flatMap f := by
  induction l with
  | nil => intro x; simp
  | cons c l ih => intro x; rw [List.foldl_cons, ih, List.flatMap_cons, List.append_assoc]

/-! ### Numbers -/
/-- The number's lowest bytes, the lowest first. -/
def lay : Nat → Int → List Int
  | 0, _ => []
  | n + 1, v => v % 256 :: lay n (v / 256)
theorem lay_length (n : Nat) (v : Int) : (lay n v).length = n := by
  induction n generalizing v with
  | zero => rfl
  | succ n ih => simp [lay, ih]
theorem lay4_mod (v : Int) : lay 4 (v % 4294967296) = lay 4 v := by
  simp only [lay]
  refine congr (congrArg _ (by omega)) (congr (congrArg _ (by omega)) (congr (congrArg _ (by omega)) (congr (congrArg _ (by omega)) rfl)))
theorem lay_byte (n : Nat) (v : Int) : ∀ b ∈ lay n v, 0 ≤ b ∧ b < 256 := by
  induction n generalizing v with
  | zero => intro b hb; cases hb
  | succ n ih =>
    intro b hb
    simp only [lay, List.mem_cons] at hb
    rcases hb with rfl | hb
    · omega
    · exact ih _ b hb
theorem flat_len (n : Nat) (l : List Int) : (l.flatMap (lay n)).length = n * l.length := by
  induction l with
  | nil => simp
  | cons v l ih => rw [List.flatMap_cons, List.length_append, lay_length, ih, List.length_cons, Nat.mul_add]; omega
/-- A file that is not too long to be one row. -/
abbrev Big : Nat := 70368744177664
theorem room {n : Nat} (h : n ≤ Big) : (decide (n ≤ maxLen) && decide (n * 1 ≤ 140737488355328)) = true := by
  have hm := maxLen_v
  simp only [Big] at h
  simp; omega
theorem room2 {n : Nat} (h : n ≤ Big) : decide (n ≤ maxLen) = true ∧ decide (n * 1 ≤ 140737488355328) = true := by
  have hm := maxLen_v
  simp only [Big] at h
  simp; omega
theorem half_eq (k : Nat) (f l : List Int) (hl : l.length < k) (hb : f.length + 2 * l.length ≤ Big) : elf_writer_half.f k f l = some (f ++ l.flatMap (lay 2)) := by
  have h := (fold_loop l (fun q x => x.length + 2 * (l.length - q) ≤ Big) (fun x c => x ++ lay 2 c) id (fun n q x => elf_writer_half.q0.l k n (l, ((l.length : Nat) : Int), (q : Int), x)) (fun n x _ => ?_) (fun n q c x hc hq hI => ?_) l k 0 f rfl (by omega) hl (by omega)).1
  · have h : elf_writer_half.q0.l k k (l, ((l.length : Nat) : Int), 0, f) = some (l.foldl (fun x c => x ++ lay 2 c) f) := h
    unfold elf_writer_half.f
    rw [h, foldl_app]; rfl
  · simp only [elf_writer_half.q0.l, decide_eq_false (show ¬ (l.length : Int) < ((l.length : Nat) : Int) by omega), cond_false]; rfl
  · have hbl : l.length ≤ Big := by omega
    simp only [Big] at hbl
    have e1 : ([IntKind.wrap .u8 c, IntKind.wrap .u8 (shrI .u32 c 8)] : List Int) = lay 2 c := by rw [wrap_u8v, wrap_u8v, shr8]; rfl
    have hlen : (x ++ lay 2 c).length = x.length + 2 := by rw [List.length_append, lay_length]
    refine ⟨by rw [hlen]; omega, ?_⟩
    have hr := room (n := (x ++ lay 2 c).length) (by rw [hlen]; omega)
    simp only [elf_writer_half.q0.l, decide_eq_true (show (q : Int) < ((l.length : Nat) : Int) by omega), decide_eq_true (show (0 : Int) ≤ (q : Int) by omega), Bool.and_self, cond_true, Int.toNat_natCast, getD_of hc, e1, hr, wrap_i64n q (by omega)]
theorem word_eq (k : Nat) (f l : List Int) (hl : l.length < k) (hb : f.length + 4 * l.length ≤ Big) : elf_writer_word.f k f l = some (f ++ l.flatMap (lay 4)) := by
  have h := (fold_loop l (fun q x => x.length + 4 * (l.length - q) ≤ Big) (fun x c => x ++ lay 4 c) id (fun n q x => elf_writer_word.q0.l k n (l, ((l.length : Nat) : Int), (q : Int), x)) (fun n x _ => ?_) (fun n q c x hc hq hI => ?_) l k 0 f rfl (by omega) hl (by omega)).1
  · have h : elf_writer_word.q0.l k k (l, ((l.length : Nat) : Int), 0, f) = some (l.foldl (fun x c => x ++ lay 4 c) f) := h
    unfold elf_writer_word.f
    rw [h, foldl_app]; rfl
  · simp only [elf_writer_word.q0.l, decide_eq_false (show ¬ (l.length : Int) < ((l.length : Nat) : Int) by omega), cond_false]; rfl
  · have hbl : l.length ≤ Big := by omega
    simp only [Big] at hbl
    have e1 : ([IntKind.wrap .u8 c, IntKind.wrap .u8 (shrI .u32 c 8), IntKind.wrap .u8 (shrI .u32 c 16), IntKind.wrap .u8 (shrI .u32 c 24)] : List Int) = lay 4 c := by
      rw [wrap_u8v, wrap_u8v, wrap_u8v, wrap_u8v, shr8, shr16, shr24]
      have a1 : c / 65536 = c / 256 / 256 := by omega
      have a2 : c / 16777216 = c / 256 / 256 / 256 := by omega
      rw [a1, a2]; rfl
    have hlen : (x ++ lay 4 c).length = x.length + 4 := by rw [List.length_append, lay_length]
    refine ⟨by rw [hlen]; omega, ?_⟩
    have hr := room (n := (x ++ lay 4 c).length) (by rw [hlen]; omega)
    simp only [elf_writer_word.q0.l, decide_eq_true (show (q : Int) < ((l.length : Nat) : Int) by omega), decide_eq_true (show (0 : Int) ≤ (q : Int) by omega), Bool.and_self, cond_true, Int.toNat_natCast, getD_of hc, e1, hr, wrap_i64n q (by omega)]
theorem pad_eq (f : List Int) (p : Nat) (h1 : f.length ≤ p) (h2 : p ≤ Big) : elf_writer_pad.f f (p : Int) = some (f ++ List.replicate (p - f.length) 0) := by
  have hp := h2
  simp only [Big] at hp
  unfold elf_writer_pad.f
  have e1 : IntKind.wrap .u64 ((p : Int) - IntKind.wrap .u64 ((f.length : Nat) : Int)) = ((p - f.length : Nat) : Int) := by
    rw [wrap_u64e ((f.length : Nat) : Int) (by omega) (by omega), wrap_u64e _ (by omega) (by omega)]; omega
  have hr := room (n := f.length + (p - f.length)) (by omega)
  simp only [e1, Int.toNat_natCast, decide_eq_true (show (0 : Int) ≤ ((p - f.length : Nat) : Int) by omega), Bool.and_self, Bool.true_and, hr, cond_true]
theorem rlay_loop (k : Nat) (m : Nat) (hm : m < 1000) : ∀ (d i n : Nat) (v : Int) (f : List Int), i + d = m → d < n → 0 ≤ v → v < 18446744073709551616 → f.length + d ≤ Big →
    atlasref23_File_lay.q0.l k n ((m : Int), v, (i : Int), f) = some (f ++ lay d v) := by
  intro d
  induction d with
  | zero =>
    intro i n v f hi hn h0 h1 hb
    obtain ⟨n, rfl⟩ : ∃ j, n = j + 1 := ⟨n - 1, by omega⟩
    simp only [atlasref23_File_lay.q0.l, decide_eq_false (show ¬ (i : Int) < (m : Int) by omega), cond_false, lay, List.append_nil]
  | succ d ih =>
    intro i n v f hi hn h0 h1 hb
    obtain ⟨n, rfl⟩ : ∃ j, n = j + 1 := ⟨n - 1, by omega⟩
    have hlen : (f ++ [v % 256]).length = f.length + 1 := by simp
    have hr := room (n := (f ++ [v % 256]).length) (by rw [hlen]; omega)
    have e1 : IntKind.wrap .u64 (Int.tdiv v 256) = v / 256 := by rw [Int.tdiv_eq_ediv_of_nonneg h0, wrap_u64e _ (by omega) (by omega)]
    simp only [atlasref23_File_lay.q0.l, decide_eq_true (show (i : Int) < (m : Int) by omega), cond_true, wrap_u8v, hr, e1, wrap_i64n i (by omega)]
    rw [ih (i + 1) n (v / 256) (f ++ [v % 256]) (by omega) (by omega) (by omega) (by omega) (by rw [hlen]; omega)]
    simp only [lay, List.append_assoc, List.singleton_append]
theorem rlay_eq (k : Nat) (m : Nat) (f : List Int) (v : Int) (hm : m < 1000) (hk : m < k) (h0 : 0 ≤ v) (h1 : v < 18446744073709551616) (hb : f.length + m ≤ Big) : atlasref23_File_lay.f k f (m : Int) v = some (f ++ lay m v) := by
  have h := rlay_loop k m hm m 0 k v f (by omega) hk h0 h1 hb
  have h : atlasref23_File_lay.q0.l k k ((m : Int), v, 0, f) = some (f ++ lay m v) := h
  unfold atlasref23_File_lay.f
  rw [h]; rfl
theorem rwords_eq (k : Nat) (f l : List Int) (hl : l.length < k) (hk : 4 < k) (hv : ∀ c ∈ l, 0 ≤ c ∧ c < 18446744073709551616) (hb : f.length + 4 * l.length ≤ Big) : atlasref23_File_words.f k f l = some (f ++ l.flatMap (lay 4)) := by
  have h := (fold_loop l (fun q x => x.length + 4 * (l.length - q) ≤ Big) (fun x c => x ++ lay 4 c) id (fun n q x => atlasref23_File_words.q0.l k n (l, (q : Int), x)) (fun n x _ => ?_) (fun n q c x hc hq hI => ?_) l k 0 f rfl (by omega) hl (by omega)).1
  · have h : atlasref23_File_words.q0.l k k (l, 0, f) = some (l.foldl (fun x c => x ++ lay 4 c) f) := h
    unfold atlasref23_File_words.f
    rw [h, foldl_app]; rfl
  · simp only [atlasref23_File_words.q0.l, decide_eq_false (show ¬ (l.length : Int) < ((l.length : Nat) : Int) by omega), cond_false]; rfl
  · have hbl : l.length ≤ Big := by omega
    simp only [Big] at hbl
    have hlen : (x ++ lay 4 c).length = x.length + 4 := by rw [List.length_append, lay_length]
    refine ⟨by rw [hlen]; omega, ?_⟩
    have hcv := hv c (mem_at hc)
    have hlay : atlasref23_File_lay.f k x 4 c = some (x ++ lay 4 c) := rlay_eq k 4 x c (by omega) hk hcv.1 hcv.2 (by omega)
    simp only [atlasref23_File_words.q0.l, decide_eq_true (show (q : Int) < ((l.length : Nat) : Int) by omega), decide_eq_true (show (0 : Int) ≤ (q : Int) by omega), Bool.and_self, cond_true, Int.toNat_natCast, getD_of hc, hlay, Option.bind_some, wrap_i64n q (by omega)]
/-- How many zeros are wanted to a multiple. -/
def upz (len n : Nat) : Nat := (n - len % n) % n
theorem rup_loop (k m : Nat) (hm : 0 < m) (hz : ∀ a, upz a m = 0 ↔ a % m = 0) (hs : ∀ a, a % m ≠ 0 → upz a m = upz (a + 1) m + 1) : ∀ (d n : Nat) (f : List Int), upz f.length m = d → d < n → f.length + d ≤ Big →
    atlasref23_File_up.q0.l k n ((m : Int), f) = some (f ++ List.replicate d 0) := by
  intro d
  induction d with
  | zero =>
    intro n f hd hn hb
    obtain ⟨n, rfl⟩ : ∃ j, n = j + 1 := ⟨n - 1, by omega⟩
    have h0 := (hz f.length).1 hd
    have e1 : (Int.tmod ((f.length : Nat) : Int) (m : Int) != 0) = false := by
      rw [Int.tmod_eq_emod_of_nonneg (by omega), ← Int.natCast_emod, h0]; rfl
    simp only [atlasref23_File_up.q0.l, decide_eq_false (show ¬ (m : Int) = 0 by omega), cond_false, e1, List.replicate_zero, List.append_nil]
  | succ d ih =>
    intro n f hd hn hb
    obtain ⟨n, rfl⟩ : ∃ j, n = j + 1 := ⟨n - 1, by omega⟩
    have h0 : f.length % m ≠ 0 := fun h => by have := (hz f.length).2 h; omega
    have h1 := hs f.length h0
    have e1 : (Int.tmod ((f.length : Nat) : Int) (m : Int) != 0) = true := by
      rw [Int.tmod_eq_emod_of_nonneg (by omega), ← Int.natCast_emod, bne_iff_ne]; omega
    have hlen : (f ++ [(0 : Int)]).length = f.length + 1 := by simp
    have hr := room (n := (f ++ [(0 : Int)]).length) (by rw [hlen]; omega)
    simp only [atlasref23_File_up.q0.l, decide_eq_false (show ¬ (m : Int) = 0 by omega), cond_false, e1, cond_true, hr]
    rw [ih n (f ++ [0]) (by rw [hlen]; omega) (by omega) (by rw [hlen]; omega), List.append_assoc]
    rfl
theorem upz_4096 (a : Nat) : upz a 4096 = (a + 4095) / 4096 * 4096 - a := by unfold upz; omega
theorem upz_4 (a : Nat) : upz a 4 = (a + 3) / 4 * 4 - a := by unfold upz; omega
theorem rup_4096 (k : Nat) (f : List Int) (hk : 4096 < k) (hb : f.length + 4096 ≤ Big) : atlasref23_File_up.f k f 4096 = some (f ++ List.replicate ((f.length + 4095) / 4096 * 4096 - f.length) 0) := by
  have h := rup_loop k 4096 (by omega) (fun a => by unfold upz; omega) (fun a h => by unfold upz; omega) _ k f (upz_4096 _) (by omega) (by omega)
  have h : atlasref23_File_up.q0.l k k (4096, f) = _ := h
  unfold atlasref23_File_up.f
  rw [h]; rfl
theorem rup_4 (k : Nat) (f : List Int) (hk : 4 < k) (hb : f.length + 4 ≤ Big) : atlasref23_File_up.f k f 4 = some (f ++ List.replicate ((f.length + 3) / 4 * 4 - f.length) 0) := by
  have h := rup_loop k 4 (by omega) (fun a => by unfold upz; omega) (fun a h => by unfold upz; omega) _ k f (upz_4 _) (by omega) (by omega)
  have h : atlasref23_File_up.q0.l k k (4, f) = _ := h
  unfold atlasref23_File_up.f
  rw [h]; rfl

/-! ### Places -/
def up4k (a : Nat) : Nat := (a + 4095) / 4096 * 4096
theorem up4k_le (a : Nat) : up4k a ≤ a + 4095 := by unfold up4k; omega
theorem le_up4k (a : Nat) : a ≤ up4k a := by unfold up4k; omega
def plN (a n : Nat) : Nat := if 0 < n then up4k a + n else a
theorem plN_le (a n : Nat) : plN a n ≤ a + 4095 + n := by
  have := up4k_le a
  unfold plN; split <;> omega
def plG (x : Nat × List Int) (c : SegT) : Nat × List Int := (plN x.1 (List.length c.2.2.2.1), x.2 ++ [(up4k x.1 : Int)])
def plc (S : List SegT) : Nat × List Int := S.foldl plG (52 + 32 * S.length, [])
theorem up4k_eq (a : Nat) (h : a < 4611686018427387904) : elf_up.f (a : Int) 4096 = some ((up4k a : Nat) : Int) := by
  rw [up_eq _ _ (by omega) (by omega) (by omega)]
  unfold up4k
  congr 1
  omega
theorem rup4k_eq (a : Nat) (h : a < 4611686018427387904) : IntKind.wrap .u64 (IntKind.wrap .u64 (Int.tdiv (IntKind.wrap .u64 (IntKind.wrap .u64 ((a : Int) + 4096) - 1)) 4096) * 4096) = ((up4k a : Nat) : Int) := by
  have e := up4k_eq a h
  unfold elf_up.f at e
  have e0 : decide ((4096 : Int) = 0) = false := rfl
  rw [e0, cond_false, Option.some.injEq] at e
  exact e
/-- How far the places may come. -/
def PlI (q : Nat) (x : Nat × List Int) : Prop := x.1 ≤ 1000 + q * 16781312 ∧ x.2.length = q
theorem plc_inv (S : List SegT) (hn : S.length ≤ 16) (hd : ∀ c ∈ S, List.length c.2.2.2.1 ≤ 16777216) : PlI S.length (plc S) := by
  have key : ∀ (cs : List SegT) (q : Nat) (x : Nat × List Int), (∀ c ∈ cs, List.length c.2.2.2.1 ≤ 16777216) → PlI q x → PlI (q + cs.length) (cs.foldl plG x) := by
    intro cs
    induction cs with
    | nil => intro q x _ h; exact h
    | cons c cs ih =>
      intro q x hc h
      have h1 := hc c List.mem_cons_self
      have := ih (q + 1) (plG x c) (fun c' hc' => hc c' (List.mem_cons_of_mem _ hc')) ⟨by
        have h2 := h.1
        have h3 := plN_le x.1 (List.length c.2.2.2.1)
        show plN x.1 (List.length c.2.2.2.1) ≤ _
        omega, by simp [plG, h.2]⟩
      rw [List.foldl_cons, List.length_cons, show q + (cs.length + 1) = q + 1 + cs.length by omega]
      exact this
  have := key S 0 (52 + 32 * S.length, []) hd ⟨by simp only; omega, rfl⟩
  rw [Nat.zero_add] at this
  exact this
theorem laid_places (k : Nat) (E : Int) (S : List SegT) (Y : List SymT) (hn : S.length ≤ 16) (hk : S.length < k) (hd : ∀ c ∈ S, List.length c.2.2.2.1 ≤ 16777216) :
    elf_laid.q0.l k k (((52 + 32 * S.length : Nat) : Int), S, ((S.length : Nat) : Int), 0, E, S, Y, 0, 0, 0, 0, 0, 0, 0, 0, 0, 0, [], []) = some (((plc S).1 : Int), E, S, Y, 0, 0, 0, 0, 0, 0, 0, 0, 0, 0, [], (plc S).2) ∧
    atlasref23_places.q0.l k k (((52 + 32 * S.length : Nat) : Int), 0, E, S, Y, []) = some (((plc S).1 : Int), (plc S).2) := by
  have hm := maxLen_v
  have c1 : ∀ q : Nat, decide ((0 : Int) ≤ (q : Int)) = true := fun q => decide_eq_true (by omega)
  have c0 : ∀ q : Nat, q < S.length → decide ((q : Int) < ((S.length : Nat) : Int)) = true := fun q h => decide_eq_true (by omega)
  have inv : ∀ q x c, PlI q x → S[q]? = some c → PlI (q + 1) (plG x c) := fun q x c h hc => by
    have h1 := hd c (mem_at hc)
    refine ⟨?_, by simp [plG, h.2]⟩
    have h2 := h.1
    have h3 := plN_le x.1 (List.length c.2.2.2.1)
    show plN x.1 (List.length c.2.2.2.1) ≤ _
    omega
  have roomp : ∀ q (x : Nat × List Int), q < S.length → PlI q x → (decide ((x.2 ++ [((up4k x.1 : Nat) : Int)]).length ≤ maxLen) && decide ((x.2 ++ [((up4k x.1 : Nat) : Int)]).length * 8 ≤ 140737488355328)) = true := fun q x hq h => by
    have h1 : (x.2 ++ [((up4k x.1 : Nat) : Int)]).length = q + 1 := by simp [h.2]
    rw [h1]; simp; omega
  refine ⟨?_, ?_⟩
  · have h := (fold_loop S PlI plG (fun x : Nat × List Int => ((x.1 : Int), E, S, Y, (0 : Int), (0 : Int), (0 : Int), (0 : Int), (0 : Int), (0 : Int), (0 : Int), (0 : Int), (0 : Int), (0 : Int), ([] : List Int), x.2)) (fun n q x => elf_laid.q0.l k n (((x.1 : Nat) : Int), S, ((S.length : Nat) : Int), (q : Int), E, S, Y, 0, 0, 0, 0, 0, 0, 0, 0, 0, 0, [], x.2)) (fun n x _ => ?_) (fun n q c x hc hq hI => ?_) S k 0 (52 + 32 * S.length, []) rfl (by omega) hk ⟨by simp only; omega, rfl⟩).1
    · exact h
    · simp only [elf_laid.q0.l, decide_eq_false (show ¬ (S.length : Int) < ((S.length : Nat) : Int) by omega), cond_false]
    · refine ⟨inv q x c hI hc, ?_⟩
      have hx := hI.1
      have hdc := hd c (mem_at hc)
      have h1 : up4k x.1 ≤ 1000 + 17 * 16781312 := by have := up4k_le x.1; omega
      have w1 : IntKind.wrap .u64 (((up4k x.1 : Nat) : Int) + IntKind.wrap .u64 (((List.length c.2.2.2.1) : Nat) : Int)) = ((up4k x.1 + List.length c.2.2.2.1 : Nat) : Int) := by
        rw [wrap_u64e ((List.length c.2.2.2.1 : Nat) : Int) (by omega) (by omega), wrap_u64e _ (by omega) (by omega)]; omega
      simp only [elf_laid.q0.l, c0 q hq, c1, Bool.and_self, cond_true, up4k_eq x.1 (by omega), Option.bind_some, roomp q x hq hI, Int.toNat_natCast, getD_of hc, w1, wrap_i64n q (by omega), plG, plN]
      by_cases hp : 0 < List.length c.2.2.2.1
      · simp only [decide_eq_true (show (((List.length c.2.2.2.1) : Nat) : Int) > 0 by omega), cond_true, if_pos hp]
      · simp only [decide_eq_false (show ¬ (((List.length c.2.2.2.1) : Nat) : Int) > 0 by omega), cond_false, if_neg hp]
  · have h := (fold_loop S PlI plG (fun x : Nat × List Int => ((x.1 : Int), x.2)) (fun n q x => atlasref23_places.q0.l k n (((x.1 : Nat) : Int), (q : Int), E, S, Y, x.2)) (fun n x _ => ?_) (fun n q c x hc hq hI => ?_) S k 0 (52 + 32 * S.length, []) rfl (by omega) hk ⟨by simp only; omega, rfl⟩).1
    · exact h
    · simp only [atlasref23_places.q0.l, decide_eq_false (show ¬ (S.length : Int) < ((S.length : Nat) : Int) by omega), cond_false]
    · refine ⟨inv q x c hI hc, ?_⟩
      have hx := hI.1
      have hdc := hd c (mem_at hc)
      have h1 : up4k x.1 ≤ 1000 + 17 * 16781312 := by have := up4k_le x.1; omega
      have w0 : IntKind.wrap .u64 (((List.length c.2.2.2.1) : Nat) : Int) = ((List.length c.2.2.2.1 : Nat) : Int) := wrap_u64e _ (by omega) (by omega)
      have w1 : IntKind.wrap .u64 (((up4k x.1 : Nat) : Int) + (((List.length c.2.2.2.1) : Nat) : Int)) = ((up4k x.1 + List.length c.2.2.2.1 : Nat) : Int) := by
        rw [wrap_u64e _ (by omega) (by omega)]; omega
      simp only [atlasref23_places.q0.l, c0 q hq, c1, Bool.and_self, cond_true, rup4k_eq x.1 (by omega), roomp q x hq hI, Int.toNat_natCast, getD_of hc, w0, w1, wrap_i64n q (by omega), plG, plN]
      by_cases hp : 0 < List.length c.2.2.2.1
      · simp only [decide_eq_true (show (((List.length c.2.2.2.1) : Nat) : Int) > 0 by omega), cond_true, if_pos hp]
      · simp only [decide_eq_false (show ¬ (((List.length c.2.2.2.1) : Nat) : Int) > 0 by omega), cond_false, if_neg hp]
end Go.Va
