/-
  What stands where in a list of bytes; names hold no zero.
  Conditions: none.
-/
import Derived.Test.YtmphkmoakamepaaPureMb
import Derived.Test.YtmphkmoakamepaaPureMc
import Derived.Test.YtmphkmoakamepaaPureMa
import Derived.Test.YtmphkmoakamepaaPureElfReadE

set_option linter.unusedVariables false
set_option linter.unusedSimpArgs false
set_option autoImplicit false
set_option maxRecDepth 100000
namespace Go.Va
def At (b : List Int) (a : Nat) (l : List Int) : Prop := ∃ t, b.drop a = l ++ t
theorem At.left {b : List Int} {a : Nat} {l m : List Int} (h : At b a (l ++ m)) : At b a l := by
  obtain ⟨t, h⟩ := h
  exact ⟨m ++ t, by rw [h, List.append_assoc]⟩
theorem At.right {b : List Int} {a : Nat} {l m : List Int} (h : At b a (l ++ m)) : At b (a + l.length) m := by
  obtain ⟨t, h⟩ := h
  refine ⟨t, ?_⟩
  rw [← List.drop_drop, h, List.append_assoc, List.drop_left]
theorem At.mono {f b : List Int} {a : Nat} {l : List Int} (hp : f <+: b) (h : At f a l) : At b a l := by
  obtain ⟨u, rfl⟩ := hp
  obtain ⟨t, h⟩ := h
  by_cases ha : a ≤ f.length
  · exact ⟨t ++ u, by rw [List.drop_append_of_le_length ha, h, List.append_assoc]⟩
  · have h0 : f.drop a = [] := List.drop_eq_nil_of_le (by omega)
    rw [h0] at h
    have : l = [] := (List.append_eq_nil_iff.1 h.symm).1
    subst this
    exact ⟨_, rfl⟩
theorem At.mid (p l q : List Int) : At (p ++ l ++ q) p.length l := ⟨q, by rw [List.append_assoc, List.drop_left]⟩
theorem At.getD {b : List Int} {a : Nat} {l : List Int} (h : At b a l) {i : Nat} (hi : i < l.length) : bt b (a + i) = l.getD i 0 := by
  obtain ⟨t, h⟩ := h
  unfold bt
  have e : b.getD (a + i) 0 = (b.drop a).getD i 0 := by simp [List.getD_eq_getElem?_getD, List.getElem?_drop]
  rw [e, h, List.getD_eq_getElem?_getD, List.getElem?_append_left hi, ← List.getD_eq_getElem?_getD]
theorem At.len {b : List Int} {a : Nat} {l : List Int} (h : At b a l) (hl : 0 < l.length) : a + l.length ≤ b.length := by
  obtain ⟨t, h⟩ := h
  have := congrArg List.length h
  rw [List.length_drop, List.length_append] at this
  omega
theorem At.take {b : List Int} {a : Nat} {l : List Int} (h : At b a l) : (b.drop a).take l.length = l := by
  obtain ⟨t, h⟩ := h
  rw [h, List.take_left]
theorem word_at {b : List Int} {a : Nat} {v : Int} (h : At b a (lay 4 v)) (h0 : 0 ≤ v) (h1 : v < 4294967296) : word b (a : Int) = v := by
  have e0 := h.getD (i := 0) (by rw [lay_length]; decide)
  have e1 := h.getD (i := 1) (by rw [lay_length]; decide)
  have e2 := h.getD (i := 2) (by rw [lay_length]; decide)
  have e3 := h.getD (i := 3) (by rw [lay_length]; decide)
  have g0 : (lay 4 v).getD 0 0 = v % 256 := rfl
  have g1 : (lay 4 v).getD 1 0 = v / 256 % 256 := rfl
  have g2 : (lay 4 v).getD 2 0 = v / 256 / 256 % 256 := rfl
  have g3 : (lay 4 v).getD 3 0 = v / 256 / 256 / 256 % 256 := rfl
  unfold word
  rw [Int.toNat_natCast]
  simp only [num, e0, e1, e2, e3, g0, g1, g2, g3]
  have p1 : (256 : Int) ^ 1 = 256 := rfl
  have p2 : (256 : Int) ^ 2 = 65536 := rfl
  have p3 : (256 : Int) ^ 3 = 16777216 := rfl
  have p0 : (256 : Int) ^ 0 = 1 := rfl
  rw [p3, p2, p1, p0]
  omega
theorem half_at {b : List Int} {a : Nat} {v : Int} (h : At b a (lay 2 v)) (h0 : 0 ≤ v) (h1 : v < 65536) : half b (a : Int) = v := by
  have e0 := h.getD (i := 0) (by rw [lay_length]; decide)
  have e1 := h.getD (i := 1) (by rw [lay_length]; decide)
  have g0 : (lay 2 v).getD 0 0 = v % 256 := rfl
  have g1 : (lay 2 v).getD 1 0 = v / 256 % 256 := rfl
  unfold half
  rw [Int.toNat_natCast]
  simp only [num, e0, e1, g0, g1]
  have p1 : (256 : Int) ^ 1 = 256 := rfl
  have p0 : (256 : Int) ^ 0 = 1 := rfl
  rw [p1, p0]
  omega
theorem flat_at {n : Nat} {b : List Int} : ∀ (L : List Int) (a i : Nat), At b a (L.flatMap (lay n)) → i < L.length → At b (a + n * i) (lay n (L.getD i 0))
  | [], a, i, _, hi => by simp at hi
  | v :: L, a, i, h, hi => by
    rw [List.flatMap_cons] at h
    cases i with
    | zero => exact h.left
    | succ i =>
      have h2 := h.right
      rw [lay_length] at h2
      have := flat_at L (a + n) i h2 (by simpa using hi)
      rw [Nat.mul_succ, show a + (n * i + n) = a + n + n * i by omega]
      exact this
theorem words_at {b : List Int} {L : List Int} {a : Nat} (h : At b a (L.flatMap (lay 4))) {i : Nat} (hi : i < L.length) (h0 : 0 ≤ L.getD i 0) (h1 : L.getD i 0 < 4294967296) : word b ((a + 4 * i : Nat) : Int) = L.getD i 0 := word_at (flat_at L a i h hi) h0 h1
theorem halfs_at {b : List Int} {L : List Int} {a : Nat} (h : At b a (L.flatMap (lay 2))) {i : Nat} (hi : i < L.length) (h0 : 0 ≤ L.getD i 0) (h1 : L.getD i 0 < 65536) : half b ((a + 2 * i : Nat) : Int) = L.getD i 0 := half_at (flat_at L a i h hi) h0 h1
theorem wordv {b : List Int} {L : List Int} {a : Nat} (i : Nat) (v : Int) (h : At b a (L.flatMap (lay 4))) (hg : L[i]? = some v) (h0 : 0 ≤ v) (h1 : v < 4294967296) : word b ((a + 4 * i : Nat) : Int) = v := by
  have hi := (List.getElem?_eq_some_iff.1 hg).1
  have e := getD_of hg 0
  have := words_at h hi (by rw [e]; exact h0) (by rw [e]; exact h1)
  rwa [e] at this
theorem halfv {b : List Int} {L : List Int} {a : Nat} (i : Nat) (v : Int) (h : At b a (L.flatMap (lay 2))) (hg : L[i]? = some v) (h0 : 0 ≤ v) (h1 : v < 65536) : half b ((a + 2 * i : Nat) : Int) = v := by
  have hi := (List.getElem?_eq_some_iff.1 hg).1
  have e := getD_of hg 0
  have := halfs_at h hi (by rw [e]; exact h0) (by rw [e]; exact h1)
  rwa [e] at this
/-! ### No zero in a name -/
theorem dec4_forms (b0 b1 b2 b3 : Nat) (c1 c2 c3 : Bool) : (dec4 b0 b1 b2 b3 c1 c2 c3 = (b0, 1) ∧ b0 < 128) ∨ (128 ≤ b0 ∧ ((∃ c, dec4 b0 b1 b2 b3 c1 c2 c3 = (c, 1)) ∨ (∃ c, dec4 b0 b1 b2 b3 c1 c2 c3 = (c, 2) ∧ c1 = true) ∨ (∃ c, dec4 b0 b1 b2 b3 c1 c2 c3 = (c, 3) ∧ c1 = true ∧ c2 = true) ∨ (∃ c, dec4 b0 b1 b2 b3 c1 c2 c3 = (c, 4) ∧ c1 = true ∧ c2 = true ∧ c3 = true))) := by
  unfold dec4
  by_cases h : b0 < 0x80
  · rw [if_pos h]; exact .inl ⟨rfl, h⟩
  · rw [if_neg h]
    refine .inr ⟨by omega, ?_⟩
    by_cases h2 : (b0 / 32 == 6 && c1) = true
    · rw [if_pos h2]
      simp only [Bool.and_eq_true] at h2
      simp only
      split
      · exact .inr (.inl ⟨_, rfl, h2.2⟩)
      · exact .inl ⟨_, rfl⟩
    · rw [if_neg h2]
      by_cases h3 : (b0 / 16 == 14 && c1 && c2) = true
      · rw [if_pos h3]
        simp only [Bool.and_eq_true] at h3
        simp only
        split
        · exact .inr (.inr (.inl ⟨_, rfl, h3.1.2, h3.2⟩))
        · exact .inl ⟨_, rfl⟩
      · rw [if_neg h3]
        by_cases h4 : (b0 / 8 == 30 && c1 && c2 && c3) = true
        · rw [if_pos h4]
          simp only [Bool.and_eq_true] at h4
          simp only
          split
          · exact .inr (.inr (.inr ⟨_, rfl, h4.1.1.2, h4.1.2, h4.2⟩))
          · exact .inl ⟨_, rfl⟩
        · rw [if_neg h4]; exact .inl ⟨_, rfl⟩
theorem dec_nz (s : ByteArray) (p : Nat) (h0 : (Utf8.decode s p).1 ≠ 0) : ∀ i, i < (Utf8.decode s p).2 → (s.get! (p + i)).toNat ≠ 0 := by
  have tail : ∀ j, (decide (p + j < s.size) && (s.get! (p + j)).toNat / 64 == 2) = true → (s.get! (p + j)).toNat ≠ 0 := fun j h => by
    simp only [Bool.and_eq_true, beq_iff_eq] at h
    omega
  rw [decode_dec4] at h0 ⊢
  have z : p + 0 = p := rfl
  intro i hi
  rcases dec4_forms (s.get! (p + 0)).toNat (s.get! (p + 1)).toNat (s.get! (p + 2)).toNat (s.get! (p + 3)).toNat
    (p + 1 < s.size && (s.get! (p + 1)).toNat / 64 == 2) (p + 2 < s.size && (s.get! (p + 2)).toNat / 64 == 2) (p + 3 < s.size && (s.get! (p + 3)).toNat / 64 == 2) with ⟨h, _⟩ | ⟨hb, h | h | h | h⟩
  · rw [h] at h0 hi
    have : i = 0 := by simpa using hi
    subst this
    exact h0
  · obtain ⟨c, h⟩ := h
    rw [h] at hi
    have : i = 0 := by simpa using hi
    subst this
    omega
  · obtain ⟨c, h, t1⟩ := h
    rw [h] at hi
    have hi : i < 2 := hi
    rcases i with _ | _ | i
    · omega
    · exact tail 1 t1
    · omega
  · obtain ⟨c, h, t1, t2⟩ := h
    rw [h] at hi
    have hi : i < 3 := hi
    rcases i with _ | _ | _ | i
    · omega
    · exact tail 1 t1
    · exact tail 2 t2
    · omega
  · obtain ⟨c, h, t1, t2, t3⟩ := h
    rw [h] at hi
    have hi : i < 4 := hi
    rcases i with _ | _ | _ | _ | i
    · omega
    · exact tail 1 t1
    · exact tail 2 t2
    · exact tail 3 t3
    · omega
theorem name_nz_loop (k : Nat) (s : ByteArray) (hn : s.size ≤ 140737488351232) : ∀ (m p n : Nat) (r : Int), words_Name.q0.l k m ((n : Int), s, p) = some (.inr r) → p ≤ s.size → n ≤ p → ∀ i, p ≤ i → i < s.size → (s.get! i).toNat ≠ 0 := by
  intro m
  induction m with
  | zero => intro p n r h; cases h
  | succ m ih =>
    intro p n r h hp hnp i hi1 hi2
    simp only [words_Name.q0.l, letter_eq, Option.bind_some] at h
    have hz : p < s.size := by omega
    obtain ⟨_, _, _, w1, w2⟩ := rune_eq s hn p hz
    have e1 : IntKind.wrap .i64 ((n : Int) + 1) = ((n + 1 : Nat) : Int) := wrap_i64n n (by omega)
    rw [decide_eq_true hz, cond_true, e1] at h
    have hrec : words_Name.q0.l k m (((n + 1 : Nat) : Int), s, p + (Utf8.decode s p).2) = some (.inr r) ∧ (Utf8.decode s p).1 ≠ 0 := by
      cases hl : ltr (((Utf8.decode s p).1 : Nat) : Int) with
      | true =>
        rw [hl] at h
        refine ⟨h, fun e0 => ?_⟩
        rw [e0] at hl
        exact absurd hl (by decide)
      | false =>
        rw [hl] at h
        cases h0 : ((n : Int) == 0) with
        | true => rw [h0] at h; cases h
        | false =>
          rw [h0] at h
          cases h1 : ((((Utf8.decode s p).1 : Nat) : Int) != 95) with
          | false =>
            rw [h1] at h
            refine ⟨h, fun e0 => ?_⟩
            rw [e0] at h1
            exact absurd h1 (by decide)
          | true =>
            rw [h1] at h
            cases h2 : decide ((((Utf8.decode s p).1 : Nat) : Int) < 48) with
            | true => rw [h2] at h; cases h
            | false =>
              rw [h2] at h
              cases h3 : decide ((((Utf8.decode s p).1 : Nat) : Int) > 57) with
              | true => rw [h3] at h; cases h
              | false =>
                rw [h3] at h
                refine ⟨h, fun e0 => ?_⟩
                rw [e0] at h2
                exact absurd h2 (by decide)
    by_cases hin : i < p + (Utf8.decode s p).2
    · have := dec_nz s p hrec.2 (i - p) (by omega)
      rwa [show p + (i - p) = i by omega] at this
    · exact ih _ _ _ hrec.1 w2 (by omega) i (by omega) hi2
theorem name_nz {s : ByteArray} (hn : s.size ≤ 140737488351232) (h : nameB s = true) : ∀ x ∈ strI s, x ≠ 0 := by
  have h1 := (name_eq s hn (s.size + 1) (by omega)).1
  unfold words_Name.f at h1
  have hall : ∀ i, i < s.size → (s.get! i).toNat ≠ 0 := by
    cases hl : words_Name.q0.l (s.size + 1) (s.size + 1) (0, s, 0) with
    | none => rw [hl] at h1; cases h1
    | some r =>
      rw [hl, Option.bind_some, h] at h1
      cases r with
      | inl b =>
        exfalso
        obtain ⟨hs, hne⟩ := name_inl hn hl
        subst hs
        cases h1
      | inr r => exact fun i hi => name_nz_loop (s.size + 1) s hn (s.size + 1) 0 0 r hl (by omega) (by omega) i (by omega) hi
  intro x hx
  unfold strI at hx
  obtain ⟨u, hu, rfl⟩ := List.mem_map.1 hx
  obtain ⟨i, hi, he⟩ := List.getElem_of_mem hu
  have hi' : i < s.data.size := hi
  have h2 := hall i hi'
  have e1 : s.get! i = u := by
    show s.data[i]! = u
    rw [getElem!_pos s.data i hi']
    exact (Array.getElem_toList (xs := s.data) hi').symm.trans he
  rw [e1] at h2
  omega
theorem bytesO_strI (s : ByteArray) : bytesO (strI s) = s := by
  apply ByteArray.ext
  apply Array.toList_inj.1
  unfold bytesO strI
  simp only [List.map_map]
  have : ((fun x : Int => UInt8.ofNat x.toNat) ∘ fun b : UInt8 => (b.toNat : Int)) = id := by
    funext b
    simp
  rw [this, List.map_id]
theorem z0_name {l : List Int} (h : ∀ x ∈ l, x ≠ 0) (m : List Int) : z0 (l ++ (0 :: m)) = true ∧ zw (l ++ (0 :: m)) = l := by
  induction l with
  | nil => exact ⟨rfl, rfl⟩
  | cons x l ih =>
    obtain ⟨h1, h2⟩ := ih (fun y hy => h y (List.mem_cons_of_mem _ hy))
    have hx : (x == 0) = false := beq_eq_false_iff_ne.2 (h x List.mem_cons_self)
    unfold z0 zw at *
    rw [List.cons_append, List.any_cons, List.takeWhile_cons, hx, h1, h2]
    exact ⟨rfl, rfl⟩
end Go.Va

/-
  A file that was written is read as the image that it was written of, whatever stands behind it.
  Conditions: none.
-/
namespace Go.Va
/-! ### Where things stand -/
def pl (a : Nat) (cs : List SegT) : Nat := cs.foldl (fun a c => plN a (List.length c.2.2.2.1)) a
theorem plG_fst : ∀ (cs : List SegT) (a : Nat) (l : List Int), (cs.foldl plG (a, l)).1 = pl a cs
  | [], a, l => rfl
  | c :: cs, a, l => by
    show (cs.foldl plG (plG (a, l) c)).1 = pl (plN a _) cs
    unfold plG
    exact plG_fst cs _ _
theorem atq_pl (S : List SegT) (q : Nat) : atq S q = pl (52 + 32 * S.length) (S.take q) := plG_fst _ _ _
theorem stp_pl (S : List SegT) : stp S = pl (52 + 32 * S.length) S := plG_fst _ _ _
theorem bd_len : ∀ (cs : List SegT) (f : List Int), (cs.foldl bdG f).length = pl f.length cs
  | [], f => rfl
  | c :: cs, f => by
    show (cs.foldl bdG (bdG f c)).length = pl (plN f.length _) cs
    rw [bd_len cs, bdG_len]
theorem bdG_pre (f : List Int) (c : SegT) : f <+: bdG f c := by
  unfold bdG
  split
  · rw [List.append_assoc]; exact List.prefix_append _ _
  · exact List.prefix_refl _
theorem bd_pre : ∀ (cs : List SegT) (f : List Int), f <+: cs.foldl bdG f
  | [], f => List.prefix_refl _
  | c :: cs, f => (bdG_pre f c).trans (bd_pre cs (bdG f c))
theorem bd_at : ∀ (cs : List SegT) (f : List Int) (q : Nat) (c : SegT), cs[q]? = some c → 0 < List.length c.2.2.2.1 → At (cs.foldl bdG f) (up4k (pl f.length (cs.take q))) c.2.2.2.1
  | [], f, q, c, h, _ => by simp at h
  | d :: cs, f, 0, c, h, h0 => by
    have : d = c := by simpa using h
    subst this
    refine At.mono (bd_pre cs (bdG f d)) ?_
    unfold bdG
    rw [if_pos h0]
    have h1 := le_up4k f.length
    have := At.mid (f ++ List.replicate (up4k f.length - f.length) 0) d.2.2.2.1 []
    rw [List.append_nil, List.length_append, List.length_replicate, show f.length + (up4k f.length - f.length) = up4k f.length by omega] at this
    exact this
  | d :: cs, f, q + 1, c, h, h0 => by
    have := bd_at cs (bdG f d) q c (by simpa using h) h0
    rw [bdG_len] at this
    exact this
theorem ph_pre (P : List Int) : ∀ (cs : List SegT) (x : Nat × List Int), x.2 <+: (cs.foldl (phG P) x).2
  | [], x => List.prefix_refl _
  | c :: cs, x => (List.prefix_append x.2 _).trans (ph_pre P cs (phG P x c))
theorem ph_len (P : List Int) : ∀ (cs : List SegT) (x : Nat × List Int), (cs.foldl (phG P) x).2.length = x.2.length + 32 * cs.length
  | [], x => rfl
  | c :: cs, x => by
    show (cs.foldl (phG P) (phG P x c)).2.length = _
    rw [ph_len P cs]
    unfold phG
    simp only [List.length_append, phW_flat, List.length_cons]
    omega
theorem ph_at (P : List Int) : ∀ (cs : List SegT) (x : Nat × List Int) (q : Nat) (c : SegT), cs[q]? = some c → At (cs.foldl (phG P) x).2 (x.2.length + 32 * q) ((phW c (P.getD (x.1 + q) 0)).flatMap (lay 4))
  | [], x, q, c, h => by simp at h
  | d :: cs, x, 0, c, h => by
    have : d = c := by simpa using h
    subst this
    refine At.mono (ph_pre P cs (phG P x d)) ?_
    have := At.mid x.2 ((phW d (P.getD x.1 0)).flatMap (lay 4)) []
    rw [List.append_nil] at this
    exact this
  | d :: cs, x, q + 1, c, h => by
    have := ph_at P cs (phG P x d) q c (by simpa using h)
    have e1 : (phG P x d).2.length = x.2.length + 32 := by unfold phG; rw [List.length_append, phW_flat]
    have e2 : (phG P x d).1 = x.1 + 1 := rfl
    rw [e1, e2, show x.2.length + 32 + 32 * q = x.2.length + 32 * (q + 1) by omega, show x.1 + 1 + q = x.1 + (q + 1) by omega] at this
    exact this
theorem mid_len (E : Int) (S : List SegT) (a b c : Int) : (midF E S a b c).length = stp S := by
  unfold midF
  rw [bd_len, ph_len, headF_len, stp_pl]
theorem mid_head (E : Int) (S : List SegT) (a b c : Int) : headF E S a b c <+: midF E S a b c := (ph_pre _ S (0, headF E S a b c)).trans (bd_pre S _)
theorem mid_ph (E : Int) (S : List SegT) (a b d : Int) (q : Nat) (c : SegT) (h : S[q]? = some c) : At (midF E S a b d) (52 + 32 * q) ((phW c ((up4k (atq S q) : Nat) : Int)).flatMap (lay 4)) := by
  have := (ph_at (plc S).2 S (0, headF E S a b d) q c h).mono (bd_pre S _)
  rw [Nat.zero_add, (plc_get h).1] at this
  have e : ((0, headF E S a b d) : Nat × List Int).2.length = 52 := headF_len E S a b d
  rw [e] at this
  exact this
theorem mid_bd (E : Int) (S : List SegT) (a b d : Int) (q : Nat) (c : SegT) (h : S[q]? = some c) (h0 : 0 < List.length c.2.2.2.1) : At (midF E S a b d) (up4k (atq S q)) c.2.2.2.1 := by
  have := bd_at S (S.foldl (phG (plc S).2) (0, headF E S a b d)).2 q c h h0
  rw [ph_len, atq_pl] at *
  have e : ((0, headF E S a b d) : Nat × List Int).2.length = 52 := headF_len E S a b d
  rw [e] at this
  exact this
/-! ### The header -/
structure Head_ (b : List Int) (E n sec cnt : Int) : Prop where
  h3 : h3F b = true
  h4 : h4F b = true
  h5 : h5F b = true
  e24 : word b 24 = E
  e28 : word b 28 = 52
  e32 : word b 32 = sec
  e40 : half b 40 = 52
  e42 : half b 42 = 32
  e44 : half b 44 = n
  e46 : half b 46 = 40
  e48 : half b 48 = cnt
theorem head_of {b : List Int} {E : Int} {S : List SegT} {sec cnt ttl : Int} (h : headF E S sec cnt ttl <+: b) (hE : 0 ≤ E ∧ E < 4294967296) (hS : S.length ≤ 16) (hs : 0 ≤ sec ∧ sec < 4294967296) (hc : 0 ≤ cnt ∧ cnt < 65536) : Head_ b E (S.length : Int) sec cnt := by
  have h0 : At b 0 (headF E S sec cnt ttl) := by
    obtain ⟨t, rfl⟩ := h
    exact ⟨t, rfl⟩
  unfold headF at h0
  have m := h0.left.left.left
  have A := h0.left.left.right
  have B := h0.left.right
  have C := h0.right
  have l1 : magic.length = 16 := rfl
  rw [l1] at A
  rw [List.length_append, flat_len, l1] at B
  rw [List.length_append, List.length_append, flat_len, flat_len, l1] at C
  have A : At b 16 (([2, 40] : List Int).flatMap (lay 2)) := A
  have B : At b 20 (([1, E, 52, sec, 83886080] : List Int).flatMap (lay 4)) := B
  have C : At b 40 (([52, 32, ((S.length : Nat) : Int), 40, cnt, ttl] : List Int).flatMap (lay 2)) := C
  have bt4 : b.getD 4 0 = 1 := m.getD (i := 4) (by decide)
  have bt5 : b.getD 5 0 = 1 := m.getD (i := 5) (by decide)
  have bt6 : b.getD 6 0 = 1 := m.getD (i := 6) (by decide)
  have a0 : half b 16 = 2 := halfv 0 2 A rfl (by decide) (by decide)
  have a1 : half b 18 = 40 := halfv 1 40 A rfl (by decide) (by decide)
  have b0 : word b 20 = 1 := wordv 0 1 B rfl (by decide) (by decide)
  have b1 : word b 24 = E := wordv 1 E B rfl hE.1 hE.2
  have b2 : word b 28 = 52 := wordv 2 52 B rfl (by decide) (by decide)
  have b3 : word b 32 = sec := wordv 3 sec B rfl hs.1 hs.2
  have c0 : half b 40 = 52 := halfv 0 52 C rfl (by decide) (by decide)
  have c1 : half b 42 = 32 := halfv 1 32 C rfl (by decide) (by decide)
  have c2 : half b 44 = ((S.length : Nat) : Int) := halfv 2 ((S.length : Nat) : Int) C rfl (by omega) (by omega)
  have c3 : half b 46 = 40 := halfv 3 40 C rfl (by decide) (by decide)
  have c4 : half b 48 = cnt := halfv 4 cnt C rfl hc.1 hc.2
  refine ⟨?_, ?_, ?_, b1, b2, b3, c0, c1, c2, c3, c4⟩
  · unfold h3F
    have e : (b.drop 0).take (4 - 0) = [127, 69, 76, 70] := by
      obtain ⟨t, ht⟩ := m
      rw [ht]; rfl
    rw [e]
    have e2 : bytesO [127, 69, 76, 70] = (⟨#[127, 69, 76, 70]⟩ : ByteArray) := rfl
    rw [e2]; exact beq_self_eq_true _
  · unfold h4F; rw [bt4, bt5, bt6]; rfl
  · unfold h5F; rw [a0, a1, b0]; rfl
theorem Head_.h6 {b : List Int} {E n sec cnt : Int} (h : Head_ b E n sec cnt) : h6F b = true := by
  unfold h6F
  rw [h.e40, h.e42, h.e46]
  cases (word b 32 == 0) <;> rfl
/-! ### The segments -/
theorem rts_bits (c : SegT) : rtsF (bitsB c) = c.2.2.1 := by
  obtain ⟨v, z, ⟨r, w, x, u⟩, d, e⟩ := c
  cases r <;> cases w <;> cases x <;> rfl
structure PhAt (b : List Int) (S : List SegT) : Prop where
  ph : ∀ q c, S[q]? = some c → At b (52 + 32 * q) ((phW c ((up4k (atq S q) : Nat) : Int)).flatMap (lay 4))
theorem ph_words {b : List Int} {S : List SegT} (h : PhAt b S) (h16 : S.length ≤ 16) (hd : ∀ c ∈ S, List.length c.2.2.2.1 ≤ 16777216) (hS : ∀ c ∈ S, SegOk c) {q : Nat} {c : SegT} (hc : S[q]? = some c) :
    word b (52 + 32 * (q : Int)) = 1 ∧ word b (52 + 32 * (q : Int) + 4) = ((up4k (atq S q) : Nat) : Int) ∧ word b (52 + 32 * (q : Int) + 8) = c.1 ∧ word b (52 + 32 * (q : Int) + 12) = c.1 ∧ word b (52 + 32 * (q : Int) + 16) = ((List.length c.2.2.2.1 : Nat) : Int) ∧
    word b (52 + 32 * (q : Int) + 20) = c.2.1 ∧ word b (52 + 32 * (q : Int) + 24) = bitsB c ∧ word b (52 + 32 * (q : Int) + 28) = 4096 := by
  have h0 := h.ph q c hc
  have hm := mem_at hc
  have ok := hS c hm
  have hl := hd c hm
  have bl := bits_lt c
  have hq : q < S.length := (List.getElem?_eq_some_iff.1 hc).1
  have ha := atq_le h16 hd q (by omega)
  have hu := up4k_le (atq S q)
  have W : ∀ (i : Nat) (v : Int), i < 8 → (phW c ((up4k (atq S q) : Nat) : Int)).getD i 0 = v → 0 ≤ v → v < 4294967296 → word b (52 + 32 * (q : Int) + ((4 * i : Nat) : Int)) = v := fun i v hi hv g0 g1 => by
    have := words_at h0 (i := i) hi (by rw [hv]; exact g0) (by rw [hv]; exact g1)
    rw [hv] at this
    rw [show (52 + 32 * (q : Int) + ((4 * i : Nat) : Int)) = ((52 + 32 * q + 4 * i : Nat) : Int) by omega]
    exact this
  have w0 := W 0 1 (by decide) rfl (by decide) (by decide)
  rw [show (52 + 32 * (q : Int) + ((4 * 0 : Nat) : Int)) = 52 + 32 * (q : Int) by omega] at w0
  exact ⟨w0, W 1 _ (by decide) rfl (by omega) (by omega), W 2 _ (by decide) rfl ok.1.1 ok.1.2, W 3 _ (by decide) rfl ok.1.1 ok.1.2, W 4 _ (by decide) rfl (by omega) (by omega), W 5 _ (by decide) rfl ok.2.1.1 ok.2.1.2, W 6 _ (by decide) rfl bl.1 (by omega), W 7 _ (by decide) rfl (by decide) (by decide)⟩
theorem load_file {b : List Int} {S : List SegT} (h : PhAt b S) (h16 : S.length ≤ 16) (hd : ∀ c ∈ S, List.length c.2.2.2.1 ≤ 16777216) (hS : ∀ c ∈ S, SegOk c) (hsg : ∀ c ∈ S, segB c = true)
    (hbd : ∀ q c, S[q]? = some c → 0 < List.length c.2.2.2.1 → At b (up4k (atq S q)) c.2.2.2.1) {q : Nat} {c : SegT} (hc : S[q]? = some c) : loadF b (52 + 32 * (q : Int)) = some c := by
  obtain ⟨-, w4, w8, w12, w16, w20, w24, w28⟩ := ph_words h h16 hd hS hc
  have hm := mem_at hc
  have sg := hsg c hm
  have bl := bits_lt c
  unfold loadF
  rw [w4, w8, w12, w16, w20, w24, w28, rts_bits]
  have hle : ((List.length c.2.2.2.1 : Nat) : Int) ≤ c.2.1 := by
    simp only [segB, Bool.and_eq_true, decide_eq_true_eq] at sg
    exact sg.1.2
  have sg2 : segB (c.1, c.2.1, c.2.2.1, [], ()) = true := by
    rw [← segB_data c.1 c.2.1 c.2.2.1 c.2.2.2.1 hle]; exact sg
  have hin : (((List.length c.2.2.2.1 : Nat) : Int) == 0 || decide (((up4k (atq S q) : Nat) : Int) + ((List.length c.2.2.2.1 : Nat) : Int) ≤ (b.length : Int))) = true := by
    by_cases h0 : 0 < List.length c.2.2.2.1
    · have := (hbd q c hc h0).len h0
      rw [decide_eq_true (by omega), Bool.or_true]
    · have : List.length c.2.2.2.1 = 0 := by omega
      rw [this]; rfl
  have hdt : dataF b ((up4k (atq S q) : Nat) : Int) ((List.length c.2.2.2.1 : Nat) : Int) = c.2.2.2.1 := by
    unfold dataF
    by_cases h0 : 0 < List.length c.2.2.2.1
    · rw [if_pos (by omega), Int.toNat_natCast, Int.toNat_natCast]
      exact (hbd q c hc h0).take
    · rw [if_neg (by omega)]
      exact (List.eq_nil_of_length_eq_zero (by omega)).symm
  rw [beq_self_eq_true, decide_eq_true hle, hin, decide_eq_true bl.2, sg2, hdt]
  rfl
theorem drop_range {n q : Nat} (h : q < n) : (List.range n).drop q = q :: (List.range n).drop (q + 1) := by
  rw [List.drop_eq_getElem_cons (by rw [List.length_range]; exact h), List.getElem_range]
theorem segs_all {b : List Int} {S : List SegT} (h : ∀ (q : Nat) (c : SegT), S[q]? = some c → word b (52 + 32 * (q : Int)) = 1 ∧ loadF b (52 + 32 * (q : Int)) = some c) : ∀ (d q : Nat), S.length - q = d → q ≤ S.length → segsR b 52 ((List.range S.length).drop q) (S.take q) = some S := by
  intro d
  induction d with
  | zero =>
    intro q hd hq
    have : q = S.length := by omega
    subst this
    rw [List.take_length, List.drop_eq_nil_of_le (by rw [List.length_range]; exact Nat.le_refl _)]
    rfl
  | succ d ih =>
    intro q hd hq
    have hlt : q < S.length := by omega
    obtain ⟨c, hc⟩ : ∃ c, S[q]? = some c := ⟨_, List.getElem?_eq_getElem hlt⟩
    obtain ⟨h1, h2⟩ := h q c hc
    have := ih (q + 1) (by omega) (by omega)
    rw [take_succ_get hc] at this
    rw [drop_range hlt]
    unfold segsR at this ⊢
    simp only [runS, sgL, h1, h2, beq_self_eq_true, cond_true]
    exact this
/-! ### The symbols -/
theorem nt_cons (c : SymT) (Y : List SymT) : nt (c :: Y) = c.1.size + 1 + nt Y := by
  unfold nt
  rw [List.foldl_cons, Nat.zero_add]
  have := nt_shift Y (c.1.size + 1) 0
  rw [Nat.add_zero] at this
  exact this
theorem symL_at {b : List Int} : ∀ (Y : List SymT) (a o q : Nat) (c : SymT), At b a (symL Y o) → Y[q]? = some c → At b (a + 16 * q) (symE c (o + nt (Y.take q)))
  | [], a, o, q, c, _, h => by simp at h
  | d :: Y, a, o, 0, c, hA, h => by
    have : d = c := by simpa using h
    subst this
    exact hA.left
  | d :: Y, a, o, q + 1, c, hA, h => by
    have h2 := hA.right
    rw [symE_len] at h2
    have := symL_at Y (a + 16) (o + (d.1.size + 1)) q c h2 (by simpa using h)
    rw [List.take_succ_cons, nt_cons, show a + 16 * (q + 1) = a + 16 + 16 * q by omega, show o + (d.1.size + 1 + nt (Y.take q)) = o + (d.1.size + 1) + nt (Y.take q) by omega]
    exact this
theorem names_drop : ∀ (Y : List SymT) (q : Nat) (c : SymT), Y[q]? = some c → ∃ t, (namesL Y).drop (nt (Y.take q)) = strI c.1 ++ (0 :: t)
  | [], q, c, h => by simp at h
  | d :: Y, 0, c, h => by
    have : d = c := by simpa using h
    subst this
    refine ⟨namesL Y, ?_⟩
    show (namesL (d :: Y)).drop 0 = _
    unfold namesL
    rw [List.drop_zero, List.flatMap_cons, List.append_assoc]
    rfl
  | d :: Y, q + 1, c, h => by
    obtain ⟨t, ht⟩ := names_drop Y q c (by simpa using h)
    refine ⟨t, ?_⟩
    rw [List.take_succ_cons, nt_cons, ← ht]
    have e : namesL (d :: Y) = (strI d.1 ++ [0]) ++ namesL Y := by unfold namesL; rw [List.flatMap_cons]
    have el : (strI d.1 ++ [0]).length = d.1.size + 1 := by rw [List.length_append, strI_len]; rfl
    rw [e, ← el, ← List.drop_drop, List.drop_left]
def SymDist (Y : List SymT) : Prop := ∀ q c, Y[q]? = some c → has (Y.take q) c.1 = false ∧ nameB c.1 = true
theorem sym_dist {Y : List SymT} (h : symB Y = true) : SymDist Y := by
  have key : ∀ (cs : List SymT) (q : Nat), Y.drop q = cs → runS (syF (ρ := Unit) Y) (fun _ => .inr ()) cs q = .inr () → ∀ i c, q ≤ i → Y[i]? = some c → has (Y.take i) c.1 = false ∧ nameB c.1 = true := by
    intro cs
    induction cs with
    | nil =>
      intro q hq _ i c hi hc
      have h1 := List.drop_eq_nil_iff.1 hq
      have h2 := (List.getElem?_eq_some_iff.1 hc).1
      omega
    | cons d cs ih =>
      intro q hq hr i c hi hc
      obtain ⟨g1, g2, g3⟩ := drop_cons hq
      simp only [runS, syF] at hr
      cases hh : has (Y.take q) d.1 with
      | true => rw [hh] at hr; cases hr
      | false =>
        rw [hh] at hr
        cases hn : nameB d.1 with
        | false => rw [hn] at hr; cases hr
        | true =>
          rw [hn] at hr
          by_cases hiq : i = q
          · subst hiq
            rw [g1] at hc
            cases hc
            exact ⟨hh, hn⟩
          · exact ih (q + 1) g3 hr i c (by omega) hc
  unfold symB at h
  rcases sy_res Y () Y 0 with ⟨h1, _⟩ | ⟨h1, _⟩
  · intro q c hc
    exact key Y 0 rfl h1 q c (Nat.zero_le _) hc
  · rw [h1] at h; cases h
theorem dist_sym {Y : List SymT} (h : SymDist Y) : symB Y = true := by
  have key : ∀ (cs : List SymT) (q : Nat), Y.drop q = cs → runS (syF (ρ := Unit) Y) (fun _ => .inr ()) cs q = .inr () := by
    intro cs
    induction cs with
    | nil => intro q _; rfl
    | cons d cs ih =>
      intro q hq
      obtain ⟨g1, g2, g3⟩ := drop_cons hq
      obtain ⟨h1, h2⟩ := h q d g1
      simp only [runS, syF, h1, h2, cond_false, cond_true]
      exact ih (q + 1) g3
  unfold symB
  rw [key Y 0 rfl]
theorem tab_all {b t : List Int} {p : Nat} {Y : List SymT} (hY : SymDist Y) (hv : ∀ c ∈ Y, 0 ≤ c.2.1 ∧ c.2.1 < 4294967296) (hn : nt Y < 4294967000) (hp : ∀ q c, Y[q]? = some c → At b (p + 16 * (q + 1)) (symE c (1 + nt (Y.take q)))) (hnm : ∀ q c, Y[q]? = some c → nmF t ((1 + nt (Y.take q) : Nat) : Int) = some c.1)
    (hnt : ∀ q, nt (Y.take q) ≤ nt Y) : ∀ (d q : Nat), Y.length - q = d → q ≤ Y.length → runS (stF none b (p : Int) t) some ((List.range (Y.length + 1)).drop (q + 1)) (Y.take q) = some Y := by
  intro d
  induction d with
  | zero =>
    intro q hd hq
    have : q = Y.length := by omega
    subst this
    rw [List.take_length, List.drop_eq_nil_of_le (by rw [List.length_range]; exact Nat.le_refl _)]
    rfl
  | succ d ih =>
    intro q hd hq
    have hlt : q < Y.length := by omega
    obtain ⟨c, hc⟩ : ∃ c, Y[q]? = some c := ⟨_, List.getElem?_eq_getElem hlt⟩
    obtain ⟨h1, h2⟩ := hY q c hc
    have hA := hp q c hc
    have hN := hnm q c hc
    have hvc := hv c (mem_at hc)
    have hq' := hnt q
    unfold symE at hA
    have hA := hA.left.left
    have w0 : word b ((p + 16 * (q + 1) + 4 * 0 : Nat) : Int) = ((1 + nt (Y.take q) : Nat) : Int) := wordv 0 ((1 + nt (Y.take q) : Nat) : Int) hA rfl (by omega) (by omega)
    have w1 : word b ((p + 16 * (q + 1) + 4 * 1 : Nat) : Int) = c.2.1 := wordv 1 c.2.1 hA rfl hvc.1 hvc.2
    rw [show ((p + 16 * (q + 1) + 4 * 0 : Nat) : Int) = (p : Int) + 16 * ((q + 1 : Nat) : Int) by omega] at w0
    rw [show ((p + 16 * (q + 1) + 4 * 1 : Nat) : Int) = (p : Int) + 16 * ((q + 1 : Nat) : Int) + 4 by omega] at w1
    have := ih (q + 1) (by omega) (by omega)
    rw [take_succ_get hc] at this
    rw [drop_range (show q + 1 < Y.length + 1 by omega)]
    simp only [runS, stF, w0, w1, hN, h1, h2, Bool.not_false, Bool.and_self, cond_true]
    exact this
theorem nt_take (Y : List SymT) : ∀ q, nt (Y.take q) ≤ nt Y := by
  induction Y with
  | nil => intro q; rw [List.take_nil]; exact Nat.le_refl _
  | cons c Y ih =>
    intro q
    cases q with
    | zero => exact Nat.zero_le _
    | succ q => rw [List.take_succ_cons, nt_cons, nt_cons]; have := ih q; omega
end Go.Va

/-
  A file that was written is read as the image that it was written of, whatever stands behind it: the whole.
  Conditions: none.
-/
namespace Go.Va
theorem At.to {b : List Int} {a a' : Nat} {l : List Int} (h : At b a l) (e : a = a') : At b a' l := e ▸ h
theorem plN_ge (a n : Nat) : a ≤ plN a n := by
  have := le_up4k a
  unfold plN; split <;> omega
theorem pl_ge : ∀ (cs : List SegT) (a : Nat), a ≤ pl a cs
  | [], a => Nat.le_refl _
  | c :: cs, a => Nat.le_trans (plN_ge a _) (pl_ge cs _)
theorem stp_ge (S : List SegT) : 52 + 32 * S.length ≤ stp S := by rw [stp_pl]; exact pl_ge _ _
theorem file_len (E : Int) (S : List SegT) (Y : List SymT) : (fileF E S Y).length = sizeF S Y := by
  unfold fileF sizeF
  split
  · exact mid_len _ _ _ _ _
  · exact tabB_len _ _ _ (mid_len _ _ _ _ _)
theorem read_mid {b : List Int} {E : Int} {S : List SegT} {Y0 Y : List SymT} {sec cnt ttl : Int} (hm : midF E S sec cnt ttl <+: b) (R : RightOk E S Y0) (hE : 0 ≤ E ∧ E < 4294967296) (hok : ∀ c ∈ S, SegOk c) (hrise : riseB S = true) (hst : startB S E = true)
    (hs : 0 ≤ sec ∧ sec < 4294967296) (hc : 0 ≤ cnt ∧ cnt < 65536) (hlen : b.length ≤ 33554432) (hS : okS b = true) (hy : symsO b = some Y) : readF b = (⟨E, S, Y⟩, 0) := by
  have H := head_of ((mid_head E S sec cnt ttl).trans hm) hE R.s16 hs hc
  have hl := hm.length_le
  rw [mid_len] at hl
  have hge := stp_ge S
  have hsegs : segsR b 52 (List.range S.length) [] = some S := by
    have ph : PhAt b S := ⟨fun q c hc => (mid_ph E S sec cnt ttl q c hc).mono hm⟩
    have := segs_all (b := b) (S := S) (fun q c hc => ⟨(ph_words ph R.s16 R.data hok hc).1, load_file ph R.s16 R.data hok R.seg (fun q c hc h0 => (mid_bd E S sec cnt ttl q c hc h0).mono hm) hc⟩) S.length 0 rfl (Nat.zero_le _)
    rwa [List.drop_zero, List.take_zero] at this
  have hP : okP b = true := by
    unfold okP
    rw [H.e28, H.e44, decide_eq_true (by omega), Bool.or_true]
  have s1 := R.s1; have s16 := R.s16
  unfold readF headF_ bodyF restF
  rw [decide_eq_true (by omega), decide_eq_true hlen, H.h3, H.h4, H.h5, H.h6, hP, hS, H.e28, H.e44, H.e24, Int.toNat_natCast, hsegs]
  simp only [cond_true, Bool.and_self, decide_eq_true s1, decide_eq_true s16, hrise, hst, hy]
theorem right_parts {x : T25} (hr : rightB x = true) : riseB x.f1_Segments = true ∧ startB x.f1_Segments x.f0_Entry = true ∧ symB x.f2_Symbols = true := by
  unfold rightB at hr
  simp only [Bool.and_eq_true] at hr
  exact ⟨hr.2.2.2.2.2.1, hr.2.2.2.2.2.2, hr.2.2.2.2.1⟩
section
variable (E : Int) (S : List SegT) (Y : List SymT) (R : RightOk E S Y) (hd : SymDist Y) (hv : ∀ c ∈ Y, 0 ≤ c.2.1 ∧ c.2.1 < 4294967296) (f b : List Int) (hf : f.length = stp S) (hb : tabB S Y f <+: b)
include R hd hv hf hb
theorem sym_read : symF b (se S Y : Int) 4 = some Y := by
  have hB : At b 0 (tabB S Y f) := by
    obtain ⟨t, rfl⟩ := hb
    exact ⟨t, rfl⟩
  have hlenA := tabA_len S Y f hf
  have u1 := le_up4 (ti S Y + 27)
  have u2 := le_up4 (stp S)
  obtain ⟨q1, q2, q3, q4, q5⟩ := plan_le R
  have ys := R.y
  have hntl := nt_le Y R.size
  unfold tabB at hB
  have eA := hB.left.left.left.left.left
  have eZ : (List.replicate (se S Y - (ti S Y + 27)) (0 : Int)).length = se S Y - (ti S Y + 27) := List.length_replicate
  have se_ge : ti S Y + 27 ≤ se S Y := u1
  have A0 : At b (se S Y) (List.replicate 40 0) := (hB.left.left.left.right).to (by rw [List.length_append, hlenA, eZ]; omega)
  have A1 : At b (se S Y + 40) ((row1 S Y).flatMap (lay 4)) := (hB.left.left.right).to (by rw [List.length_append, List.length_append, hlenA, eZ, List.length_replicate]; omega)
  have f1 : ((row1 S Y).flatMap (lay 4)).length = 40 := by rw [flat_len]; rfl
  have A2 : At b (se S Y + 80) ((row2 S Y).flatMap (lay 4)) := (hB.left.right).to (by rw [List.length_append, List.length_append, List.length_append, hlenA, eZ, List.length_replicate, f1]; omega)
  have A0' : At b (se S Y) ((List.replicate 10 (0 : Int)).flatMap (lay 4)) := A0
  unfold tabA at eA
  have eN := eA.left.right
  have eS := eA.left.left.right
  have sy_ge : stp S ≤ sy S := u2
  have sySt : (f ++ List.replicate (sy S - stp S) (0 : Int)).length = sy S := by rw [List.length_append, List.length_replicate, hf]; omega
  have symlen : (lay 16 0 ++ symL Y 1).length = 16 + 16 * Y.length := by rw [List.length_append, lay_length, symL_len]
  have nmE : nm S Y = sy S + 16 * (Y.length + 1) := rfl
  have tiE : ti S Y = nm S Y + 1 + nt Y := rfl
  have AS : At b (sy S) (lay 16 0 ++ symL Y 1) := eS.to (by rw [sySt]; omega)
  have AN : At b (nm S Y) ([0] ++ namesL Y) := eN.to (by rw [List.length_append, sySt, symlen]; omega)
  have AL : At b (sy S + 16) (symL Y 1) := by
    have := AS.right
    rwa [lay_length] at this
  -- the words
  have W0 : word b ((se S Y : Int) + 40 * ((0 : Nat) : Int) + 4) = 0 := by
    have := words_at A0' (i := 1) (by decide) (by decide) (by decide)
    rw [show (se S Y : Int) + 40 * ((0 : Nat) : Int) + 4 = ((se S Y + 4 * 1 : Nat) : Int) by omega]
    exact this
  have W1 : ∀ (i : Nat) (v : Int), i < 10 → (row1 S Y).getD i 0 = v → 0 ≤ v → v < 4294967296 → word b ((se S Y : Int) + 40 * ((1 : Nat) : Int) + ((4 * i : Nat) : Int)) = v := fun i v hi hv g0 g1 => by
    have := words_at A1 (i := i) hi (by rw [hv]; exact g0) (by rw [hv]; exact g1)
    rw [hv] at this
    rw [show (se S Y : Int) + 40 * ((1 : Nat) : Int) + ((4 * i : Nat) : Int) = ((se S Y + 40 + 4 * i : Nat) : Int) by omega]
    exact this
  have W2 : ∀ (i : Nat) (v : Int), i < 10 → (row2 S Y).getD i 0 = v → 0 ≤ v → v < 4294967296 → word b ((se S Y : Int) + 40 * 2 + ((4 * i : Nat) : Int)) = v := fun i v hi hv g0 g1 => by
    have := words_at A2 (i := i) hi (by rw [hv]; exact g0) (by rw [hv]; exact g1)
    rw [hv] at this
    rw [show (se S Y : Int) + 40 * 2 + ((4 * i : Nat) : Int) = ((se S Y + 80 + 4 * i : Nat) : Int) by omega]
    exact this
  have w4 : word b ((se S Y : Int) + 40 * ((1 : Nat) : Int) + 4) = 2 := W1 1 2 (by decide) rfl (by decide) (by decide)
  have w16 : word b ((se S Y : Int) + 40 * ((1 : Nat) : Int) + 16) = (sy S : Int) := W1 4 _ (by decide) rfl (by omega) (by omega)
  have w20 : word b ((se S Y : Int) + 40 * ((1 : Nat) : Int) + 20) = ((16 * (Y.length + 1) : Nat) : Int) := W1 5 _ (by decide) rfl (by omega) (by omega)
  have w24 : word b ((se S Y : Int) + 40 * ((1 : Nat) : Int) + 24) = 2 := W1 6 2 (by decide) rfl (by decide) (by decide)
  have v4 : word b ((se S Y : Int) + 40 * 2 + 4) = 3 := W2 1 3 (by decide) rfl (by decide) (by decide)
  have v16 : word b ((se S Y : Int) + 40 * 2 + 16) = (nm S Y : Int) := W2 4 _ (by decide) rfl (by omega) (by omega)
  have v20 : word b ((se S Y : Int) + 40 * 2 + 20) = ((1 + nt Y : Nat) : Int) := W2 5 _ (by decide) rfl (by omega) (by omega)
  -- the names
  have nlen : ([0] ++ namesL Y).length = 1 + nt Y := by rw [List.length_append, namesL_len]; rfl
  have hin1 := AN.len (by rw [nlen]; omega)
  have hin2 := AS.len (by rw [symlen]; omega)
  rw [nlen] at hin1
  rw [symlen] at hin2
  have ht : dataF b (nm S Y : Int) ((1 + nt Y : Nat) : Int) = [0] ++ namesL Y := by
    unfold dataF
    rw [if_pos (by omega), Int.toNat_natCast, Int.toNat_natCast, ← nlen]
    exact AN.take
  have tab : tabF b (sy S : Int) ([0] ++ namesL Y) (Y.length + 1) = some Y := by
    have := tab_all (b := b) (t := [0] ++ namesL Y) (p := sy S) hd hv (by omega) (fun q c hc => by
        have := symL_at Y (sy S + 16) 1 q c AL hc
        exact this.to (by omega)) (fun q c hc => by
        obtain ⟨t, ht⟩ := names_drop Y q c hc
        have hz := z0_name (name_nz (by have := R.size c (mem_at hc); omega) (R.name c (mem_at hc))) t
        unfold nmF
        have e : ([0] ++ namesL Y).drop ((1 + nt (Y.take q) : Nat) : Int).toNat = strI c.1 ++ (0 :: t) := by
          rw [Int.toNat_natCast, Nat.add_comm]
          show ((0 : Int) :: namesL Y).drop (nt (Y.take q) + 1) = _
          rw [List.drop_succ_cons, ht]
        rw [e, if_pos hz.1, hz.2, bytesO_strI]) (nt_take Y) Y.length 0 rfl (Nat.zero_le _)
    exact this
  unfold symF
  show runS (scF id b (se S Y : Int) ((4 : Nat) : Int)) (fun _ => some []) [0, 1, 2, 3] () = some Y
  have b02 : ((0 : Int) == 2) = false := rfl
  have b22 : ((2 : Int) == 2) = true := rfl
  simp only [runS, scF, W0, w4, b02, b22, cond_false, cond_true, id]
  unfold tblF txtF
  have d1 : decide (((16 * (Y.length + 1) : Nat) : Int) > 0) = true := decide_eq_true (by omega)
  have d2 : (((16 * (Y.length + 1) : Nat) : Int) % 16 == 0) = true := by rw [beq_iff_eq]; omega
  have d3 : decide ((sy S : Int) + ((16 * (Y.length + 1) : Nat) : Int) ≤ (b.length : Int)) = true := decide_eq_true (by omega)
  have d4 : decide ((2 : Int) < ((4 : Nat) : Int)) = true := rfl
  have d5 : decide ((nm S Y : Int) + ((1 + nt Y : Nat) : Int) ≤ (b.length : Int)) = true := decide_eq_true (by omega)
  have d6 : ((16 * (Y.length + 1) : Nat) : Int) / 16 = ((Y.length + 1 : Nat) : Int) := by omega
  have d7 : decide (((Y.length + 1 : Nat) : Int) ≤ 1025) = true := decide_eq_true (by omega)
  have b33 : ((3 : Int) == 3) = true := rfl
  simp only [w16, w20, w24, d1, d2, d3, d4, Bool.and_self, cond_true, v4, v16, v20, b33, d5, Bool.or_true, d6, d7, Int.toNat_natCast, ht]
  exact tab
end
/-- What was written is read. -/
theorem read_file (x : T25) (h : ImgOk x) (hr : rightB x = true) (more : List Int) (hsz : sizeF x.f1_Segments x.f2_Symbols + more.length ≤ 33554432) : readF (fileF x.f0_Entry x.f1_Segments x.f2_Symbols ++ more) = (x, 0) := by
  have R := right_ok h hr
  obtain ⟨hrise, hst, hsym⟩ := right_parts hr
  have hok : ∀ c ∈ x.f1_Segments, SegOk c := fun c hc => h.seg hc
  have hlen : (fileF x.f0_Entry x.f1_Segments x.f2_Symbols ++ more).length ≤ 33554432 := by rw [List.length_append, file_len]; exact hsz
  obtain ⟨E, S, Y⟩ := x
  by_cases hY : Y.length = 0
  · have hY0 : Y = [] := List.eq_nil_of_length_eq_zero hY
    subst hY0
    have e : fileF E S [] = midF E S 0 0 0 := rfl
    have hm : midF E S 0 0 0 <+: fileF E S [] ++ more := by rw [e]; exact List.prefix_append _ _
    have H := head_of ((mid_head E S 0 0 0).trans hm) h.e0 R.s16 (by decide) (by decide)
    have hz : word (fileF E S [] ++ more) 32 = 0 := H.e32
    refine read_mid hm R h.e0 hok hrise hst (by decide) (by decide) hlen (by unfold okS; rw [hz]; rfl) (by unfold symsO; rw [if_pos hz])
  · have e : fileF E S Y = tabB S Y (midF E S (se S Y : Int) 4 3) := by unfold fileF; rw [if_neg hY]
    have hb : tabB S Y (midF E S (se S Y : Int) 4 3) <+: fileF E S Y ++ more := by rw [e]; exact List.prefix_append _ _
    have hm : midF E S (se S Y : Int) 4 3 <+: fileF E S Y ++ more := by
      refine List.IsPrefix.trans ?_ hb
      unfold tabB tabA
      simp only [List.append_assoc]
      exact List.prefix_append _ _
    have R : RightOk E S Y := R
    obtain ⟨q1, q2, q3, q4, q5⟩ := plan_le R
    have H := head_of ((mid_head E S (se S Y : Int) 4 3).trans hm) h.e0 R.s16 ⟨by omega, by omega⟩ (by decide)
    have hs := sym_read E S Y R (sym_dist hsym) h.yu (midF E S (se S Y : Int) 4 3) (fileF E S Y ++ more) (mid_len _ _ _ _ _) hb
    have hse : 0 < se S Y := by
      have := le_up4 (ti S Y + 27)
      have e : se S Y = up4 (ti S Y + 27) := rfl
      omega
    have hne : ¬ word (fileF E S Y ++ more) 32 = 0 := by rw [H.e32]; show ¬ (se S Y : Int) = 0; omega
    have hlb := hb.length_le
    rw [tabB_len _ _ _ (mid_len _ _ _ _ _)] at hlb
    refine read_mid hm R h.e0 hok hrise hst ⟨by omega, by omega⟩ (by decide) hlen ?_ ?_
    · unfold okS
      rw [H.e32, H.e48, decide_eq_true (show (se S Y : Int) + 40 * 4 ≤ ((fileF E S Y ++ more).length : Int) by omega)]
      simp
    · unfold symsO
      rw [if_neg hne, H.e32, H.e48]
      exact hs
end Go.Va

/-
  A file is made of bytes; what elf.Write and the document's Write come to.
  Conditions: none.
-/
namespace Go.Va
theorem Bys.app {l k : List Int} (h : Bys l) (g : Bys k) : Bys (l ++ k) := fun b hb => by
  rcases List.mem_append.1 hb with hb | hb
  · exact h b hb
  · exact g b hb
theorem Bys.lay (n : Nat) (l : List Int) : Bys (l.flatMap (lay n)) := fun b hb => by
  obtain ⟨v, _, hv⟩ := List.mem_flatMap.1 hb
  exact lay_byte n v b hv
theorem Bys.zeros (n : Nat) : Bys (List.replicate n 0) := fun b hb => by rw [(List.mem_replicate.1 hb).2]; omega
theorem Bys.str (s : ByteArray) : Bys (strI s) := fun b hb => by
  obtain ⟨u, _, rfl⟩ := List.mem_map.1 hb
  have := u.toNat_lt
  omega
theorem Bys.one {b : Int} (h : 0 ≤ b ∧ b < 256) : Bys [b] := fun c hc => by rw [List.mem_singleton] at hc; subst hc; exact h
theorem bys_head (E : Int) (S : List SegT) (a b c : Int) : Bys (headF E S a b c) := by
  unfold headF
  refine Bys.app (Bys.app (Bys.app (fun b hb => ?_) (Bys.lay 2 _)) (Bys.lay 4 _)) (Bys.lay 2 _)
  simp only [magic, List.mem_cons, List.not_mem_nil, or_false] at hb
  rcases hb with rfl | rfl | rfl | rfl | rfl | rfl | rfl | rfl | rfl | rfl | rfl | rfl | rfl | rfl | rfl | rfl <;> omega
theorem bys_mid (E : Int) (S : List SegT) (a b c : Int) (hS : ∀ s ∈ S, Bys s.2.2.2.1) : Bys (midF E S a b c) := by
  have h1 : ∀ (P : List Int) (cs : List SegT) (x : Nat × List Int), Bys x.2 → Bys (cs.foldl (phG P) x).2 := by
    intro P cs
    induction cs with
    | nil => intro x h; exact h
    | cons c cs ih => intro x h; rw [List.foldl_cons]; exact ih _ (Bys.app h (Bys.lay 4 _))
  have h2 : ∀ (cs : List SegT) (x : List Int), (∀ s ∈ cs, Bys s.2.2.2.1) → Bys x → Bys (cs.foldl bdG x) := by
    intro cs
    induction cs with
    | nil => intro x _ h; exact h
    | cons c cs ih =>
      intro x hc h
      rw [List.foldl_cons]
      refine ih _ (fun s hs => hc s (List.mem_cons_of_mem _ hs)) ?_
      unfold bdG
      split
      · exact Bys.app (Bys.app h (Bys.zeros _)) (hc c List.mem_cons_self)
      · exact h
  exact h2 S _ hS (h1 _ S _ (bys_head E S a b c))
theorem bys_sym : ∀ (Y : List SymT) (a : Nat), Bys (symL Y a)
  | [], a => fun b hb => by cases hb
  | c :: Y, a => by
    simp only [symL, symE]
    refine Bys.app (Bys.app (Bys.app (Bys.lay 4 _) (fun b hb => ?_)) (lay_byte 2 _)) (bys_sym Y _)
    simp only [List.mem_cons, List.not_mem_nil, or_false] at hb
    rcases hb with rfl | rfl <;> omega
theorem bys_tab (S : List SegT) (Y : List SymT) (f : List Int) (hf : Bys f) : Bys (tabB S Y f) := by
  unfold tabB tabA
  have h1 : Bys (namesL Y) := fun b hb => by
    obtain ⟨c, _, hc⟩ := List.mem_flatMap.1 hb
    exact Bys.app (Bys.str c.1) (Bys.one (by omega)) b hc
  have h2 : Bys titI := fun b hb => by
    simp only [titI, List.mem_cons, List.not_mem_nil, or_false] at hb
    omega
  exact Bys.app (Bys.app (Bys.app (Bys.app (Bys.app (Bys.app (Bys.app (Bys.app (Bys.app hf (Bys.zeros _)) (Bys.app (lay_byte 16 0) (bys_sym Y 1))) (Bys.app (Bys.one (by omega)) h1)) h2) (Bys.zeros _)) (Bys.zeros _)) (Bys.lay 4 _)) (Bys.lay 4 _)) (Bys.lay 4 _)
theorem bys_write (E : Int) (S : List SegT) (Y : List SymT) (hS : ∀ s ∈ S, Bys s.2.2.2.1) : Bys (writeF E S Y).1 := by
  unfold writeF
  split
  · intro b hb; cases hb
  · show Bys (fileF E S Y)
    unfold fileF
    split
    · exact bys_mid E S _ _ _ hS
    · exact bys_tab S Y _ (bys_mid E S _ _ _ hS)

theorem write_both (x : T25) (h : ImgOk x) (k : Nat) (hk : reachBytes < k) : ∃ w, elf_Write.f k x = some w ∧ atlasref23_Write.f k x = some w ∧ Bys w.1 := by
  cases hr : rightB x with
  | true => exact ⟨_, write_eq x h k hk hr, rwrite_eq x h k hk hr, bys_write _ _ _ (fun c hc => (h.su c hc).2.2)⟩
  | false =>
    obtain ⟨h1, h2⟩ := right_eq x h k hk
    refine ⟨([], 239), ?_, ?_, fun b hb => by cases hb⟩
    · have e : elf_Write.f k x = (elf_Right.f k x).bind _ := rfl
      rw [e, h1, hr]; rfl
    · have e : atlasref23_Write.f k x = (atlasref23_Right.f k x).bind _ := rfl
      rw [e, h2, hr]; rfl
end Go.Va

/-
  Written and read, read and written.
  Conditions: none.
-/
namespace Go.Va
theorem file_byte (x : T25) (h : ImgOk x) : ByB (fileF x.f0_Entry x.f1_Segments x.f2_Symbols) := by
  by_cases hs : sizeF x.f1_Segments x.f2_Symbols > 33554432
  · -- the bytes are the same for any size
    unfold fileF
    have hS : ∀ s ∈ x.f1_Segments, Bys s.2.2.2.1 := fun c hc => (h.su c hc).2.2
    split
    · exact bys_mid _ _ _ _ _ hS
    · exact bys_tab _ _ _ (bys_mid _ _ _ _ _ hS)
  · have := bys_write x.f0_Entry x.f1_Segments x.f2_Symbols (fun c hc => (h.su c hc).2.2)
    unfold writeF at this
    rw [if_neg hs] at this
    exact this
/-- What elf.Write answers. -/
def wrF (x : T25) : List Int × Int := if rightB x = true then writeF x.f0_Entry x.f1_Segments x.f2_Symbols else ([], 239)
theorem wr_eq (x : T25) (h : ImgOk x) (k : Nat) (hk : reachBytes < k) : elf_Write.f k x = some (wrF x) := by
  unfold wrF
  cases hr : rightB x with
  | true => rw [if_pos rfl]; exact write_eq x h k hk hr
  | false =>
    rw [if_neg (by simp)]
    have e : elf_Write.f k x = (elf_Right.f k x).bind _ := rfl
    rw [e, (right_eq x h k hk).1, hr]; rfl
theorem size_pos (S : List SegT) (Y : List SymT) : 52 ≤ sizeF S Y := by
  have h1 := stp_ge S
  have h2 := le_up4 (stp S)
  have h3 := le_up4 (ti S Y + 27)
  unfold sizeF
  split
  · omega
  · have e1 : sy S = up4 (stp S) := rfl
    have e2 : nm S Y = sy S + 16 * (Y.length + 1) := rfl
    have e3 : ti S Y = nm S Y + 1 + nt Y := rfl
    have e4 : se S Y = up4 (ti S Y + 27) := rfl
    omega
theorem wr_cases (x : T25) : (rightB x = true ∧ sizeF x.f1_Segments x.f2_Symbols ≤ 33554432 ∧ wrF x = (fileF x.f0_Entry x.f1_Segments x.f2_Symbols, 0)) ∨ wrF x = ([], 239) := by
  unfold wrF writeF
  cases hr : rightB x with
  | false => right; rw [if_neg (by simp)]
  | true =>
    rw [if_pos rfl]
    by_cases hs : sizeF x.f1_Segments x.f2_Symbols > 33554432
    · right; rw [if_pos hs]
    · left; rw [if_neg hs]; exact ⟨rfl, by omega, rfl⟩
section
variable (k : Nat) (hk : reachBytes < k)
include hk
theorem back_read (x : T25) (h : ImgOk x) (hr : rightB x = true) (hs : sizeF x.f1_Segments x.f2_Symbols ≤ 33554432) : elf_Read.f k (fileF x.f0_Entry x.f1_Segments x.f2_Symbols) = some (x, 0) := by
  rw [eread_eq k hk _ (file_byte x h) (by rw [file_len]; omega)]
  have := read_file x h hr [] (by simpa using hs)
  rw [List.append_nil] at this
  rw [this]
theorem alive_eq : atlaslaw23_alive.f k = some true := by
  have hre := reach_v
  let x : T25 := ⟨32768, [(32768, 8, (true, false, true, ()), [30, 255, 47, 225], ())], [((⟨#[109, 97, 105, 110]⟩ : ByteArray), 32768, ())]⟩
  have hx : ImgOk x := by
    refine ⟨?_, fun s hs => ?_, ?_, fun s hs => ?_, by decide, fun s hs => ?_, fun s hs => ?_⟩
    · show 1 * 40 ≤ reachBytes; omega
    · have : s = (32768, 8, (true, false, true, ()), [30, 255, 47, 225], ()) := by simpa [x] using hs
      subst this
      show 4 ≤ reachBytes; omega
    · show 1 * 24 ≤ reachBytes; omega
    · have : s = ((⟨#[109, 97, 105, 110]⟩ : ByteArray), 32768, ()) := by simpa [x] using hs
      subst this
      show 4 ≤ reachBytes; omega
    · have : s = (32768, 8, (true, false, true, ()), [30, 255, 47, 225], ()) := by simpa [x] using hs
      subst this
      refine ⟨by decide, by decide, fun b hb => ?_⟩
      have : b = 30 ∨ b = 255 ∨ b = 47 ∨ b = 225 := by simpa using hb
      omega
    · have : s = ((⟨#[109, 97, 105, 110]⟩ : ByteArray), 32768, ()) := by simpa [x] using hs
      subst this
      exact ⟨by decide, by decide⟩
  have hr : rightB x = true := by decide +kernel
  have hs : sizeF x.f1_Segments x.f2_Symbols = 4328 := by decide +kernel
  have hw := wr_eq x hx k hk
  have hwr : wrF x = (fileF x.f0_Entry x.f1_Segments x.f2_Symbols, 0) := by
    rcases wr_cases x with h | h
    · exact h.2.2
    · exfalso
      unfold wrF writeF at h
      rw [if_pos hr, if_neg (by omega)] at h
      have := congrArg Prod.snd h
      exact absurd this (by decide)
  rw [hwr] at hw
  have h2 := back_read k hk x hx hr (by omega)
  have h3 := same_eq x hx k hk
  have hlen : ((fileF x.f0_Entry x.f1_Segments x.f2_Symbols).length : Int) = 4328 := by rw [file_len, hs]; rfl
  have hw : elf_Write.f k ⟨32768, [(32768, 8, (true, false, true, ()), [30, 255, 47, 225], ())], [((⟨#[109, 97, 105, 110]⟩ : ByteArray), 32768, ())]⟩ = some (fileF x.f0_Entry x.f1_Segments x.f2_Symbols, 0) := hw
  have h3 : atlaslaw23_same.f k ⟨32768, [(32768, 8, (true, false, true, ()), [30, 255, 47, 225], ())], [((⟨#[109, 97, 105, 110]⟩ : ByteArray), 32768, ())]⟩ ⟨x.f0_Entry, x.f1_Segments, x.f2_Symbols⟩ = some true := h3
  unfold atlaslaw23_alive.f
  simp only [hw, Option.bind_some, h2, hlen, beq_self_eq_true, cond_true, h3]
end
end Go.Va
