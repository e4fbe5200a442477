/-
  The symbols of a file read.
  Conditions: none.
-/
import Derived.Test.YtmphkmoakamepaaPureElfSeg
import Derived.Lib.Bytealg
set_option linter.unusedVariables false
set_option linter.unusedSimpArgs false
set_option autoImplicit false
set_option maxRecDepth 100000
namespace Go.Va
theorem bytesO_size (l : List Int) : (bytesO l).size = l.length := by simp [bytesO, ByteArray.size]
theorem extract_bytesO (l : List Int) (a e : Nat) : ByteArray.extract (bytesO l) a e = bytesO ((l.drop a).take (e - a)) := by
  apply ByteArray.ext
  rw [ByteArray.data_extract]
  apply Array.toList_inj.1
  simp [bytesO, List.map_drop, List.map_take, List.extract_eq_take_drop]
def z0 (l : List Int) : Bool := l.any (· == 0)
def zw (l : List Int) : List Int := l.takeWhile (fun x => !(x == 0))
theorem byte_zero (x : Int) (h : 0 ≤ x ∧ x < 256) : (UInt8.ofNat x.toNat == 0) = (x == 0) := by
  by_cases hx : x = 0
  · subst hx; rfl
  · rw [beq_eq_false_iff_ne.2 hx, beq_eq_false_iff_ne]
    intro he
    have := congrArg UInt8.toNat he
    rw [UInt8.toNat_ofNat'] at this
    have e0 : (0 : UInt8).toNat = 0 := rfl
    omega
theorem index_bytes (l : List Int) (h : ByB l) : Lib.indexByte (bytesO l).data.toList 0 = if z0 l = true then ((zw l).length : Int) else -1 := by
  have e : (bytesO l).data.toList = l.map fun x => UInt8.ofNat x.toNat := by simp [bytesO]
  rw [e]
  clear e
  induction l with
  | nil => rfl
  | cons x l ih =>
    have ih := ih (fun y hy => h y (List.mem_cons_of_mem _ hy))
    have hx := byte_zero x (h x List.mem_cons_self)
    rw [List.map_cons]
    unfold Lib.indexByte
    rw [hx, ih]
    unfold z0 zw at *
    rw [List.any_cons, List.takeWhile_cons]
    cases hq : (x == 0) with
    | true => simp
    | false =>
      simp only [Bool.false_eq_true, if_false, Bool.false_or, Bool.not_false, if_true]
      cases hz : (l.any fun x => x == 0) with
      | true =>
        simp only [if_true]
        have : ((((l.takeWhile fun x => !(x == 0)).length : Int)) == -1) = false := by rw [beq_eq_false_iff_ne]; omega
        rw [this]
        simp
      | false => simp
theorem zw_len (l : List Int) : (zw l).length ≤ l.length := by
  unfold zw
  induction l with
  | nil => exact Nat.le_refl _
  | cons x l ih => rw [List.takeWhile_cons]; split <;> simp <;> omega
theorem zw_take (l : List Int) : l.take (zw l).length = zw l := by
  unfold zw
  induction l with
  | nil => rfl
  | cons x l ih =>
    rw [List.takeWhile_cons]
    split
    · rw [List.length_cons, List.take_succ_cons, ih]
    · rfl
theorem zw_lt (l : List Int) (h : z0 l = true) : (zw l).length < l.length := by
  unfold z0 zw at *
  induction l with
  | nil => cases h
  | cons x l ih =>
    rw [List.any_cons] at h
    rw [List.takeWhile_cons]
    cases hx : (x == 0) with
    | true => simp
    | false =>
      rw [hx, Bool.false_or] at h
      have := ih h
      simp; omega
theorem z0_bytes (l : List Int) (h : ByB l) (hz : ((⟨#[0]⟩ : ByteArray).toList == (bytesO l).toList) = true) : Lib.indexByte (bytesO l).data.toList 0 = 0 := by
  have e : (⟨#[0]⟩ : ByteArray).toList = (bytesO l).toList := eq_of_beq hz
  rw [ByteArray.toList_eq, ByteArray.toList_eq] at e
  rw [← e]; rfl
theorem cut_eq (l : List Int) (h : ByB l) (hl : l.length ≤ 140737488351232) : ∃ r, strings_Cut.f (bytesO l) () = some r ∧ r.2.2 = z0 l ∧ (z0 l = true → r.1 = bytesO (zw l)) := by
  have hx : stringslite_Index.f (bytesO l) () = some (if z0 l = true then ((zw l).length : Int) else -1) := by
    unfold stringslite_Index.f stringslite_IndexByte.f
    have e : firstIdx (bytesO l) (0 : Int).toNat.toUInt8 = Lib.indexByte (bytesO l).data.toList 0 := Lib.firstIdx_eq _ _
    rw [e, ← index_bytes l h]
    cases hz : ((⟨#[0]⟩ : ByteArray).toList == (bytesO l).toList) with
    | false => rfl
    | true => rw [z0_bytes l h hz]; rfl
  unfold strings_Cut.f stringslite_Cut.f
  rw [hx]
  simp only [Option.bind_some, bytesO_size]
  cases hz : z0 l with
  | false =>
    simp only [Bool.false_eq_true, if_false]
    exact ⟨_, rfl, rfl, fun h => by cases h⟩
  | true =>
    have hlt := zw_lt l hz
    simp only [if_true]
    have a1 : decide (((zw l).length : Int) ≥ 0) = true := decide_eq_true (by omega)
    have a2 : decide (0 ≤ ((zw l).length : Int)) = true := decide_eq_true (by omega)
    have a3 : decide (((zw l).length : Int) ≤ ((l.length : Nat) : Int)) = true := decide_eq_true (by omega)
    have a4 : IntKind.wrap .i64 (((zw l).length : Int) + 1) = (((zw l).length + 1 : Nat) : Int) := wrap_i64n _ (by omega)
    have a5 : decide (0 ≤ (((zw l).length + 1 : Nat) : Int)) = true := decide_eq_true (by omega)
    have a6 : decide ((((zw l).length + 1 : Nat) : Int) ≤ ((l.length : Nat) : Int)) = true := decide_eq_true (by omega)
    simp only [a1, a2, a3, a4, a5, a6, Bool.and_self, cond_true, Option.bind_some, Int.toNat_natCast]
    refine ⟨_, rfl, rfl, fun _ => ?_⟩
    show ByteArray.extract (bytesO l) 0 (zw l).length = _
    rw [extract_bytesO, List.drop_zero, Nat.sub_zero, zw_take]
/-- The name at a place of the names' bytes. -/
def nmF (t : List Int) (n : Int) : Option ByteArray := if z0 (t.drop n.toNat) = true then some (bytesO (zw (t.drop n.toNat))) else none
theorem ByB.drop {l : List Int} (h : ByB l) (n : Nat) : ByB (l.drop n) := fun x hx => h x (List.mem_of_mem_drop hx)
theorem ByB.take {l : List Int} (h : ByB l) (n : Nat) : ByB (l.take n) := fun x hx => h x (List.mem_of_mem_take hx)
theorem nmF_none {t : List Int} {n : Int} (h : (t.length : Int) ≤ n) : nmF t n = none := by
  unfold nmF
  rw [List.drop_eq_nil_of_le (by omega)]
  rfl
theorem byB_all {l : List Int} (h : ByB l) : l.all (fun b => decide (0 ≤ b) && decide (b < 256)) = true := List.all_eq_true.2 fun b hb => by
  have := h b hb
  simp; omega
theorem rnamed_loop (k : Nat) (t : List Int) (h : ByB t) (hl : t.length ≤ 140737488351232) (n : Nat) : ∀ (m q fuel : Nat), t.length - q = m → n ≤ q → q ≤ t.length → m < fuel →
    atlasref23_named.q0.l k fuel (t, (n : Int), (q : Int)) = some (if z0 (t.drop q) = true then .inl (bytesO ((t.drop n).take (q - n + (zw (t.drop q)).length)), true) else .inr ()) := by
  intro m
  induction m with
  | zero =>
    intro q fuel hm hn hq hf
    obtain ⟨fuel, rfl⟩ : ∃ j, fuel = j + 1 := ⟨fuel - 1, by omega⟩
    have e : t.drop q = [] := List.drop_eq_nil_of_le (by omega)
    have d : decide ((q : Int) < IntKind.wrap .u64 ((t.length : Nat) : Int)) = false := decide_eq_false (by rw [wrap_u64e _ (by omega) (by omega)]; omega)
    simp only [atlasref23_named.q0.l, d, cond_false, e]
    rfl
  | succ m ih =>
    intro q fuel hm hn hq hf
    obtain ⟨fuel, rfl⟩ : ∃ j, fuel = j + 1 := ⟨fuel - 1, by omega⟩
    have hlt : q < t.length := by omega
    have d : decide ((q : Int) < IntKind.wrap .u64 ((t.length : Nat) : Int)) = true := decide_eq_true (by rw [wrap_u64e _ (by omega) (by omega)]; omega)
    have d1 : decide (0 ≤ (q : Int)) = true := decide_eq_true (by omega)
    have d2 : decide ((q : Int) < ((t.length : Nat) : Int)) = true := decide_eq_true (by omega)
    have d3 : decide ((q : Int) ≤ ((t.length : Nat) : Int)) = true := decide_eq_true (by omega)
    have d4 : decide (0 ≤ (n : Int)) = true := decide_eq_true (by omega)
    have d5 : decide ((n : Int) ≤ (q : Int)) = true := decide_eq_true (by omega)
    have hall := byB_all ((h.drop n).take (q - n))
    have hx : t.drop q = t.getD q 0 :: t.drop (q + 1) := by
      rw [List.drop_eq_getElem_cons hlt, List.getD_eq_getElem?_getD, List.getElem?_eq_getElem hlt]; rfl
    have w : IntKind.wrap .u64 ((q : Int) + 1) = ((q + 1 : Nat) : Int) := by rw [wrap_u64e _ (by omega) (by omega)]; omega
    simp only [atlasref23_named.q0.l, d, d1, d2, d3, d4, d5, Bool.and_self, cond_true, Int.toNat_natCast, hall, w]
    rw [hx]
    cases hz : (t.getD q 0 == 0) with
    | true =>
      have e1 : z0 (t.getD q 0 :: t.drop (q + 1)) = true := by unfold z0; rw [List.any_cons, hz]; rfl
      have e2 : zw (t.getD q 0 :: t.drop (q + 1)) = [] := by unfold zw; rw [List.takeWhile_cons, hz]; rfl
      rw [if_pos e1, e2]
      rfl
    | false =>
      rw [cond_false, ih (q + 1) fuel (by omega) (by omega) (by omega) (by omega)]
      have e1 : z0 (t.getD q 0 :: t.drop (q + 1)) = z0 (t.drop (q + 1)) := by unfold z0; rw [List.any_cons, hz, Bool.false_or]
      have e2 : zw (t.getD q 0 :: t.drop (q + 1)) = t.getD q 0 :: zw (t.drop (q + 1)) := by unfold zw; rw [List.takeWhile_cons, hz]; rfl
      rw [e1, e2, List.length_cons, show q + 1 - n + (zw (t.drop (q + 1))).length = q - n + ((zw (t.drop (q + 1))).length + 1) by omega]
theorem rnamed_eq (k : Nat) (t : List Int) (h : ByB t) (hl : t.length ≤ 140737488351232) (hk : t.length < k) (n : Int) (h0 : 0 ≤ n) : ∃ r, atlasref23_named.f k t n = some r ∧ match nmF t n with
    | some s => r = (s, true)
    | none => r.2 = false := by
  unfold atlasref23_named.f
  obtain ⟨n, rfl⟩ : ∃ j : Nat, n = j := ⟨n.toNat, by omega⟩
  rw [wrap_u64e ((t.length : Nat) : Int) (by omega) (by omega)]
  by_cases hn : (n : Int) ≥ ((t.length : Nat) : Int)
  · rw [decide_eq_true hn, cond_true, nmF_none hn]
    exact ⟨_, rfl, rfl⟩
  · rw [decide_eq_false hn, cond_false, rnamed_loop k t h hl n _ n k rfl (Nat.le_refl _) (by omega) (by omega)]
    unfold nmF
    rw [Int.toNat_natCast]
    cases hz : z0 (t.drop n) with
    | true =>
      rw [if_pos rfl, if_pos rfl, Nat.sub_self, Nat.zero_add, zw_take]
      exact ⟨_, rfl, rfl⟩
    | false => rw [if_neg (by simp), if_neg (by simp)]; exact ⟨_, rfl, rfl⟩
theorem nm_size {t : List Int} {n : Int} {s : ByteArray} (h : nmF t n = some s) : s.size ≤ t.length := by
  unfold nmF at h
  split at h
  · simp only [Option.some.injEq] at h
    rw [← h, bytesO_size]
    have := zw_len (t.drop n.toNat)
    rw [List.length_drop] at this
    omega
  · cases h
/-! ### The table -/
def stF {ρ : Type} (bad : ρ) (b : List Int) (p : Int) (t : List Int) (Y : List SymT) (q : Nat) : List SymT ⊕ ρ :=
  match nmF t (word b (p + 16 * q)) with
  | none => .inr bad
  | some s => bif nameB s && !has Y s then .inl (Y ++ [(s, word b (p + 16 * q + 4), ())]) else .inr bad
def tabF (b : List Int) (p : Int) (t : List Int) (C : Nat) : Option (List SymT) := runS (stF none b p t) some ((List.range C).drop 1) []
theorem st_map {ρ : Type} (bad : ρ) (e : List SymT → ρ) (b : List Int) (p : Int) (t : List Int) : ∀ (cs : List Nat) (Y : List SymT), runS (stF bad b p t) e cs Y = match runS (stF none b p t) some cs Y with
    | some Z => e Z
    | none => bad
  | [], Y => rfl
  | c :: cs, Y => by
    simp only [runS, stF]
    cases nmF t (word b (p + 16 * c)) with
    | none => rfl
    | some s =>
      simp only
      cases (nameB s && !has Y s) with
      | true => exact st_map bad e b p t cs _
      | false => rfl
theorem seen_opt (Y : List SymT) (s : ByteArray) : ((optD (mpGet .str (.int .i64) (seenM Y) s) (0 : Int) : Int) == (0 : Int)) = !has Y s := by
  unfold seenM
  rw [seen_get s Y []]
  cases has Y s <;> rfl
theorem seen_add (Y : List SymT) (s : ByteArray) (v : Int) : mpPut .str (.int .i64) (seenM Y) s 1 = seenM (Y ++ [(s, v, ())]) := by
  unfold seenM
  rw [List.foldl_append]; rfl
section
variable (k : Nat) (hk : reachBytes < k) (b : List Int) (hb : ByB b) (hl : b.length ≤ 140737488351232) (t : List Int) (ht : ByB t) (htl : t.length ≤ 140737488351232) (p : Int) (hp : 0 ≤ p) (C : Nat) (hC : C ≤ 1025) (hpc : p + 16 * C ≤ (b.length : Int))
include hk hb hl ht htl hp hC hpc
theorem named_loop : ∀ (cs : List Nat) (n q : Nat) (Y : List SymT), (List.range C).drop q = cs → q ≤ (List.range C).length → cs.length < n → Y.length ≤ q →
    elf_reader_named.q0.l k n (p, (C : Int), bytesO t, (q : Int), b, Y, seenM Y) = some (runS (stF (.inl (⟨238⟩, ())) b p t) .inr cs Y) := by
  have hr := reach_v
  have hm := maxLen_v
  refine loop_run (List.range C) (fun q Y => Y.length ≤ q) (stF (.inl (⟨238⟩, ())) b p t) .inr (fun n q Y => elf_reader_named.q0.l k n (p, (C : Int), bytesO t, (q : Int), b, Y, seenM Y)) (fun n Y _ => ?_) (fun n q c Y hc hq hI => ?_)
  · rw [List.length_range]
    simp only [elf_reader_named.q0.l, decide_eq_false (show ¬ (C : Int) < (C : Int) by omega), cond_false]
  · rw [List.length_range] at hq
    have hcq : c = q := by
      rw [List.getElem?_range hq] at hc
      exact (Option.some.inj hc).symm
    subst hcq
    have w16 : IntKind.wrap .u64 ((c : Int) * 16) = 16 * (c : Int) := by rw [wrap_u64e _ (by omega) (by omega)]; omega
    have wat : IntKind.wrap .u64 (p + 16 * (c : Int)) = p + 16 * (c : Int) := wrap_u64e _ (by omega) (by omega)
    have wat4 : IntKind.wrap .u64 (p + 16 * (c : Int) + 4) = p + 16 * (c : Int) + 4 := wrap_u64e _ (by omega) (by omega)
    have w1 : IntKind.wrap .u64 ((c : Int) + 1) = ((c + 1 : Nat) : Int) := by rw [wrap_u64e _ (by omega) (by omega)]; omega
    have e1 := word_e k (by omega) b hb hl (p + 16 * (c : Int)) (by omega) (by omega)
    have e2 := word_e k (by omega) b hb hl (p + 16 * (c : Int) + 4) (by omega) (by omega)
    have rg := word_range hb (p + 16 * (c : Int))
    have wn : IntKind.wrap .u64 (word b (p + 16 * (c : Int))) = word b (p + 16 * (c : Int)) := wrap_u64e _ rg.1 (by omega)
    have d : decide ((c : Int) < (C : Int)) = true := decide_eq_true (by omega)
    have ws : IntKind.wrap .u64 ((t.length : Nat) : Int) = ((t.length : Nat) : Int) := wrap_u64e _ (by omega) (by omega)
    have main : elf_reader_named.q0.l k (n + 1) (p, (C : Int), bytesO t, (c : Int), b, Y, seenM Y) = match stF (ρ := (T77 × Unit) ⊕ List SymT) (.inl (⟨238⟩, ())) b p t Y c with
        | .inl Z => elf_reader_named.q0.l k n (p, (C : Int), bytesO t, ((c + 1 : Nat) : Int), b, Z, seenM Z)
        | .inr r => some r := by
      simp only [elf_reader_named.q0.l, d, cond_true, w16, wat, wat4, w1, e1, e2, Option.bind_some, must_bind, cond_false, wn, bytesO_size, ws]
      unfold stF
      by_cases hn : word b (p + 16 * (c : Int)) < ((t.length : Nat) : Int)
      · have d1 : decide (0 ≤ word b (p + 16 * (c : Int))) = true := decide_eq_true rg.1
        have d2 : decide (word b (p + 16 * (c : Int)) ≤ ((t.length : Nat) : Int)) = true := decide_eq_true (by omega)
        have ex : ByteArray.extract (bytesO t) (word b (p + 16 * (c : Int))).toNat t.length = bytesO (t.drop (word b (p + 16 * (c : Int))).toNat) := by
          rw [extract_bytesO]; congr 1
          rw [List.take_of_length_le (by rw [List.length_drop]; omega)]
        obtain ⟨r, h1, h2, h3⟩ := cut_eq (t.drop (word b (p + 16 * (c : Int))).toNat) (ht.drop _) (by rw [List.length_drop]; omega)
        simp only [decide_eq_true hn, d1, d2, Bool.and_self, cond_true, ex, h1, Option.bind_some, h2]
        cases hz : z0 (t.drop (word b (p + 16 * (c : Int))).toNat) with
        | false =>
          have e : nmF t (word b (p + 16 * (c : Int))) = none := by unfold nmF; rw [if_neg (by rw [hz]; simp)]
          rw [e]; rfl
        | true =>
          have hr1 := h3 hz
          have e : nmF t (word b (p + 16 * (c : Int))) = some r.1 := by unfold nmF; rw [if_pos hz, hr1]
          have hs := nm_size e
          rw [e, cond_true, (name_eq r.1 (by omega) k (by omega)).1]
          simp only [Option.bind_some]
          cases nameB r.1 with
          | false => rfl
          | true =>
            simp only [cond_true, seen_opt, Bool.true_and]
            cases has Y r.1 with
            | true => rfl
            | false =>
              have hY : (Y ++ [(r.1, word b (p + 16 * (c : Int) + 4), ())]).length = Y.length + 1 := by simp
              simp only [Bool.not_false, cond_true, hY, decide_eq_true (show Y.length + 1 ≤ maxLen by omega), decide_eq_true (show (Y.length + 1) * 24 ≤ 140737488355328 by omega), Bool.and_self, seen_add Y r.1 (word b (p + 16 * (c : Int) + 4))]
      · rw [decide_eq_false hn, nmF_none (by omega)]
        rfl
    refine ⟨fun Z hZ => ?_, fun r hr => ?_⟩
    · refine ⟨?_, ?_⟩
      · unfold stF at hZ
        split at hZ
        · cases hZ
        · rename_i s _
          cases hc : (nameB s && !has Y s) with
          | false => rw [hc] at hZ; cases hZ
          | true => rw [hc, cond_true] at hZ; cases hZ; simp; omega
      · rw [hZ] at main; exact main
    · rw [hr] at main; exact main
theorem rtable_loop (x : Int) (sz : Int) (hsz : IntKind.wrap .u64 (Int.tdiv sz 16) = (C : Int)) : ∀ (cs : List Nat) (n q : Nat) (Y : List SymT), (List.range C).drop q = cs → q ≤ (List.range C).length → cs.length < n → Y.length ≤ q →
    atlasref23_table.q0.l k n (b, p, sz, t, (q : Int), Y) = some (runS (stF (.inl (false, [])) b p t) .inr cs Y) := by
  have hr := reach_v
  have hm := maxLen_v
  refine loop_run (List.range C) (fun q Y => Y.length ≤ q) (stF (.inl (false, [])) b p t) .inr (fun n q Y => atlasref23_table.q0.l k n (b, p, sz, t, (q : Int), Y)) (fun n Y _ => ?_) (fun n q c Y hc hq hI => ?_)
  · rw [List.length_range]
    simp only [atlasref23_table.q0.l, hsz, decide_eq_false (show ¬ (C : Int) < (C : Int) by omega), cond_false]
  · rw [List.length_range] at hq
    have hcq : c = q := by
      rw [List.getElem?_range hq] at hc
      exact (Option.some.inj hc).symm
    subst hcq
    have w16 : IntKind.wrap .u64 (16 * (c : Int)) = 16 * (c : Int) := wrap_u64e _ (by omega) (by omega)
    have wat : IntKind.wrap .u64 (p + 16 * (c : Int)) = p + 16 * (c : Int) := wrap_u64e _ (by omega) (by omega)
    have w1 : IntKind.wrap .u64 ((c : Int) + 1) = ((c + 1 : Nat) : Int) := by rw [wrap_u64e _ (by omega) (by omega)]; omega
    have e1 := word_r k (by omega) b hb hl (p + 16 * (c : Int)) 0 (by omega) (by omega) (by omega)
    rw [show p + 16 * (c : Int) + 4 * 0 = p + 16 * (c : Int) by omega] at e1
    have e2 := word_r k (by omega) b hb hl (p + 16 * (c : Int)) 1 (by omega) (by omega) (by omega)
    rw [show p + 16 * (c : Int) + 4 * 1 = p + 16 * (c : Int) + 4 by omega] at e2
    have rg := word_range hb (p + 16 * (c : Int))
    have rg2 := word_range hb (p + 16 * (c : Int) + 4)
    have d : decide ((c : Int) < (C : Int)) = true := decide_eq_true (by omega)
    obtain ⟨r, h1, h2⟩ := rnamed_eq k t ht htl (by omega) (word b (p + 16 * (c : Int))) rg.1
    obtain ⟨v, h3⟩ := rfind_eq k ⟨0, [], Y⟩ r.1 (by show Y.length < _; omega) (by show Y.length < _; omega)
    have main : atlasref23_table.q0.l k (n + 1) (b, p, sz, t, (c : Int), Y) = match stF (ρ := (Bool × List SymT) ⊕ List SymT) (.inl (false, [])) b p t Y c with
        | .inl Z => atlasref23_table.q0.l k n (b, p, sz, t, ((c + 1 : Nat) : Int), Z)
        | .inr r => some r := by
      simp only [atlasref23_table.q0.l, hsz, d, cond_true, w16, wat, w1, e1, e2, Option.bind_some, h1, h3, wrap_u32e _ rg2.1 rg2.2]
      unfold stF
      cases hn : nmF t (word b (p + 16 * (c : Int))) with
      | none =>
        rw [hn] at h2
        have h2 : r.2 = false := h2
        rw [h2]; rfl
      | some s =>
        rw [hn] at h2
        have h2 : r = (s, true) := h2
        subst h2
        have hs := nm_size hn
        simp only [Bool.not_true, cond_false]
        cases has Y s with
        | true => cases nameB s <;> rfl
        | false =>
          rw [cond_false, (name_eq s (by omega) k (by omega)).2]
          simp only [Option.bind_some]
          cases nameB s with
          | false => rfl
          | true =>
            have hY : (Y ++ [(s, word b (p + 16 * (c : Int) + 4), ())]).length = Y.length + 1 := by simp
            simp only [Bool.not_true, cond_false, Bool.not_false, Bool.and_self, cond_true, hY, decide_eq_true (show Y.length + 1 ≤ maxLen by omega), decide_eq_true (show (Y.length + 1) * 24 ≤ 140737488355328 by omega)]
    refine ⟨fun Z hZ => ?_, fun r hr => ?_⟩
    · refine ⟨?_, ?_⟩
      · unfold stF at hZ
        split at hZ
        · cases hZ
        · rename_i s _
          cases hc : (nameB s && !has Y s) with
          | false => rw [hc] at hZ; cases hZ
          | true => rw [hc, cond_true] at hZ; cases hZ; simp; omega
      · rw [hZ] at main; exact main
    · rw [hr] at main; exact main
theorem named_eq (h1 : 1 ≤ C) : elf_reader_named.f k ⟨b⟩ p (C : Int) (bytesO t) = some (match tabF b p t C with
    | some Y => .inr Y
    | none => .inl ⟨238⟩) := by
  have hr := reach_v
  have h := named_loop k hk b hb hl t ht htl p hp C hC hpc ((List.range C).drop 1) k 1 [] rfl (by rw [List.length_range]; omega) (by rw [List.length_drop, List.length_range]; omega) (Nat.zero_le _)
  unfold elf_reader_named.f tabF
  have e : seenM [] = [] := rfl
  rw [e] at h
  rw [show (1 : Int) = ((1 : Nat) : Int) from rfl, h, st_map]
  cases runS (stF none b p t) some ((List.range C).drop 1) [] <;> rfl
end
end Go.Va
