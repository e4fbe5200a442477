/-
  Numbers of two and four bytes of a file.
  Conditions: none.
-/
import Derived.Test.YtmphkmoakamepaaPureMa
import Derived.Lib.Bytealg

set_option linter.unusedVariables false
set_option linter.unusedSimpArgs false
set_option autoImplicit false
set_option maxRecDepth 100000
namespace Go.Va
def bt (b : List Int) (i : Nat) : Int := b.getD i 0
def num (b : List Int) (a : Nat) : Nat → Int
  | 0 => 0
  | m + 1 => bt b (a + m) * 256 ^ m + num b a m
def ByB (b : List Int) : Prop := ∀ x ∈ b, 0 ≤ x ∧ x < 256
theorem bt_byte {b : List Int} (h : ByB b) (i : Nat) : 0 ≤ bt b i ∧ bt b i < 256 := by
  unfold bt
  rw [List.getD_eq_getElem?_getD]
  cases hq : b[i]? with
  | none => exact ⟨Int.le_refl _, by decide⟩
  | some x => exact h x (List.mem_of_getElem? hq)
theorem pow4 (m : Nat) (h : m ≤ 4) : (256 : Int) ^ m = if m = 0 then 1 else if m = 1 then 256 else if m = 2 then 65536 else if m = 3 then 16777216 else 4294967296 := by
  rcases m with _ | _ | _ | _ | _ | m
  · rfl
  · rfl
  · rfl
  · rfl
  · rfl
  · omega
theorem num_range {b : List Int} (h : ByB b) (a : Nat) : ∀ m, 0 ≤ num b a m ∧ num b a m < 256 ^ m := by
  intro m
  induction m with
  | zero => exact ⟨Int.le_refl _, by simp [num]⟩
  | succ m ih =>
    have h1 := bt_byte h (a + m)
    simp only [num]
    rw [Int.pow_succ]
    have h2 : (0 : Int) < 256 ^ m := Int.pow_pos (by decide)
    have h3 : bt b (a + m) * 256 ^ m ≤ 255 * 256 ^ m := Int.mul_le_mul_of_nonneg_right (by omega) (Int.le_of_lt h2)
    have h4 : 0 ≤ bt b (a + m) * 256 ^ m := Int.mul_nonneg h1.1 (Int.le_of_lt h2)
    constructor <;> omega
theorem orshl (v c : Int) (hv : 0 ≤ v) (hv2 : v < 16777216) (hc : 0 ≤ c) (hc2 : c < 256) : orI .u32 (shlI .u32 v 8) (IntKind.wrap .u32 c) = v * 256 + c := by
  obtain ⟨n, rfl⟩ : ∃ n : Nat, v = n := ⟨v.toNat, by omega⟩
  obtain ⟨m, rfl⟩ : ∃ m : Nat, c = m := ⟨c.toNat, by omega⟩
  have e1 : shlI .u32 (n : Int) 8 = ((n * 256 : Nat) : Int) := by
    have : shlI .u32 (n : Int) 8 = IntKind.wrap .u32 ((n : Int) * 2 ^ 8) := rfl
    rw [this, wrap_u32v]
    have : (2 : Int) ^ 8 = 256 := by decide
    rw [this]; omega
  have e2 : IntKind.wrap .u32 (m : Int) = (m : Int) := by rw [wrap_u32v]; omega
  have e3 : orI .u32 ((n * 256 : Nat) : Int) (m : Int) = IntKind.wrap .u32 (((BitVec.ofInt 32 ((n * 256 : Nat) : Int) ||| BitVec.ofInt 32 (m : Int)).toNat : Nat) : Int) := rfl
  rw [e1, e2, e3, wrap_u32v]
  have e4 : (BitVec.ofInt 32 ((n * 256 : Nat) : Int) ||| BitVec.ofInt 32 (m : Int)).toNat = n * 256 + m := by
    rw [BitVec.toNat_or, BitVec.ofInt_natCast, BitVec.ofInt_natCast, BitVec.toNat_ofNat, BitVec.toNat_ofNat, Nat.mod_eq_of_lt (by omega), Nat.mod_eq_of_lt (by omega)]
    have := Nat.shiftLeft_add_eq_or_of_lt (i := 8) (b := m) (by omega) n
    rw [← show n <<< 8 = n * 256 by rw [Nat.shiftLeft_eq]] 
    exact this.symm
  rw [e4]
  omega
theorem num_loop (k : Nat) (b : List Int) (hb : ByB b) (a : Nat) (hl : b.length ≤ 140737488351232) : ∀ (m n : Nat) (v : Int), m < n → m ≤ 4 → 0 ≤ v → v < 256 ^ (4 - m) → a + m ≤ b.length →
    elf_reader_num.q0.l k n ((a : Int), v, (m : Int) - 1, b) = some (v * 256 ^ m + num b a m) := by
  intro m
  induction m with
  | zero =>
    intro n v hn _ _ _ _
    obtain ⟨n, rfl⟩ : ∃ j, n = j + 1 := ⟨n - 1, by omega⟩
    have e : v * 256 ^ 0 + num b a 0 = v := by simp [num]
    rw [e]
    have d : decide (((0 : Nat) : Int) - 1 ≥ 0) = false := by decide
    simp only [elf_reader_num.q0.l, d, cond_false]
  | succ m ih =>
    intro n v hn h4 hv hv2 hal
    obtain ⟨n, rfl⟩ : ∃ j, n = j + 1 := ⟨n - 1, by omega⟩
    have hbt := bt_byte hb (a + m)
    have p1 := pow4 (4 - m) (by omega)
    have p2 := pow4 (4 - (m + 1)) (by omega)
    have d : decide ((((m + 1 : Nat) : Int) - 1) ≥ 0) = true := decide_eq_true (by omega)
    have e1 : IntKind.wrap .u64 (((m + 1 : Nat) : Int) - 1) = (m : Int) := by rw [wrap_u64e _ (by omega) (by omega)]; omega
    have e2 : IntKind.wrap .u64 ((a : Int) + (m : Int)) = ((a + m : Nat) : Int) := by rw [wrap_u64e _ (by omega) (by omega)]; omega
    have e3 : IntKind.wrap .i64 (((m + 1 : Nat) : Int) - 1 - 1) = (m : Int) - 1 := by rw [wrap_i64e _ (by omega) (by omega)]; omega
    have hv3 : v < 16777216 := by
      rw [p2] at hv2
      split at hv2
      · omega
      · split at hv2
        · omega
        · split at hv2 <;> omega
    have hlt : v * 256 + bt b (a + m) < 256 ^ (4 - m) := by
      rcases m with _ | _ | _ | _ | m
      · rw [show (256 : Int) ^ (4 - (0 + 1)) = 16777216 from rfl] at hv2
        rw [show (256 : Int) ^ (4 - 0) = 4294967296 from rfl]; omega
      · rw [show (256 : Int) ^ (4 - (0 + 1 + 1)) = 65536 from rfl] at hv2
        rw [show (256 : Int) ^ (4 - (0 + 1)) = 16777216 from rfl]; omega
      · rw [show (256 : Int) ^ (4 - (0 + 1 + 1 + 1)) = 256 from rfl] at hv2
        rw [show (256 : Int) ^ (4 - (0 + 1 + 1)) = 65536 from rfl]; omega
      · rw [show (256 : Int) ^ (4 - (0 + 1 + 1 + 1 + 1)) = 1 from rfl] at hv2
        rw [show (256 : Int) ^ (4 - (0 + 1 + 1 + 1)) = 256 from rfl]; omega
      · omega
    have hval : v * 256 ^ (m + 1) + num b a (m + 1) = (v * 256 + bt b (a + m)) * 256 ^ m + num b a m := by
      simp only [num]
      rw [Int.pow_succ, Int.add_mul, Int.mul_assoc v 256, Int.mul_comm 256 (256 ^ m)]
      omega
    have i1 := ih n (v * 256 + bt b (a + m)) (by omega) (by omega) (by omega) hlt (by omega)
    have d1 : decide (0 ≤ ((a + m : Nat) : Int)) = true := decide_eq_true (by omega)
    have d2 : decide (((a + m : Nat) : Int) < ((b.length : Nat) : Int)) = true := decide_eq_true (by omega)
    have ebt : b.getD (a + m) 0 = bt b (a + m) := rfl
    rw [hval]
    simp only [elf_reader_num.q0.l, d, cond_true, e1, e2, d1, d2, Bool.and_self, Int.toNat_natCast, ebt, orshl v (bt b (a + m)) hv hv3 hbt.1 hbt.2, e3]
    exact i1
def half (b : List Int) (a : Int) : Int := num b a.toNat 2
def word (b : List Int) (a : Int) : Int := num b a.toNat 4
theorem half_range {b : List Int} (h : ByB b) (a : Int) : 0 ≤ half b a ∧ half b a < 65536 := num_range h _ 2
theorem word_range {b : List Int} (h : ByB b) (a : Int) : 0 ≤ word b a ∧ word b a < 4294967296 := num_range h _ 4
theorem num_eq (k : Nat) (hk : 5 ≤ k) (b : List Int) (hb : ByB b) (hl : b.length ≤ 140737488351232) (a : Int) (m : Nat) (h0 : 0 ≤ a) (hm : m ≤ 4) (ha : a + m ≤ (b.length : Int)) :
    elf_reader_num.f k ⟨b⟩ a m = some (num b a.toNat m) := by
  obtain ⟨n, rfl⟩ : ∃ n : Nat, a = n := ⟨a.toNat, by omega⟩
  have p : (0 : Int) < 256 ^ (4 - m) := Int.pow_pos (by decide)
  have h1 := num_loop k b hb n hl m k 0 (by omega) hm (Int.le_refl _) p (by omega)
  have e : IntKind.wrap .i64 ((m : Int) - 1) = (m : Int) - 1 := by rw [wrap_i64e _ (by omega) (by omega)]
  unfold elf_reader_num.f
  rw [e, h1, Int.toNat_natCast]
  simp
section
variable (k : Nat) (hk : 5 ≤ k) (b : List Int) (hb : ByB b) (hl : b.length ≤ 140737488351232)
include hk hb hl
theorem half_e (a : Int) (h0 : 0 ≤ a) (ha : a + 2 ≤ (b.length : Int)) : elf_reader_half.f k ⟨b⟩ a = some (half b a) := by
  have := num_eq k hk b hb hl a 2 h0 (by omega) (by omega)
  unfold elf_reader_half.f
  rw [show (2 : Int) = ((2 : Nat) : Int) from rfl, this]; rfl
theorem word_e (a : Int) (h0 : 0 ≤ a) (ha : a + 4 ≤ (b.length : Int)) : elf_reader_word.f k ⟨b⟩ a = some (word b a) := by
  have := num_eq k hk b hb hl a 4 h0 (by omega) (by omega)
  unfold elf_reader_word.f
  rw [show (4 : Int) = ((4 : Nat) : Int) from rfl, this]; rfl
end
theorem must_bind {β : Type} (c : Bool) (e : Int) (F : T77 → Option β) (G : Unit → Option β) : ((elf_must.f c e).bind fun r => Sum.elim F G r) = bif c then G () else F ⟨e⟩ := by
  cases c <;> rfl
theorem holds_e (b : List Int) (a n : Int) (ha : 0 ≤ a) (hn : 0 ≤ n) (h : a + n < 18446744073709551616) (hl : b.length ≤ 140737488351232) : elf_reader_holds.f ⟨b⟩ a n = some (decide (a + n ≤ (b.length : Int))) := by
  unfold elf_reader_holds.f
  rw [wrap_u64e (a + n) (by omega) h, wrap_u64e ((b.length : Nat) : Int) (by omega) (by omega)]
end Go.Va

/-
  A program header read.
  Conditions: none.
-/
namespace Go.Va
def dataF (b : List Int) (place size : Int) : List Int := if size > 0 then (b.drop place.toNat).take size.toNat else []
def rtsF (f : Int) : Bool × Bool × Bool × Unit := (f / 4 % 2 == 1, f / 2 % 2 == 1, f % 2 == 1, ())
def loadF (b : List Int) (a : Int) : Option SegT :=
  bif (word b (a + 12) == word b (a + 8) && decide (word b (a + 16) ≤ word b (a + 20))) && ((word b (a + 16) == 0 || decide (word b (a + 4) + word b (a + 16) ≤ (b.length : Int))) && (decide (word b (a + 24) < 8) && (word b (a + 28) == 4096 && segB (word b (a + 8), word b (a + 20), rtsF (word b (a + 24)), [], ())))) then
    some (word b (a + 8), word b (a + 20), rtsF (word b (a + 24)), dataF b (word b (a + 4)) (word b (a + 16)), ())
  else none
theorem dataF_len (b : List Int) (p s : Int) (hs : 0 ≤ s) (hp : 0 ≤ p) (h : s = 0 ∨ p + s ≤ (b.length : Int)) : ((dataF b p s).length : Int) = s := by
  unfold dataF
  split
  · rw [List.length_take, List.length_drop]
    omega
  · have : s = 0 := by omega
    rw [this]; rfl
theorem rts_elf (f : Int) (h0 : 0 ≤ f) (h1 : f < 8) : ((andI .u32 f 4) != 0, (andI .u32 f 2) != 0, (andI .u32 f 1) != 0, ()) = rtsF f := by
  have : f = 0 ∨ f = 1 ∨ f = 2 ∨ f = 3 ∨ f = 4 ∨ f = 5 ∨ f = 6 ∨ f = 7 := by omega
  rcases this with rfl | rfl | rfl | rfl | rfl | rfl | rfl | rfl <;> decide
theorem segB_data (v z : Int) (r : Bool × Bool × Bool × Unit) (d : List Int) (h : (d.length : Int) ≤ z) : segB (v, z, r, d, ()) = segB (v, z, r, [], ()) := by
  unfold segB endB
  have e1 : decide ((d.length : Int) ≤ z) = true := decide_eq_true h
  have e2 : decide ((([] : List Int).length : Int) ≤ z) = true := decide_eq_true (by simp; omega)
  simp only [e1, e2]
theorem clone_eq (l : List Int) (h : 0 < l.length) (hl : l.length ≤ 140737488351232) : slices_Clone_byte_byte.f l = some l := by
  unfold slices_Clone_byte_byte.f
  have e : l.isEmpty = false := by cases l with
    | nil => simp at h
    | cons x l => rfl
  have hm := maxLen_v
  rw [e, cond_false, List.nil_append, decide_eq_true (show l.length ≤ maxLen by omega), decide_eq_true (show l.length * 1 ≤ 211106232532992 by omega)]
  rfl
theorem eseg_q0 (k : Nat) (b : List Int) (hl : b.length ≤ 140737488351232) (p s v z : Int) (r : Bool × Bool × Bool × Unit) (hp : 0 ≤ p) (hp2 : p < 4294967296) (hs : 0 ≤ s) (hv : 0 ≤ v ∧ v < 4294967296) (hz : 0 ≤ z ∧ z < 4294967296) (hsz : s ≤ z) (h : s = 0 ∨ p + s ≤ (b.length : Int)) :
    elf_reader_segment.q0.l k (p, s, b, 0, 0, false, false, false, [], v, z, r.1, r.2.1, r.2.2.1, []) = some (bif segB (v, z, r, [], ()) then .inr (v, z, r.1, r.2.1, r.2.2.1, dataF b p s) else .inl (⟨235⟩, ())) := by
  have hd := dataF_len b p s hs hp h
  have hr := reach_v
  have hsg : elf_segment.f ⟨v, z, r.1, r.2.1, r.2.2.1, dataF b p s⟩ = some (segB (v, z, r, [], ())) := by
    have h1 := seg_eq (v, z, r, dataF b p s, ()) ⟨hv, hz, by show List.length (dataF b p s) ≤ reachBytes; omega⟩
    rw [← segB_data v z r (dataF b p s) (by omega)]
    exact h1
  simp only [elf_reader_segment.q0.l, must_bind]
  by_cases h0 : s > 0
  · have hps : p + s ≤ (b.length : Int) := by omega
    have e : dataF b p s = (b.drop p.toNat).take ((p + s).toNat - p.toNat) := by
      unfold dataF; rw [if_pos h0]; congr 1; omega
    have hc : slices_Clone_byte_byte.f ((b.drop p.toNat).take ((p + s).toNat - p.toNat)) = some (dataF b p s) := by
      rw [← e]; exact clone_eq _ (by omega) (by omega)
    have a1 : decide (0 ≤ p + s) = true := decide_eq_true (by omega)
    have a2 : decide (p + s ≤ ((b.length : Nat) : Int)) = true := decide_eq_true hps
    have a3 : decide (0 ≤ p) = true := decide_eq_true hp
    have a4 : decide (p ≤ (((p + s).toNat : Nat) : Int)) = true := decide_eq_true (by omega)
    simp only [decide_eq_true h0, cond_true, wrap_u64e (p + s) (by omega) (by omega), a1, a2, a3, a4, Bool.and_self, hc, Option.bind_some, hsg]
    cases segB (v, z, r, [], ()) <;> rfl
  · have e : dataF b p s = [] := by unfold dataF; rw [if_neg h0]
    rw [e] at hsg ⊢
    simp only [decide_eq_false h0, cond_false, hsg, Option.bind_some]
    cases segB (v, z, r, [], ()) <;> rfl
theorem eseg_eq (k : Nat) (hk : 5 ≤ k) (b : List Int) (hb : ByB b) (hl : b.length ≤ 140737488351232) (a : Int) (h0 : 0 ≤ a) (ha : a + 32 ≤ (b.length : Int)) :
    elf_reader_segment.f k ⟨b⟩ a = some (match loadF b a with
      | some s => .inr (segT s)
      | none => .inl ⟨235⟩) := by
  have w : ∀ j : Int, 0 ≤ j → j ≤ 28 → IntKind.wrap .u64 (a + j) = a + j := fun j h1 h2 => wrap_u64e _ (by omega) (by omega)
  have e : ∀ j : Int, 0 ≤ j → j ≤ 28 → elf_reader_word.f k ⟨b⟩ (a + j) = some (word b (a + j)) := fun j h1 h2 => word_e k hk b hb hl _ (by omega) (by omega)
  have rg : ∀ j : Int, 0 ≤ word b (a + j) ∧ word b (a + j) < 4294967296 := fun j => word_range hb _
  have wu : ∀ j : Int, IntKind.wrap .u64 (word b (a + j)) = word b (a + j) := fun j => wrap_u64e _ (rg j).1 (by have := (rg j).2; omega)
  unfold elf_reader_segment.f loadF
  simp only [w 4 (by omega) (by omega), w 16 (by omega) (by omega), w 24 (by omega) (by omega), w 8 (by omega) (by omega), w 20 (by omega) (by omega), w 12 (by omega) (by omega), w 28 (by omega) (by omega),
    e 4 (by omega) (by omega), e 16 (by omega) (by omega), e 24 (by omega) (by omega), e 8 (by omega) (by omega), e 20 (by omega) (by omega), e 12 (by omega) (by omega), e 28 (by omega) (by omega), Option.bind_some, must_bind, cond_true, cond_false, wu,
    holds_e b (word b (a + 4)) (word b (a + 16)) (rg 4).1 (rg 16).1 (by have := (rg 4).2; have := (rg 16).2; omega) hl]
  have r4 := rg 4; have r16 := rg 16; have r24 := rg 24; have r8 := rg 8; have r20 := rg 20
  generalize word b (a + 4) = p at *
  generalize word b (a + 16) = s at *
  generalize word b (a + 24) = f at *
  generalize word b (a + 8) = v at *
  generalize word b (a + 20) = z at *
  generalize word b (a + 12) = v2 at *
  generalize word b (a + 28) = pg at *
  cases c1 : (v2 == v) with
  | false => rfl
  | true =>
    simp only [cond_true, Bool.true_and]
    cases c2 : decide (s ≤ z) with
    | false => rfl
    | true =>
      have c2 := of_decide_eq_true c2
      simp only [cond_true, Bool.true_and]
      cases c4 : decide (f < 8) with
      | false =>
        simp only [cond_false, Bool.false_and, Bool.and_false]
        cases (s == 0) with
        | true => rfl
        | false => cases decide (p + s ≤ (b.length : Int)) <;> rfl
      | true =>
        have c4 := of_decide_eq_true c4
        simp only [cond_true, Bool.true_and]
        have hr := rts_elf f r24.1 c4
        have q1 := eseg_q0 k b hl p s v z (rtsF f) r4.1 r4.2 r16.1 r8 r20 c2
        rw [← hr] at q1 ⊢
        cases c3 : (s == 0) with
        | true =>
          have c3 := beq_iff_eq.1 c3
          simp only [cond_true, Bool.true_or, Bool.true_and]
          cases c5 : (pg == 4096) with
          | false => rfl
          | true =>
            rw [cond_true, q1 (.inl c3)]
            simp only [Option.bind_some, Bool.true_and]
            cases segB (v, z, _, [], ()) <;> rfl
        | false =>
          simp only [cond_false, Bool.false_or]
          cases c6 : decide (p + s ≤ (b.length : Int)) with
          | false => rfl
          | true =>
            have c6 := of_decide_eq_true c6
            simp only [cond_true, Bool.true_and]
            cases c5 : (pg == 4096) with
            | false => rfl
            | true =>
              rw [cond_true, q1 (.inr c6)]
              simp only [Option.bind_some, Bool.true_and]
              cases segB (v, z, _, [], ()) <;> rfl
theorem wrap_u32e (x : Int) (h0 : 0 ≤ x) (h1 : x < 4294967296) : IntKind.wrap .u32 x = x := by rw [wrap_u32v]; omega
end Go.Va

/-
  The symbols of a file read.
  Conditions: none.
-/
namespace Go.Va
theorem bytesO_size (l : List Int) : (bytesO l).size = l.length := by simp [bytesO, ByteArray.size]
theorem extract_bytesO (l : List Int) (a e : Nat) : ByteArray.extract (bytesO l) a e = bytesO ((l.drop a).take (e - a)) := by
  apply ByteArray.ext
  rw [ByteArray.data_extract]
  apply Array.toList_inj.1
  simp [bytesO, List.map_drop, List.map_take, List.extract_eq_take_drop]
def z0 (l : List Int) : Bool := l.any (· == 0)
def zw (l : List Int) : List Int := l.takeWhile (fun x => !(x == 0))
theorem byte_zero (x : Int) (h : 0 ≤ x ∧ x < 256) : (UInt8.ofNat x.toNat == 0) = (x == 0) := by
  by_cases hx : x = 0
  · subst hx; rfl
  · rw [beq_eq_false_iff_ne.2 hx, beq_eq_false_iff_ne]
    intro he
    have := congrArg UInt8.toNat he
    rw [UInt8.toNat_ofNat'] at this
    have e0 : (0 : UInt8).toNat = 0 := rfl
    omega
theorem index_bytes (l : List Int) (h : ByB l) : Lib.indexByte (bytesO l).data.toList 0 = if z0 l = true then ((zw l).length : Int) else -1 := by
  have e : (bytesO l).data.toList = l.map fun x => UInt8.ofNat x.toNat := by simp [bytesO]
  rw [e]
  clear e
  induction l with
  | nil => rfl
  | cons x l ih =>
    have ih := ih (fun y hy => h y (List.mem_cons_of_mem _ hy))
    have hx := byte_zero x (h x List.mem_cons_self)
    rw [List.map_cons]
    unfold Lib.indexByte
    rw [hx, ih]
    unfold z0 zw at *
    rw [List.any_cons, List.takeWhile_cons]
    cases hq : (x == 0) with
    | true => simp
    | false =>
      simp only [Bool.false_eq_true, if_false, Bool.false_or, Bool.not_false, if_true]
      cases hz : (l.any fun x => x == 0) with
      | true =>
        simp only [if_true]
        have : ((((l.takeWhile fun x => !(x == 0)).length : Int)) == -1) = false := by rw [beq_eq_false_iff_ne]; omega
        rw [this]
        simp
      | false => simp
theorem zw_len (l : List Int) : (zw l).length ≤ l.length := by
  unfold zw
  induction l with
  | nil => exact Nat.le_refl _
  | cons x l ih => rw [List.takeWhile_cons]; split <;> simp <;> omega
theorem zw_take (l : List Int) : l.take (zw l).length = zw l := by
  unfold zw
  induction l with
  | nil => rfl
  | cons x l ih =>
    rw [List.takeWhile_cons]
    split
    · rw [List.length_cons, List.take_succ_cons, ih]
    · rfl
theorem zw_lt (l : List Int) (h : z0 l = true) : (zw l).length < l.length := by
  unfold z0 zw at *
  induction l with
  | nil => cases h
  | cons x l ih =>
    rw [List.any_cons] at h
    rw [List.takeWhile_cons]
    cases hx : (x == 0) with
    | true => simp
    | false =>
      rw [hx, Bool.false_or] at h
      have := ih h
      simp; omega
theorem z0_bytes (l : List Int) (h : ByB l) (hz : ((⟨#[0]⟩ : ByteArray).toList == (bytesO l).toList) = true) : Lib.indexByte (bytesO l).data.toList 0 = 0 := by
  have e : (⟨#[0]⟩ : ByteArray).toList = (bytesO l).toList := eq_of_beq hz
  rw [ByteArray.toList_eq, ByteArray.toList_eq] at e
  rw [← e]; rfl
theorem cut_eq (l : List Int) (h : ByB l) (hl : l.length ≤ 140737488351232) : ∃ r, strings_Cut.f (bytesO l) () = some r ∧ r.2.2 = z0 l ∧ (z0 l = true → r.1 = bytesO (zw l)) := by
  have hx : stringslite_Index.f (bytesO l) () = some (if z0 l = true then ((zw l).length : Int) else -1) := by
    unfold stringslite_Index.f stringslite_IndexByte.f
    have e : firstIdx (bytesO l) (0 : Int).toNat.toUInt8 = Lib.indexByte (bytesO l).data.toList 0 := Lib.firstIdx_eq _ _
    rw [e, ← index_bytes l h]
    cases hz : ((⟨#[0]⟩ : ByteArray).toList == (bytesO l).toList) with
    | false => rfl
    | true => rw [z0_bytes l h hz]; rfl
  unfold strings_Cut.f stringslite_Cut.f
  rw [hx]
  simp only [Option.bind_some, bytesO_size]
  cases hz : z0 l with
  | false =>
    simp only [Bool.false_eq_true, if_false]
    exact ⟨_, rfl, rfl, fun h => by cases h⟩
  | true =>
    have hlt := zw_lt l hz
    simp only [if_true]
    have a1 : decide (((zw l).length : Int) ≥ 0) = true := decide_eq_true (by omega)
    have a2 : decide (0 ≤ ((zw l).length : Int)) = true := decide_eq_true (by omega)
    have a3 : decide (((zw l).length : Int) ≤ ((l.length : Nat) : Int)) = true := decide_eq_true (by omega)
    have a4 : IntKind.wrap .i64 (((zw l).length : Int) + 1) = (((zw l).length + 1 : Nat) : Int) := wrap_i64n _ (by omega)
    have a5 : decide (0 ≤ (((zw l).length + 1 : Nat) : Int)) = true := decide_eq_true (by omega)
    have a6 : decide ((((zw l).length + 1 : Nat) : Int) ≤ ((l.length : Nat) : Int)) = true := decide_eq_true (by omega)
    simp only [a1, a2, a3, a4, a5, a6, Bool.and_self, cond_true, Option.bind_some, Int.toNat_natCast]
    refine ⟨_, rfl, rfl, fun _ => ?_⟩
    show ByteArray.extract (bytesO l) 0 (zw l).length = _
    rw [extract_bytesO, List.drop_zero, Nat.sub_zero, zw_take]
/-- The name at a place of the names' bytes. -/
def nmF (t : List Int) (n : Int) : Option ByteArray := if z0 (t.drop n.toNat) = true then some (bytesO (zw (t.drop n.toNat))) else none
theorem ByB.drop {l : List Int} (h : ByB l) (n : Nat) : ByB (l.drop n) := fun x hx => h x (List.mem_of_mem_drop hx)
theorem ByB.take {l : List Int} (h : ByB l) (n : Nat) : ByB (l.take n) := fun x hx => h x (List.mem_of_mem_take hx)
theorem nmF_none {t : List Int} {n : Int} (h : (t.length : Int) ≤ n) : nmF t n = none := by
  unfold nmF
  rw [List.drop_eq_nil_of_le (by omega)]
  rfl
theorem byB_all {l : List Int} (h : ByB l) : l.all (fun b => decide (0 ≤ b) && decide (b < 256)) = true := List.all_eq_true.2 fun b hb => by
  have := h b hb
  simp; omega
theorem nm_size {t : List Int} {n : Int} {s : ByteArray} (h : nmF t n = some s) : s.size ≤ t.length := by
  unfold nmF at h
  split at h
  · simp only [Option.some.injEq] at h
    rw [← h, bytesO_size]
    have := zw_len (t.drop n.toNat)
    rw [List.length_drop] at this
    omega
  · cases h
/-! ### The table -/
def stF {ρ : Type} (bad : ρ) (b : List Int) (p : Int) (t : List Int) (Y : List SymT) (q : Nat) : List SymT ⊕ ρ :=
  match nmF t (word b (p + 16 * q)) with
  | none => .inr bad
  | some s => bif nameB s && !has Y s then .inl (Y ++ [(s, word b (p + 16 * q + 4), ())]) else .inr bad
def tabF (b : List Int) (p : Int) (t : List Int) (C : Nat) : Option (List SymT) := runS (stF none b p t) some ((List.range C).drop 1) []
theorem st_map {ρ : Type} (bad : ρ) (e : List SymT → ρ) (b : List Int) (p : Int) (t : List Int) : ∀ (cs : List Nat) (Y : List SymT), runS (stF bad b p t) e cs Y = match runS (stF none b p t) some cs Y with
    | some Z => e Z
    | none => bad
  | [], Y => rfl
  | c :: cs, Y => by
    simp only [runS, stF]
    cases nmF t (word b (p + 16 * c)) with
    | none => rfl
    | some s =>
      simp only
      cases (nameB s && !has Y s) with
      | true => exact st_map bad e b p t cs _
      | false => rfl
theorem seen_opt (Y : List SymT) (s : ByteArray) : ((optD (mpGet .str (.int .i64) (seenM Y) s) (0 : Int) : Int) == (0 : Int)) = !has Y s := by
  unfold seenM
  rw [seen_get s Y []]
  cases has Y s <;> rfl
theorem seen_add (Y : List SymT) (s : ByteArray) (v : Int) : mpPut .str (.int .i64) (seenM Y) s 1 = seenM (Y ++ [(s, v, ())]) := by
  unfold seenM
  rw [List.foldl_append]; rfl
section
variable (k : Nat) (hk : reachBytes < k) (b : List Int) (hb : ByB b) (hl : b.length ≤ 140737488351232) (t : List Int) (ht : ByB t) (htl : t.length ≤ 140737488351232) (p : Int) (hp : 0 ≤ p) (C : Nat) (hC : C ≤ 1025) (hpc : p + 16 * C ≤ (b.length : Int))
include hk hb hl ht htl hp hC hpc
theorem named_loop : ∀ (cs : List Nat) (n q : Nat) (Y : List SymT), (List.range C).drop q = cs → q ≤ (List.range C).length → cs.length < n → Y.length ≤ q →
    elf_reader_named.q0.l k n (p, (C : Int), bytesO t, (q : Int), b, Y, seenM Y) = some (runS (stF (.inl (⟨238⟩, ())) b p t) .inr cs Y) := by
  have hr := reach_v
  have hm := maxLen_v
  refine loop_run (List.range C) (fun q Y => Y.length ≤ q) (stF (.inl (⟨238⟩, ())) b p t) .inr (fun n q Y => elf_reader_named.q0.l k n (p, (C : Int), bytesO t, (q : Int), b, Y, seenM Y)) (fun n Y _ => ?_) (fun n q c Y hc hq hI => ?_)
  · rw [List.length_range]
    simp only [elf_reader_named.q0.l, decide_eq_false (show ¬ (C : Int) < (C : Int) by omega), cond_false]
  · rw [List.length_range] at hq
    have hcq : c = q := by
      rw [List.getElem?_range hq] at hc
      exact (Option.some.inj hc).symm
    subst hcq
    have w16 : IntKind.wrap .u64 ((c : Int) * 16) = 16 * (c : Int) := by rw [wrap_u64e _ (by omega) (by omega)]; omega
    have wat : IntKind.wrap .u64 (p + 16 * (c : Int)) = p + 16 * (c : Int) := wrap_u64e _ (by omega) (by omega)
    have wat4 : IntKind.wrap .u64 (p + 16 * (c : Int) + 4) = p + 16 * (c : Int) + 4 := wrap_u64e _ (by omega) (by omega)
    have w1 : IntKind.wrap .u64 ((c : Int) + 1) = ((c + 1 : Nat) : Int) := by rw [wrap_u64e _ (by omega) (by omega)]; omega
    have e1 := word_e k (by omega) b hb hl (p + 16 * (c : Int)) (by omega) (by omega)
    have e2 := word_e k (by omega) b hb hl (p + 16 * (c : Int) + 4) (by omega) (by omega)
    have rg := word_range hb (p + 16 * (c : Int))
    have wn : IntKind.wrap .u64 (word b (p + 16 * (c : Int))) = word b (p + 16 * (c : Int)) := wrap_u64e _ rg.1 (by omega)
    have d : decide ((c : Int) < (C : Int)) = true := decide_eq_true (by omega)
    have ws : IntKind.wrap .u64 ((t.length : Nat) : Int) = ((t.length : Nat) : Int) := wrap_u64e _ (by omega) (by omega)
    have main : elf_reader_named.q0.l k (n + 1) (p, (C : Int), bytesO t, (c : Int), b, Y, seenM Y) = match stF (ρ := (T77 × Unit) ⊕ List SymT) (.inl (⟨238⟩, ())) b p t Y c with
        | .inl Z => elf_reader_named.q0.l k n (p, (C : Int), bytesO t, ((c + 1 : Nat) : Int), b, Z, seenM Z)
        | .inr r => some r := by
      simp only [elf_reader_named.q0.l, d, cond_true, w16, wat, wat4, w1, e1, e2, Option.bind_some, must_bind, cond_false, wn, bytesO_size, ws]
      unfold stF
      by_cases hn : word b (p + 16 * (c : Int)) < ((t.length : Nat) : Int)
      · have d1 : decide (0 ≤ word b (p + 16 * (c : Int))) = true := decide_eq_true rg.1
        have d2 : decide (word b (p + 16 * (c : Int)) ≤ ((t.length : Nat) : Int)) = true := decide_eq_true (by omega)
        have ex : ByteArray.extract (bytesO t) (word b (p + 16 * (c : Int))).toNat t.length = bytesO (t.drop (word b (p + 16 * (c : Int))).toNat) := by
          rw [extract_bytesO]; congr 1
          rw [List.take_of_length_le (by rw [List.length_drop]; omega)]
        obtain ⟨r, h1, h2, h3⟩ := cut_eq (t.drop (word b (p + 16 * (c : Int))).toNat) (ht.drop _) (by rw [List.length_drop]; omega)
        simp only [decide_eq_true hn, d1, d2, Bool.and_self, cond_true, ex, h1, Option.bind_some, h2]
        cases hz : z0 (t.drop (word b (p + 16 * (c : Int))).toNat) with
        | false =>
          have e : nmF t (word b (p + 16 * (c : Int))) = none := by unfold nmF; rw [if_neg (by rw [hz]; simp)]
          rw [e]; rfl
        | true =>
          have hr1 := h3 hz
          have e : nmF t (word b (p + 16 * (c : Int))) = some r.1 := by unfold nmF; rw [if_pos hz, hr1]
          have hs := nm_size e
          rw [e, cond_true, (name_eq r.1 (by omega) k (by omega)).1]
          simp only [Option.bind_some]
          cases nameB r.1 with
          | false => rfl
          | true =>
            simp only [cond_true, seen_opt, Bool.true_and]
            cases has Y r.1 with
            | true => rfl
            | false =>
              have hY : (Y ++ [(r.1, word b (p + 16 * (c : Int) + 4), ())]).length = Y.length + 1 := by simp
              simp only [Bool.not_false, cond_true, hY, decide_eq_true (show Y.length + 1 ≤ maxLen by omega), decide_eq_true (show (Y.length + 1) * 24 ≤ 211106232532992 by omega), Bool.and_self, seen_add Y r.1 (word b (p + 16 * (c : Int) + 4))]
      · rw [decide_eq_false hn, nmF_none (by omega)]
        rfl
    refine ⟨fun Z hZ => ?_, fun r hr => ?_⟩
    · refine ⟨?_, ?_⟩
      · unfold stF at hZ
        split at hZ
        · cases hZ
        · rename_i s _
          cases hc : (nameB s && !has Y s) with
          | false => rw [hc] at hZ; cases hZ
          | true => rw [hc, cond_true] at hZ; cases hZ; simp; omega
      · rw [hZ] at main; exact main
    · rw [hr] at main; exact main
theorem named_eq (h1 : 1 ≤ C) : elf_reader_named.f k ⟨b⟩ p (C : Int) (bytesO t) = some (match tabF b p t C with
    | some Y => .inr Y
    | none => .inl ⟨238⟩) := by
  have hr := reach_v
  have h := named_loop k hk b hb hl t ht htl p hp C hC hpc ((List.range C).drop 1) k 1 [] rfl (by rw [List.length_range]; omega) (by rw [List.length_drop, List.length_range]; omega) (Nat.zero_le _)
  unfold elf_reader_named.f tabF
  have e : seenM [] = [] := rfl
  rw [e] at h
  rw [show (1 : Int) = ((1 : Nat) : Int) from rfl, h, st_map]
  cases runS (stF none b p t) some ((List.range C).drop 1) [] <;> rfl
end
end Go.Va

/-
  The sections of a file gone through.
  Conditions: none.
-/
namespace Go.Va
/-- The symbols by the header of their section and that of their names. -/
def txtF (b : List Int) (nm p z : Int) : Option (List SymT) :=
  bif (word b (nm + 4) == 3 && (word b (nm + 20) == 0 || decide (word b (nm + 16) + word b (nm + 20) ≤ (b.length : Int)))) && decide (z / 16 ≤ 1025) then tabF b p (dataF b (word b (nm + 16)) (word b (nm + 20))) (z / 16).toNat else none
def tblF (b : List Int) (sec m a : Int) : Option (List SymT) :=
  bif (decide (word b (a + 20) > 0) && word b (a + 20) % 16 == 0) && (decide (word b (a + 16) + word b (a + 20) ≤ (b.length : Int)) && decide (word b (a + 24) < m)) then
    txtF b (sec + 40 * word b (a + 24)) (word b (a + 16)) (word b (a + 20))
  else none
def scF {ρ : Type} (g : Option (List SymT) → ρ) (b : List Int) (sec m : Int) (_ : Unit) (q : Nat) : Unit ⊕ ρ := bif word b (sec + 40 * q + 4) == 2 then .inr (g (tblF b sec m (sec + 40 * q))) else .inl ()
def symF (b : List Int) (sec : Int) (m : Nat) : Option (List SymT) := runS (scF id b sec m) (fun _ => some []) (List.range m) ()
theorem sc_map {ρ : Type} (g : Option (List SymT) → ρ) (b : List Int) (sec m : Int) : ∀ cs : List Nat, (∃ Y, runS (scF (ρ := Option (List SymT) ⊕ Unit) .inl b sec m) (fun _ => .inr ()) cs () = .inl Y ∧ runS (scF id b sec m) (fun _ => some []) cs () = Y ∧ ∀ e, runS (scF g b sec m) (fun _ => e) cs () = g Y) ∨
    (runS (scF (ρ := Option (List SymT) ⊕ Unit) .inl b sec m) (fun _ => .inr ()) cs () = .inr () ∧ runS (scF id b sec m) (fun _ => some []) cs () = some [] ∧ ∀ e, runS (scF g b sec m) (fun _ => e) cs () = e)
  | [] => .inr ⟨rfl, rfl, fun _ => rfl⟩
  | c :: cs => by
    simp only [runS, scF]
    cases (word b (sec + 40 * c + 4) == 2) with
    | true => exact .inl ⟨_, rfl, rfl, fun _ => rfl⟩
    | false => exact sc_map g b sec m cs
theorem dataF_byte {b : List Int} (h : ByB b) (p s : Int) : ByB (dataF b p s) := by
  unfold dataF
  split
  · exact (h.drop _).take _
  · intro x hx; cases hx
section
variable (k : Nat) (hk : reachBytes < k) (b : List Int) (hb : ByB b) (hl : b.length ≤ 140737488351232)
include hk hb hl
theorem etxt_eq (sec p z l : Int) (h0 : 0 ≤ sec) (h1 : sec < 4294967296) (hp : 0 ≤ p) (hp1 : p < 4294967296) (hz : 0 < z) (hz1 : z < 4294967296) (hz16 : z % 16 = 0) (hpz : p + z ≤ (b.length : Int)) (hl0 : 0 ≤ l) (hl1 : l < 65536) (hn : sec + 40 * l + 40 ≤ (b.length : Int)) :
    elf_reader_symbols.q1.l k (sec, p, z, l, b) = some (match txtF b (sec + 40 * l) p z with
      | some Y => .inr Y
      | none => .inl (⟨238⟩, ())) := by
  have hr := reach_v
  have w0 : IntKind.wrap .u64 (l * 40) = 40 * l := by rw [wrap_u64e _ (by omega) (by omega)]; omega
  have w1 : IntKind.wrap .u64 (sec + 40 * l) = sec + 40 * l := wrap_u64e _ (by omega) (by omega)
  have wj : ∀ j : Int, 0 ≤ j → j ≤ 36 → IntKind.wrap .u64 (sec + 40 * l + j) = sec + 40 * l + j := fun j a1 a2 => wrap_u64e _ (by omega) (by omega)
  have e : ∀ j : Int, 0 ≤ j → j ≤ 36 → elf_reader_word.f k ⟨b⟩ (sec + 40 * l + j) = some (word b (sec + 40 * l + j)) := fun j a1 a2 => word_e k (by omega) b hb hl _ (by omega) (by omega)
  have rg : ∀ j : Int, 0 ≤ word b (sec + 40 * l + j) ∧ word b (sec + 40 * l + j) < 4294967296 := fun j => word_range hb _
  have wu : ∀ j : Int, IntKind.wrap .u64 (word b (sec + 40 * l + j)) = word b (sec + 40 * l + j) := fun j => wrap_u64e _ (rg j).1 (by have := (rg j).2; omega)
  have td : IntKind.wrap .u64 (Int.tdiv z 16) = z / 16 := by rw [Int.tdiv_eq_ediv_of_nonneg (by omega), wrap_u64e _ (by omega) (by omega)]
  have r16 := rg 16; have r20 := rg 20
  simp only [elf_reader_symbols.q1.l, w0, w1, wj 4 (by omega) (by omega), wj 16 (by omega) (by omega), wj 20 (by omega) (by omega), e 4 (by omega) (by omega), e 16 (by omega) (by omega), e 20 (by omega) (by omega), Option.bind_some, must_bind, cond_true, cond_false, wu, td,
    holds_e b _ _ r16.1 r20.1 (by omega) hl]
  unfold txtF
  have hdb := dataF_byte hb (word b (sec + 40 * l + 16)) (word b (sec + 40 * l + 20))
  have hdl := dataF_len b (word b (sec + 40 * l + 16)) (word b (sec + 40 * l + 20)) r20.1 r16.1
  generalize word b (sec + 40 * l + 4) = ty at *
  generalize word b (sec + 40 * l + 16) = fr at *
  generalize word b (sec + 40 * l + 20) = ln at *
  cases c1 : (ty == 3) with
  | false => rfl
  | true =>
    have fin : (ln = 0 ∨ fr + ln ≤ (b.length : Int)) → z / 16 ≤ 1025 →
        (bif decide (ln > 0) then (bif decide (0 ≤ IntKind.wrap .u64 (fr + ln)) && decide (IntKind.wrap .u64 (fr + ln) ≤ ((b.length : Nat) : Int)) then (bif decide (0 ≤ fr) && decide (fr ≤ (((IntKind.wrap .u64 (fr + ln)).toNat : Nat) : Int)) then
          (bif ((b.drop fr.toNat).take ((IntKind.wrap .u64 (fr + ln)).toNat - fr.toNat)).all (fun x => decide (0 ≤ x) && decide (x < 256)) then
            ((elf_reader_named.f k ⟨b⟩ p (z / 16) (bytesO ((b.drop fr.toNat).take ((IntKind.wrap .u64 (fr + ln)).toNat - fr.toNat)))).bind fun r18 => (Sum.elim (fun r20 => (some (Sum.inl ((⟨r20.f0_e⟩ : T77), ())))) (fun r19 => (some (Sum.inr r19))) r18)) else none) else none) else none)
        else ((elf_reader_named.f k ⟨b⟩ p (z / 16) (⟨#[]⟩ : ByteArray)).bind fun r21 => (Sum.elim (fun r23 => (some (Sum.inl ((⟨r23.f0_e⟩ : T77), ())))) (fun r22 => (some (Sum.inr r22))) r21)) : Option ((T77 × Unit) ⊕ List SymT)) = some (match tabF b p (dataF b fr ln) (z / 16).toNat with
          | some Y => .inr Y
          | none => .inl (⟨238⟩, ())) := by
      intro hfl hcnt
      have hdl := hdl hfl
      have hC : ((z / 16).toNat : Int) = z / 16 := by omega
      have hnm := named_eq k hk b hb hl (dataF b fr ln) hdb (by omega) p hp (z / 16).toNat (by omega) (by omega) (by omega)
      rw [hC] at hnm
      have last : ∀ x : Option (List SymT), ((some (match x with
          | some Y => (.inr Y : T77 ⊕ List SymT)
          | none => .inl ⟨238⟩)).bind fun r21 => (Sum.elim (fun r23 => (some (Sum.inl ((⟨r23.f0_e⟩ : T77), ())))) (fun r22 => (some (Sum.inr r22))) r21 : Option ((T77 × Unit) ⊕ List SymT))) = some (match x with
          | some Y => .inr Y
          | none => .inl (⟨238⟩, ())) := fun x => by cases x <;> rfl
      by_cases hp0 : ln > 0
      · have w2 : IntKind.wrap .u64 (fr + ln) = fr + ln := wrap_u64e _ (by omega) (by omega)
        have a1 : decide (0 ≤ fr + ln) = true := decide_eq_true (by omega)
        have a2 : decide (fr + ln ≤ ((b.length : Nat) : Int)) = true := decide_eq_true (by omega)
        have a3 : decide (0 ≤ fr) = true := decide_eq_true r16.1
        have a4 : decide (fr ≤ (((fr + ln).toNat : Nat) : Int)) = true := decide_eq_true (by omega)
        have e : (b.drop fr.toNat).take ((fr + ln).toNat - fr.toNat) = dataF b fr ln := by
          unfold dataF; rw [if_pos hp0]; congr 1; omega
        simp only [decide_eq_true hp0, w2, a1, a2, a3, a4, Bool.and_self, cond_true, e, byB_all hdb, hnm]
        exact last _
      · have e : dataF b fr ln = [] := by unfold dataF; rw [if_neg hp0]
        rw [e] at hnm ⊢
        have e2 : (⟨#[]⟩ : ByteArray) = bytesO [] := rfl
        simp only [decide_eq_false hp0, cond_false, e2, hnm]
        exact last _
    simp only [cond_true, Bool.true_and]
    cases c2 : (ln == 0) with
    | true =>
      have c2 := beq_iff_eq.1 c2
      simp only [cond_true, Bool.true_or, Bool.true_and]
      cases c3 : decide (z / 16 ≤ 1025) with
      | false => rfl
      | true => exact fin (.inl c2) (of_decide_eq_true c3)
    | false =>
      simp only [cond_false, Bool.false_or]
      cases c4 : decide (fr + ln ≤ (b.length : Int)) with
      | false => rfl
      | true =>
        simp only [cond_true, Bool.true_and]
        cases c3 : decide (z / 16 ≤ 1025) with
        | false => rfl
        | true => exact fin (.inr (of_decide_eq_true c4)) (of_decide_eq_true c3)
theorem esyms_eq (sec : Int) (h0 : 0 ≤ sec) (h1 : sec < 4294967296) (m : Nat) (hm : m < 65536) (hs : m = 0 ∨ sec + 40 * m ≤ (b.length : Int)) :
    elf_reader_symbols.f k ⟨b⟩ sec (m : Int) = some (match symF b sec m with
      | some Y => .inr Y
      | none => .inl ⟨238⟩) := by
  have hr := reach_v
  have loop := loop_run (List.range m) (fun _ (_ : Unit) => True) (scF (ρ := (T77 × Unit) ⊕ (List SymT ⊕ Unit)) (fun o => match o with
      | some Y => .inr (.inl Y)
      | none => .inl (⟨238⟩, ())) b sec m) (fun _ => .inr (.inr ())) (fun n q _ => elf_reader_symbols.q0.l k n (sec, (m : Int), (m : Int), (q : Int), b)) (fun n _ _ => by
        rw [List.length_range]
        simp only [elf_reader_symbols.q0.l, decide_eq_false (show ¬ (m : Int) < (m : Int) by omega), cond_false]) (fun n q c _ hc hq _ => by
      rw [List.length_range] at hq
      have hcq : c = q := by
        rw [List.getElem?_range hq] at hc
        exact (Option.some.inj hc).symm
      subst hcq
      have hs := hs.resolve_left (by omega)
      have w0 : IntKind.wrap .u64 ((c : Int) * 40) = 40 * (c : Int) := by rw [wrap_u64e _ (by omega) (by omega)]; omega
      have w1 : IntKind.wrap .u64 (sec + 40 * (c : Int)) = sec + 40 * (c : Int) := wrap_u64e _ (by omega) (by omega)
      have wc : IntKind.wrap .u64 ((c : Int) + 1) = ((c + 1 : Nat) : Int) := by rw [wrap_u64e _ (by omega) (by omega)]; omega
      have wj : ∀ j : Int, 0 ≤ j → j ≤ 36 → IntKind.wrap .u64 (sec + 40 * (c : Int) + j) = sec + 40 * (c : Int) + j := fun j a1 a2 => wrap_u64e _ (by omega) (by omega)
      have e : ∀ j : Int, 0 ≤ j → j ≤ 36 → elf_reader_word.f k ⟨b⟩ (sec + 40 * (c : Int) + j) = some (word b (sec + 40 * (c : Int) + j)) := fun j a1 a2 => word_e k (by omega) b hb hl _ (by omega) (by omega)
      have rg : ∀ j : Int, 0 ≤ word b (sec + 40 * (c : Int) + j) ∧ word b (sec + 40 * (c : Int) + j) < 4294967296 := fun j => word_range hb _
      have wu : ∀ j : Int, IntKind.wrap .u64 (word b (sec + 40 * (c : Int) + j)) = word b (sec + 40 * (c : Int) + j) := fun j => wrap_u64e _ (rg j).1 (by have := (rg j).2; omega)
      have r16 := rg 16; have r20 := rg 20; have r24 := rg 24
      have main : elf_reader_symbols.q0.l k (n + 1) (sec, (m : Int), (m : Int), (c : Int), b) = match scF (ρ := (T77 × Unit) ⊕ (List SymT ⊕ Unit)) (fun o => match o with
          | some Y => .inr (.inl Y)
          | none => .inl (⟨238⟩, ())) b sec m () c with
          | .inl _ => elf_reader_symbols.q0.l k n (sec, (m : Int), (m : Int), ((c + 1 : Nat) : Int), b)
          | .inr r => some r := by
        have ep : ∀ (A : Option ((T77 × Unit) ⊕ List SymT)) (x : Option (List SymT)), A = some (match x with
            | some Y => .inr Y
            | none => .inl (⟨238⟩, ())) → (A.bind fun r49 => (Sum.elim (fun r50 => (some (Sum.inl ((⟨r50.1.f0_e⟩ : T77), ())))) (fun r51 => (some (Sum.inr (Sum.inl r51)))) r49 : Option ((T77 × Unit) ⊕ (List SymT ⊕ Unit)))) = some (match x with
            | some Y => .inr (.inl Y)
            | none => .inl (⟨238⟩, ())) := fun A x hA => by rw [hA]; cases x <;> rfl
        simp only [elf_reader_symbols.q0.l, decide_eq_true (show (c : Int) < (m : Int) by omega), cond_true, w0, w1, wc, wj 4 (by omega) (by omega), wj 16 (by omega) (by omega), wj 20 (by omega) (by omega), wj 24 (by omega) (by omega), e 4 (by omega) (by omega), e 16 (by omega) (by omega), e 20 (by omega) (by omega), e 24 (by omega) (by omega), Option.bind_some, must_bind, cond_false, wu,
          holds_e b _ _ r16.1 r20.1 (by omega) hl]
        unfold scF tblF
        have q1 : ∀ x : Int, (x != 2) = !(x == 2) := fun x => rfl
        rw [q1]
        cases c1 : (word b (sec + 40 * (c : Int) + 4) == 2) with
        | false => rfl
        | true =>
          have tx := fun hz hz16 hpz hlm => etxt_eq k hk b hb hl sec (word b (sec + 40 * (c : Int) + 16)) (word b (sec + 40 * (c : Int) + 20)) (word b (sec + 40 * (c : Int) + 24)) h0 h1 r16.1 r16.2 hz r20.2 hz16 hpz r24.1 (by have : word b (sec + 40 * (c : Int) + 24) < (m : Int) := hlm; omega) (by have : word b (sec + 40 * (c : Int) + 24) < (m : Int) := hlm; omega)
          generalize word b (sec + 40 * (c : Int) + 16) = p at *
          generalize word b (sec + 40 * (c : Int) + 20) = z at *
          generalize word b (sec + 40 * (c : Int) + 24) = l at *
          have tm : Int.tmod z 16 = z % 16 := Int.tmod_eq_emod_of_nonneg r20.1
          simp only [Bool.not_true, cond_false, cond_true, tm]
          cases c2 : decide (z > 0) with
          | false => rfl
          | true =>
            simp only [cond_true, Bool.true_and]
            cases c3 : (z % 16 == 0) with
            | false => rfl
            | true =>
              simp only [cond_true, Bool.true_and]
              cases c4 : decide (p + z ≤ (b.length : Int)) with
              | false => rfl
              | true =>
                simp only [cond_true, Bool.true_and]
                cases c5 : decide (l < (m : Int)) with
                | false => rfl
                | true => exact ep _ _ (tx (of_decide_eq_true c2) (beq_iff_eq.1 c3) (of_decide_eq_true c4) (of_decide_eq_true c5))
      refine ⟨fun y hy => ⟨trivial, ?_⟩, fun r hr => ?_⟩
      · rw [hy] at main; exact main
      · rw [hr] at main; exact main) (List.range m) k 0 () rfl (Nat.zero_le _) (by rw [List.length_range]; omega) trivial
  unfold elf_reader_symbols.f symF
  rw [show (0 : Int) = ((0 : Nat) : Int) from rfl, loop]
  rcases sc_map (fun o => (match o with
      | some Y => .inr (.inl Y)
      | none => .inl (⟨238⟩, ()) : (T77 × Unit) ⊕ (List SymT ⊕ Unit))) b sec m (List.range m) with ⟨Y, _, h2, h3⟩ | ⟨_, h2, h3⟩
  · rw [h3, h2]; cases Y <;> rfl
  · rw [h3, h2]; rfl
end
end Go.Va

/-
  A file read.
  Conditions: none.
-/
namespace Go.Va
structure SegGood (s : SegT) : Prop where
  ok : SegOk s
  by_ : ByB s.2.2.2.1
  sg : segB s = true
theorem load_good {b : List Int} (hb : ByB b) (hl : b.length ≤ 140737488351232) {a : Int} {s : SegT} (h : loadF b a = some s) : SegGood s := by
  unfold loadF at h
  have hr := reach_v
  have r4 := word_range hb (a + 4); have r16 := word_range hb (a + 16)
  cases hc : ((word b (a + 12) == word b (a + 8) && decide (word b (a + 16) ≤ word b (a + 20))) && ((word b (a + 16) == 0 || decide (word b (a + 4) + word b (a + 16) ≤ (b.length : Int))) && (decide (word b (a + 24) < 8) && (word b (a + 28) == 4096 && segB (word b (a + 8), word b (a + 20), rtsF (word b (a + 24)), [], ()))))) with
  | false => rw [hc] at h; cases h
  | true =>
    rw [hc, cond_true, Option.some.injEq] at h
    simp only [Bool.and_eq_true, Bool.or_eq_true, beq_iff_eq, decide_eq_true_eq] at hc
    obtain ⟨⟨c1, c2⟩, c3, c4, c5, c6⟩ := hc
    have hd := dataF_len b (word b (a + 4)) (word b (a + 16)) r16.1 r4.1 c3
    subst h
    refine ⟨⟨word_range hb _, word_range hb _, ?_⟩, dataF_byte hb _ _, ?_⟩
    · show List.length (dataF b _ _) ≤ reachBytes
      rcases c3 with c3 | c3 <;> omega
    · rw [segB_data _ _ _ _ (by omega)]; exact c6
def sgL {ρ : Type} (bad : List SegT → ρ) (b : List Int) (pg : Int) (S : List SegT) (q : Nat) : List SegT ⊕ ρ :=
  bif word b (pg + 32 * q) == 1 then (match loadF b (pg + 32 * q) with
    | some s => .inl (S ++ [s])
    | none => .inr (bad S)) else .inl S
def sgM {ρ : Type} (bad : ρ) (b : List Int) (pg : Int) (S : List SegT) (q : Nat) : List SegT ⊕ ρ :=
  bif word b (pg + 32 * q) == 1 then (match loadF b (pg + 32 * q) with
    | some s => bif decide (S.length + 1 > 16) then .inr bad else .inl (S ++ [s])
    | none => .inr bad) else .inl S
def segsR (b : List Int) (pg : Int) (cs : List Nat) (S : List SegT) : Option (List SegT) := runS (sgL (fun _ => none) b pg) some cs S
theorem sgL_map {ρ : Type} (bad : List SegT → ρ) (e : List SegT → ρ) (b : List Int) (pg : Int) : ∀ (cs : List Nat) (S : List SegT), (∃ S', segsR b pg cs S = some S' ∧ runS (sgL bad b pg) e cs S = e S') ∨ (segsR b pg cs S = none ∧ ∃ S', runS (sgL bad b pg) e cs S = bad S')
  | [], S => .inl ⟨S, rfl, rfl⟩
  | c :: cs, S => by
    unfold segsR
    simp only [runS, sgL]
    cases (word b (pg + 32 * c) == 1) with
    | false => exact sgL_map bad e b pg cs S
    | true =>
      simp only [cond_true]
      cases loadF b (pg + 32 * c) with
      | none => exact .inr ⟨rfl, S, rfl⟩
      | some s => exact sgL_map bad e b pg cs (S ++ [s])
theorem segsR_len (b : List Int) (pg : Int) : ∀ (cs : List Nat) (S S' : List SegT), segsR b pg cs S = some S' → S.length ≤ S'.length
  | [], S, S', h => by
    have : S = S' := Option.some.inj h
    rw [this]; exact Nat.le_refl _
  | c :: cs, S, S', h => by
    unfold segsR at h
    simp only [runS, sgL] at h
    cases hw : (word b (pg + 32 * c) == 1) with
    | false => rw [hw] at h; exact segsR_len b pg cs S S' h
    | true =>
      rw [hw] at h
      simp only [cond_true] at h
      cases hld : loadF b (pg + 32 * c) with
      | none => rw [hld] at h; cases h
      | some s => rw [hld] at h; have := segsR_len b pg cs (S ++ [s]) S' h; simp at this; omega
theorem segsR_good {b : List Int} (hb : ByB b) (hl : b.length ≤ 140737488351232) (pg : Int) : ∀ (cs : List Nat) (S S' : List SegT), segsR b pg cs S = some S' → (∀ s ∈ S, SegGood s) → ∀ s ∈ S', SegGood s
  | [], S, S', h, hS => by
    have : S = S' := Option.some.inj h
    rw [← this]; exact hS
  | c :: cs, S, S', h, hS => by
    unfold segsR at h
    simp only [runS, sgL] at h
    cases hw : (word b (pg + 32 * c) == 1) with
    | false => rw [hw] at h; exact segsR_good hb hl pg cs S S' h hS
    | true =>
      rw [hw] at h
      simp only [cond_true] at h
      cases hld : loadF b (pg + 32 * c) with
      | none => rw [hld] at h; cases h
      | some s =>
        rw [hld] at h
        refine segsR_good hb hl pg cs (S ++ [s]) S' h (fun x hx => ?_)
        rcases List.mem_append.1 hx with hx | hx
        · exact hS x hx
        · rw [List.mem_singleton] at hx; subst hx; exact load_good hb hl hld
theorem sgM_map {ρ : Type} (bad : ρ) (e : List SegT → ρ) (b : List Int) (pg : Int) : ∀ (cs : List Nat) (S : List SegT), S.length ≤ 16 → runS (sgM bad b pg) e cs S = match segsR b pg cs S with
    | some S' => bif decide (S'.length ≤ 16) then e S' else bad
    | none => bad
  | [], S, h => by
    show e S = bif decide (S.length ≤ 16) then e S else bad
    rw [decide_eq_true h]; rfl
  | c :: cs, S, h => by
    simp only [runS, sgM, segsR, sgL]
    cases (word b (pg + 32 * c) == 1) with
    | false => exact sgM_map bad e b pg cs S h
    | true =>
      simp only [cond_true]
      cases loadF b (pg + 32 * c) with
      | none => rfl
      | some s =>
        simp only
        by_cases h16 : S.length + 1 > 16
        · rw [decide_eq_true h16, cond_true]
          simp only
          show bad = match segsR b pg cs (S ++ [s]) with
            | some S' => bif decide (S'.length ≤ 16) then e S' else bad
            | none => bad
          cases hq : segsR b pg cs (S ++ [s]) with
          | none => rfl
          | some S' =>
            have := segsR_len b pg cs _ _ hq
            simp at this
            simp only
            rw [decide_eq_false (by omega)]; rfl
        · rw [decide_eq_false h16, cond_false]
          exact sgM_map bad e b pg cs (S ++ [s]) (by simp; omega)
section
variable (k : Nat) (hk : reachBytes < k) (b : List Int) (hb : ByB b) (hl : b.length ≤ 140737488351232)
include hk hb hl
theorem eloop_eq (pg sec mm : Int) (n : Nat) (h0 : 0 ≤ pg) (h1 : pg < 4294967296) (hn : n < 65536) (hs : n = 0 ∨ pg + 32 * n ≤ (b.length : Int)) :
    elf_Read.q1.l k k (pg, sec, mm, (n : Int), 0, 0, [], 0, b, []) = some (runS (sgL (fun S => .inl (⟨235⟩, 0, [], 0, S)) b pg) (fun S => .inr (sec, mm, 0, [], 0, b, S)) (List.range n) []) := by
  have hr := reach_v
  have hm := maxLen_v
  have loop := loop_run (List.range n) (fun q (S : List SegT) => S.length ≤ q) (sgL (ρ := (T77 × (Int × List SymT × Int × List SegT)) ⊕ (Int × Int × Int × List SymT × Int × List Int × List SegT)) (fun S => .inl (⟨235⟩, 0, [], 0, S)) b pg) (fun S => .inr (sec, mm, 0, [], 0, b, S)) (fun f q S => elf_Read.q1.l k f (pg, sec, mm, (n : Int), (q : Int), 0, [], 0, b, S)) (fun f S _ => by
      rw [List.length_range]
      simp only [elf_Read.q1.l, decide_eq_false (show ¬ (n : Int) < (n : Int) by omega), cond_false]) (fun f q c S hc hq hI => by
    rw [List.length_range] at hq
    have hcq : c = q := by
      rw [List.getElem?_range hq] at hc
      exact (Option.some.inj hc).symm
    subst hcq
    have hs : pg + 32 * (n : Int) ≤ (b.length : Int) := hs.resolve_left (by omega)
    have w0 : IntKind.wrap .u64 ((c : Int) * 32) = 32 * (c : Int) := by rw [wrap_u64e _ (by omega) (by omega)]; omega
    have w1 : IntKind.wrap .u64 (pg + 32 * (c : Int)) = pg + 32 * (c : Int) := wrap_u64e _ (by omega) (by omega)
    have wc : IntKind.wrap .u64 ((c : Int) + 1) = ((c + 1 : Nat) : Int) := by rw [wrap_u64e _ (by omega) (by omega)]; omega
    have e1 := word_e k (by omega) b hb hl (pg + 32 * (c : Int)) (by omega) (by omega)
    have e2 := eseg_eq k (by omega) b hb hl (pg + 32 * (c : Int)) (by omega) (by omega)
    have main : elf_Read.q1.l k (f + 1) (pg, sec, mm, (n : Int), (c : Int), 0, [], 0, b, S) = match sgL (ρ := (T77 × (Int × List SymT × Int × List SegT)) ⊕ (Int × Int × Int × List SymT × Int × List Int × List SegT)) (fun S => .inl (⟨235⟩, 0, [], 0, S)) b pg S c with
        | .inl Z => elf_Read.q1.l k f (pg, sec, mm, (n : Int), ((c + 1 : Nat) : Int), 0, [], 0, b, Z)
        | .inr r => some r := by
      simp only [elf_Read.q1.l, decide_eq_true (show (c : Int) < (n : Int) by omega), cond_true, w0, w1, wc, e1, e2, Option.bind_some]
      unfold sgL
      cases (word b (pg + 32 * (c : Int)) == 1) with
      | false => rfl
      | true =>
        simp only [cond_true]
        cases loadF b (pg + 32 * (c : Int)) with
        | none => rfl
        | some s =>
          simp only [Sum.elim_inr]
          have hS : (S ++ [(s.1, s.2.1, (s.2.2.1.1, s.2.2.1.2.1, s.2.2.1.2.2.1, ()), s.2.2.2.1, ())]).length = S.length + 1 := by simp
          simp only [hS, decide_eq_true (show S.length + 1 ≤ maxLen by omega), decide_eq_true (show (S.length + 1) * 40 ≤ 211106232532992 by omega), Bool.and_self, cond_true]
    refine ⟨fun Z hZ => ?_, fun r hr => ?_⟩
    · refine ⟨?_, by rw [hZ] at main; exact main⟩
      unfold sgL at hZ
      cases hw : (word b (pg + 32 * (c : Int)) == 1) with
      | false => rw [hw] at hZ; cases hZ; omega
      | true =>
        rw [hw, cond_true] at hZ
        cases hld : loadF b (pg + 32 * (c : Int)) with
        | none => rw [hld] at hZ; cases hZ
        | some s => rw [hld] at hZ; cases hZ; simp; omega
    · rw [hr] at main; exact main) (List.range n) k 0 [] rfl (Nat.zero_le _) (by rw [List.length_range]; omega) (Nat.zero_le _)
  exact loop
end
/-! ### What a file is read as -/
def symsO (b : List Int) : Option (List SymT) := if word b 32 = 0 then some [] else symF b (word b 32) (half b 48).toNat
def restF (b : List Int) : T25 × Int := match segsR b (word b 28) (List.range (half b 44).toNat) [] with
  | none => (T25.z, 235)
  | some S => bif decide (1 ≤ S.length) && decide (S.length ≤ 16) then (bif riseB S then (bif startB S (word b 24) then (match symsO b with
      | none => (T25.z, 238)
      | some Y => (⟨word b 24, S, Y⟩, 0)) else (T25.z, 237)) else (T25.z, 236)) else (T25.z, 235)
def okP (b : List Int) : Bool := half b 44 == 0 || decide (word b 28 + 32 * half b 44 ≤ (b.length : Int))
def okS (b : List Int) : Bool := word b 32 == 0 || (half b 48 == 0 || decide (word b 32 + 40 * half b 48 ≤ (b.length : Int)))
def bodyF (b : List Int) : T25 × Int := bif okP b && okS b then restF b else (T25.z, 230)
def h3F (b : List Int) : Bool := (bytesO ((b.drop 0).take (4 - 0))).toList == (⟨#[127, 69, 76, 70]⟩ : ByteArray).toList
def h4F (b : List Int) : Bool := b.getD 4 0 == 1 && (b.getD 5 0 == 1 && b.getD 6 0 == 1)
def h5F (b : List Int) : Bool := half b 16 == 2 && (half b 18 == 40 && word b 20 == 1)
def h6F (b : List Int) : Bool := half b 40 == 52 && (half b 42 == 32 && (word b 32 == 0 || half b 46 == 40))
def headF_ (b : List Int) : T25 × Int := bif h3F b then (bif h4F b then (bif h5F b then (bif h6F b then bodyF b else (T25.z, 234)) else (T25.z, 233)) else (T25.z, 232)) else (T25.z, 231)
def readF (b : List Int) : T25 × Int := bif decide (52 ≤ b.length) then (bif decide (b.length ≤ 33554432) then headF_ b else (T25.z, 239)) else (T25.z, 230)
theorem okS_sym {b : List Int} (hb : ByB b) (h : okS b = true) : word b 32 = 0 ∨ half b 48 = 0 ∨ word b 32 + 40 * half b 48 ≤ (b.length : Int) := by
  simpa [okS] using h
end Go.Va
