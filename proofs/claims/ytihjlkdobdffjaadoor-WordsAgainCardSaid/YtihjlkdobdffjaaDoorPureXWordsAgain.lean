/-
  A number below 2 to the 40th is read back from its text, from that with zeros ahead, from its decimal digits, and with _ between the digits; one from there on is not.
  Conditions: none beyond the row's own.
-/
import Derived.Test.YtihjlkdobdffjaaDoorPureHexText
import Derived.Test.YtihjlkdobdffjaaDoorS13
import Derived.Lib.Strings
set_option linter.unusedSimpArgs false
set_option linter.unusedVariables false
namespace Go.Proofs.YtihjlkdobdffjaaDoor.Pure
open Go.RowKit Go.Proofs.YtihjlkdobdffjaaDoor.S Go.Proofs.YtihjlkdobdffjaaDoorW.PrintWords Go.Proofs.YtihjlkdobdffjaaDoorW.PrintLast

/-- A text of bytes. -/
def tx (l : List UInt8) : ByteArray := ⟨l.toArray⟩
theorem app_eq (a b : List UInt8) : tx a ++ tx b = tx (a ++ b) := by
  apply ByteArray.ext
  simp [tx]
theorem tx_size (t : List UInt8) : (tx t).size = t.length := by simp [tx, ByteArray.size]
theorem ext_tx (L : List UInt8) (i j : Nat) : (tx L).extract i j = tx ((L.drop i).take (j - i)) := by
  apply ByteArray.ext
  apply Array.ext'
  rw [Go.Lib.extract_data]
  simp [tx]
theorem tx_list (L : List UInt8) : (tx L).toList = L := by
  rw [ByteArray.toList_eq]
  simp [tx]
theorem bt_list {L : List UInt8} {i : Nat} {c : UInt8} {rest : List UInt8} (h : L.drop i = c :: rest) : i < L.length ∧ bt (tx L) (i : Int) = (c.toNat : Int) ∧ L.drop (i + 1) = rest := by
  have hi : i < L.length := by
    by_cases hi : i < L.length
    · exact hi
    · rw [List.drop_eq_nil_of_le (by omega)] at h
      cases h
  rw [List.drop_eq_getElem_cons hi] at h
  obtain ⟨h1, h2⟩ := List.cons.inj h
  refine ⟨hi, ?_, h2⟩
  have hz : (i : Int).toNat < (tx L).size := by rw [Int.toNat_natCast, tx_size]; exact hi
  rw [← h1]
  unfold bt
  rw [dif_pos hz]
  rfl

/-- What a number is told as. -/
def res (v : Nat) : Int × Int := if v < 1099511627776 then ((v : Int), 0) else (0, 11)
/-- The worth of digits, behind a number. -/
def val (b : Nat) : Nat → List Nat → Nat
  | n, [] => n
  | n, d :: ds => val b (n * b + d) ds
theorem val_le (b : Nat) (hb : 1 ≤ b) (ds : List Nat) : ∀ n, n ≤ val b n ds := by
  induction ds with
  | nil => intro n; exact Nat.le_refl _
  | cons d ds ih =>
    intro n
    have h1 := ih (n * b + d)
    have h2 : n ≤ n * b := Nat.le_mul_of_pos_right n hb
    rw [val]
    omega
theorem dig16 : ∀ n : Fin 16, words_digit.f 3 ((hdg n.val).toNat : Int) 16 = some ((n.val : Int), true) := by decide +kernel
theorem dig10 : ∀ n : Fin 10, words_digit.f 3 ((hdg n.val).toNat : Int) 10 = some ((n.val : Int), true) := by decide +kernel
theorem dig95 : words_digit.f 3 (95 : Int) 16 = some (0, false) := by decide +kernel
def Base (b : Nat) : Prop := b = 10 ∨ b = 16
theorem dig_ev {b : Nat} (hb : Base b) (n : Nat) (hn : n < b) : Ev (fun k => words_digit.f k ((hdg n).toNat : Int) (b : Int)) ((n : Int), true) := by
  rcases hb with rfl | rfl
  · exact Ev.of (fun k => words_digit.mono _ _ k) (dig10 ⟨n, hn⟩)
  · exact Ev.of (fun k => words_digit.mono _ _ k) (dig16 ⟨n, hn⟩)
/-- The reader's loop. -/
def NL (L : List UInt8) (b n : Nat) (ok : Bool) (i : Nat) (r : Int × Int) : Prop := Ev (fun k => words_Number.l0 k (tx L) (b : Int) (n : Int) ok (L.length : Int) (i : Int)) r
theorem nl_big {L : List UInt8} {b n d : Nat} {ok : Bool} {i : Nat} {rest : List UInt8} (hb : Base b) (hd : d < b) (hn : n < 1099511627776) (h : L.drop i = hdg d :: rest) (hv : ¬ n * b + d < 1099511627776) : NL L b n ok i (0, 11) := by
  obtain ⟨h1, h2, h3⟩ := bt_list h
  have hb16 : b ≤ 16 := by rcases hb with rfl | rfl <;> decide
  have hnb : n * b ≤ 1099511627776 * 16 := Nat.mul_le_mul (by omega) hb16
  have e : IntKind.u64.wrap (IntKind.u64.wrap ((n : Int) * (b : Int)) + (d : Int)) = ((n * b + d : Nat) : Int) := by
    rw [IntKind.wrap_u64, IntKind.wrap_u64, ← Int.natCast_mul]
    omega
  refine Ev.step (fun k => rfl) ?_
  simp only [words_Number.l0, tx_size, if_pos (show (i : Int) < (L.length : Int) by omega), if_pos (show (0 : Int) ≤ (i : Int) by omega), h2]
  refine Ev.bind (dig_ev hb d hd) ?_
  simp only [if_true, e, if_pos (show ((n * b + d : Nat) : Int) ≥ 1099511627776 by omega)]
  exact Ev.now _
theorem nl_dig {L : List UInt8} {b n d : Nat} {ok : Bool} {i : Nat} {rest : List UInt8} {r : Int × Int} (hb : Base b) (hd : d < b) (hn : n < 1099511627776) (h : L.drop i = hdg d :: rest) (hl : L.length < 1000000) (hv : n * b + d < 1099511627776)
    (hk : NL L b (n * b + d) true (i + 1) r) : NL L b n ok i r := by
  obtain ⟨h1, h2, h3⟩ := bt_list h
  have e : IntKind.u64.wrap (IntKind.u64.wrap ((n : Int) * (b : Int)) + (d : Int)) = ((n * b + d : Nat) : Int) := by
    rw [IntKind.wrap_u64, IntKind.wrap_u64, ← Int.natCast_mul]
    omega
  have ei : wrap64 ((i : Int) + 1) = ((i + 1 : Nat) : Int) := by unfold wrap64; omega
  refine Ev.step (fun k => rfl) ?_
  simp only [words_Number.l0, tx_size, if_pos (show (i : Int) < (L.length : Int) by omega), if_pos (show (0 : Int) ≤ (i : Int) by omega), h2]
  refine Ev.bind (dig_ev hb d hd) ?_
  simp only [if_true, e, if_neg (show ¬ ((n * b + d : Nat) : Int) ≥ 1099511627776 by omega), ei]
  exact hk
theorem nl_end {L : List UInt8} {b n i : Nat} (ok : Bool) (h : L.drop i = []) (hi : i ≤ L.length) : NL L b n ok i (if ok = true then ((n : Int), 0) else (0, 11)) := by
  have : L.length ≤ i := List.drop_eq_nil_iff.1 h
  refine Ev.step (fun k => rfl) ?_
  simp only [words_Number.l0, tx_size, if_neg (show ¬ (i : Int) < (L.length : Int) by omega)]
  cases ok with
  | true => exact Ev.now _
  | false => exact Ev.now _
theorem nl_under {L : List UInt8} {n i : Nat} {rest : List UInt8} {r : Int × Int} (h : L.drop i = 95 :: rest) (hl : L.length < 1000000) (hk : NL L 16 n false (i + 1) r) : NL L 16 n true i r := by
  obtain ⟨h1, h2, h3⟩ := bt_list h
  have h2' : bt (tx L) (i : Int) = 95 := h2
  have ei : wrap64 ((i : Int) + 1) = ((i + 1 : Nat) : Int) := by unfold wrap64; omega
  refine Ev.step (fun k => rfl) ?_
  simp only [words_Number.l0, tx_size, if_pos (show (i : Int) < (L.length : Int) by omega), if_pos (show (0 : Int) ≤ (i : Int) by omega), h2']
  refine Ev.bind (a := ((0 : Int), false)) (Ev.of (fun k => words_digit.mono _ _ k) dig95) ?_
  simp only [Bool.false_eq_true, if_false, if_true, Bool.not_true]
  refine Ev.step (fun k => rfl) ?_
  simp only [words_Number.j3, Bool.false_eq_true, if_false, ei]
  exact hk
theorem nl_under_bad {L : List UInt8} {n i : Nat} {rest : List UInt8} (h : L.drop i = 95 :: rest) : NL L 16 n false i (0, 11) := by
  obtain ⟨h1, h2, h3⟩ := bt_list h
  have h2' : bt (tx L) (i : Int) = 95 := h2
  refine Ev.step (fun k => rfl) ?_
  simp only [words_Number.l0, tx_size, if_pos (show (i : Int) < (L.length : Int) by omega), if_pos (show (0 : Int) ≤ (i : Int) by omega), h2']
  refine Ev.bind (a := ((0 : Int), false)) (Ev.of (fun k => words_digit.mono _ _ k) dig95) ?_
  simp only [Bool.false_eq_true, if_false, if_true, Bool.not_false]
  refine Ev.step (fun k => rfl) ?_
  simp only [words_Number.j3, if_true]
  exact Ev.now _
/-- Digits. -/
theorem nl_digits {L : List UInt8} {b : Nat} (hb : Base b) (hl : L.length < 1000000) (ds : List Nat) : ∀ (i n : Nat) (ok : Bool), L.drop i = ds.map hdg → (∀ d, d ∈ ds → d < b) → n < 1099511627776 → i ≤ L.length → (ds = [] → ok = true) → NL L b n ok i (res (val b n ds)) := by
  induction ds with
  | nil =>
    intro i n ok h _ hn hi ho
    have := nl_end (b := b) (n := n) ok h hi
    rw [ho rfl] at this ⊢
    rw [val, res, if_pos hn]
    exact this
  | cons d ds ih =>
    intro i n ok h hd hn hi _
    rw [List.map_cons] at h
    obtain ⟨h1, _, h3⟩ := bt_list h
    have hdb := hd d (List.mem_cons_self ..)
    rw [val]
    by_cases hv : n * b + d < 1099511627776
    · exact nl_dig hb hdb hn h hl hv (ih (i + 1) _ true h3 (fun x hx => hd x (List.mem_cons_of_mem _ hx)) hv (by omega) (fun _ => rfl))
    · have := val_le b (by rcases hb with rfl | rfl <;> decide) ds (n * b + d)
      rw [res, if_neg (by omega)]
      exact nl_big hb hdb hn h hv
/-- Digits with _ ahead of each. -/
def und (ds : List Nat) : List UInt8 := ds.flatMap (fun d => [95, hdg d])
theorem nl_unders {L : List UInt8} (hl : L.length < 1000000) (ds : List Nat) : ∀ (i n : Nat), L.drop i = und ds → (∀ d, d ∈ ds → d < 16) → n < 1099511627776 → i ≤ L.length → NL L 16 n true i (res (val 16 n ds)) := by
  induction ds with
  | nil =>
    intro i n h _ hn hi
    have := nl_end (b := 16) (n := n) true h hi
    rw [val, res, if_pos hn]
    exact this
  | cons d ds ih =>
    intro i n h hd hn hi
    have h' : L.drop i = 95 :: hdg d :: und ds := h
    obtain ⟨h1, _, h3⟩ := bt_list h'
    obtain ⟨g1, _, g3⟩ := bt_list h3
    have hdb := hd d (List.mem_cons_self ..)
    refine nl_under h' hl ?_
    rw [val]
    by_cases hv : n * 16 + d < 1099511627776
    · exact nl_dig (.inr rfl) hdb hn h3 hl hv (ih (i + 1 + 1) _ g3 (fun x hx => hd x (List.mem_cons_of_mem _ hx)) hv (by omega))
    · have := val_le 16 (by decide) ds (n * 16 + d)
      rw [res, if_neg (by omega)]
      exact nl_big (.inr rfl) hdb hn h3 hv
/-- Digits, and a _ behind. -/
theorem nl_tail {L : List UInt8} (hl : L.length < 1000000) (ds : List Nat) : ∀ (i n : Nat) (ok : Bool), L.drop i = ds.map hdg ++ [95] → (∀ d, d ∈ ds → d < 16) → n < 1099511627776 → NL L 16 n ok i (0, 11) := by
  induction ds with
  | nil =>
    intro i n ok h _ hn
    have h' : L.drop i = 95 :: [] := h
    obtain ⟨h1, _, h3⟩ := bt_list h'
    cases ok with
    | false => exact nl_under_bad h'
    | true => exact nl_under h' hl (nl_end false h3 (by omega))
  | cons d ds ih =>
    intro i n ok h hd hn
    have h' : L.drop i = hdg d :: (ds.map hdg ++ [95]) := h
    obtain ⟨h1, _, h3⟩ := bt_list h'
    have hdb := hd d (List.mem_cons_self ..)
    by_cases hv : n * 16 + d < 1099511627776
    · exact nl_dig (.inr rfl) hdb hn h' hl hv (ih (i + 1) _ true h3 (fun x hx => hd x (List.mem_cons_of_mem _ hx)) hv)
    · exact nl_big (.inr rfl) hdb hn h' hv
/-- A text with 0x ahead. -/
theorem num_hex (L : List UInt8) (r : Int × Int) (h : NL L 16 0 false 0 r) : Ev (fun k => words_Number.f k (tx (48 :: 120 :: L))) r := by
  have z : (tx (48 :: 120 :: L)).size = L.length + 2 := by rw [tx_size]; rfl
  have e1 : (tx (48 :: 120 :: L)).extract 0 2 = tx [48, 120] := by rw [ext_tx]; rfl
  have e2 : (tx (48 :: 120 :: L)).extract 2 (L.length + 2) = tx L := by
    rw [ext_tx]
    show tx (L.take (L.length + 2 - 2)) = tx L
    rw [Nat.add_sub_cancel, List.take_length]
  unfold words_Number.f
  simp only [z, if_pos (show ((L.length + 2 : Nat) : Int) ≥ 2 by omega), if_pos (show (0 : Int) ≤ 2 by omega), if_pos (show (2 : Int) ≤ ((L.length + 2 : Nat) : Int) by omega), e1, tx_list, BEq.rfl]
  refine Ev.step (fun k => rfl) ?_
  simp only [words_Number.j0, if_true, z, if_pos (show (2 : Int) ≤ ((L.length + 2 : Nat) : Int) by omega), e2]
  refine Ev.step (fun k => rfl) ?_
  simp only [words_Number.j1, tx_size]
  exact h
theorem hdg_ne : ∀ n : Fin 10, hdg n.val ≠ 120 := by decide
/-- A text of decimal digits. -/
theorem num_ten (ds : List Nat) (hd : ∀ d, d ∈ ds → d < 10) (r : Int × Int) (h : NL (ds.map hdg) 10 0 false 0 r) : Ev (fun k => words_Number.f k (tx (ds.map hdg))) r := by
  have j : Ev (fun k => words_Number.j0 k (tx (ds.map hdg)) 10 false) r := by
    refine Ev.step (fun k => rfl) ?_
    simp only [words_Number.j0, Bool.false_eq_true, if_false]
    refine Ev.step (fun k => rfl) ?_
    simp only [words_Number.j1, tx_size]
    exact h
  unfold words_Number.f
  by_cases h2 : ((tx (ds.map hdg)).size : Int) ≥ 2
  · have ne : ((tx (ds.map hdg)).extract 0 2).toList ≠ ([48, 120] : List UInt8) := by
      rw [ext_tx, tx_list]
      match ds, hd, h2 with
      | [], _, h2 => exact fun e => by cases e
      | [a], _, h2 => exact fun e => by cases (List.cons.inj e).2
      | a :: b :: l, hd, h2 =>
        intro e
        have e' : hdg a :: hdg b :: [] = ([48, 120] : List UInt8) := e
        exact hdg_ne ⟨b, hd b (by simp)⟩ (List.cons.inj (List.cons.inj e').2).1
    simp only [if_pos h2, if_pos (show (0 : Int) ≤ 2 by omega), if_pos (show (2 : Int) ≤ ((tx (ds.map hdg)).size : Int) from h2), beq_eq_false_iff_ne.2 ne]
    exact j
  · simp only [if_neg h2]
    exact j

/-- The digits of a number, at any base. -/
def hv (b : Nat) : Nat → Nat → List Nat → List Nat
  | 0, _, t => t
  | d + 1, u, t => if u < b then u :: t else hv b d (u / b) (u % b :: t)
theorem hexs_hv (d : Nat) : ∀ (u : Nat) (t : List Nat), hexs d u (t.map hdg) = (hv 16 d u t).map hdg := by
  induction d with
  | zero => intro u t; rfl
  | succ d ih =>
    intro u t
    rw [hexs, hv]
    split
    · rfl
    · exact ih (u / 16) (u % 16 :: t)
theorem hv_val (b : Nat) (hb : 1 ≤ b) (d : Nat) : ∀ (u : Nat) (t : List Nat), u < b ^ (d + 1) → val b 0 (hv b (d + 1) u t) = val b u t := by
  induction d with
  | zero =>
    intro u t hu
    rw [hv, if_pos (by simpa using hu), val, Nat.zero_mul, Nat.zero_add]
  | succ d ih =>
    intro u t hu
    rw [hv]
    split
    · rw [val, Nat.zero_mul, Nat.zero_add]
    · rw [ih (u / b) (u % b :: t) (by
        rw [Nat.pow_succ] at hu
        exact Nat.div_lt_of_lt_mul (by rw [Nat.mul_comm]; exact hu)), val]
      congr 1
      rw [Nat.mul_comm]
      exact Nat.div_add_mod u b
theorem hv_lt (b : Nat) (hb : 1 ≤ b) (d : Nat) : ∀ (u : Nat) (t : List Nat), (∀ x, x ∈ t → x < b) → ∀ x, x ∈ hv b d u t → x < b := by
  induction d with
  | zero => intro u t h; exact h
  | succ d ih =>
    intro u t h x hx
    rw [hv] at hx
    split at hx
    · rcases List.mem_cons.1 hx with rfl | hx
      · assumption
      · exact h x hx
    · exact ih _ _ (fun y hy => by
        rcases List.mem_cons.1 hy with rfl | hy
        · exact Nat.mod_lt _ hb
        · exact h y hy) x hx
theorem hv_len (b d : Nat) : ∀ (u : Nat) (t : List Nat), (hv b d u t).length ≤ t.length + d ∧ t.length ≤ (hv b d u t).length := by
  induction d with
  | zero => intro u t; exact ⟨Nat.le_refl _, Nat.le_refl _⟩
  | succ d ih =>
    intro u t
    rw [hv]
    split
    · rw [List.length_cons]; omega
    · have := ih (u / b) (u % b :: t)
      rw [List.length_cons] at this
      omega
theorem hv_pos (b d u : Nat) : 1 ≤ (hv b (d + 1) u []).length := by
  rw [hv]
  split
  · exact Nat.le_refl 1
  · exact (hv_len b d (u / b) [u % b]).2
theorem val_zeros (b z : Nat) (ds : List Nat) : val b 0 (List.replicate z 0 ++ ds) = val b 0 ds := by
  induction z with
  | zero => rfl
  | succ z ih =>
    rw [List.replicate_succ, List.cons_append, val, Nat.zero_mul]
    exact ih

/-- The texts, one after the other, and the last. -/
theorem l3_ev (v : Nat) (D : List UInt8) (texts : List ByteArray) (hl : texts.length < 1000) (hD : D.length < 1000) (ht : ∀ t, t ∈ texts → Ev (fun k => words_Number.f k t) (res v)) (he : Ev (fun k => words_Number.f k (tx (D ++ [95]))) (0, 11)) (d : Nat) :
    ∀ i : Nat, i + d = texts.length → Ev (fun k => atlaslaw01_WordsAgain.l3 k (v : Int) (tx D) texts (i : Int)) true := by
  induction d with
  | zero =>
    intro i hi
    refine Ev.step (fun k => rfl) ?_
    have ea : tx D ++ (⟨#[95]⟩ : ByteArray) = tx (D ++ [95]) := app_eq D [95]
    simp only [atlaslaw01_WordsAgain.l3, if_neg (show ¬ (i : Int) < (texts.length : Int) by omega), tx_size, if_pos (show D.length + 1 ≤ 9223372036854775807 by omega), ea]
    refine Ev.bind he ?_
    simp only [if_true]
    exact Ev.now _
  | succ d ih =>
    intro i hi
    have hil : i < texts.length := by omega
    have hm : rdOf ByteArray.empty texts (i : Int) ∈ texts := by
      unfold rdOf
      rw [Int.toNat_natCast]
      simp [List.getD, hil]
    have e : wrap64 ((i : Int) + 1) = ((i + 1 : Nat) : Int) := by unfold wrap64; omega
    refine Ev.step (fun k => rfl) ?_
    simp only [atlaslaw01_WordsAgain.l3, if_pos (show (i : Int) < (texts.length : Int) by omega), if_pos (show (0 : Int) ≤ (i : Int) by omega), e]
    refine Ev.bind (ht _ hm) ?_
    unfold res
    by_cases hv : v < 1099511627776
    · simp only [if_pos hv, if_pos (show (v : Int) < 1099511627776 by omega), if_neg (show ¬ (v : Int) ≥ 1099511627776 by omega), if_true]
      exact ih (i + 1) (by omega)
    · simp only [if_neg hv, if_neg (show ¬ (v : Int) < 1099511627776 by omega), if_pos (show (v : Int) ≥ 1099511627776 by omega), if_true]
      exact ih (i + 1) (by omega)
/-- The decimal digits. -/
theorem ten_dig (u : Nat) : strOfNums [(IntKind.u64.wrap (48 + (Int.tmod (u : Int) 10))) % 256] = tx [hdg (u % 10)] := by
  have m : Int.tmod (u : Int) 10 = ((u % 10 : Nat) : Int) := by rw [Int.tmod_eq_emod_of_nonneg (by omega)]; omega
  rw [m]
  have h : u % 10 < 10 := Nat.mod_lt _ (by decide)
  generalize u % 10 = n at h
  match n, h with
  | 0, _ => rfl
  | 1, _ => rfl
  | 2, _ => rfl
  | 3, _ => rfl
  | 4, _ => rfl
  | 5, _ => rfl
  | 6, _ => rfl
  | 7, _ => rfl
  | 8, _ => rfl
  | 9, _ => rfl
  | n + 10, h => exact absurd h (by omega)
theorem l2_ev (v : Nat) (D Z U : List UInt8) (hD : D.length < 500) (h2 : 2 ≤ D.length) (hZ : Z.length < 100) (d : Nat) : ∀ (u : Nat) (t : List Nat), u < 10 ^ (d + 1) → u < 18446744073709551616 → t.length + d < 64 →
    Ev (fun k => atlaslaw01_WordsAgain.l3 k (v : Int) (tx D) [tx D, tx (48 :: 120 :: (Z ++ D.drop 2)), tx U, tx ((hv 10 (d + 1) u t).map hdg), tx (Z ++ (hv 10 (d + 1) u t).map hdg)] 0) true →
    Ev (fun k => atlaslaw01_WordsAgain.l2 k (v : Int) (tx D) (tx Z) (tx U) (tx (t.map hdg)) (u : Int)) true := by
  have q : ∀ u : Nat, u < 18446744073709551616 → IntKind.u64.wrap (Int.tdiv (u : Int) 10) = ((u / 10 : Nat) : Int) := fun u hu => by rw [Int.tdiv_eq_ediv_of_nonneg (by omega), IntKind.wrap_u64]; omega
  have e0 : (⟨#[48, 120]⟩ : ByteArray) = tx [48, 120] := rfl
  have last : ∀ (u : Nat) (t : List Nat), u < 10 → t.length < 64 →
      Ev (fun k => atlaslaw01_WordsAgain.l3 k (v : Int) (tx D) [tx D, tx (48 :: 120 :: (Z ++ D.drop 2)), tx U, tx ((u :: t).map hdg), tx (Z ++ (u :: t).map hdg)] 0) true →
      Ev (fun k => atlaslaw01_WordsAgain.l2 k (v : Int) (tx D) (tx Z) (tx U) (tx (t.map hdg)) (u : Int)) true := by
    intro u t hu ht hk
    refine Ev.step (fun k => rfl) ?_
    have e1 : tx D ++ tx [] = tx D := by rw [app_eq, List.append_nil]
    have e2 : (tx D).extract 2 D.length = tx (D.drop 2) := by
      rw [ext_tx, List.take_of_length_le (by rw [List.length_drop]; omega)]
    have eu : u % 10 = u := by omega
    have z1 : (tx [hdg u]).size = 1 := rfl
    have z2 : (tx (t.map hdg)).size = t.length := by rw [tx_size, List.length_map]
    simp only [atlaslaw01_WordsAgain.l2, Option.bind_some, ten_dig u, eu, z1, z2, if_pos (show 1 + t.length ≤ 9223372036854775807 by omega), if_pos (show (u : Int) < 10 by omega), tx_size, if_pos (show 2 + Z.length ≤ 9223372036854775807 by omega),
      if_pos (show (2 : Int) ≤ (D.length : Int) by omega), e0, app_eq, e2, List.length_append, List.length_cons, List.length_nil, List.length_drop, List.length_map]
    simp only [if_pos (show 0 + 1 + 1 + Z.length + (D.length - 2) ≤ 9223372036854775807 by omega), if_pos (show Z.length + (0 + 1 + t.length) ≤ 9223372036854775807 by omega)]
    exact hk
  induction d with
  | zero =>
    intro u t hu hu2 ht hk
    have hu' : u < 10 := by simpa using hu
    rw [show hv 10 (0 + 1) u t = u :: t by rw [hv, if_pos hu']] at hk
    exact last u t hu' (by omega) hk
  | succ d ih =>
    intro u t hu hu2 ht hk
    by_cases hu' : u < 10
    · rw [show hv 10 (d + 1 + 1) u t = u :: t by rw [hv, if_pos hu']] at hk
      exact last u t hu' (by omega) hk
    · rw [show hv 10 (d + 1 + 1) u t = hv 10 (d + 1) (u / 10) (u % 10 :: t) by rw [hv, if_neg hu']] at hk
      have h := ih (u / 10) (u % 10 :: t) (by rw [Nat.pow_succ] at hu; omega) (by omega) (by rw [List.length_cons]; omega) hk
      have z1 : (tx [hdg (u % 10)]).size = 1 := rfl
      have z2 : (tx (t.map hdg)).size = t.length := by rw [tx_size, List.length_map]
      refine Ev.step (fun k => rfl) ?_
      simp only [atlaslaw01_WordsAgain.l2, Option.bind_some, ten_dig u, z1, z2, if_pos (show 1 + t.length ≤ 9223372036854775807 by omega), if_neg (show ¬ (u : Int) < 10 by omega), app_eq, q u hu2]
      exact h
/-- The digits with _ between them. -/
theorem l1_ev (v : Nat) (H : List UInt8) (Z : List UInt8) (R : Bool) (hl : H.length < 500) (ds : List Nat) : ∀ (i : Nat) (A : List UInt8), 3 ≤ i → H.drop i = ds.map hdg → i ≤ H.length → A.length + 2 * ds.length < 5000 →
    Ev (fun k => atlaslaw01_WordsAgain.l2 k (v : Int) (tx H) (tx Z) (tx (A ++ und ds)) (tx []) (v : Int)) R →
    Ev (fun k => atlaslaw01_WordsAgain.l1 k (v : Int) (tx H) (tx Z) (tx A) (i : Int)) R := by
  induction ds with
  | nil =>
    intro i A h3 h hi hA hk
    have : H.length ≤ i := List.drop_eq_nil_iff.1 h
    refine Ev.step (fun k => rfl) ?_
    simp only [atlaslaw01_WordsAgain.l1, tx_size, if_neg (show ¬ (i : Int) < (H.length : Int) by omega)]
    have e : A ++ und [] = A := List.append_nil A
    rw [e] at hk
    exact hk
  | cons d ds ih =>
    intro i A h3 h hi hA hk
    rw [List.map_cons] at h
    obtain ⟨h1, _, h4⟩ := bt_list h
    have e : wrap64 ((i : Int) + 1) = ((i + 1 : Nat) : Int) := by unfold wrap64; omega
    have e2 : (tx H).extract i (i + 1) = tx [hdg d] := by
      rw [ext_tx, h, Nat.add_sub_cancel_left]
      rfl
    have e3 : tx A ++ (⟨#[95]⟩ : ByteArray) = tx (A ++ [95]) := app_eq A [95]
    have z1 : (tx [hdg d]).size = 1 := rfl
    rw [List.length_cons] at hA
    refine Ev.step (fun k => rfl) ?_
    simp only [atlaslaw01_WordsAgain.l1, tx_size, if_pos (show (i : Int) < (H.length : Int) by omega), if_pos (show (i : Int) > 2 by omega), if_pos (show A.length + 1 ≤ 9223372036854775807 by omega), if_pos (show (0 : Int) ≤ (i : Int) by omega), e,
      if_pos (show (i : Int) ≤ ((i + 1 : Nat) : Int) by omega), if_pos (show ((i + 1 : Nat) : Int) ≤ (H.length : Int) by omega), Int.toNat_natCast, e2, e3, List.length_append, List.length_cons, List.length_nil, app_eq]
    simp only [if_pos (show A.length + (0 + 1) + (0 + 1) ≤ 9223372036854775807 by omega)]
    refine ih (i + 1) _ (by omega) h4 (by omega) (by simp only [List.length_append, List.length_cons, List.length_nil]; omega) ?_
    have ee : A ++ [95] ++ [hdg d] ++ und ds = A ++ und (d :: ds) := by simp [und]
    rw [ee]
    exact hk
theorem l0_ev (v : Nat) (a1 : Int) (H : List UInt8) (R : Bool) (d : Nat) : ∀ j : Nat, j + d = (Int.tmod a1 40).toNat → j + d < 50 →
    Ev (fun k => atlaslaw01_WordsAgain.l1 k (v : Int) (tx H) (tx ((List.replicate (j + d) 0).map hdg)) (tx [48, 120]) 2) R →
    Ev (fun k => atlaslaw01_WordsAgain.l0 k (v : Int) a1 (tx H) (tx ((List.replicate j 0).map hdg)) (j : Int)) R := by
  induction d with
  | zero =>
    intro j hj h50 hk
    refine Ev.step (fun k => rfl) ?_
    simp only [atlaslaw01_WordsAgain.l0, if_neg (show ¬ (j : Int) < Int.tmod a1 40 by omega)]
    exact hk
  | succ d ih =>
    intro j hj h50 hk
    have e : wrap64 ((j : Int) + 1) = ((j + 1 : Nat) : Int) := by unfold wrap64; omega
    have ea : tx ((List.replicate j 0).map hdg) ++ (⟨#[48]⟩ : ByteArray) = tx ((List.replicate (j + 1) 0).map hdg) := by
      rw [List.replicate_succ', List.map_append]
      exact app_eq _ [48]
    refine Ev.step (fun k => rfl) ?_
    simp only [atlaslaw01_WordsAgain.l0, if_pos (show (j : Int) < Int.tmod a1 40 by omega), tx_size, List.length_map, List.length_replicate, if_pos (show j + 1 ≤ 9223372036854775807 by omega), ea, e]
    refine ih (j + 1) (by omega) (by omega) ?_
    rw [show j + 1 + d = j + (d + 1) by omega]
    exact hk

theorem XWordsAgain (a0 : Int) (a1 : Int) (w0 : (Lit.int .u64 a0).wf = true) (w1 : (Lit.int .i64 a1).wf = true) : ∃ k, atlaslaw01_WordsAgain.f k a0 a1 = some true := by
  have hw : 0 ≤ a0 ∧ a0 < 18446744073709551616 := by
    simp only [Lit.wf] at w0
    rw [Bool.and_eq_true, decide_eq_true_eq, decide_eq_true_eq] at w0
    have e1 : IntKind.u64.min = 0 := rfl
    have e2 : IntKind.u64.max = 18446744073709551615 := rfl
    omega
  obtain ⟨v, rfl⟩ := Int.eq_ofNat_of_zero_le hw.1
  have hv64 : v < 18446744073709551616 := by omega
  have al : Ev (fun k => atlaslaw01_alive.f k) true := Ev.of (fun k => atlaslaw01_alive.mono k) (k := 40) (by decide +kernel)
  -- the digits at base 16
  obtain ⟨ds, hds⟩ : ∃ ds, hv 16 16 v [] = ds := ⟨_, rfl⟩
  have hval : val 16 0 ds = v := by
    rw [← hds]
    exact hv_val 16 (by decide) 15 v [] (by simpa using hv64)
  have hlt : ∀ d, d ∈ ds → d < 16 := by
    rw [← hds]
    exact hv_lt 16 (by decide) 16 v [] (fun x hx => by cases hx)
  have hlen : ds.length ≤ 16 := by
    rw [← hds]
    have := (hv_len 16 16 v []).1
    simpa using this
  have hpos : 1 ≤ ds.length := by
    rw [← hds]
    exact hv_pos 16 15 v
  have hne : ds ≠ [] := fun e => by rw [e] at hpos; simp at hpos
  have hhex := hex_ev v hv64
  rw [show hexs 16 v [] = ds.map hdg by rw [← hds]; exact hexs_hv 16 v []] at hhex
  have eh : (⟨#[48, 120]⟩ : ByteArray) ++ ⟨(ds.map hdg).toArray⟩ = tx (48 :: 120 :: ds.map hdg) := app_eq [48, 120] (ds.map hdg)
  rw [eh] at hhex
  -- the decimal digits
  obtain ⟨ts, hts⟩ : ∃ ts, hv 10 20 v [] = ts := ⟨_, rfl⟩
  have tval : val 10 0 ts = v := by
    rw [← hts]
    exact hv_val 10 (by decide) 19 v [] (by omega)
  have tlt : ∀ d, d ∈ ts → d < 10 := by
    rw [← hts]
    exact hv_lt 10 (by decide) 20 v [] (fun x hx => by cases hx)
  have tlen : ts.length ≤ 20 := by
    rw [← hts]
    have := (hv_len 10 20 v []).1
    simpa using this
  have tpos : 1 ≤ ts.length := by
    rw [← hts]
    exact hv_pos 10 19 v
  have tne : ts ≠ [] := fun e => by rw [e] at tpos; simp at tpos
  obtain ⟨z, hz⟩ : ∃ z, (Int.tmod a1 40).toNat = z := ⟨_, rfl⟩
  have hz40 : z < 50 := by
    have : Int.tmod a1 40 < 40 := Int.tmod_lt_of_pos a1 (by decide)
    omega
  have hmem : ∀ (b : Nat), 1 ≤ b → ∀ (l : List Nat), (∀ d, d ∈ l → d < b) → ∀ d, d ∈ List.replicate z 0 ++ l → d < b := fun b hb l hl d hd => by
    rcases List.mem_append.1 hd with h | h
    · rw [(List.mem_replicate.1 h).2]
      exact hb
    · exact hl d h
  obtain ⟨d0, ds', rfl⟩ : ∃ d0 ds', ds = d0 :: ds' := by
    cases ds with
    | nil => exact absurd rfl hne
    | cons a l => exact ⟨a, l, rfl⟩
  have hd0 := hlt d0 (List.mem_cons_self ..)
  rw [List.length_cons] at hlen
  have ul : ∀ l : List Nat, (und l).length = 2 * l.length := fun l => by
    induction l with
    | nil => rfl
    | cons a l ih =>
      show (und l).length + 1 + 1 = _
      rw [ih, List.length_cons]
      omega
  refine Ev.rounds (r := true) ?_
  unfold atlaslaw01_WordsAgain.f
  refine Ev.bind al ?_
  simp only [if_true]
  refine Ev.bind hhex ?_
  have z1 : (tx (48 :: 120 :: (d0 :: ds').map hdg)).size = ds'.length + 3 := by rw [tx_size]; simp
  have e1 : (tx (48 :: 120 :: (d0 :: ds').map hdg)).extract 0 2 = tx [48, 120] := by rw [ext_tx]; rfl
  have e2 : (([48, 120] : List UInt8) != [48, 120]) = false := by decide
  simp only [z1, if_neg (show ¬ ((ds'.length + 3 : Nat) : Int) < 3 by omega), if_pos (show (0 : Int) ≤ 2 by omega), if_pos (show (2 : Int) ≤ ((ds'.length + 3 : Nat) : Int) by omega), e1, tx_list, e2]
  refine Ev.step (fun k => rfl) ?_
  simp only [atlaslaw01_WordsAgain.j0, Bool.false_eq_true, if_false]
  refine l0_ev v a1 (48 :: 120 :: (d0 :: ds').map hdg) true z 0 (by omega) (by omega) ?_
  rw [Nat.zero_add]
  -- the first digit
  have ef : (tx (48 :: 120 :: (d0 :: ds').map hdg)).extract 2 3 = tx [hdg d0] := by rw [ext_tx]; rfl
  refine Ev.step (fun k => rfl) ?_
  have w3 : wrap64 (2 + 1) = 3 := by unfold wrap64; omega
  have t2 : (2 : Int).toNat = 2 := rfl
  have t3 : (3 : Int).toNat = 3 := rfl
  have zf : (tx [hdg d0]).size = 1 := rfl
  have zz : (tx [48, 120]).size = 2 := rfl
  simp only [atlaslaw01_WordsAgain.l1, z1, if_pos (show (2 : Int) < ((ds'.length + 3 : Nat) : Int) by omega), if_neg (show ¬ (2 : Int) > 2 by omega), if_pos (show (0 : Int) ≤ 2 by omega), w3, if_pos (show (2 : Int) ≤ 3 by omega), if_pos (show (3 : Int) ≤ ((ds'.length + 3 : Nat) : Int) by omega),
    t2, t3, ef, zf, zz, if_pos (show 2 + 1 ≤ 9223372036854775807 by omega), app_eq]
  refine l1_ev v _ _ true (by simp; omega) ds' 3 _ (by omega) rfl (by simp) (by simp; omega) ?_
  refine l2_ev v _ _ _ (by simp; omega) (by simp) (by simp; omega) 19 v [] (by omega) hv64 (by simp) ?_
  rw [hts]
  have under : (48 :: 120 :: (hdg d0 :: und ds') : List UInt8) = [48, 120] ++ [hdg d0] ++ und ds' := by simp
  refine l3_ev v (48 :: 120 :: (d0 :: ds').map hdg) _ (by simp) (by simp; omega) (fun t ht => ?_) ?_ 5 0 (by simp)
  · have rv : ∀ (b : Nat) (l : List Nat), val b 0 l = v → res (val b 0 l) = res v := fun b l h => by rw [h]
    simp only [List.mem_cons, List.not_mem_nil, or_false] at ht
    rcases ht with rfl | rfl | rfl | rfl | rfl
    · refine num_hex _ _ ?_
      rw [← hval]
      exact nl_digits (.inr rfl) (by simp; omega) (d0 :: ds') 0 0 false rfl hlt (by decide) (by omega) (fun e => by cases e)
    · have ez : (List.replicate z 0).map hdg ++ (48 :: 120 :: (d0 :: ds').map hdg).drop 2 = (List.replicate z 0 ++ (d0 :: ds')).map hdg := by rw [List.map_append]; rfl
      rw [ez]
      refine num_hex _ _ ?_
      rw [← hval, ← val_zeros 16 z]
      exact nl_digits (.inr rfl) (by simp; omega) _ 0 0 false rfl (hmem 16 (by decide) _ hlt) (by decide) (by omega) (fun e => by simp at e)
    · rw [← under]
      refine num_hex _ _ ?_
      rw [← hval, val, Nat.zero_mul, Nat.zero_add]
      have h0 : (hdg d0 :: und ds').drop 0 = hdg d0 :: und ds' := rfl
      have hlu : (hdg d0 :: und ds').length < 1000000 := by rw [List.length_cons, ul]; omega
      refine nl_dig (.inr rfl) hd0 (by decide) h0 hlu (by omega) ?_
      rw [Nat.zero_mul, Nat.zero_add]
      exact nl_unders hlu ds' 1 d0 rfl (fun x hx => hlt x (List.mem_cons_of_mem _ hx)) (by omega) (by rw [List.length_cons]; omega)
    · refine num_ten ts tlt _ ?_
      rw [← tval]
      exact nl_digits (.inl rfl) (by simp; omega) ts 0 0 false rfl tlt (by decide) (by omega) (fun e => absurd e tne)
    · rw [← List.map_append]
      refine num_ten _ (hmem 10 (by decide) _ tlt) _ ?_
      rw [← tval, ← val_zeros 10 z]
      exact nl_digits (.inl rfl) (by simp; omega) _ 0 0 false rfl (hmem 10 (by decide) _ tlt) (by decide) (by omega) (fun e => absurd (List.append_eq_nil_iff.1 e).2 tne)
  · have et : (48 :: 120 :: (d0 :: ds').map hdg) ++ [95] = 48 :: 120 :: ((d0 :: ds').map hdg ++ [95]) := rfl
    rw [et]
    refine num_hex _ _ ?_
    exact nl_tail (by simp; omega) (d0 :: ds') 0 0 false rfl hlt (by decide)
end Go.Proofs.YtihjlkdobdffjaaDoor.Pure
