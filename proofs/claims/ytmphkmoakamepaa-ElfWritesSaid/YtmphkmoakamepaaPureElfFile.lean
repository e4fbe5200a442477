/-
  The file of an image, by the program and by the document's answer.
  Conditions: none.
-/
import Derived.Test.YtmphkmoakamepaaPureElfPlan
set_option linter.unusedVariables false
set_option linter.unusedSimpArgs false
set_option autoImplicit false
set_option maxRecDepth 100000
namespace Go.Va
/-! ### The parts -/
def magic : List Int := [127, 69, 76, 70, 1, 1, 1, 0, 0, 0, 0, 0, 0, 0, 0, 0]
def bitsB (c : SegT) : Int := bif c.2.2.1.1 then (bif c.2.2.1.2.1 then (bif c.2.2.1.2.2.1 then 7 else 6) else (bif c.2.2.1.2.2.1 then 5 else 4)) else (bif c.2.2.1.2.1 then (bif c.2.2.1.2.2.1 then 3 else 2) else (bif c.2.2.1.2.2.1 then 1 else 0))
theorem bits_eq (c : SegT) : elf_bits.f ⟨c.2.2.1.1, c.2.2.1.2.1, c.2.2.1.2.2.1⟩ = some (bitsB c) ∧ atlasref23_bits.f ⟨c.2.2.1.1, c.2.2.1.2.1, c.2.2.1.2.2.1⟩ = some (bitsB c) := by
  unfold elf_bits.f atlasref23_bits.f bitsB
  cases c.2.2.1.1 <;> cases c.2.2.1.2.1 <;> cases c.2.2.1.2.2.1 <;> exact ⟨rfl, rfl⟩
theorem bits_lt (c : SegT) : 0 ≤ bitsB c ∧ bitsB c < 8 := by
  unfold bitsB
  cases c.2.2.1.1 <;> cases c.2.2.1.2.1 <;> cases c.2.2.1.2.2.1 <;> exact ⟨by decide, by decide⟩
def phW (c : SegT) (p : Int) : List Int := [1, p, c.1, c.1, ((List.length c.2.2.2.1 : Nat) : Int), c.2.1, bitsB c, 4096]
def phG (P : List Int) (x : Nat × List Int) (c : SegT) : Nat × List Int := (x.1 + 1, x.2 ++ (phW c (P.getD x.1 0)).flatMap (lay 4))
def bdG (f : List Int) (c : SegT) : List Int := if 0 < List.length c.2.2.2.1 then f ++ List.replicate (up4k f.length - f.length) 0 ++ c.2.2.2.1 else f
/-- The place at which the q-th segment is met. -/
def atq (S : List SegT) (q : Nat) : Nat := ((S.take q).foldl plG (52 + 32 * S.length, [])).1

theorem plG_pre : ∀ (cs : List SegT) (x : Nat × List Int), ∃ t, (cs.foldl plG x).2 = x.2 ++ t
  | [], x => ⟨[], by simp⟩
  | c :: cs, x => by
    obtain ⟨t, ht⟩ := plG_pre cs (plG x c)
    exact ⟨(up4k x.1 : Int) :: t, by rw [List.foldl_cons, ht]; simp [plG]⟩
theorem plG_len : ∀ (cs : List SegT) (x : Nat × List Int), (cs.foldl plG x).2.length = x.2.length + cs.length
  | [], x => rfl
  | c :: cs, x => by rw [List.foldl_cons, plG_len cs]; simp [plG]; omega
theorem take_succ_get {α : Type} {S : List α} {q : Nat} {c : α} (h : S[q]? = some c) : S.take (q + 1) = S.take q ++ [c] := by
  rw [List.take_add_one, h]; rfl
theorem atq_succ {S : List SegT} {q : Nat} {c : SegT} (h : S[q]? = some c) : atq S (q + 1) = plN (atq S q) (List.length c.2.2.2.1) := by
  unfold atq
  rw [take_succ_get h, List.foldl_append]; rfl
theorem plc_get {S : List SegT} {q : Nat} {c : SegT} (h : S[q]? = some c) : (plc S).2.getD q 0 = ((up4k (atq S q) : Nat) : Int) ∧ q < (plc S).2.length := by
  have hlt : q < S.length := (List.getElem?_eq_some_iff.1 h).1
  have e1 : S = S.take q ++ c :: S.drop (q + 1) := by
    have h2 := (List.getElem?_eq_some_iff.1 h).2
    exact (List.take_append_drop q S).symm.trans (by rw [List.drop_eq_getElem_cons hlt, h2])
  have hl : (plc S).2.length = S.length := by unfold plc; rw [plG_len]; simp
  have hq : ((S.take q).foldl plG (52 + 32 * S.length, [])).2.length = q := by rw [plG_len]; simp; omega
  refine ⟨?_, by omega⟩
  have e2 : plc S = (S.drop (q + 1)).foldl plG (plG ((S.take q).foldl plG (52 + 32 * S.length, [])) c) := by
    unfold plc
    conv => lhs; rw [show S.foldl plG (52 + 32 * S.length, []) = (S.take q ++ c :: S.drop (q + 1)).foldl plG (52 + 32 * S.length, []) by rw [← e1]]
    rw [List.foldl_append, List.foldl_cons]
  obtain ⟨t, ht⟩ := plG_pre (S.drop (q + 1)) (plG ((S.take q).foldl plG (52 + 32 * S.length, [])) c)
  rw [e2, ht]
  have e3 : (plG ((S.take q).foldl plG (52 + 32 * S.length, [])) c).2 = ((S.take q).foldl plG (52 + 32 * S.length, [])).2 ++ [((up4k (atq S q) : Nat) : Int)] := rfl
  rw [e3, List.append_assoc, List.getD_eq_getElem?_getD, List.getElem?_append_right (by omega), hq]
  simp
theorem atq_le {S : List SegT} (h16 : S.length ≤ 16) (hd : ∀ c ∈ S, List.length c.2.2.2.1 ≤ 16777216) (q : Nat) (hq : q ≤ S.length) : atq S q ≤ 1000 + q * 16781312 := by
  induction q with
  | zero => unfold atq; simp; omega
  | succ q ih =>
    have hlt : q < S.length := by omega
    have hc : S[q]? = some S[q] := List.getElem?_eq_getElem hlt
    rw [atq_succ hc]
    have h1 := ih (by omega)
    have h2 := plN_le (atq S q) (List.length S[q].2.2.2.1)
    have h3 := hd S[q] (List.getElem_mem hlt)
    omega
theorem atq_end (S : List SegT) : atq S S.length = stp S := by unfold atq stp plc; rw [List.take_length]
theorem bdG_len (f : List Int) (c : SegT) : (bdG f c).length = plN f.length (List.length c.2.2.2.1) := by
  unfold bdG plN
  have := le_up4k f.length
  split
  · simp; omega
  · rfl

/-! ### The program headers and the bodies -/
def phI (n : Nat) (q : Nat) (x : Nat × List Int) : Prop := x.1 = q ∧ x.2.length = n + 32 * q
theorem phW_flat (c : SegT) (p : Int) : ((phW c p).flatMap (lay 4)).length = 32 := by rw [flat_len]; rfl
theorem ph_eq (k : Nat) (E : Int) (S : List SegT) (Y : List SymT) (h : RightOk E S Y) (hS : ∀ c ∈ S, SegOk c) (a1 a2 a3 a4 a5 : Int) (f : List Int) (hf : f.length = 52) (hk : 2000 < k) :
    elf_Write.q0.l k k (S, ((S.length : Nat) : Int), 0, E, S, Y, (plc S).2, a1, a2, a3, a4, a5, f) = some (E, S, Y, (plc S).2, a1, a2, a3, a4, a5, (S.foldl (phG (plc S).2) (0, f)).2) ∧
    (∀ (b1 b2 b3 b4 b5 : Int) (L1 L2 : List Int), atlasref23_Write.q2.l k k ((plc S).2, b1, b2, b3, b4, 0, b5, S, Y, L1, L2, f) = some (b1, b2, b3, b4, b5, S, Y, L1, L2, (S.foldl (phG (plc S).2) (0, f)).2)) ∧
    (S.foldl (phG (plc S).2) (0, f)).2.length = 52 + 32 * S.length := by
  have h16 := h.s16
  have c1 : ∀ q : Nat, decide ((0 : Int) ≤ (q : Int)) = true := fun q => decide_eq_true (by omega)
  have c0 : ∀ q : Nat, q < S.length → decide ((q : Int) < ((S.length : Nat) : Int)) = true := fun q h => decide_eq_true (by omega)
  have inv : ∀ q x c, phI 52 q x → phI 52 (q + 1) (phG (plc S).2 x c) := fun q x c hI => ⟨by simp [phG, hI.1], by simp only [phG, List.length_append, phW_flat, hI.2]; omega⟩
  have val : ∀ q c, S[q]? = some c → ((plc S).2.getD q 0 = ((up4k (atq S q) : Nat) : Int) ∧ q < (plc S).2.length) ∧ up4k (atq S q) ≤ 300000000 := fun q c hc => by
    have hlt := (List.getElem?_eq_some_iff.1 hc).1
    refine ⟨plc_get hc, ?_⟩
    have h1 := atq_le h.s16 h.data q (by omega)
    have h2 := up4k_le (atq S q)
    omega
  have A := (fold_loop S (phI 52) (phG (plc S).2) (fun x : Nat × List Int => (E, S, Y, (plc S).2, a1, a2, a3, a4, a5, x.2)) (fun n q x => elf_Write.q0.l k n (S, ((S.length : Nat) : Int), (q : Int), E, S, Y, (plc S).2, a1, a2, a3, a4, a5, x.2)) (fun n x _ => ?_) (fun n q c x hc hq hI => ?_) S k 0 (0, f) rfl (by omega) (by omega) ⟨rfl, hf⟩)
  · refine ⟨A.1, fun b1 b2 b3 b4 b5 L1 L2 => ?_, A.2.2⟩
    exact (fold_loop S (phI 52) (phG (plc S).2) (fun x : Nat × List Int => (b1, b2, b3, b4, b5, S, Y, L1, L2, x.2)) (fun n q x => atlasref23_Write.q2.l k n ((plc S).2, b1, b2, b3, b4, (q : Int), b5, S, Y, L1, L2, x.2)) (fun n x _ => by
        simp only [atlasref23_Write.q2.l, decide_eq_false (show ¬ (S.length : Int) < ((S.length : Nat) : Int) by omega), cond_false]) (fun n q c x hc hq hI => by
        refine ⟨inv q x c hI, ?_⟩
        obtain ⟨⟨v1, v2⟩, v3⟩ := val q c hc
        have oc := hS c (mem_at hc)
        have hdc := h.data c (mem_at hc)
        have hw : atlasref23_File_words.f k x.2 (phW c ((plc S).2.getD q 0)) = some (x.2 ++ (phW c ((plc S).2.getD q 0)).flatMap (lay 4)) := by
          refine rwords_eq k _ _ (by show 8 < k; omega) (by omega) (fun v hv => ?_) (by show x.2.length + 4 * 8 ≤ _; rw [hI.2]; simp only [Big]; omega)
          have hb := bits_lt c
          rw [v1] at hv
          simp only [phW, List.mem_cons, List.not_mem_nil, or_false] at hv
          have o1 := oc.1
          have o2 := oc.2.1
          rcases hv with rfl | rfl | rfl | rfl | rfl | rfl | rfl | rfl <;> omega
        have e1 : x.1 = q := hI.1
        unfold phW at hw
        simp only [atlasref23_Write.q2.l, c0 q hq, c1, Bool.and_self, cond_true, decide_eq_true (show (q : Int) < (((plc S).2.length : Nat) : Int) by omega), Int.toNat_natCast, getD_of hc, (bits_eq c).2, Option.bind_some, wrap_u64e c.1 oc.1.1 (by have := oc.1.2; omega), wrap_u64e c.2.1 oc.2.1.1 (by have := oc.2.1.2; omega), wrap_u64e ((List.length c.2.2.2.1 : Nat) : Int) (by omega) (by omega), hw, wrap_i64n q (by omega)]
        simp only [phG, phW, e1]) S k 0 (0, f) rfl (by omega) (by omega) ⟨rfl, hf⟩).1
  · simp only [elf_Write.q0.l, decide_eq_false (show ¬ (S.length : Int) < ((S.length : Nat) : Int) by omega), cond_false]
  · refine ⟨inv q x c hI, ?_⟩
    obtain ⟨⟨v1, v2⟩, v3⟩ := val q c hc
    have oc := hS c (mem_at hc)
    have hdc := h.data c (mem_at hc)
    have hw : elf_writer_word.f k x.2 (phW c ((plc S).2.getD q 0)) = some (x.2 ++ (phW c ((plc S).2.getD q 0)).flatMap (lay 4)) :=
      word_eq k _ _ (by show 8 < k; omega) (by show x.2.length + 4 * 8 ≤ _; rw [hI.2]; simp only [Big]; omega)
    have e1 : x.1 = q := hI.1
    have w1 : IntKind.wrap .u32 ((plc S).2.getD q 0) = (plc S).2.getD q 0 := by rw [wrap_u32v, v1]; omega
    have w2 : IntKind.wrap .u32 ((List.length c.2.2.2.1 : Nat) : Int) = ((List.length c.2.2.2.1 : Nat) : Int) := by rw [wrap_u32v]; omega
    unfold phW at hw
    simp only [elf_Write.q0.l, c0 q hq, c1, Bool.and_self, cond_true, decide_eq_true (show (q : Int) < (((plc S).2.length : Nat) : Int) by omega), Int.toNat_natCast, getD_of hc, (bits_eq c).1, Option.bind_some, w1, w2, hw, wrap_i64n q (by omega)]
    simp only [phG, phW, e1]
theorem body_eq (k : Nat) (E : Int) (S : List SegT) (Y : List SymT) (h : RightOk E S Y) (a1 a2 a3 a4 a5 : Int) (f : List Int) (hf : f.length = 52 + 32 * S.length) (hk : 5000 < k) :
    elf_Write.q1.l k k (S, ((S.length : Nat) : Int), 0, E, S, Y, (plc S).2, a1, a2, a3, a4, a5, f) = some (E, S, Y, (plc S).2, a1, a2, a3, a4, a5, S.foldl bdG f) ∧
    (∀ (b1 b2 b3 b4 b5 : Int) (L1 L2 : List Int), atlasref23_Write.q3.l k k (b1, b2, b3, b4, 0, b5, S, Y, L1, L2, f) = some (b1, b2, b3, b4, L1, L2, S.foldl bdG f)) ∧
    (S.foldl bdG f).length = stp S := by
  have h16 := h.s16
  have c1 : ∀ q : Nat, decide ((0 : Int) ≤ (q : Int)) = true := fun q => decide_eq_true (by omega)
  have c0 : ∀ q : Nat, q < S.length → decide ((q : Int) < ((S.length : Nat) : Int)) = true := fun q h => decide_eq_true (by omega)
  have inv : ∀ q x c, S[q]? = some c → List.length x = atq S q → List.length (bdG x c) = atq S (q + 1) := fun q x c hc hI => by rw [bdG_len, atq_succ hc, hI]
  have i0 : f.length = atq S 0 := by rw [hf]; rfl
  have bnd : ∀ q c, S[q]? = some c → up4k (atq S q) ≤ 300000000 := fun q c hc => by
    have hlt := (List.getElem?_eq_some_iff.1 hc).1
    have h1 := atq_le h.s16 h.data q (by omega)
    have h2 := up4k_le (atq S q)
    omega
  have A := (fold_loop S (fun q x => List.length x = atq S q) bdG (fun x : List Int => (E, S, Y, (plc S).2, a1, a2, a3, a4, a5, x)) (fun n q x => elf_Write.q1.l k n (S, ((S.length : Nat) : Int), (q : Int), E, S, Y, (plc S).2, a1, a2, a3, a4, a5, x)) (fun n x _ => ?_) (fun n q c x hc hq hI => ?_) S k 0 f rfl (by omega) (by omega) i0)
  · refine ⟨A.1, fun b1 b2 b3 b4 b5 L1 L2 => ?_, A.2.trans (atq_end S)⟩
    exact (fold_loop S (fun q x => List.length x = atq S q) bdG (fun x : List Int => (b1, b2, b3, b4, L1, L2, x)) (fun n q x => atlasref23_Write.q3.l k n (b1, b2, b3, b4, (q : Int), b5, S, Y, L1, L2, x)) (fun n x _ => by
        simp only [atlasref23_Write.q3.l, decide_eq_false (show ¬ (S.length : Int) < ((S.length : Nat) : Int) by omega), cond_false]) (fun n q c x hc hq hI => by
        refine ⟨inv q x c hc hI, ?_⟩
        have hI : List.length x = atq S q := hI
        have hdc := h.data c (mem_at hc)
        have hb := bnd q c hc
        have hle := le_up4k (atq S q)
        by_cases hp : 0 < List.length c.2.2.2.1
        · have hup : atlasref23_File_up.f k x 4096 = some (x ++ List.replicate (up4k x.length - x.length) 0) := rup_4096 k x (by omega) (by simp only [Big]; omega)
          have hr := room (n := (x ++ List.replicate (up4k x.length - x.length) 0 ++ c.2.2.2.1).length) (by simp only [List.length_append, List.length_replicate, Big]; rw [hI]; omega)
          simp only [atlasref23_Write.q3.l, c0 q hq, c1, Bool.and_self, cond_true, Int.toNat_natCast, getD_of hc, decide_eq_true (show ((List.length c.2.2.2.1 : Nat) : Int) > 0 by omega), hup, Option.bind_some, hr, wrap_i64n q (by omega), bdG, if_pos hp]
        · simp only [atlasref23_Write.q3.l, c0 q hq, c1, Bool.and_self, cond_true, Int.toNat_natCast, getD_of hc, decide_eq_false (show ¬ ((List.length c.2.2.2.1 : Nat) : Int) > 0 by omega), cond_false, wrap_i64n q (by omega), bdG, if_neg hp]) S k 0 f rfl (by omega) (by omega) i0).1
  · simp only [elf_Write.q1.l, decide_eq_false (show ¬ (S.length : Int) < ((S.length : Nat) : Int) by omega), cond_false]
  · refine ⟨inv q x c hc hI, ?_⟩
    have hI : List.length x = atq S q := hI
    have hdc := h.data c (mem_at hc)
    have hb := bnd q c hc
    have hle := le_up4k (atq S q)
    obtain ⟨v1, v2⟩ := plc_get hc
    by_cases hp : 0 < List.length c.2.2.2.1
    · have hpad : elf_writer_pad.f x ((plc S).2.getD q 0) = some (x ++ List.replicate (up4k x.length - x.length) 0) := by
        rw [v1, hI]
        have := pad_eq x (up4k (atq S q)) (by omega) (by simp only [Big]; omega)
        rw [hI] at this
        exact this
      have hr := room (n := (x ++ List.replicate (up4k x.length - x.length) 0 ++ c.2.2.2.1).length) (by simp only [List.length_append, List.length_replicate, Big]; rw [hI]; omega)
      simp only [elf_Write.q1.l, c0 q hq, c1, Bool.and_self, cond_true, Int.toNat_natCast, getD_of hc, decide_eq_true (show ((List.length c.2.2.2.1 : Nat) : Int) > 0 by omega), decide_eq_true (show (q : Int) < (((plc S).2.length : Nat) : Int) by omega), hpad, Option.bind_some, hr, wrap_i64n q (by omega), bdG, if_pos hp]
    · simp only [elf_Write.q1.l, c0 q hq, c1, Bool.and_self, cond_true, Int.toNat_natCast, getD_of hc, decide_eq_false (show ¬ ((List.length c.2.2.2.1 : Nat) : Int) > 0 by omega), cond_false, wrap_i64n q (by omega), bdG, if_neg hp]
end Go.Va
