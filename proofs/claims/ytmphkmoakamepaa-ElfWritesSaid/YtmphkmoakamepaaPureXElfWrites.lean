/-
  The file of any image, byte for byte; the image that is handed in stays as it is.
  Conditions: none.
-/
import Derived.Test.YtmphkmoakamepaaPureElfWrite
set_option linter.unusedVariables false
set_option linter.unusedSimpArgs false
set_option autoImplicit false
set_option maxRecDepth 100000
namespace Go.Va
def Bys (l : List Int) : Prop := ∀ b ∈ l, 0 ≤ b ∧ b < 256
theorem Bys.app {l k : List Int} (h : Bys l) (g : Bys k) : Bys (l ++ k) := fun b hb => by
  rcases List.mem_append.1 hb with hb | hb
  · exact h b hb
  · exact g b hb
theorem Bys.lay (n : Nat) (l : List Int) : Bys (l.flatMap (lay n)) := fun b hb => by
  obtain ⟨v, _, hv⟩ := List.mem_flatMap.1 hb
  exact lay_byte n v b hv
theorem Bys.zeros (n : Nat) : Bys (List.replicate n 0) := fun b hb => by rw [(List.mem_replicate.1 hb).2]; omega
theorem Bys.str (s : ByteArray) : Bys (strI s) := fun b hb => by
  obtain ⟨u, _, rfl⟩ := List.mem_map.1 hb
  have := u.toNat_lt
  omega
theorem Bys.all {l : List Int} (h : Bys l) : l.all (fun b => decide (0 ≤ b) && decide (b < 256)) = true := List.all_eq_true.2 fun b hb => by
  have := h b hb
  simp; omega
theorem Bys.one {b : Int} (h : 0 ≤ b ∧ b < 256) : Bys [b] := fun c hc => by rw [List.mem_singleton] at hc; subst hc; exact h
theorem bys_head (E : Int) (S : List SegT) (a b c : Int) : Bys (headF E S a b c) := by
  unfold headF
  refine Bys.app (Bys.app (Bys.app (fun b hb => ?_) (Bys.lay 2 _)) (Bys.lay 4 _)) (Bys.lay 2 _)
  simp only [magic, List.mem_cons, List.not_mem_nil, or_false] at hb
  rcases hb with rfl | rfl | rfl | rfl | rfl | rfl | rfl | rfl | rfl | rfl | rfl | rfl | rfl | rfl | rfl | rfl <;> omega
theorem bys_mid (E : Int) (S : List SegT) (a b c : Int) (hS : ∀ s ∈ S, Bys s.2.2.2.1) : Bys (midF E S a b c) := by
  have h1 : ∀ (P : List Int) (cs : List SegT) (x : Nat × List Int), Bys x.2 → Bys (cs.foldl (phG P) x).2 := by
    intro P cs
    induction cs with
    | nil => intro x h; exact h
    | cons c cs ih => intro x h; rw [List.foldl_cons]; exact ih _ (Bys.app h (Bys.lay 4 _))
  have h2 : ∀ (cs : List SegT) (x : List Int), (∀ s ∈ cs, Bys s.2.2.2.1) → Bys x → Bys (cs.foldl bdG x) := by
    intro cs
    induction cs with
    | nil => intro x _ h; exact h
    | cons c cs ih =>
      intro x hc h
      rw [List.foldl_cons]
      refine ih _ (fun s hs => hc s (List.mem_cons_of_mem _ hs)) ?_
      unfold bdG
      split
      · exact Bys.app (Bys.app h (Bys.zeros _)) (hc c List.mem_cons_self)
      · exact h
  exact h2 S _ hS (h1 _ S _ (bys_head E S a b c))
theorem bys_sym : ∀ (Y : List SymT) (a : Nat), Bys (symL Y a)
  | [], a => fun b hb => by cases hb
  | c :: Y, a => by
    simp only [symL, symE]
    refine Bys.app (Bys.app (Bys.app (Bys.lay 4 _) (fun b hb => ?_)) (lay_byte 2 _)) (bys_sym Y _)
    simp only [List.mem_cons, List.not_mem_nil, or_false] at hb
    rcases hb with rfl | rfl <;> omega
theorem bys_tab (S : List SegT) (Y : List SymT) (f : List Int) (hf : Bys f) : Bys (tabB S Y f) := by
  unfold tabB tabA
  have h1 : Bys (namesL Y) := fun b hb => by
    obtain ⟨c, _, hc⟩ := List.mem_flatMap.1 hb
    exact Bys.app (Bys.str c.1) (Bys.one (by omega)) b hc
  have h2 : Bys titI := fun b hb => by
    simp only [titI, List.mem_cons, List.not_mem_nil, or_false] at hb
    omega
  exact Bys.app (Bys.app (Bys.app (Bys.app (Bys.app (Bys.app (Bys.app (Bys.app (Bys.app hf (Bys.zeros _)) (Bys.app (lay_byte 16 0) (bys_sym Y 1))) (Bys.app (Bys.one (by omega)) h1)) h2) (Bys.zeros _)) (Bys.zeros _)) (Bys.lay 4 _)) (Bys.lay 4 _)) (Bys.lay 4 _)
theorem bys_write (E : Int) (S : List SegT) (Y : List SymT) (hS : ∀ s ∈ S, Bys s.2.2.2.1) : Bys (writeF E S Y).1 := by
  unfold writeF
  split
  · intro b hb; cases hb
  · show Bys (fileF E S Y)
    unfold fileF
    split
    · exact bys_mid E S _ _ _ hS
    · exact bys_tab S Y _ (bys_mid E S _ _ _ hS)

/-! ### An image is the same as itself -/
theorem same_eq (x : T25) (h : ImgOk x) (k : Nat) (hk : reachBytes < k) : atlaslaw23_same.f k x x = some true := by
  have hr := reach_v
  obtain ⟨E, S, Y⟩ := x
  have sl : S.length * 40 ≤ reachBytes := h.sl
  have yl : Y.length * 24 ≤ reachBytes := h.yl
  have hS : ∀ c ∈ S, Bys c.2.2.2.1 := fun c hc => (h.su c hc).2.2
  have c1 : ∀ q : Nat, decide ((0 : Int) ≤ (q : Int)) = true := fun q => decide_eq_true (by omega)
  have A := (fold_loop S (fun q (x : Unit) => True) (fun x c => x) (fun x : Unit => (Sum.inr (E, S, Y, E, S, Y) : Bool ⊕ (Int × List SegT × List SymT × Int × List SegT × List SymT))) (fun n q x => atlaslaw23_same.q0.l k n ((q : Int), E, S, Y, E, S, Y)) (fun n x _ => ?_) (fun n q c x hc hq hI => ?_) S k 0 () rfl (by omega) (by omega) trivial).1
  · have B := (fold_loop Y (fun q (x : Unit) => True) (fun x c => x) (fun x : Unit => (Sum.inr () : Bool ⊕ Unit)) (fun n q x => atlaslaw23_same.q1.l k n ((q : Int), E, S, Y, E, S, Y)) (fun n x _ => ?_) (fun n q c x hc hq hI => ?_) Y k 0 () rfl (by omega) (by omega) trivial).1
    · have A : atlaslaw23_same.q0.l k k (0, E, S, Y, E, S, Y) = some (.inr (E, S, Y, E, S, Y)) := A
      have B : atlaslaw23_same.q1.l k k (0, E, S, Y, E, S, Y) = some (.inr ()) := B
      unfold atlaslaw23_same.f
      simp only [bne_self_eq_false, cond_false, A, Option.bind_some, Sum.elim_inr, B]
    · simp only [atlaslaw23_same.q1.l, decide_eq_false (show ¬ (Y.length : Int) < ((Y.length : Nat) : Int) by omega), cond_false]
    · refine ⟨trivial, ?_⟩
      simp only [atlaslaw23_same.q1.l, decide_eq_true (show (q : Int) < ((Y.length : Nat) : Int) by omega), c1, Bool.and_self, cond_true, Int.toNat_natCast, getD_of hc, beq_self_eq_true, Bool.not_true, cond_false, wrap_i64n q (by omega)]
  · simp only [atlaslaw23_same.q0.l, decide_eq_false (show ¬ (S.length : Int) < ((S.length : Nat) : Int) by omega), cond_false]
  · refine ⟨trivial, ?_⟩
    have hb := (hS c (mem_at hc)).all
    simp only [atlaslaw23_same.q0.l, decide_eq_true (show (q : Int) < ((S.length : Nat) : Int) by omega), c1, Bool.and_self, cond_true, Int.toNat_natCast, getD_of hc, bne_self_eq_false, beq_self_eq_true, Bool.not_true, cond_false, hb, wrap_i64n q (by omega)]

theorem write_both (x : T25) (h : ImgOk x) (k : Nat) (hk : reachBytes < k) : ∃ w, elf_Write.f k x = some w ∧ atlasref23_Write.f k x = some w ∧ Bys w.1 := by
  cases hr : rightB x with
  | true => exact ⟨_, write_eq x h k hk hr, rwrite_eq x h k hk hr, bys_write _ _ _ (fun c hc => (h.su c hc).2.2)⟩
  | false =>
    obtain ⟨h1, h2⟩ := right_eq x h k hk
    refine ⟨([], 239), ?_, ?_, fun b hb => by cases hb⟩
    · have e : elf_Write.f k x = (elf_Right.f k x).bind _ := rfl
      rw [e, h1, hr]; rfl
    · have e : atlasref23_Write.f k x = (atlasref23_Right.f k x).bind _ := rfl
      rw [e, h2, hr]; rfl
theorem writes_law (x : T25) (h : ImgOk x) : ∃ k, atlaslaw23_ElfWrites.f k x = some true := by
  have hr := reach_v
  have hs := h.sl
  refine ⟨reachBytes + 1, ?_⟩
  generalize hk : reachBytes + 1 = k
  have ho := own_eq x h k (by omega)
  obtain ⟨w, h1, h2, h3⟩ := write_both x h k (by omega)
  have h4 := same_eq x h k (by omega)
  have e : atlaslaw23_ElfWrites.f k x = ((atlaslaw23_own.f k x).bind fun r1 => (elf_Write.f k r1).bind fun r2 => (atlasref23_Write.f k x).bind fun r3 =>
      (bif r2.1.all (fun b => decide (0 ≤ b) && decide (b < 256)) then (bif r3.1.all (fun b => decide (0 ≤ b) && decide (b < 256)) then (bif ((bytesO r2.1).toList == (bytesO r3.1).toList) then (bif (r2.2 == r3.2) then ((atlaslaw23_same.f k r1 x).bind fun r4 => (some r4)) else (some false)) else (some false)) else none) else none)) := rfl
  rw [e, ho, Option.bind_some, h1, Option.bind_some, h2, Option.bind_some]
  simp only [h3.all, cond_true, beq_self_eq_true, h4, Option.bind_some]
end Go.Va
namespace Go.Proofs.Ytmphkmoakamepaa.Pure
open Go.Va
theorem XElfWrites (y0 : ImgC.D) (w0 : ImgC.wf y0) : ∃ k, atlaslaw23_ElfWrites.f k ⟨y0.1, y0.2.1, y0.2.2.1⟩ = some true :=
  writes_law _ (img_ok w0)
end Go.Proofs.Ytmphkmoakamepaa.Pure
