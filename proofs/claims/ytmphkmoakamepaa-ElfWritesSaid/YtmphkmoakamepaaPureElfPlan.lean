/-
  What a right image is bounded by; the plan of its file.
  Conditions: none.
-/
import Derived.Test.YtmphkmoakamepaaPureElfLay
set_option linter.unusedVariables false
set_option linter.unusedSimpArgs false
set_option autoImplicit false
set_option maxRecDepth 100000
namespace Go.Va
theorem decode_w (s : ByteArray) (p : Nat) : (Utf8.decode s p).2 ≤ 4 := by
  rw [decode_dec4]
  unfold dec4
  simp only []
  repeat' split
  all_goals simp
theorem name_len_loop (k : Nat) (s : ByteArray) (hn : s.size ≤ 140737488351232) : ∀ (m p n : Nat) (r : Int), words_Name.q0.l k m ((n : Int), s, p) = some (.inr r) → p ≤ s.size → n ≤ p → (n : Int) ≤ r ∧ (s.size : Int) ≤ p + 4 * (r - n) := by
  intro m
  induction m with
  | zero => intro p n r h; cases h
  | succ m ih =>
    intro p n r h hp hnp
    simp only [words_Name.q0.l, letter_eq, Option.bind_some] at h
    by_cases hz : p < s.size
    · obtain ⟨_, _, _, w1, w2⟩ := rune_eq s hn p hz
      have w3 := decode_w s p
      have e1 : IntKind.wrap .i64 ((n : Int) + 1) = ((n + 1 : Nat) : Int) := wrap_i64n n (by omega)
      rw [decide_eq_true hz, cond_true, e1] at h
      have hrec : words_Name.q0.l k m (((n + 1 : Nat) : Int), s, p + (Utf8.decode s p).2) = some (.inr r) := by
        cases hl : ltr (((Utf8.decode s p).1 : Nat) : Int) with
        | true => rw [hl] at h; exact h
        | false =>
          rw [hl] at h
          cases h0 : ((n : Int) == 0) with
          | true => rw [h0] at h; cases h
          | false =>
            rw [h0] at h
            cases h1 : ((((Utf8.decode s p).1 : Nat) : Int) != 95) with
            | false => rw [h1] at h; exact h
            | true =>
              rw [h1] at h
              cases h2 : decide ((((Utf8.decode s p).1 : Nat) : Int) < 48) with
              | true => rw [h2] at h; cases h
              | false =>
                rw [h2] at h
                cases h3 : decide ((((Utf8.decode s p).1 : Nat) : Int) > 57) with
                | true => rw [h3] at h; cases h
                | false => rw [h3] at h; exact h
      obtain ⟨h1, h2⟩ := ih _ _ _ hrec w2 (by omega)
      omega
    · rw [decide_eq_false hz, cond_false, Option.some.injEq, Sum.inr.injEq] at h
      omega
theorem name_len {s : ByteArray} (hn : s.size ≤ 140737488351232) (h : nameB s = true) : s.size ≤ 64 := by
  have h1 := (name_eq s hn (s.size + 1) (by omega)).1
  unfold words_Name.f at h1
  cases hl : words_Name.q0.l (s.size + 1) (s.size + 1) (0, s, 0) with
  | none => rw [hl] at h1; cases h1
  | some r =>
    rw [hl, Option.bind_some, h] at h1
    cases r with
    | inl b =>
      exfalso
      obtain ⟨r, hr⟩ := name_loop (s.size + 1) s hn s.size 0 0 (by omega) (by omega) (by omega)
      have h2 := (hr (s.size + 1) (by omega)).1
      have h3 : (some (Sum.inl b) : Option (Bool ⊕ Int)) = some r := hl.symm.trans h2
      -- the loop tells by .inl only what is none
      have key : ∀ (m p : Nat) (n : Int) (b : Bool), words_Name.q0.l (s.size + 1) m (n, s, p) = some (.inl b) → b = false := by
        intro m
        induction m with
        | zero => intro p n b h; cases h
        | succ m ih =>
          intro p n b h
          simp only [words_Name.q0.l, letter_eq, Option.bind_some] at h
          cases hd : decide (p < s.size) with
          | false => rw [hd] at h; cases h
          | true =>
            rw [hd, cond_true] at h
            cases hl1 : ltr (((Utf8.decode s p).1 : Nat) : Int) with
            | true => rw [hl1] at h; exact ih _ _ _ h
            | false =>
              rw [hl1] at h
              cases h0 : (n == 0) with
              | true => rw [h0] at h; simp only [Bool.not_false, cond_true, Option.some.injEq, Sum.inl.injEq] at h; exact h.symm
              | false =>
                rw [h0] at h
                cases h1 : ((((Utf8.decode s p).1 : Nat) : Int) != 95) with
                | false => rw [h1] at h; exact ih _ _ _ h
                | true =>
                  rw [h1] at h
                  cases h2 : decide ((((Utf8.decode s p).1 : Nat) : Int) < 48) with
                  | true => rw [h2] at h; simp only [Bool.not_false, cond_true, cond_false, Option.some.injEq, Sum.inl.injEq] at h; exact h.symm
                  | false =>
                    rw [h2] at h
                    cases h3 : decide ((((Utf8.decode s p).1 : Nat) : Int) > 57) with
                    | true => rw [h3] at h; simp only [Bool.not_false, cond_true, cond_false, Option.some.injEq, Sum.inl.injEq] at h; exact h.symm
                    | false => rw [h3] at h; exact ih _ _ _ h
      have hb := key _ _ _ _ hl
      subst hb
      cases h1
    | inr r =>
      have h2 := name_len_loop (s.size + 1) s hn (s.size + 1) 0 0 r hl (by omega) (by omega)
      simp only [Sum.elim_inr] at h1
      cases hd : decide (r ≥ 1) with
      | false => rw [hd] at h1; cases h1
      | true =>
        rw [hd, cond_true, Option.some.injEq, decide_eq_true_eq] at h1
        omega
theorem sym_names {Y : List SymT} (h : symB Y = true) : ∀ c ∈ Y, nameB c.1 = true := by
  have key : ∀ (cs : List SymT) (q : Nat), runS (syF (ρ := Unit) Y) (fun _ => .inr ()) cs q = .inr () → ∀ c ∈ cs, nameB c.1 = true := by
    intro cs
    induction cs with
    | nil => intro q _ c hc; cases hc
    | cons c cs ih =>
      intro q hr
      simp only [runS, syF] at hr
      cases h1 : has (Y.take q) c.1 with
      | true => rw [h1] at hr; cases hr
      | false =>
        rw [h1] at hr
        cases h2 : nameB c.1 with
        | false => rw [h2] at hr; cases hr
        | true =>
          rw [h2] at hr
          intro c' hc'
          rcases List.mem_cons.1 hc' with rfl | hc'
          · exact h2
          · exact ih (q + 1) hr c' hc'
  unfold symB at h
  rcases sy_res (ρ := Unit) Y () Y 0 with ⟨h1, _⟩ | ⟨h1, _⟩
  · exact key Y 0 h1
  · rw [h1] at h; cases h
/-- What is so of a right image. -/
structure RightOk (E : Int) (S : List SegT) (Y : List SymT) : Prop where
  s1 : 1 ≤ S.length
  s16 : S.length ≤ 16
  y : Y.length ≤ 1024
  seg : ∀ c ∈ S, segB c = true
  data : ∀ c ∈ S, List.length c.2.2.2.1 ≤ 16777216
  name : ∀ c ∈ Y, nameB c.1 = true
  size : ∀ c ∈ Y, c.1.size ≤ 64
theorem right_ok {x : T25} (h : ImgOk x) (hr : rightB x = true) : RightOk x.f0_Entry x.f1_Segments x.f2_Symbols := by
  have hreach := reach_v
  unfold rightB at hr
  simp only [Bool.and_eq_true, Bool.not_eq_true', decide_eq_false_iff_not, List.all_eq_true] at hr
  obtain ⟨h1, h2, h3, h4, h5, h6, h7⟩ := hr
  refine ⟨by omega, by omega, by omega, h4, fun c hc => ?_, sym_names h5, fun c hc => ?_⟩
  · have := h4 c hc
    simp only [segB, Bool.and_eq_true, decide_eq_true_eq] at this
    omega
  · exact name_len (by have := h.yn c hc; omega) (sym_names h5 c hc)

/-! ### The plan -/
def up4 (a : Nat) : Nat := (a + 3) / 4 * 4
theorem up4_le (a : Nat) : up4 a ≤ a + 3 := by unfold up4; omega
theorem le_up4 (a : Nat) : a ≤ up4 a := by unfold up4; omega
theorem up4_eq (a : Nat) (h : a < 4611686018427387904) : elf_up.f (a : Int) 4 = some ((up4 a : Nat) : Int) := by
  rw [up_eq _ _ (by omega) (by omega) (by omega)]
  unfold up4
  congr 1
  omega
theorem rup4_eq (a : Nat) (h : a < 4611686018427387904) : IntKind.wrap .u64 (IntKind.wrap .u64 (Int.tdiv (IntKind.wrap .u64 ((a : Int) + 3)) 4) * 4) = ((up4 a : Nat) : Int) := by
  have h1 : up4 a ≤ a + 3 := up4_le a
  rw [wrap_u64e ((a : Int) + 3) (by omega) (by omega), Int.tdiv_eq_ediv_of_nonneg (by omega), wrap_u64e (((a : Int) + 3) / 4) (by omega) (by omega), wrap_u64e _ (by omega) (by omega)]
  unfold up4; omega
def stp (S : List SegT) : Nat := (plc S).1
def nt (Y : List SymT) : Nat := Y.foldl (fun a c => a + (c.1.size + 1)) 0
def sy (S : List SegT) : Nat := up4 (stp S)
def nm (S : List SegT) (Y : List SymT) : Nat := sy S + 16 * (Y.length + 1)
def ti (S : List SegT) (Y : List SymT) : Nat := nm S Y + 1 + nt Y
def se (S : List SegT) (Y : List SymT) : Nat := up4 (ti S Y + 27)
theorem nt_le (Y : List SymT) (h : ∀ c ∈ Y, c.1.size ≤ 64) : nt Y ≤ 65 * Y.length := by
  have key : ∀ (cs : List SymT) (a : Nat), (∀ c ∈ cs, c.1.size ≤ 64) → cs.foldl (fun a c => a + (c.1.size + 1)) a ≤ a + 65 * cs.length := by
    intro cs
    induction cs with
    | nil => intro a _; simp
    | cons c cs ih =>
      intro a hc
      rw [List.foldl_cons]
      have h1 := ih (a + (c.1.size + 1)) (fun c' hc' => hc c' (List.mem_cons_of_mem _ hc'))
      have h2 := hc c List.mem_cons_self
      rw [List.length_cons]; omega
  have := key Y 0 h
  rw [Nat.zero_add] at this
  exact this
theorem plan_le {E : Int} {S : List SegT} {Y : List SymT} (h : RightOk E S Y) : stp S ≤ 268501992 ∧ sy S ≤ 268501995 ∧ nm S Y ≤ 268518395 ∧ ti S Y ≤ 268584956 ∧ se S Y ≤ 268584986 := by
  have h1 := (plc_inv S h.s16 h.data).1
  have h2 : stp S ≤ 1000 + S.length * 16781312 := h1
  have h3 := up4_le (stp S)
  have h4 := nt_le Y h.size
  have h5 := up4_le (ti S Y + 27)
  have h6 := h.s16
  have h7 := h.y
  unfold se
  unfold ti nm sy at *
  omega
theorem laid_eq (k : Nat) (E : Int) (S : List SegT) (Y : List SymT) (h : RightOk E S Y) (hk : 2000 < k) :
    elf_laid.f k ⟨E, S, Y⟩ = some (if Y.length = 0 then ⟨(plc S).2, 0, 0, 0, 0, (stp S : Int)⟩ else ⟨(plc S).2, (sy S : Int), (nm S Y : Int), (ti S Y : Int), (se S Y : Int), ((se S Y + 160 : Nat) : Int)⟩) := by
  have hs16 := h.s16
  have hy := h.y
  have hp := (laid_places k E S Y h.s16 (by omega) h.data).1
  obtain ⟨b1, b2, b3, b4, b5⟩ := plan_le h
  have e0 : IntKind.wrap .u64 (IntKind.wrap .i64 (52 + IntKind.wrap .i64 (32 * ((S.length : Nat) : Int)))) = ((52 + 32 * S.length : Nat) : Int) := by
    rw [wrap_i64e (32 * ((S.length : Nat) : Int)) (by omega) (by omega), wrap_i64e (52 + 32 * ((S.length : Nat) : Int)) (by omega) (by omega), wrap_u64e _ (by omega) (by omega)]
    omega
  unfold elf_laid.f
  simp only [e0, hp, Option.bind_some]
  by_cases hY : Y.length = 0
  · rw [if_pos hY, decide_eq_false (show ¬ ((Y.length : Nat) : Int) > 0 by omega), cond_false]
    rfl
  · rw [if_neg hY, decide_eq_true (show ((Y.length : Nat) : Int) > 0 by omega), cond_true]
    have e1 : elf_up.f ((plc S).1 : Int) 4 = some ((sy S : Nat) : Int) := up4_eq (stp S) (by omega)
    have e2 : IntKind.wrap .u64 (((sy S : Nat) : Int) + IntKind.wrap .u64 (16 * IntKind.wrap .u64 (IntKind.wrap .i64 (((Y.length : Nat) : Int) + 1)))) = ((nm S Y : Nat) : Int) := by
      rw [wrap_i64e _ (by omega) (by omega), wrap_u64e (((Y.length : Nat) : Int) + 1) (by omega) (by omega), wrap_u64e (16 * (((Y.length : Nat) : Int) + 1)) (by omega) (by omega), wrap_u64e _ (by omega) (by omega)]
      unfold nm; omega
    have e3 : IntKind.wrap .u64 (((nm S Y : Nat) : Int) + 1) = ((nm S Y + 1 : Nat) : Int) := by rw [wrap_u64e _ (by omega) (by omega)]; omega
    simp only [e1, Option.bind_some, e2, e3]
    have hloop := (fold_loop Y (fun q x => x ≤ nm S Y + 1 + 65 * q) (fun (a : Nat) (c : SymT) => a + (c.1.size + 1)) (fun a : Nat => ((0 : Int), (0 : Int), (0 : Int), (0 : Int), (0 : Int), ((sy S : Nat) : Int), ((nm S Y : Nat) : Int), (a : Int), (0 : Int), ((plc S).1 : Int), ([] : List Int), (plc S).2)) (fun n q a => elf_laid.q1.l k n (Y, ((Y.length : Nat) : Int), (q : Int), 0, 0, 0, 0, 0, ((sy S : Nat) : Int), ((nm S Y : Nat) : Int), (a : Int), 0, ((plc S).1 : Int), [], (plc S).2)) (fun n x _ => ?_) (fun n q c x hc hq hI => ?_) Y k 0 (nm S Y + 1) rfl (by omega) (by omega) (by omega)).1
    · have hfold : Y.foldl (fun (a : Nat) (c : SymT) => a + (c.1.size + 1)) (nm S Y + 1) = ti S Y := by
        have key : ∀ (cs : List SymT) (a b : Nat), cs.foldl (fun (a : Nat) (c : SymT) => a + (c.1.size + 1)) (a + b) = a + cs.foldl (fun (a : Nat) (c : SymT) => a + (c.1.size + 1)) b := by
          intro cs
          induction cs with
          | nil => intro a b; rfl
          | cons c cs ih => intro a b; rw [List.foldl_cons, List.foldl_cons, Nat.add_assoc, ih]
        exact key Y (nm S Y + 1) 0
      rw [hfold] at hloop
      have hloop : elf_laid.q1.l k k (Y, ((Y.length : Nat) : Int), 0, 0, 0, 0, 0, 0, ((sy S : Nat) : Int), ((nm S Y : Nat) : Int), ((nm S Y + 1 : Nat) : Int), 0, ((plc S).1 : Int), [], (plc S).2) = _ := hloop
      rw [hloop]
      simp only [Option.bind_some]
      have e4 : IntKind.wrap .u64 (((ti S Y : Nat) : Int) + 27) = ((ti S Y + 27 : Nat) : Int) := by rw [wrap_u64e _ (by omega) (by omega)]; omega
      have e5 : elf_up.f ((ti S Y + 27 : Nat) : Int) 4 = some ((se S Y : Nat) : Int) := up4_eq _ (by omega)
      have e6 : IntKind.wrap .u64 (((se S Y : Nat) : Int) + 160) = ((se S Y + 160 : Nat) : Int) := by rw [wrap_u64e _ (by omega) (by omega)]; omega
      simp only [e4, e5, Option.bind_some, e6]
    · simp only [elf_laid.q1.l, decide_eq_false (show ¬ (Y.length : Int) < ((Y.length : Nat) : Int) by omega), cond_false]
    · have hsz := h.size c (mem_at hc)
      have hI : x ≤ nm S Y + 1 + 65 * q := hI
      refine ⟨show x + (c.1.size + 1) ≤ _ by omega, ?_⟩
      have e4 : IntKind.wrap .u64 ((x : Int) + IntKind.wrap .u64 (IntKind.wrap .u64 ((c.1.size : Nat) : Int) + 1)) = ((x + (c.1.size + 1) : Nat) : Int) := by
        rw [wrap_u64e ((c.1.size : Nat) : Int) (by omega) (by omega), wrap_u64e (((c.1.size : Nat) : Int) + 1) (by omega) (by omega), wrap_u64e _ (by omega) (by omega)]; omega
      simp only [elf_laid.q1.l, decide_eq_true (show (q : Int) < ((Y.length : Nat) : Int) by omega), decide_eq_true (show (0 : Int) ≤ (q : Int) by omega), Bool.and_self, cond_true, Int.toNat_natCast, getD_of hc, e4, wrap_i64n q (by omega)]
end Go.Va
