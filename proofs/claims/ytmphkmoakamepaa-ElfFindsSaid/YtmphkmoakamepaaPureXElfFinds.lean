/-
  Any name and any value, of any image: what elf.Find and elf.Near answer is what the document's do.
  Conditions: none.
-/
import Derived.Test.YtmphkmoakamepaaPureElfOwn
set_option linter.unusedVariables false
set_option linter.unusedSimpArgs false
set_option autoImplicit false
namespace Go.Va
theorem find_same (k : Nat) (nm : ByteArray) (Y : List SymT) (e : Int) (S : List SegT) : ∀ (n : Nat) (i : Int), elf_Find.q0.l k n (nm, Y, ((Y.length : Nat) : Int), i) = atlasref23_Find.q0.l k n (nm, i, e, S, Y) := by
  intro n
  induction n with
  | zero => intro i; rfl
  | succ n ih =>
    intro i
    simp only [elf_Find.q0.l, atlasref23_Find.q0.l]
    rw [ih]
    cases decide (i < ((Y.length : Nat) : Int)) with
    | false => rfl
    | true => cases decide (0 ≤ i) <;> rfl
theorem find_tot (k : Nat) (nm : ByteArray) (Y : List SymT) (hY : Y.length * 24 ≤ reachBytes) : ∀ (cs : List SymT) (n q : Nat), Y.drop q = cs → cs.length < n → ∃ v, elf_Find.q0.l k n (nm, Y, ((Y.length : Nat) : Int), (q : Int)) = some v := by
  have hr := reach_v
  intro cs
  induction cs with
  | nil =>
    intro n q hq hn
    obtain ⟨n, rfl⟩ : ∃ m, n = m + 1 := ⟨n - 1, by simp at hn; omega⟩
    have h1 := List.drop_eq_nil_iff.1 hq
    have c1 : decide ((q : Int) < ((Y.length : Nat) : Int)) = false := by simp; omega
    exact ⟨_, by simp only [elf_Find.q0.l, c1, cond_false]; rfl⟩
  | cons c cs ih =>
    intro n q hq hn
    obtain ⟨n, rfl⟩ : ∃ m, n = m + 1 := ⟨n - 1, by simp at hn; omega⟩
    obtain ⟨hg, hlt, hq'⟩ := getD_drop hq (ByteArray.empty, 0, ())
    have c1 : decide ((q : Int) < ((Y.length : Nat) : Int)) = true := by simp; omega
    have c2 : decide ((0 : Int) ≤ (q : Int)) = true := by simp
    have e1 : IntKind.wrap .i64 ((q : Int) + 1) = ((q + 1 : Nat) : Int) := by rw [wrap_i64e _ (by omega) (by omega)]; omega
    obtain ⟨v, hv⟩ := ih n (q + 1) hq' (by simp at hn; omega)
    simp only [elf_Find.q0.l, c1, c2, Bool.and_self, cond_true, e1]
    cases (((Y.getD (q : Int).toNat (ByteArray.empty, 0, ())).1).toList == nm.toList) with
    | true => exact ⟨_, rfl⟩
    | false => exact ⟨v, hv⟩
theorem near_same (k : Nat) (V : Int) (Y : List SymT) (e : Int) (S : List SegT) : ∀ (n : Nat) (i b : Int), elf_Near.q0.l k n (V, b, Y, ((Y.length : Nat) : Int), i, e, S, Y) = atlasref23_Near.q0.l k n (V, b, i, e, S, Y) := by
  intro n
  induction n with
  | zero => intro i b; rfl
  | succ n ih =>
    intro i b
    simp only [elf_Near.q0.l, atlasref23_Near.q0.l, ih]
theorem near_tot (k : Nat) (V : Int) (Y : List SymT) (e : Int) (S : List SegT) (hY : Y.length * 24 ≤ reachBytes) : ∀ (cs : List SymT) (n q : Nat) (b : Int), Y.drop q = cs → cs.length < n → (b < 0 ∨ (0 ≤ b ∧ b < Y.length)) →
    ∃ b', elf_Near.q0.l k n (V, b, Y, ((Y.length : Nat) : Int), (q : Int), e, S, Y) = some (V, b', e, S, Y) ∧ (b' < 0 ∨ (0 ≤ b' ∧ b' < Y.length)) := by
  have hr := reach_v
  intro cs
  induction cs with
  | nil =>
    intro n q b hq hn hb
    obtain ⟨n, rfl⟩ : ∃ m, n = m + 1 := ⟨n - 1, by simp at hn; omega⟩
    have h1 := List.drop_eq_nil_iff.1 hq
    have c1 : decide ((q : Int) < ((Y.length : Nat) : Int)) = false := by simp; omega
    exact ⟨b, by simp only [elf_Near.q0.l, c1, cond_false], hb⟩
  | cons c cs ih =>
    intro n q b hq hn hb
    obtain ⟨n, rfl⟩ : ∃ m, n = m + 1 := ⟨n - 1, by simp at hn; omega⟩
    obtain ⟨hg, hlt, hq'⟩ := getD_drop hq (ByteArray.empty, 0, ())
    have c1 : decide ((q : Int) < ((Y.length : Nat) : Int)) = true := by simp; omega
    have c2 : decide ((0 : Int) ≤ (q : Int)) = true := by simp
    have e1 : IntKind.wrap .i64 ((q : Int) + 1) = ((q + 1 : Nat) : Int) := by rw [wrap_i64e _ (by omega) (by omega)]; omega
    have h1 := fun b hb => ih n (q + 1) b hq' (by simp at hn; omega) hb
    simp only [elf_Near.q0.l, c1, c2, Bool.and_self, cond_true, e1]
    cases decide (((Y.getD (q : Int).toNat (ByteArray.empty, 0, ())).2.1) ≤ V) with
    | false => exact h1 b hb
    | true =>
      simp only [cond_true]
      rcases hb with hb | hb
      · have c3 : decide (b < 0) = true := by simp; omega
        rw [c3]; exact h1 _ (.inr ⟨by omega, by omega⟩)
      · have c3 : decide (b < 0) = false := by simp; omega
        have c4 : decide (0 ≤ b) = true := by simp; omega
        have c5 : decide (b < ((Y.length : Nat) : Int)) = true := by simp; omega
        simp only [c3, c4, c5, cond_false, Bool.and_self, cond_true]
        cases decide (((Y.getD (q : Int).toNat (ByteArray.empty, 0, ())).2.1) > ((Y.getD (b).toNat (ByteArray.empty, 0, ())).2.1)) with
        | true => exact h1 _ (.inr ⟨by omega, by omega⟩)
        | false => exact h1 b (.inr hb)
theorem finds_8 (x : T25) (h : ImgOk x) (nm : ByteArray) (V : Int) : ∃ k, atlaslaw23_ElfFinds.f k x nm V = some true := by
  refine ⟨x.f1_Segments.length + x.f2_Symbols.length + 1, ?_⟩
  generalize hk : x.f1_Segments.length + x.f2_Symbols.length + 1 = k
  have ho := own_eq x h k (by omega)
  obtain ⟨v, hv⟩ := find_tot k nm x.f2_Symbols h.yl x.f2_Symbols k 0 rfl (by omega)
  obtain ⟨b, hb, hb2⟩ := near_tot k V x.f2_Symbols x.f0_Entry x.f1_Segments h.yl x.f2_Symbols k 0 (-1) rfl (by omega) (.inl (by decide))
  have hf1 : ∃ w, elf_Find.f k x nm = some w ∧ atlasref23_Find.f k x nm = some w := by
    have h1 : elf_Find.q0.l k k (nm, x.f2_Symbols, ((x.f2_Symbols.length : Nat) : Int), 0) = some v := hv
    have h2 := (find_same k nm x.f2_Symbols x.f0_Entry x.f1_Segments k 0).symm.trans h1
    unfold elf_Find.f atlasref23_Find.f
    rw [h1, h2]
    cases v with
    | inl v => exact ⟨_, rfl, rfl⟩
    | inr v => exact ⟨_, rfl, rfl⟩
  have hn1 : ∃ w, elf_Near.f k x V = some w ∧ atlasref23_Near.f k x V = some w := by
    have h1 : elf_Near.q0.l k k (V, -1, x.f2_Symbols, ((x.f2_Symbols.length : Nat) : Int), 0, x.f0_Entry, x.f1_Segments, x.f2_Symbols) = _ := hb
    have h2 := (near_same k V x.f2_Symbols x.f0_Entry x.f1_Segments k 0 (-1)).symm.trans h1
    unfold elf_Near.f atlasref23_Near.f
    rw [h1, h2]
    simp only [Option.bind_some]
    rcases hb2 with hb2 | hb2
    · have c : decide (b < 0) = true := by simp; omega
      rw [c]; exact ⟨_, rfl, rfl⟩
    · have c : decide (b < 0) = false := by simp; omega
      have c4 : decide (0 ≤ b) = true := by simp; omega
      have c5 : decide (b < ((x.f2_Symbols.length : Nat) : Int)) = true := by simp; omega
      rw [c, c4, c5]; exact ⟨_, rfl, rfl⟩
  obtain ⟨w1, f1, f2⟩ := hf1
  obtain ⟨w2, g1, g2⟩ := hn1
  have e : atlaslaw23_ElfFinds.f k x nm V = ((atlaslaw23_own.f k x).bind fun r1 => (elf_Find.f k r1 nm).bind fun r2 => (atlasref23_Find.f k x nm).bind fun r3 => (atlaslaw23_own.f k x).bind fun r4 => (elf_Near.f k r4 V).bind fun r5 => (atlasref23_Near.f k x V).bind fun r6 => (bif (r2.1 == r3.1) then (bif (r2.2 == r3.2) then (bif (r5.1.toList == r6.1.toList) then (bif (r5.2.1 == r6.2.1) then (some (r5.2.2 == r6.2.2)) else (some false)) else (some false)) else (some false)) else (some false))) := rfl
  rw [e, ho]
  simp only [Option.bind_some, f1, f2, ho, g1, g2, beq_self_eq_true, cond_true]
end Go.Va
namespace Go.Proofs.Ytmphkmoakamepaa.Pure
open Go.Va
theorem XElfFinds (y0 : ImgC.D) (w0 : ImgC.wf y0) (a1 : ByteArray) (w1 : a1.size ≤ maxLen) (a2 : Int) (w2 : (Lit.int .u32 a2).wf = true) : ∃ k, atlaslaw23_ElfFinds.f k ⟨y0.1, y0.2.1, y0.2.2.1⟩ a1 a2 = some true :=
  finds_8 _ (img_ok w0) a1 a2
end Go.Proofs.Ytmphkmoakamepaa.Pure
