/-
  The steps of a form, as the document's answer has them: a letter each.
  Conditions: none.
-/
import Derived.Test.YtnidnmhcjngmeaaGreatPureScrA
import Derived.Test.YtnidnmhcjngmeaaGreatScr16

set_option linter.unusedSimpArgs false
set_option linter.unusedVariables false
set_option autoImplicit false
namespace Go.Proofs.YtnidnmhcjngmeaaGreat.Scr
open Go.Va (nameB name_eq sizeP size_eq number_eq fieldsP fields_eq optD)
open Go (IntKind)
/-- The number of a text. -/
def numP (x : ByteArray) : Int × Int := optD (Va.words_Number.f (x.size + 1) x) (0, 11)
theorem numP_eq (x : ByteArray) (hx : x.size ≤ 1048576) : (0 ≤ (numP x).1 ∧ (numP x).1 < 1099511627776) ∧ ((numP x).2 = 0 ∨ (numP x).2 = 11) ∧ ∀ k, x.size < k → Va.words_Number.f k x = some (numP x) ∧ Va.atlasref01_Number.f k x = some (numP x) := by
  obtain ⟨r, h1, h2, h3⟩ := number_eq x (by omega)
  have e : numP x = r := by unfold numP; rw [(h3 (x.size + 1) (by omega)).1]; rfl
  rw [e]
  exact ⟨h1, h2, h3⟩
/-- What the words' functions say. -/
def SS : Says := ⟨nameB, numP, sizeP, rtP⟩
theorem SS_ok (ws : List ByteArray) (h : ∀ x ∈ ws, x.size ≤ 1048576) : SS.ok ws :=
  ⟨fun x hx => ⟨x.size + 1, (name_eq x (by have := h x hx; omega) _ (by omega)).1⟩, fun x hx => ⟨x.size + 1, ((numP_eq x (h x hx)).2.2 _ (by omega)).1⟩, fun x hx => (numP_eq x (h x hx)).1.1, fun x hx => ⟨6, (size_eq x 6 (by omega)).1⟩⟩
/-! ### Rights -/
theorem toList_inj {x y : ByteArray} (h : x.toList = y.toList) : x = y := by
  rw [Lib.toList_data, Lib.toList_data] at h
  obtain ⟨⟨l⟩⟩ := x
  obtain ⟨⟨r⟩⟩ := y
  simp only at h
  rw [h]
theorem rtP_hit (a b c : Bool) : rtP (rtext a b c) = ((a, b, c), 0) := by
  cases a <;> cases b <;> cases c <;> decide +kernel
theorem rtP_miss (x : ByteArray) (h : ∀ a b c, x.toList ≠ (rtext a b c).toList) : rtP x = ((false, false, false), 12) := by
  unfold rtP
  rw [if_neg (fun h2 => h _ _ _ h2.2.symm)]
theorem ref_text (a b c : Bool) : Va.atlasref01_RightsText.f ⟨a, b, c⟩ = some (rtext a b c) := by
  cases a <;> cases b <;> cases c <;> rfl
theorem rights_eq (x : ByteArray) (k : Nat) (hk : 9 < k) : ∃ r, Va.atlasref01_Rights.f k x = some r ∧ (((r.1.f0, r.1.f1, r.1.f2), r.2) : (Bool × Bool × Bool) × Int) = rtP x := by
  obtain ⟨m, rfl⟩ : ∃ m, k = m + 1 + 1 + 1 + 1 + 1 + 1 + 1 + 1 + 1 := ⟨k - 9, by omega⟩
  by_cases hx : ∃ a b c, x.toList = (rtext a b c).toList
  · obtain ⟨a, b, c, h⟩ := hx
    obtain rfl := toList_inj h
    rw [rtP_hit]
    refine ⟨(⟨a, b, c⟩, 0), ?_, rfl⟩
    cases a <;> cases b <;> cases c <;> kernel_rfl
  · have hm : ∀ a b c, ((rtext a b c).toList == x.toList) = false := fun a b c => by
      rw [beq_eq_false_iff_ne]; exact fun h => hx ⟨a, b, c, h.symm⟩
    rw [rtP_miss x (fun a b c h => hx ⟨a, b, c, h⟩)]
    refine ⟨(⟨false, false, false⟩, 12), ?_, rfl⟩
    unfold Va.atlasref01_Rights.f
    have st : ∀ (m : Nat) (i : Int) (a b c : Bool), i < 8 → Va.atlasref01_Rights.q0.l (m + 1 + 1 + 1 + 1 + 1 + 1 + 1 + 1 + 1) (m + 1) (x, i, a, b, c) = Va.atlasref01_Rights.q0.l (m + 1 + 1 + 1 + 1 + 1 + 1 + 1 + 1 + 1) m (x, IntKind.wrap .i64 (i + 1), a, b, c) := fun m i a b c hi => by
      simp only [Va.atlasref01_Rights.q0.l, decide_eq_true hi, cond_true, ref_text, Option.bind_some, hm, cond_false]
    simp only [Va.atlasref01_Rights.q0.l, ref_text, Option.bind_some, hm, cond_false, show decide ((0 : Int) < 8) = true from rfl, cond_true,
      show IntKind.wrap .i64 (0 + 1) = 1 by decide, show IntKind.wrap .i64 (1 + 1) = 2 by decide, show IntKind.wrap .i64 (2 + 1) = 3 by decide, show IntKind.wrap .i64 (3 + 1) = 4 by decide, show IntKind.wrap .i64 (4 + 1) = 5 by decide, show IntKind.wrap .i64 (5 + 1) = 6 by decide, show IntKind.wrap .i64 (6 + 1) = 7 by decide, show IntKind.wrap .i64 (7 + 1) = 8 by decide,
      show decide ((1 : Int) < 8) = true from rfl, show decide ((2 : Int) < 8) = true from rfl, show decide ((3 : Int) < 8) = true from rfl, show decide ((4 : Int) < 8) = true from rfl, show decide ((5 : Int) < 8) = true from rfl, show decide ((6 : Int) < 8) = true from rfl, show decide ((7 : Int) < 8) = true from rfl, show decide ((8 : Int) < 8) = false from rfl, Sum.elim_inr]
end Go.Proofs.YtnidnmhcjngmeaaGreat.Scr

/-
  The letters of the document's answer, one by one (printed by genput.py).
  Conditions: words of at most 1048576 bytes.
-/
namespace Go.Proofs.YtnidnmhcjngmeaaGreat.Scr
open Go.Va (nameB name_eq sizeP size_eq number_eq fieldsP fields_eq optD)
open Go (IntKind)
/-- What a letter makes of a command and a word. -/
def goL (l : Nat) (c : Cmd) (x : ByteArray) : Except Int Cmd := match l with
  | 78 => (nmG SS x).map fun v => { c with f14 := v }
  | 79 => (nmG SS x).map fun v => { c with f15 := v }
  | 83 => if x.toList == [45] then .ok c else (nmG SS x).map fun v => { c with f14 := v }
  | 115 => (szG SS x).map fun v => { c with f18 := v }
  | 114 => (rtG x).map fun v => { c with f21 := v.1, f22 := v.2.1, f23 := v.2.2 }
  | 113 => if x.toList == tPriv.toList then .ok { c with f26 := true } else .error 12
  | 117 => if x.toList == tUser.toList then .ok { c with f26 := false } else .error 12
  | 86 => (numG SS 4294967296 x).map fun v => { c with f16 := v }
  | 70 => (numG SS 4294967296 x).map fun v => { c with f17 := v }
  | 87 => (numG SS 4294967296 x).map fun v => { c with f25 := v }
  | 76 => (numG SS 1099511627776 x).map fun v => { c with f20 := v }
  | 80 => (numG SS 1099511627776 x).map fun v => { c with f27 := v }
  | 99 => (numG SS 2147483648 x).map fun v => { c with f19 := v }
  | 98 => (numG SS 2147483648 x).map fun v => { c with f24 := v }
  | 67 => (numG SS 16 x).map fun v => { c with f28 := v }
  | 111 => (numG SS 8 x).map fun v => { c with f29 := v }
  | 77 => (numG SS 16 x).map fun v => { c with f30 := v }
  | 112 => (numG SS 8 x).map fun v => { c with f31 := v }
  | 49 => (numG SS 2147483648 x).map fun v => { c with f1 := v }
  | 50 => (numG SS 2147483648 x).map fun v => { c with f2 := v }
  | 51 => (numG SS 2147483648 x).map fun v => { c with f3 := v }
  | 52 => (numG SS 2147483648 x).map fun v => { c with f4 := v }
  | 53 => (numG SS 2147483648 x).map fun v => { c with f5 := v }
  | 54 => (numG SS 2147483648 x).map fun v => { c with f6 := v }
  | 116 => (choice wDirs x).map fun v => { c with f8 := v }
  | 108 => (numG SS 2147483648 x).map fun v => { c with f9 := v }
  | 107 => (numG SS 2147483648 x).map fun v => { c with f12 := v }
  | 118 => (numG SS 4294967296 x).map fun v => { c with f10 := v }
  | 104 => (choice wHows x).map fun (v : Int) => { c with f11 := v == 1 }
  | 102 => if x.toList == tFirst.toList then .ok { c with f13 := true } else .error 12
  | _ => .error 0
def letters : List Nat := [78, 79, 83, 115, 114, 113, 117, 86, 70, 87, 76, 80, 99, 98, 67, 111, 77, 112, 49, 50, 51, 52, 53, 54]
/-- The document's answer to a letter. -/
def PutOk (k l : Nat) (c : Cmd) (x : ByteArray) : Prop := ∃ c2 e, Va.atlasref15_put.f k c (l : Int) x = some (c2, e) ∧ ((e = 0 ∧ goL l c x = .ok c2) ∨ (e ≠ 0 ∧ goL l c x = .error e))
theorem ref_number (k : Nat) (x : ByteArray) (top : Int) (hx : x.size ≤ 1048576) (hk : x.size < k) : Va.atlasref15_number.f k x top = some (if (numP x).2 == 0 && decide ((numP x).1 < top) then ((numP x).1, 0) else (0, 11)) := by
  obtain ⟨h1, h2, h3⟩ := numP_eq x hx
  unfold Va.atlasref15_number.f
  rw [(h3 k hk).2]
  simp only [Option.bind_some]
  rcases h2 with h | h
  · rw [h]
    by_cases ht : (numP x).1 < top
    · simp [ht, Int.not_le.2 ht]
    · simp [ht, Int.not_lt.1 ht]
  · rw [h]; rfl
theorem put_num (k : Nat) (l : Nat) (c : Cmd) (x : ByteArray) (top : Int) (set : Int → Cmd) (wr : Int → Int) (hx : x.size ≤ 1048576) (hk : x.size < k) (hw : ∀ v, 0 ≤ v → v < top → wr v = v)
    (hp : Va.atlasref15_put.f k c (l : Int) x = (Va.atlasref15_number.f k x top).bind fun r => bif (r.2 != 0) then some (c, r.2) else some (set (wr r.1), 0)) (hg : goL l c x = (numG SS top x).map set) : PutOk k l c x := by
  obtain ⟨h1, h2, h3⟩ := numP_eq x hx
  unfold PutOk
  rw [hp, ref_number k x top hx hk, hg]
  have e : numG SS top x = if (numP x).2 == 0 && decide ((numP x).1 < top) then .ok (numP x).1 else .error 11 := rfl
  rw [e]
  by_cases hc : ((numP x).2 == 0 && decide ((numP x).1 < top)) = true
  · rw [if_pos hc, if_pos hc]
    simp only [Bool.and_eq_true, decide_eq_true_eq] at hc
    refine ⟨set (numP x).1, 0, ?_, .inl ⟨rfl, rfl⟩⟩
    simp only [Option.bind_some]
    rw [hw _ h1.1 hc.2]; rfl
  · rw [if_neg hc, if_neg hc]
    exact ⟨c, 11, rfl, .inr ⟨by decide, rfl⟩⟩
theorem put_ok (k l : Nat) (hl : l ∈ letters) (c : Cmd) (x : ByteArray) (hx : x.size ≤ 1048576) (hk : x.size < k) (hk2 : 9 < k) : PutOk k l c x := by
  have hn := (name_eq x (by omega) k hk).2
  have hsz := (size_eq x k (by omega)).2
  simp only [letters, List.mem_cons, List.not_mem_nil, or_false] at hl
  rcases hl with rfl | rfl | rfl | rfl | rfl | rfl | rfl | rfl | rfl | rfl | rfl | rfl | rfl | rfl | rfl | rfl | rfl | rfl | rfl | rfl | rfl | rfl | rfl | rfl
  · have hp : Va.atlasref15_put.f k c ((78 : Nat) : Int) x = (Va.atlasref01_Name.f k x).bind fun r => bif (!r) then some (c, 10) else some ({ c with f14 := x }, 0) := rfl
    have hg : goL 78 c x = (nmG SS x).map fun v => { c with f14 := v } := rfl
    unfold PutOk
    rw [hp, hn, hg]
    have e : nmG SS x = if nameB x then .ok x else .error 10 := rfl
    rw [e]
    cases nameB x
    · exact ⟨_, _, rfl, .inr ⟨by decide, rfl⟩⟩
    · exact ⟨_, _, rfl, .inl ⟨rfl, rfl⟩⟩
  · have hp : Va.atlasref15_put.f k c ((79 : Nat) : Int) x = (Va.atlasref01_Name.f k x).bind fun r => bif (!r) then some (c, 10) else some ({ c with f15 := x }, 0) := rfl
    have hg : goL 79 c x = (nmG SS x).map fun v => { c with f15 := v } := rfl
    unfold PutOk
    rw [hp, hn, hg]
    have e : nmG SS x = if nameB x then .ok x else .error 10 := rfl
    rw [e]
    cases nameB x
    · exact ⟨_, _, rfl, .inr ⟨by decide, rfl⟩⟩
    · exact ⟨_, _, rfl, .inl ⟨rfl, rfl⟩⟩
  · have hp : Va.atlasref15_put.f k c ((83 : Nat) : Int) x = bif (x.toList == (⟨#[45]⟩ : ByteArray).toList) then some (c, 0) else ((Va.atlasref01_Name.f k x).bind fun r => bif (!r) then some (c, 10) else some ({ c with f14 := x }, 0)).bind fun r => some (r.1, r.2) := rfl
    have hg : goL 83 c x = if x.toList == [45] then .ok c else (nmG SS x).map fun v => { c with f14 := v } := rfl
    have hd : (⟨#[45]⟩ : ByteArray).toList = [45] := by decide +kernel
    unfold PutOk
    rw [hp, hn, hg, hd]
    have e : nmG SS x = if nameB x then .ok x else .error 10 := rfl
    rw [e]
    cases x.toList == [45]
    · cases nameB x
      · exact ⟨c, 10, rfl, .inr ⟨by decide, rfl⟩⟩
      · exact ⟨_, _, rfl, .inl ⟨rfl, rfl⟩⟩
    · exact ⟨_, _, rfl, .inl ⟨rfl, rfl⟩⟩
  · have hp : Va.atlasref15_put.f k c ((115 : Nat) : Int) x = (Va.atlasref01_Size.f k x).bind fun r => some ({ c with f18 := r.1 }, r.2) := rfl
    have hg : goL 115 c x = (szG SS x).map fun v => { c with f18 := v } := rfl
    unfold PutOk
    rw [hp, hsz, hg]
    have e : szG SS x = if (sizeP x).2 == 0 then .ok (sizeP x).1 else .error (sizeP x).2 := rfl
    rw [e]
    by_cases h : (sizeP x).2 = 0
    · have hb : ((sizeP x).2 == 0) = true := by rw [beq_iff_eq]; exact h
      rw [hb]
      exact ⟨_, _, rfl, .inl ⟨h, rfl⟩⟩
    · have hb : ((sizeP x).2 == 0) = false := by rw [beq_eq_false_iff_ne]; exact h
      rw [hb]
      exact ⟨_, _, rfl, .inr ⟨h, rfl⟩⟩
  · obtain ⟨r, hr, he⟩ := rights_eq x k hk2
    have hp : Va.atlasref15_put.f k c ((114 : Nat) : Int) x = (Va.atlasref01_Rights.f k x).bind fun r => some ({ c with f21 := r.1.f0, f22 := r.1.f1, f23 := r.1.f2 }, r.2) := rfl
    have hg : goL 114 c x = (rtG x).map fun v => { c with f21 := v.1, f22 := v.2.1, f23 := v.2.2 } := rfl
    unfold PutOk
    rw [hp, hr, hg]
    have e : rtG x = if (rtP x).2 == 0 then .ok (rtP x).1 else .error (rtP x).2 := rfl
    rw [e, ← he]
    by_cases h : r.2 = 0
    · have hb : (r.2 == 0) = true := by rw [beq_iff_eq]; exact h
      simp only [hb]
      exact ⟨_, _, rfl, .inl ⟨h, rfl⟩⟩
    · have hb : (r.2 == 0) = false := by rw [beq_eq_false_iff_ne]; exact h
      simp only [hb]
      exact ⟨_, _, rfl, .inr ⟨h, rfl⟩⟩
  · have hp : Va.atlasref15_put.f k c ((113 : Nat) : Int) x = bif (!(x.toList == tPriv.toList)) then some (c, 12) else some ({ c with f26 := true }, 0) := rfl
    have hg : goL 113 c x = if x.toList == tPriv.toList then .ok { c with f26 := true } else .error 12 := rfl
    unfold PutOk
    rw [hp, hg]
    cases x.toList == tPriv.toList
    · exact ⟨_, _, rfl, .inr ⟨by decide, rfl⟩⟩
    · exact ⟨_, _, rfl, .inl ⟨rfl, rfl⟩⟩
  · have hp : Va.atlasref15_put.f k c ((117 : Nat) : Int) x = bif (!(x.toList == tUser.toList)) then some (c, 12) else some ({ c with f26 := false }, 0) := rfl
    have hg : goL 117 c x = if x.toList == tUser.toList then .ok { c with f26 := false } else .error 12 := rfl
    unfold PutOk
    rw [hp, hg]
    cases x.toList == tUser.toList
    · exact ⟨_, _, rfl, .inr ⟨by decide, rfl⟩⟩
    · exact ⟨_, _, rfl, .inl ⟨rfl, rfl⟩⟩
  · exact put_num k 86 c x 4294967296 (fun v => { c with f16 := v }) (IntKind.wrap .u32) hx hk (fun v h0 h1 => by rw [Go.IntKind.wrap_u32]; omega) rfl rfl
  · exact put_num k 70 c x 4294967296 (fun v => { c with f17 := v }) (IntKind.wrap .u32) hx hk (fun v h0 h1 => by rw [Go.IntKind.wrap_u32]; omega) rfl rfl
  · exact put_num k 87 c x 4294967296 (fun v => { c with f25 := v }) (IntKind.wrap .u32) hx hk (fun v h0 h1 => by rw [Go.IntKind.wrap_u32]; omega) rfl rfl
  · exact put_num k 76 c x 1099511627776 (fun v => { c with f20 := v }) id hx hk (fun v _ _ => rfl) rfl rfl
  · exact put_num k 80 c x 1099511627776 (fun v => { c with f27 := v }) id hx hk (fun v _ _ => rfl) rfl rfl
  · exact put_num k 99 c x 2147483648 (fun v => { c with f19 := v }) (IntKind.wrap .i64) hx hk (fun v h0 h1 => by rw [Go.IntKind.wrap_i64]; omega) rfl rfl
  · exact put_num k 98 c x 2147483648 (fun v => { c with f24 := v }) (IntKind.wrap .i64) hx hk (fun v h0 h1 => by rw [Go.IntKind.wrap_i64]; omega) rfl rfl
  · exact put_num k 67 c x 16 (fun v => { c with f28 := v }) (IntKind.wrap .i64) hx hk (fun v h0 h1 => by rw [Go.IntKind.wrap_i64]; omega) rfl rfl
  · exact put_num k 111 c x 8 (fun v => { c with f29 := v }) (IntKind.wrap .i64) hx hk (fun v h0 h1 => by rw [Go.IntKind.wrap_i64]; omega) rfl rfl
  · exact put_num k 77 c x 16 (fun v => { c with f30 := v }) (IntKind.wrap .i64) hx hk (fun v h0 h1 => by rw [Go.IntKind.wrap_i64]; omega) rfl rfl
  · exact put_num k 112 c x 8 (fun v => { c with f31 := v }) (IntKind.wrap .i64) hx hk (fun v h0 h1 => by rw [Go.IntKind.wrap_i64]; omega) rfl rfl
  · exact put_num k 49 c x 2147483648 (fun v => { c with f1 := v }) (IntKind.wrap .i64) hx hk (fun v h0 h1 => by rw [Go.IntKind.wrap_i64]; omega) rfl rfl
  · exact put_num k 50 c x 2147483648 (fun v => { c with f2 := v }) (IntKind.wrap .i64) hx hk (fun v h0 h1 => by rw [Go.IntKind.wrap_i64]; omega) rfl rfl
  · exact put_num k 51 c x 2147483648 (fun v => { c with f3 := v }) (IntKind.wrap .i64) hx hk (fun v h0 h1 => by rw [Go.IntKind.wrap_i64]; omega) rfl rfl
  · exact put_num k 52 c x 2147483648 (fun v => { c with f4 := v }) (IntKind.wrap .i64) hx hk (fun v h0 h1 => by rw [Go.IntKind.wrap_i64]; omega) rfl rfl
  · exact put_num k 53 c x 2147483648 (fun v => { c with f5 := v }) (IntKind.wrap .i64) hx hk (fun v h0 h1 => by rw [Go.IntKind.wrap_i64]; omega) rfl rfl
  · exact put_num k 54 c x 2147483648 (fun v => { c with f6 := v }) (IntKind.wrap .i64) hx hk (fun v h0 h1 => by rw [Go.IntKind.wrap_i64]; omega) rfl rfl
def nletters : List Nat := [116, 108, 107, 118, 104]
/-- The part of a command that is a noise. -/
abbrev nz (c : Cmd) : Va.T25 := ⟨c.f7, c.f8, c.f9, c.f10, c.f11, c.f12, c.f13⟩
/-- A command with another noise. -/
abbrev nzput (c : Cmd) (n : Va.T25) : Cmd := { c with f7 := n.f0, f8 := n.f1, f9 := n.f2, f10 := n.f3, f11 := n.f4, f12 := n.f5, f13 := n.f6 }
def OwnOk (k l : Nat) (c : Cmd) (x : ByteArray) : Prop := ∃ n e, Va.atlasref15_own.f k (nz c) (l : Int) x = some (n, e) ∧ ((e = 0 ∧ goL l c x = .ok (nzput c n)) ∨ (e ≠ 0 ∧ goL l c x = .error e))
theorem dirs_eq (x : ByteArray) : choice wDirs x = if x.toList == [105] then .ok 1 else if x.toList == [100] then .ok 2 else if x.toList == [109, 97, 105, 110] then .ok 3 else .error 12 := by
  have e1 : (⟨#[105]⟩ : ByteArray).toList = [105] := by decide +kernel
  have e2 : (⟨#[100]⟩ : ByteArray).toList = [100] := by decide +kernel
  have e3 : (⟨#[109, 97, 105, 110]⟩ : ByteArray).toList = [109, 97, 105, 110] := by decide +kernel
  unfold choice wDirs
  simp only [List.findIdx?_cons, List.findIdx?_nil, e1, e2, e3]
  rw [show ([105] == x.toList) = (x.toList == [105]) from Bool.beq_comm, show ([100] == x.toList) = (x.toList == [100]) from Bool.beq_comm, show ([109, 97, 105, 110] == x.toList) = (x.toList == [109, 97, 105, 110]) from Bool.beq_comm]
  cases x.toList == [105] <;> cases x.toList == [100] <;> cases x.toList == [109, 97, 105, 110] <;> rfl
theorem hows_eq (x : ByteArray) : choice wHows x = if x.toList == [102, 101, 116, 99, 104] then .ok 1 else if x.toList == [108, 111, 97, 100] then .ok 2 else .error 12 := by
  have e1 : (⟨#[102, 101, 116, 99, 104]⟩ : ByteArray).toList = [102, 101, 116, 99, 104] := by decide +kernel
  have e2 : (⟨#[108, 111, 97, 100]⟩ : ByteArray).toList = [108, 111, 97, 100] := by decide +kernel
  unfold choice wHows
  simp only [List.findIdx?_cons, List.findIdx?_nil, e1, e2]
  rw [show ([102, 101, 116, 99, 104] == x.toList) = (x.toList == [102, 101, 116, 99, 104]) from Bool.beq_comm, show ([108, 111, 97, 100] == x.toList) = (x.toList == [108, 111, 97, 100]) from Bool.beq_comm]
  cases x.toList == [102, 101, 116, 99, 104] <;> cases x.toList == [108, 111, 97, 100] <;> rfl
theorem acts_eq (x : ByteArray) : choice wActs x = if x.toList == [110, 111, 110, 101] then .ok 1 else if x.toList == [101, 118, 105, 99, 116] then .ok 2 else if x.toList == [102, 105, 108, 108] then .ok 3 else .error 12 := by
  have e1 : (⟨#[110, 111, 110, 101]⟩ : ByteArray).toList = [110, 111, 110, 101] := by decide +kernel
  have e2 : (⟨#[101, 118, 105, 99, 116]⟩ : ByteArray).toList = [101, 118, 105, 99, 116] := by decide +kernel
  have e3 : (⟨#[102, 105, 108, 108]⟩ : ByteArray).toList = [102, 105, 108, 108] := by decide +kernel
  unfold choice wActs
  simp only [List.findIdx?_cons, List.findIdx?_nil, e1, e2, e3]
  rw [show ([110, 111, 110, 101] == x.toList) = (x.toList == [110, 111, 110, 101]) from Bool.beq_comm, show ([101, 118, 105, 99, 116] == x.toList) = (x.toList == [101, 118, 105, 99, 116]) from Bool.beq_comm, show ([102, 105, 108, 108] == x.toList) = (x.toList == [102, 105, 108, 108]) from Bool.beq_comm]
  cases x.toList == [110, 111, 110, 101] <;> cases x.toList == [101, 118, 105, 99, 116] <;> cases x.toList == [102, 105, 108, 108] <;> rfl
theorem own_num (k : Nat) (l : Nat) (c : Cmd) (x : ByteArray) (top : Int) (set : Int → Va.T25) (wr : Int → Int) (hx : x.size ≤ 1048576) (hk : x.size < k) (hw : ∀ v, 0 ≤ v → v < top → wr v = v)
    (hp : Va.atlasref15_own.f k (nz c) (l : Int) x = (Va.atlasref15_number.f k x top).bind fun r => some (set (wr r.1), r.2)) (hg : goL l c x = (numG SS top x).map (fun v => nzput c (set v))) : OwnOk k l c x := by
  obtain ⟨h1, h2, h3⟩ := numP_eq x hx
  unfold OwnOk
  rw [hp, ref_number k x top hx hk, hg]
  have e : numG SS top x = if (numP x).2 == 0 && decide ((numP x).1 < top) then .ok (numP x).1 else .error 11 := rfl
  rw [e]
  by_cases hc : ((numP x).2 == 0 && decide ((numP x).1 < top)) = true
  · rw [if_pos hc, if_pos hc]
    simp only [Bool.and_eq_true, decide_eq_true_eq] at hc
    refine ⟨set (numP x).1, 0, ?_, .inl ⟨rfl, rfl⟩⟩
    simp only [Option.bind_some]
    rw [hw _ h1.1 hc.2]
  · rw [if_neg hc, if_neg hc]
    exact ⟨_, 11, rfl, .inr ⟨by decide, rfl⟩⟩
theorem own_ok (k l : Nat) (hl : l ∈ nletters) (c : Cmd) (x : ByteArray) (hx : x.size ≤ 1048576) (hk : x.size < k) (hk2 : 9 < k) : OwnOk k l c x := by
  simp only [nletters, List.mem_cons, List.not_mem_nil, or_false] at hl
  rcases hl with rfl | rfl | rfl | rfl | rfl
  · obtain ⟨m, rfl⟩ : ∃ m, k = m + 1 + 1 + 1 + 1 + 1 := ⟨k - 5, by omega⟩
    have e1 : (⟨#[105]⟩ : ByteArray).toList = [105] := by decide +kernel
    have e2 : (⟨#[100]⟩ : ByteArray).toList = [100] := by decide +kernel
    have e3 : (⟨#[109, 97, 105, 110]⟩ : ByteArray).toList = [109, 97, 105, 110] := by decide +kernel
    have hg : goL 116 c x = (choice wDirs x).map fun v => { c with f8 := v } := rfl
    unfold OwnOk
    rw [hg, dirs_eq]
    unfold Va.atlasref15_own.f
    simp only [Va.atlasref15_own.q0.l, show (((116 : Nat) : Int) == 116) = true from rfl, cond_true, show decide ((1 : Int) < 4) = true from rfl, show decide ((2 : Int) < 4) = true from rfl, show decide ((3 : Int) < 4) = true from rfl, show decide ((4 : Int) < 4) = false from rfl,
      show IntKind.wrap .i64 (1 + 1) = 2 by decide, show IntKind.wrap .i64 (2 + 1) = 3 by decide, show IntKind.wrap .i64 (3 + 1) = 4 by decide, show decide ((0 : Int) ≤ 1) = true from rfl, show decide ((0 : Int) ≤ 2) = true from rfl, show decide ((0 : Int) ≤ 3) = true from rfl,
      show decide ((1 : Int) < ((4 : Nat) : Int)) = true from rfl, show decide ((2 : Int) < ((4 : Nat) : Int)) = true from rfl, show decide ((3 : Int) < ((4 : Nat) : Int)) = true from rfl, Bool.and_self, show decide (0 + (1 : Int).toNat * 1 < 4) = true from rfl, show decide (0 + (2 : Int).toNat * 1 < 4) = true from rfl, show decide (0 + (3 : Int).toNat * 1 < 4) = true from rfl,
      show ([(⟨#[]⟩ : ByteArray), ⟨#[105]⟩, ⟨#[100]⟩, ⟨#[109, 97, 105, 110]⟩] : List ByteArray).getD (0 + (1 : Int).toNat * 1) ByteArray.empty = ⟨#[105]⟩ from rfl, show ([(⟨#[]⟩ : ByteArray), ⟨#[105]⟩, ⟨#[100]⟩, ⟨#[109, 97, 105, 110]⟩] : List ByteArray).getD (0 + (2 : Int).toNat * 1) ByteArray.empty = ⟨#[100]⟩ from rfl,
      show ([(⟨#[]⟩ : ByteArray), ⟨#[105]⟩, ⟨#[100]⟩, ⟨#[109, 97, 105, 110]⟩] : List ByteArray).getD (0 + (3 : Int).toNat * 1) ByteArray.empty = ⟨#[109, 97, 105, 110]⟩ from rfl, e1, e2, e3]
    rw [show ([105] == x.toList) = (x.toList == [105]) from Bool.beq_comm, show ([100] == x.toList) = (x.toList == [100]) from Bool.beq_comm, show ([109, 97, 105, 110] == x.toList) = (x.toList == [109, 97, 105, 110]) from Bool.beq_comm]
    cases x.toList == [105]
    · cases x.toList == [100]
      · cases x.toList == [109, 97, 105, 110]
        · exact ⟨_, 12, rfl, .inr ⟨by decide, rfl⟩⟩
        · exact ⟨_, 0, rfl, .inl ⟨rfl, rfl⟩⟩
      · exact ⟨_, 0, rfl, .inl ⟨rfl, rfl⟩⟩
    · exact ⟨_, 0, rfl, .inl ⟨rfl, rfl⟩⟩
  · exact own_num k 108 c x 2147483648 (fun v => nz { c with f9 := v }) (IntKind.wrap .i64) hx hk (fun v h0 h1 => by rw [Go.IntKind.wrap_i64]; omega) rfl rfl
  · exact own_num k 107 c x 2147483648 (fun v => nz { c with f12 := v }) (IntKind.wrap .i64) hx hk (fun v h0 h1 => by rw [Go.IntKind.wrap_i64]; omega) rfl rfl
  · exact own_num k 118 c x 4294967296 (fun v => nz { c with f10 := v }) (IntKind.wrap .u32) hx hk (fun v h0 h1 => by rw [Go.IntKind.wrap_u32]; omega) rfl rfl
  · have e1 : (⟨#[102, 101, 116, 99, 104]⟩ : ByteArray).toList = [102, 101, 116, 99, 104] := by decide +kernel
    have e2 : (⟨#[108, 111, 97, 100]⟩ : ByteArray).toList = [108, 111, 97, 100] := by decide +kernel
    have hg : goL 104 c x = (choice wHows x).map fun (v : Int) => { c with f11 := v == 1 } := rfl
    unfold OwnOk
    rw [hg, hows_eq]
    have hp : Va.atlasref15_own.f k (nz c) ((104 : Nat) : Int) x = bif (!(x.toList == (⟨#[102, 101, 116, 99, 104]⟩ : ByteArray).toList)) then (bif (!(x.toList == (⟨#[108, 111, 97, 100]⟩ : ByteArray).toList)) then some (nz c, 12) else some (nz { c with f11 := (x.toList == (⟨#[102, 101, 116, 99, 104]⟩ : ByteArray).toList) }, 0)) else some (nz { c with f11 := (x.toList == (⟨#[102, 101, 116, 99, 104]⟩ : ByteArray).toList) }, 0) := rfl
    rw [hp, e1, e2]
    cases x.toList == [102, 101, 116, 99, 104]
    · cases x.toList == [108, 111, 97, 100]
      · exact ⟨nz c, 12, rfl, .inr ⟨by decide, rfl⟩⟩
      · exact ⟨_, 0, rfl, .inl ⟨rfl, rfl⟩⟩
    · exact ⟨_, 0, rfl, .inl ⟨rfl, rfl⟩⟩
end Go.Proofs.YtnidnmhcjngmeaaGreat.Scr

/-
  The document's answer to the words behind a command's name, as plain steps (printed by genloop.py).
  Conditions: words of at most 1048576 bytes.
-/
namespace Go.Proofs.YtnidnmhcjngmeaaGreat.Scr
open Go.Va (nameB name_eq sizeP size_eq number_eq fieldsP fields_eq optD byteAt wrap_i64e)
open Go (IntKind)
abbrev CT32 : Type := Int × Int × Int × Int × Int × Int × Int × Int × Int × Int × Int × Bool × Int × Bool × ByteArray × ByteArray × Int × Int × Int × Int × Int × Bool × Bool × Bool × Int × Int × Bool × Int × Int × Int × Int × Int
abbrev tup (c : Cmd) : CT32 := (c.f0, c.f1, c.f2, c.f3, c.f4, c.f5, c.f6, c.f7, c.f8, c.f9, c.f10, c.f11, c.f12, c.f13, c.f14, c.f15, c.f16, c.f17, c.f18, c.f19, c.f20, c.f21, c.f22, c.f23, c.f24, c.f25, c.f26, c.f27, c.f28, c.f29, c.f30, c.f31)
abbrev lt2 (ws : List ByteArray) (form : ByteArray) (must : Int) (d c : Cmd) : List ByteArray × ByteArray × Int × Int × Int × Int × Int × Int × Int × Int × Int × Int × Int × Int × Bool × Int × Bool × ByteArray × ByteArray × Int × Int × Int × Int × Int × Bool × Bool × Bool × Int × Int × Bool × Int × Int × Int × Int × Int × CT32 := (ws, form, must, d.f0, d.f1, d.f2, d.f3, d.f4, d.f5, d.f6, d.f7, d.f8, d.f9, d.f10, d.f11, d.f12, d.f13, d.f14, d.f15, d.f16, d.f17, d.f18, d.f19, d.f20, d.f21, d.f22, d.f23, d.f24, d.f25, d.f26, d.f27, d.f28, d.f29, d.f30, d.f31, c.f0, c.f1, c.f2, c.f3, c.f4, c.f5, c.f6, c.f7, c.f8, c.f9, c.f10, c.f11, c.f12, c.f13, c.f14, c.f15, c.f16, c.f17, c.f18, c.f19, c.f20, c.f21, c.f22, c.f23, c.f24, c.f25, c.f26, c.f27, c.f28, c.f29, c.f30, c.f31)
abbrev lt3 (ws : List ByteArray) (form : ByteArray) (must i : Int) (d c : Cmd) : List ByteArray × ByteArray × Int × Int × Int × Int × Int × Int × Int × Int × Int × Int × Int × Int × Int × Bool × Int × Bool × ByteArray × ByteArray × Int × Int × Int × Int × Int × Bool × Bool × Bool × Int × Int × Bool × Int × Int × Int × Int × Int × CT32 := (ws, form, must, i, d.f0, d.f1, d.f2, d.f3, d.f4, d.f5, d.f6, d.f7, d.f8, d.f9, d.f10, d.f11, d.f12, d.f13, d.f14, d.f15, d.f16, d.f17, d.f18, d.f19, d.f20, d.f21, d.f22, d.f23, d.f24, d.f25, d.f26, d.f27, d.f28, d.f29, d.f30, d.f31, c.f0, c.f1, c.f2, c.f3, c.f4, c.f5, c.f6, c.f7, c.f8, c.f9, c.f10, c.f11, c.f12, c.f13, c.f14, c.f15, c.f16, c.f17, c.f18, c.f19, c.f20, c.f21, c.f22, c.f23, c.f24, c.f25, c.f26, c.f27, c.f28, c.f29, c.f30, c.f31)
theorem q1_eq (k n : Nat) (ws : List ByteArray) (form : ByteArray) (must i : Int) (d c : Cmd) : Va.atlasref15_rest.q1.l k (n + 1) (lt3 ws form must i d c) =
    bif decide (i < ((ws.length : Nat) : Int)) then (bif decide (i ≤ (form.size : Int)) then (bif (decide (0 ≤ IntKind.wrap .i64 (i - 1)) && decide (IntKind.wrap .i64 (i - 1) < (form.size : Int))) then (bif (decide (0 ≤ i) && decide (i < ((ws.length : Nat) : Int))) then
      ((Va.atlasref15_put.f k c (byteAt form (IntKind.wrap .i64 (i - 1))) (ws.getD i.toNat ByteArray.empty)).bind fun r => bif (r.2 != 0) then some (Sum.inl (r.2, i, tup c)) else Va.atlasref15_rest.q1.l k n (lt3 ws form must (IntKind.wrap .i64 (i + 1)) d r.1)) else none) else none)
      else some (Sum.inr (lt2 ws form must d c))) else some (Sum.inr (lt2 ws form must d c)) := rfl
theorem q0_eq (k : Nat) (ws : List ByteArray) (form : ByteArray) (must : Int) (d c : Cmd) : Va.atlasref15_rest.q0.l k (lt2 ws form must d c) =
    (Va.atlasref15_rest.q1.l k k (lt3 ws form must 1 d c)).bind fun r4 => Sum.elim (fun r5 => some r5) (fun r6 => bif decide (IntKind.wrap .i64 (((r6.1.length : Nat) : Int) - 1) < r6.2.2.1) then some (152, ((r6.1.length : Nat) : Int), r6.2.2.2.2.2.2.2.2.2.2.2.2.2.2.2.2.2.2.2.2.2.2.2.2.2.2.2.2.2.2.2.2.2.2.2)
      else bif decide (IntKind.wrap .i64 (((r6.1.length : Nat) : Int) - 1) > (r6.2.1.size : Int)) then some (152, IntKind.wrap .i64 ((r6.2.1.size : Int) + 1), r6.2.2.2.2.2.2.2.2.2.2.2.2.2.2.2.2.2.2.2.2.2.2.2.2.2.2.2.2.2.2.2.2.2.2.2) else some (0, -1, r6.2.2.2.2.2.2.2.2.2.2.2.2.2.2.2.2.2.2.2.2.2.2.2.2.2.2.2.2.2.2.2.2.2.2.2)) r4 := rfl
/-- The words, taken letter by letter. -/
def refR (ws : List ByteArray) : List Nat → Nat → Cmd → Except (Int × Nat) Cmd
  | [], _, c => .ok c
  | l :: ls, i, c => if h : i < ws.length then (match goL l c ws[i] with
    | .ok c' => refR ws ls (i + 1) c'
    | .error e => .error (e, i)) else .ok c
theorem ref_loop (k : Nat) (ws : List ByteArray) (form : ByteArray) (must : Int) (d : Cmd) (ls0 : List Nat) (hw : ∀ x ∈ ws, x.size ≤ 1048576 ∧ x.size < k) (hk : 9 < k) (hl : ws.length ≤ 1048577) (hsz : form.size = ls0.length) (hs2 : ls0.length ≤ 100)
    (hform : ∀ j (h : j < ls0.length), byteAt form (j : Int) = (ls0[j] : Int)) (hlet : ∀ l ∈ ls0, l ∈ letters) :
    ∀ (ls : List Nat) (i n : Nat) (c : Cmd), ls0.drop i = ls → ls.length < n →
      match refR ws ls (i + 1) c with
      | .error (e, j) => e ≠ 0 ∧ ∃ c', Va.atlasref15_rest.q1.l k n (lt3 ws form must ((i + 1 : Nat) : Int) d c) = some (.inl (e, (j : Int), tup c'))
      | .ok c' => Va.atlasref15_rest.q1.l k n (lt3 ws form must ((i + 1 : Nat) : Int) d c) = some (.inr (lt2 ws form must d c')) := by
  intro ls
  induction ls with
  | nil =>
    intro i n c hd hn
    obtain ⟨n, rfl⟩ : ∃ m, n = m + 1 := ⟨n - 1, by omega⟩
    have h1 := List.drop_eq_nil_iff.1 hd
    simp only [refR]
    rw [q1_eq]
    by_cases h : ((i + 1 : Nat) : Int) < ((ws.length : Nat) : Int)
    · rw [decide_eq_true h, cond_true, decide_eq_false (show ¬ ((i + 1 : Nat) : Int) ≤ (form.size : Int) by omega), cond_false]
    · rw [decide_eq_false h, cond_false]
  | cons l ls ih =>
    intro i n c hd hn
    obtain ⟨n, rfl⟩ : ∃ m, n = m + 1 := ⟨n - 1, by simp at hn; omega⟩
    have hi : i < ls0.length := by
      have := congrArg List.length hd
      simp at this; omega
    have hg : ls0[i] = l := by
      have e := List.getElem?_drop (xs := ls0) (i := i) (j := 0)
      rw [hd] at e
      simpa [List.getElem?_eq_getElem hi] using e.symm
    have hd2 : ls0.drop (i + 1) = ls := by
      have e : List.drop (i + 1) ls0 = List.drop 1 (List.drop i ls0) := by rw [List.drop_drop, Nat.add_comm]
      rw [e, hd]; rfl
    rw [q1_eq]
    simp only [refR]
    by_cases h : i + 1 < ws.length
    · have hx := hw ws[i + 1] (List.getElem_mem h)
      have e1 : IntKind.wrap .i64 (((i + 1 : Nat) : Int) - 1) = (i : Int) := by rw [wrap_i64e _ (by omega) (by omega)]; omega
      have e2 : IntKind.wrap .i64 (((i + 1 : Nat) : Int) + 1) = ((i + 1 + 1 : Nat) : Int) := by rw [wrap_i64e _ (by omega) (by omega)]; omega
      have e3 : ws.getD ((i + 1 : Nat) : Int).toNat ByteArray.empty = ws[i + 1] := by
        rw [Int.toNat_natCast, List.getD_eq_getElem?_getD, List.getElem?_eq_getElem h]; rfl
      obtain ⟨c2, e, hp, hor⟩ := put_ok k l (hlet l (hg ▸ List.getElem_mem hi)) c ws[i + 1] hx.1 hx.2 hk
      have hp' : Va.atlasref15_put.f k c (byteAt form (i : Int)) ws[i + 1] = some (c2, e) := by rw [hform i hi, hg]; exact hp
      rw [decide_eq_true (show ((i + 1 : Nat) : Int) < ((ws.length : Nat) : Int) by omega), decide_eq_true (show ((i + 1 : Nat) : Int) ≤ (form.size : Int) by omega), e1, decide_eq_true (show 0 ≤ (i : Int) by omega),
        decide_eq_true (show (i : Int) < (form.size : Int) by omega), decide_eq_true (show 0 ≤ ((i + 1 : Nat) : Int) by omega), e3, hp', e2, dif_pos h]
      simp only [Bool.and_self, cond_true, Option.bind_some]
      rcases hor with ⟨h0, hg2⟩ | ⟨h0, hg2⟩
      · rw [hg2, h0]
        simp only [show ((0 : Int) != 0) = false from rfl, cond_false]
        exact ih (i + 1) n c2 hd2 (by simp at hn; omega)
      · rw [hg2]
        have hb : (e != 0) = true := by rw [bne_iff_ne]; exact h0
        simp only [hb, cond_true]
        exact ⟨h0, c, rfl⟩
    · rw [dif_neg h, decide_eq_false (show ¬ ((i + 1 : Nat) : Int) < ((ws.length : Nat) : Int) by omega), cond_false]
/-- Behind the words. -/
def refF (ws : List ByteArray) (size must : Nat) (r : Except (Int × Nat) Cmd) : Cmd × Int × Int := match r with
  | .error (e, j) => (zc, e, (j : Int))
  | .ok c => if ws.length < must + 1 then (zc, 152, (ws.length : Int)) else if size + 1 < ws.length then (zc, 152, ((size + 1 : Nat) : Int)) else (c, 0, -1)
/-- The same answer, but for the command of an error. -/
def Same3 (a : Cmd × Int × Int) (b : Cmd × Int × Int) : Prop := a.2 = b.2 ∧ (b.2.1 = 0 → a.1 = b.1)
theorem ref_q0 (k : Nat) (ws : List ByteArray) (form : ByteArray) (must : Nat) (d c : Cmd) (ls : List Nat) (hw : ∀ x ∈ ws, x.size ≤ 1048576 ∧ x.size < k) (hk : 200 < k) (h1 : 1 ≤ ws.length) (hl : ws.length ≤ 1048577) (hsz : form.size = ls.length) (hs2 : ls.length ≤ 100)
    (hform : ∀ j (h : j < ls.length), byteAt form (j : Int) = (ls[j] : Int)) (hlet : ∀ l ∈ ls, l ∈ letters) :
    ∃ r : Cmd × Int × Int, Va.atlasref15_rest.q0.l k (lt2 ws form (must : Int) d c) = some (r.2.1, r.2.2, tup r.1) ∧ Same3 r (refF ws ls.length must (refR ws ls 1 c)) := by
  have h := ref_loop k ws form (must : Int) d ls hw (by omega) hl hsz hs2 hform hlet ls 0 k c rfl (by omega)
  rw [q0_eq]
  cases hr : refR ws ls 1 c with
  | error x =>
    obtain ⟨e, j⟩ := x
    simp only [Nat.zero_add, hr] at h
    obtain ⟨h0, c', hc⟩ := h
    have hc' : Va.atlasref15_rest.q1.l k k (lt3 ws form (must : Int) 1 d c) = _ := hc
    rw [hc']
    exact ⟨(c', e, (j : Int)), rfl, rfl, fun h => absurd h h0⟩
  | ok c' =>
    simp only [Nat.zero_add, hr] at h
    have hc' : Va.atlasref15_rest.q1.l k k (lt3 ws form (must : Int) 1 d c) = _ := h
    rw [hc']
    simp only [Option.bind_some, Sum.elim_inr, refF]
    have e1 : IntKind.wrap .i64 (((ws.length : Nat) : Int) - 1) = ((ws.length : Nat) : Int) - 1 := by rw [wrap_i64e _ (by omega) (by omega)]
    have e2 : IntKind.wrap .i64 ((form.size : Int) + 1) = ((ls.length + 1 : Nat) : Int) := by rw [wrap_i64e _ (by omega) (by omega)]; omega
    rw [e1, e2]
    by_cases hm : ws.length < must + 1
    · rw [decide_eq_true (show ((ws.length : Nat) : Int) - 1 < (must : Int) by omega), if_pos hm]
      exact ⟨(c', 152, (ws.length : Int)), rfl, rfl, fun h => absurd h (show ¬ (152 : Int) = 0 by decide)⟩
    · rw [decide_eq_false (show ¬ ((ws.length : Nat) : Int) - 1 < (must : Int) by omega), if_neg hm]
      by_cases ht : ls.length + 1 < ws.length
      · rw [decide_eq_true (show ((ws.length : Nat) : Int) - 1 > (form.size : Int) by omega), if_pos ht]
        exact ⟨(c', 152, ((ls.length + 1 : Nat) : Int)), rfl, rfl, fun h => absurd h (show ¬ (152 : Int) = 0 by decide)⟩
      · rw [decide_eq_false (show ¬ ((ws.length : Nat) : Int) - 1 > (form.size : Int) by omega), if_neg ht]
        exact ⟨(c', 0, -1), rfl, rfl, fun _ => rfl⟩
end Go.Proofs.YtnidnmhcjngmeaaGreat.Scr
