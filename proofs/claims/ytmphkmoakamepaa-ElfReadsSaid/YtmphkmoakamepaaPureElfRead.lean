/-
  A file read.
  Conditions: none.
-/
import Derived.Test.YtmphkmoakamepaaPureElfSectsR
set_option linter.unusedVariables false
set_option linter.unusedSimpArgs false
set_option autoImplicit false
set_option maxRecDepth 100000
namespace Go.Va
structure SegGood (s : SegT) : Prop where
  ok : SegOk s
  by_ : ByB s.2.2.2.1
  sg : segB s = true
theorem load_good {b : List Int} (hb : ByB b) (hl : b.length ≤ 140737488351232) {a : Int} {s : SegT} (h : loadF b a = some s) : SegGood s := by
  unfold loadF at h
  have hr := reach_v
  have r4 := word_range hb (a + 4); have r16 := word_range hb (a + 16)
  cases hc : ((word b (a + 12) == word b (a + 8) && decide (word b (a + 16) ≤ word b (a + 20))) && ((word b (a + 16) == 0 || decide (word b (a + 4) + word b (a + 16) ≤ (b.length : Int))) && (decide (word b (a + 24) < 8) && (word b (a + 28) == 4096 && segB (word b (a + 8), word b (a + 20), rtsF (word b (a + 24)), [], ()))))) with
  | false => rw [hc] at h; cases h
  | true =>
    rw [hc, cond_true, Option.some.injEq] at h
    simp only [Bool.and_eq_true, Bool.or_eq_true, beq_iff_eq, decide_eq_true_eq] at hc
    obtain ⟨⟨c1, c2⟩, c3, c4, c5, c6⟩ := hc
    have hd := dataF_len b (word b (a + 4)) (word b (a + 16)) r16.1 r4.1 c3
    subst h
    refine ⟨⟨word_range hb _, word_range hb _, ?_⟩, dataF_byte hb _ _, ?_⟩
    · show List.length (dataF b _ _) ≤ reachBytes
      rcases c3 with c3 | c3 <;> omega
    · rw [segB_data _ _ _ _ (by omega)]; exact c6
def sgF {ρ : Type} (bad : List SegT → ρ) (b : List Int) (pg : Int) (S : List SegT) (q : Nat) : List SegT ⊕ ρ :=
  bif word b (pg + 32 * q) == 1 then (match loadF b (pg + 32 * q) with
    | some s => .inl (S ++ [s])
    | none => .inr (bad S)) else .inl S
def sgG {ρ : Type} (bad : ρ) (b : List Int) (pg : Int) (S : List SegT) (q : Nat) : List SegT ⊕ ρ :=
  bif word b (pg + 32 * q) == 1 then (match loadF b (pg + 32 * q) with
    | some s => bif decide (S.length + 1 > 16) then .inr bad else .inl (S ++ [s])
    | none => .inr bad) else .inl S
def segsR (b : List Int) (pg : Int) (cs : List Nat) (S : List SegT) : Option (List SegT) := runS (sgF (fun _ => none) b pg) some cs S
theorem sg_map {ρ : Type} (bad : List SegT → ρ) (e : List SegT → ρ) (b : List Int) (pg : Int) : ∀ (cs : List Nat) (S : List SegT), (∃ S', segsR b pg cs S = some S' ∧ runS (sgF bad b pg) e cs S = e S') ∨ (segsR b pg cs S = none ∧ ∃ S', runS (sgF bad b pg) e cs S = bad S')
  | [], S => .inl ⟨S, rfl, rfl⟩
  | c :: cs, S => by
    unfold segsR
    simp only [runS, sgF]
    cases (word b (pg + 32 * c) == 1) with
    | false => exact sg_map bad e b pg cs S
    | true =>
      simp only [cond_true]
      cases loadF b (pg + 32 * c) with
      | none => exact .inr ⟨rfl, S, rfl⟩
      | some s => exact sg_map bad e b pg cs (S ++ [s])
theorem segsR_len (b : List Int) (pg : Int) : ∀ (cs : List Nat) (S S' : List SegT), segsR b pg cs S = some S' → S.length ≤ S'.length
  | [], S, S', h => by
    have : S = S' := Option.some.inj h
    rw [this]; exact Nat.le_refl _
  | c :: cs, S, S', h => by
    unfold segsR at h
    simp only [runS, sgF] at h
    cases hw : (word b (pg + 32 * c) == 1) with
    | false => rw [hw] at h; exact segsR_len b pg cs S S' h
    | true =>
      rw [hw] at h
      simp only [cond_true] at h
      cases hld : loadF b (pg + 32 * c) with
      | none => rw [hld] at h; cases h
      | some s => rw [hld] at h; have := segsR_len b pg cs (S ++ [s]) S' h; simp at this; omega
theorem segsR_good {b : List Int} (hb : ByB b) (hl : b.length ≤ 140737488351232) (pg : Int) : ∀ (cs : List Nat) (S S' : List SegT), segsR b pg cs S = some S' → (∀ s ∈ S, SegGood s) → ∀ s ∈ S', SegGood s
  | [], S, S', h, hS => by
    have : S = S' := Option.some.inj h
    rw [← this]; exact hS
  | c :: cs, S, S', h, hS => by
    unfold segsR at h
    simp only [runS, sgF] at h
    cases hw : (word b (pg + 32 * c) == 1) with
    | false => rw [hw] at h; exact segsR_good hb hl pg cs S S' h hS
    | true =>
      rw [hw] at h
      simp only [cond_true] at h
      cases hld : loadF b (pg + 32 * c) with
      | none => rw [hld] at h; cases h
      | some s =>
        rw [hld] at h
        refine segsR_good hb hl pg cs (S ++ [s]) S' h (fun x hx => ?_)
        rcases List.mem_append.1 hx with hx | hx
        · exact hS x hx
        · rw [List.mem_singleton] at hx; subst hx; exact load_good hb hl hld
theorem sgG_map {ρ : Type} (bad : ρ) (e : List SegT → ρ) (b : List Int) (pg : Int) : ∀ (cs : List Nat) (S : List SegT), S.length ≤ 16 → runS (sgG bad b pg) e cs S = match segsR b pg cs S with
    | some S' => bif decide (S'.length ≤ 16) then e S' else bad
    | none => bad
  | [], S, h => by
    show e S = bif decide (S.length ≤ 16) then e S else bad
    rw [decide_eq_true h]; rfl
  | c :: cs, S, h => by
    simp only [runS, sgG, segsR, sgF]
    cases (word b (pg + 32 * c) == 1) with
    | false => exact sgG_map bad e b pg cs S h
    | true =>
      simp only [cond_true]
      cases loadF b (pg + 32 * c) with
      | none => rfl
      | some s =>
        simp only
        by_cases h16 : S.length + 1 > 16
        · rw [decide_eq_true h16, cond_true]
          simp only
          show bad = match segsR b pg cs (S ++ [s]) with
            | some S' => bif decide (S'.length ≤ 16) then e S' else bad
            | none => bad
          cases hq : segsR b pg cs (S ++ [s]) with
          | none => rfl
          | some S' =>
            have := segsR_len b pg cs _ _ hq
            simp at this
            simp only
            rw [decide_eq_false (by omega)]; rfl
        · rw [decide_eq_false h16, cond_false]
          exact sgG_map bad e b pg cs (S ++ [s]) (by simp; omega)
section
variable (k : Nat) (hk : reachBytes < k) (b : List Int) (hb : ByB b) (hl : b.length ≤ 140737488351232)
include hk hb hl
theorem eloop_eq (pg sec mm : Int) (n : Nat) (h0 : 0 ≤ pg) (h1 : pg < 4294967296) (hn : n < 65536) (hs : n = 0 ∨ pg + 32 * n ≤ (b.length : Int)) :
    elf_Read.q1.l k k (pg, sec, mm, (n : Int), 0, 0, [], 0, b, []) = some (runS (sgF (fun S => .inl (⟨235⟩, 0, [], 0, S)) b pg) (fun S => .inr (sec, mm, 0, [], 0, b, S)) (List.range n) []) := by
  have hr := reach_v
  have hm := maxLen_v
  have loop := loop_run (List.range n) (fun q (S : List SegT) => S.length ≤ q) (sgF (ρ := (T77 × (Int × List SymT × Int × List SegT)) ⊕ (Int × Int × Int × List SymT × Int × List Int × List SegT)) (fun S => .inl (⟨235⟩, 0, [], 0, S)) b pg) (fun S => .inr (sec, mm, 0, [], 0, b, S)) (fun f q S => elf_Read.q1.l k f (pg, sec, mm, (n : Int), (q : Int), 0, [], 0, b, S)) (fun f S _ => by
      rw [List.length_range]
      simp only [elf_Read.q1.l, decide_eq_false (show ¬ (n : Int) < (n : Int) by omega), cond_false]) (fun f q c S hc hq hI => by
    rw [List.length_range] at hq
    have hcq : c = q := by
      rw [List.getElem?_range hq] at hc
      exact (Option.some.inj hc).symm
    subst hcq
    have hs : pg + 32 * (n : Int) ≤ (b.length : Int) := hs.resolve_left (by omega)
    have w0 : IntKind.wrap .u64 ((c : Int) * 32) = 32 * (c : Int) := by rw [wrap_u64e _ (by omega) (by omega)]; omega
    have w1 : IntKind.wrap .u64 (pg + 32 * (c : Int)) = pg + 32 * (c : Int) := wrap_u64e _ (by omega) (by omega)
    have wc : IntKind.wrap .u64 ((c : Int) + 1) = ((c + 1 : Nat) : Int) := by rw [wrap_u64e _ (by omega) (by omega)]; omega
    have e1 := word_e k (by omega) b hb hl (pg + 32 * (c : Int)) (by omega) (by omega)
    have e2 := eseg_eq k (by omega) b hb hl (pg + 32 * (c : Int)) (by omega) (by omega)
    have main : elf_Read.q1.l k (f + 1) (pg, sec, mm, (n : Int), (c : Int), 0, [], 0, b, S) = match sgF (ρ := (T77 × (Int × List SymT × Int × List SegT)) ⊕ (Int × Int × Int × List SymT × Int × List Int × List SegT)) (fun S => .inl (⟨235⟩, 0, [], 0, S)) b pg S c with
        | .inl Z => elf_Read.q1.l k f (pg, sec, mm, (n : Int), ((c + 1 : Nat) : Int), 0, [], 0, b, Z)
        | .inr r => some r := by
      simp only [elf_Read.q1.l, decide_eq_true (show (c : Int) < (n : Int) by omega), cond_true, w0, w1, wc, e1, e2, Option.bind_some]
      unfold sgF
      cases (word b (pg + 32 * (c : Int)) == 1) with
      | false => rfl
      | true =>
        simp only [cond_true]
        cases loadF b (pg + 32 * (c : Int)) with
        | none => rfl
        | some s =>
          simp only [Sum.elim_inr]
          have hS : (S ++ [(s.1, s.2.1, (s.2.2.1.1, s.2.2.1.2.1, s.2.2.1.2.2.1, ()), s.2.2.2.1, ())]).length = S.length + 1 := by simp
          simp only [hS, decide_eq_true (show S.length + 1 ≤ maxLen by omega), decide_eq_true (show (S.length + 1) * 40 ≤ 140737488355328 by omega), Bool.and_self, cond_true]
    refine ⟨fun Z hZ => ?_, fun r hr => ?_⟩
    · refine ⟨?_, by rw [hZ] at main; exact main⟩
      unfold sgF at hZ
      cases hw : (word b (pg + 32 * (c : Int)) == 1) with
      | false => rw [hw] at hZ; cases hZ; omega
      | true =>
        rw [hw, cond_true] at hZ
        cases hld : loadF b (pg + 32 * (c : Int)) with
        | none => rw [hld] at hZ; cases hZ
        | some s => rw [hld] at hZ; cases hZ; simp; omega
    · rw [hr] at main; exact main) (List.range n) k 0 [] rfl (Nat.zero_le _) (by rw [List.length_range]; omega) (Nat.zero_le _)
  exact loop
theorem rloop_eq (E : Int) (hlen : 52 ≤ b.length) (hs : half b 44 = 0 ∨ word b 28 + 32 * half b 44 ≤ (b.length : Int)) :
    atlasref23_Read.q0.l k k (b, 0, 0, E, [], [], [], []) = some (runS (sgG (.inl (235, 0, [], [])) b (word b 28)) (fun S => .inr (b, 0, E, [], [], S, [])) (List.range (half b 44).toNat) []) := by
  have hr := reach_v
  have hm := maxLen_v
  have e44 := half_r k (by omega) b hb hl 44 (by omega) (by omega)
  have e28 := num4_r k (by omega) b hb hl 28 (by omega) (by omega)
  have r44 := half_range hb 44; have r28 := word_range hb 28
  generalize hnn : half b 44 = nn at *
  generalize word b 28 = pg at *
  obtain ⟨n, rfl⟩ : ∃ n : Nat, nn = n := ⟨nn.toNat, by omega⟩
  rw [Int.toNat_natCast]
  have loop := loop_run (List.range n) (fun q (S : List SegT) => S.length ≤ q) (sgG (ρ := (Int × Int × List SegT × List SymT) ⊕ (List Int × Int × Int × List SegT × List SymT × List SegT × List SymT)) (.inl (235, 0, [], [])) b pg) (fun S => .inr (b, 0, E, [], [], S, [])) (fun f q S => atlasref23_Read.q0.l k f (b, (q : Int), 0, E, [], [], S, [])) (fun f S _ => by
      rw [List.length_range]
      simp only [atlasref23_Read.q0.l, e44, Option.bind_some, decide_eq_false (show ¬ (n : Int) < (n : Int) by omega), cond_false]) (fun f q c S hc hq hI => by
    rw [List.length_range] at hq
    have hcq : c = q := by
      rw [List.getElem?_range hq] at hc
      exact (Option.some.inj hc).symm
    subst hcq
    have hs : pg + 32 * (n : Int) ≤ (b.length : Int) := hs.resolve_left (by omega)
    have w0 : IntKind.wrap .u64 (32 * (c : Int)) = 32 * (c : Int) := wrap_u64e _ (by omega) (by omega)
    have w1 : IntKind.wrap .u64 (pg + 32 * (c : Int)) = pg + 32 * (c : Int) := wrap_u64e _ (by omega) (by omega)
    have wc : IntKind.wrap .u64 ((c : Int) + 1) = ((c + 1 : Nat) : Int) := by rw [wrap_u64e _ (by omega) (by omega)]; omega
    have e1 := word_r k (by omega) b hb hl (pg + 32 * (c : Int)) 0 (by omega) (by omega) (by omega)
    rw [show pg + 32 * (c : Int) + 4 * 0 = pg + 32 * (c : Int) by omega] at e1
    obtain ⟨x, e2, e3⟩ := rload_eq k (by omega) b hb hl (pg + 32 * (c : Int)) (by omega) (by omega)
    have n1 : (word b (pg + 32 * (c : Int)) != 1) = !(word b (pg + 32 * (c : Int)) == 1) := rfl
    have main : atlasref23_Read.q0.l k (f + 1) (b, (c : Int), 0, E, [], [], S, []) = match sgG (ρ := (Int × Int × List SegT × List SymT) ⊕ (List Int × Int × Int × List SegT × List SymT × List SegT × List SymT)) (.inl (235, 0, [], [])) b pg S c with
        | .inl Z => atlasref23_Read.q0.l k f (b, ((c + 1 : Nat) : Int), 0, E, [], [], Z, [])
        | .inr r => some r := by
      simp only [atlasref23_Read.q0.l, e44, e28, decide_eq_true (show (c : Int) < (n : Int) by omega), cond_true, w0, w1, wc, e1, e2, Option.bind_some, n1]
      unfold sgG
      cases (word b (pg + 32 * (c : Int)) == 1) with
      | false => rfl
      | true =>
        simp only [cond_true, Bool.not_true, cond_false]
        cases hld : loadF b (pg + 32 * (c : Int)) with
        | none =>
          rw [hld] at e3
          have e3 : x.2 = false := e3
          rw [e3]; rfl
        | some s =>
          rw [hld] at e3
          have e3 : x = (segT s, true) := e3
          subst e3
          have hS : (S ++ [(s.1, s.2.1, (s.2.2.1.1, s.2.2.1.2.1, s.2.2.1.2.2.1, ()), s.2.2.2.1, ())]).length = S.length + 1 := by simp
          have h16 : decide ((((S.length + 1 : Nat)) : Int) > 16) = decide (S.length + 1 > 16) := decide_eq_decide.2 (by omega)
          simp only [Bool.not_true, cond_false, hS, decide_eq_true (show S.length + 1 ≤ maxLen by omega), decide_eq_true (show (S.length + 1) * 40 ≤ 140737488355328 by omega), Bool.and_self, cond_true, h16]
          cases decide (S.length + 1 > 16) <;> rfl
    refine ⟨fun Z hZ => ?_, fun r hr => ?_⟩
    · refine ⟨?_, by rw [hZ] at main; exact main⟩
      unfold sgG at hZ
      cases hw : (word b (pg + 32 * (c : Int)) == 1) with
      | false => rw [hw] at hZ; cases hZ; omega
      | true =>
        rw [hw, cond_true] at hZ
        cases hld : loadF b (pg + 32 * (c : Int)) with
        | none => rw [hld] at hZ; cases hZ
        | some s =>
          rw [hld] at hZ
          simp only at hZ
          cases h16 : decide (S.length + 1 > 16) with
          | true => rw [h16] at hZ; cases hZ
          | false => rw [h16] at hZ; cases hZ; simp; omega
    · rw [hr] at main; exact main) (List.range n) k 0 [] rfl (Nat.zero_le _) (by rw [List.length_range]; omega) (Nat.zero_le _)
  exact loop
end
/-! ### What a file is read as -/
def symsO (b : List Int) : Option (List SymT) := if word b 32 = 0 then some [] else symF b (word b 32) (half b 48).toNat
def restF (b : List Int) : T25 × Int := match segsR b (word b 28) (List.range (half b 44).toNat) [] with
  | none => (T25.z, 235)
  | some S => bif decide (1 ≤ S.length) && decide (S.length ≤ 16) then (bif riseB S then (bif startB S (word b 24) then (match symsO b with
      | none => (T25.z, 238)
      | some Y => (⟨word b 24, S, Y⟩, 0)) else (T25.z, 237)) else (T25.z, 236)) else (T25.z, 235)
def okP (b : List Int) : Bool := half b 44 == 0 || decide (word b 28 + 32 * half b 44 ≤ (b.length : Int))
def okS (b : List Int) : Bool := word b 32 == 0 || (half b 48 == 0 || decide (word b 32 + 40 * half b 48 ≤ (b.length : Int)))
def bodyF (b : List Int) : T25 × Int := bif okP b && okS b then restF b else (T25.z, 230)
def h3F (b : List Int) : Bool := (bytesO ((b.drop 0).take (4 - 0))).toList == (⟨#[127, 69, 76, 70]⟩ : ByteArray).toList
def h4F (b : List Int) : Bool := b.getD 4 0 == 1 && (b.getD 5 0 == 1 && b.getD 6 0 == 1)
def h5F (b : List Int) : Bool := half b 16 == 2 && (half b 18 == 40 && word b 20 == 1)
def h6F (b : List Int) : Bool := half b 40 == 52 && (half b 42 == 32 && (word b 32 == 0 || half b 46 == 40))
def headF_ (b : List Int) : T25 × Int := bif h3F b then (bif h4F b then (bif h5F b then (bif h6F b then bodyF b else (T25.z, 234)) else (T25.z, 233)) else (T25.z, 232)) else (T25.z, 231)
def readF (b : List Int) : T25 × Int := bif decide (52 ≤ b.length) then (bif decide (b.length ≤ 33554432) then headF_ b else (T25.z, 239)) else (T25.z, 230)
theorem okS_sym {b : List Int} (hb : ByB b) (h : okS b = true) : word b 32 = 0 ∨ half b 48 = 0 ∨ word b 32 + 40 * half b 48 ≤ (b.length : Int) := by
  simpa [okS] using h
end Go.Va
