/-
  elf.Write and the document's answer: the same file, or the same error.
  Conditions: an image as any may be handed in.
-/
import Derived.Test.YtmphkmoakamepaaPureElfTab
set_option linter.unusedVariables false
set_option linter.unusedSimpArgs false
set_option autoImplicit false
set_option maxRecDepth 100000
namespace Go.Va
def headF (E : Int) (S : List SegT) (sec cnt ttl : Int) : List Int := magic ++ ([2, 40] : List Int).flatMap (lay 2) ++ ([1, E, 52, sec, 83886080] : List Int).flatMap (lay 4) ++ ([52, 32, ((S.length : Nat) : Int), 40, cnt, ttl] : List Int).flatMap (lay 2)
theorem headF_len (E : Int) (S : List SegT) (sec cnt ttl : Int) : (headF E S sec cnt ttl).length = 52 := by
  unfold headF
  rw [List.length_append, List.length_append, List.length_append, flat_len, flat_len, flat_len]; rfl
def midF (E : Int) (S : List SegT) (sec cnt ttl : Int) : List Int := S.foldl bdG (S.foldl (phG (plc S).2) (0, headF E S sec cnt ttl)).2
def fileF (E : Int) (S : List SegT) (Y : List SymT) : List Int := if Y.length = 0 then midF E S 0 0 0 else tabB S Y (midF E S (se S Y : Int) 4 3)
def sizeF (S : List SegT) (Y : List SymT) : Nat := if Y.length = 0 then stp S else se S Y + 160
def writeF (E : Int) (S : List SegT) (Y : List SymT) : List Int × Int := if sizeF S Y > 33554432 then ([], 239) else (fileF E S Y, 0)

theorem rhalf_eq (k : Nat) (P N M L f : List Int) (b1 b2 b3 b4 E : Int) (S : List SegT) (Y : List SymT) (h6 : L.length = 6) (hL : ∀ v ∈ L, 0 ≤ v ∧ v < 18446744073709551616) (hf : f.length ≤ 1000) (hk : 5000 < k) :
    atlasref23_Write.q1.l k k (P, b1, b2, b3, b4, 0, E, S, Y, N, L, M, f) = some (P, b1, b2, b3, b4, E, S, Y, N, M, f ++ L.flatMap (lay 2)) := by
  have A := (fold_loop L (fun q (x : List Int) => x.length = f.length + 2 * q) (fun x c => x ++ lay 2 c) (fun x : List Int => (P, b1, b2, b3, b4, E, S, Y, N, M, x)) (fun n q x => atlasref23_Write.q1.l k n (P, b1, b2, b3, b4, (q : Int), E, S, Y, N, L, M, x)) (fun n x _ => ?_) (fun n q c x hc hq hI => ?_) L k 0 f rfl (by omega) (by omega) (by omega)).1
  · rw [foldl_app] at A
    exact A
  · simp only [atlasref23_Write.q1.l, decide_eq_false (show ¬ (L.length : Int) < 6 by omega), cond_false]
  · have hI : List.length x = f.length + 2 * q := hI
    have hcl := hL c (mem_at hc)
    refine ⟨by rw [List.length_append, lay_length]; omega, ?_⟩
    have w := rlay_eq k 2 x c (by omega) (by omega) hcl.1 hcl.2 (by simp only [Big]; omega)
    have w : atlasref23_File_lay.f k x 2 c = some (x ++ lay 2 c) := w
    simp only [atlasref23_Write.q1.l, decide_eq_true (show (q : Int) < 6 by omega), decide_eq_true (show (q : Int) < ((L.length : Nat) : Int) by omega), decide_eq_true (show (0 : Int) ≤ (q : Int) by omega), Bool.and_self, cond_true, Int.toNat_natCast, decide_eq_true hq, getD_of hc, w, Option.bind_some, wrap_i64n q (by omega)]

theorem write_eq (x : T25) (h : ImgOk x) (k : Nat) (hk : reachBytes < k) (hr : rightB x = true) : elf_Write.f k x = some (writeF x.f0_Entry x.f1_Segments x.f2_Symbols) := by
  have hreach := reach_v
  have ho := right_ok h hr
  have h1 := (right_eq x h k hk).1
  obtain ⟨E, S, Y⟩ := x
  have ho : RightOk E S Y := ho
  have h16 := ho.s16
  have hS : ∀ c ∈ S, SegOk c := fun c hc => h.seg hc
  obtain ⟨b1, b2, b3, b4, b5⟩ := plan_le ho
  have hl := laid_eq k E S Y ho (by omega)
  have u1 : IntKind.wrap .u32 ((S.length : Nat) : Int) = ((S.length : Nat) : Int) := by rw [wrap_u32v]; omega
  have hm : ([127, 69, 76, 70, 1, 1, 1, 0, 0, 0, 0, 0, 0, 0, 0, 0] : List Int) = magic := rfl
  have hml : magic.length = 16 := rfl
  have r1 := room (n := magic.length) (by rw [hml]; simp only [Big]; omega)
  have w1 := half_eq k magic [2, 40] (by show 2 < k; omega) (by rw [hml]; show 16 + 2 * 2 ≤ _; simp only [Big]; omega)
  have n1 : (magic ++ ([2, 40] : List Int).flatMap (lay 2)).length = 20 := by rw [List.length_append, flat_len]; rfl
  have w2 := fun sec : Int => word_eq k (magic ++ ([2, 40] : List Int).flatMap (lay 2)) [1, E, 52, sec, 83886080] (by show 5 < k; omega) (by rw [n1]; show 20 + 4 * 5 ≤ _; simp only [Big]; omega)
  have n2 : ∀ sec : Int, (magic ++ ([2, 40] : List Int).flatMap (lay 2) ++ ([1, E, 52, sec, 83886080] : List Int).flatMap (lay 4)).length = 40 := fun sec => by rw [List.length_append, n1, flat_len]; rfl
  have w3 := fun sec cnt ttl : Int => half_eq k (magic ++ ([2, 40] : List Int).flatMap (lay 2) ++ ([1, E, 52, sec, 83886080] : List Int).flatMap (lay 4)) [52, 32, ((S.length : Nat) : Int), 40, cnt, ttl] (by show 6 < k; omega) (by rw [n2]; show 40 + 2 * 6 ≤ _; simp only [Big]; omega)
  have e3 : ∀ sec cnt ttl : Int, (magic ++ ([2, 40] : List Int).flatMap (lay 2) ++ ([1, E, 52, sec, 83886080] : List Int).flatMap (lay 4)) ++ ([52, 32, ((S.length : Nat) : Int), 40, cnt, ttl] : List Int).flatMap (lay 2) = headF E S sec cnt ttl := fun _ _ _ => rfl
  simp only [e3] at w3
  unfold elf_Write.f
  simp only [h1, Option.bind_some, hr, Bool.not_true, cond_false, hl]
  by_cases hY : Y.length = 0
  · have hw : writeF E S Y = if stp S > 33554432 then ([], 239) else (midF E S 0 0 0, 0) := by unfold writeF sizeF fileF; rw [if_pos hY, if_pos hY]
    rw [hw, if_pos hY]
    by_cases hbig : stp S > 33554432
    · rw [if_pos hbig]
      simp only [decide_eq_true (show ((stp S : Nat) : Int) > 33554432 by omega), cond_true]
    · have hp := (ph_eq k E S Y ho hS 0 0 0 0 ((stp S : Nat) : Int) (headF E S 0 0 0) (headF_len _ _ _ _ _) (by omega))
      have hb := (body_eq k E S Y ho 0 0 0 0 ((stp S : Nat) : Int) _ hp.2.2 (by omega))
      rw [if_neg hbig]
      simp only [decide_eq_false (show ¬ ((stp S : Nat) : Int) > 33554432 by omega), cond_false, List.nil_append, hm, r1, cond_true, w1, Option.bind_some, u1]
      have hz : IntKind.wrap .u32 0 = 0 := rfl
      have hg : decide ((0 : Int) > 0) = false := rfl
      simp only [hz, w2, Option.bind_some, hg, cond_false, w3, hp.1, hb.1]
      rfl
  · have hw : writeF E S Y = if se S Y + 160 > 33554432 then ([], 239) else (tabB S Y (midF E S (se S Y : Int) 4 3), 0) := by unfold writeF sizeF fileF; rw [if_neg hY, if_neg hY]
    rw [hw, if_neg hY]
    by_cases hbig : se S Y + 160 > 33554432
    · rw [if_pos hbig]
      simp only [decide_eq_true (show ((se S Y + 160 : Nat) : Int) > 33554432 by omega), cond_true]
    · have hp := (ph_eq k E S Y ho hS ((sy S : Nat) : Int) ((nm S Y : Nat) : Int) ((ti S Y : Nat) : Int) ((se S Y : Nat) : Int) ((se S Y + 160 : Nat) : Int) (headF E S (se S Y : Int) 4 3) (headF_len _ _ _ _ _) (by omega))
      have hb := (body_eq k E S Y ho ((sy S : Nat) : Int) ((nm S Y : Nat) : Int) ((ti S Y : Nat) : Int) ((se S Y : Nat) : Int) ((se S Y + 160 : Nat) : Int) _ hp.2.2 (by omega))
      have ht := tables_eq k E S Y ho _ hb.2.2 (by omega) (plc S).2 ((se S Y + 160 : Nat) : Int)
      have hpos : 0 < se S Y := by have := le_up4 (ti S Y + 27); unfold se; omega
      have u2 : IntKind.wrap .u32 ((se S Y : Nat) : Int) = ((se S Y : Nat) : Int) := by rw [wrap_u32v]; omega
      have hg : decide (((se S Y : Nat) : Int) > 0) = true := decide_eq_true (by omega)
      rw [if_neg hbig]
      simp only [decide_eq_false (show ¬ ((se S Y + 160 : Nat) : Int) > 33554432 by omega), cond_false, List.nil_append, hm, r1, cond_true, w1, Option.bind_some, u1, u2, w2, hg, w3, hp.1, hb.1, ht]
      rfl

theorem rwrite_eq (x : T25) (h : ImgOk x) (k : Nat) (hk : reachBytes < k) (hr : rightB x = true) : atlasref23_Write.f k x = some (writeF x.f0_Entry x.f1_Segments x.f2_Symbols) := by
  have hreach := reach_v
  have ho := right_ok h hr
  have h1 := (right_eq x h k hk).2
  obtain ⟨E, S, Y⟩ := x
  have ho : RightOk E S Y := ho
  have hE : 0 ≤ E ∧ E < 4294967296 := h.e0
  have h16 := ho.s16
  have hYl := ho.y
  have hS : ∀ c ∈ S, SegOk c := fun c hc => h.seg hc
  obtain ⟨b1, b2, b3, b4, b5⟩ := plan_le ho
  have hp0 := (laid_places k E S Y ho.s16 (by omega) ho.data).2
  have e0 : IntKind.wrap .u64 (IntKind.wrap .i64 (52 + IntKind.wrap .i64 (32 * ((S.length : Nat) : Int)))) = ((52 + 32 * S.length : Nat) : Int) := by
    rw [wrap_i64e (32 * ((S.length : Nat) : Int)) (by omega) (by omega), wrap_i64e (52 + 32 * ((S.length : Nat) : Int)) (by omega) (by omega), wrap_u64e _ (by omega) (by omega)]
    omega
  have hpl : atlasref23_places.f k ⟨E, S, Y⟩ = some ((plc S).2, ((stp S : Nat) : Int)) := by
    unfold atlasref23_places.f
    simp only [e0, hp0, Option.bind_some]
    rfl
  have hl16 := rlay_eq k 16 [] 0 (by omega) (by omega) (by omega) (by omega) (by simp [Big])
  have hl16 : atlasref23_File_lay.f k [] 16 0 = some (lay 16 0) := hl16
  have hsym := rsym_eq k E S Y ho h.yu (plc S).2 ((stp S : Nat) : Int) (by omega)
  have hm : ([127, 69, 76, 70, 1, 1, 1, 0, 0, 0, 0, 0, 0, 0, 0, 0] : List Int) = magic := rfl
  have hml : magic.length = 16 := rfl
  have w1 := rlay_eq k 2 magic 2 (by omega) (by omega) (by omega) (by omega) (by rw [hml]; simp only [Big]; omega)
  have w1 : atlasref23_File_lay.f k magic 2 2 = some (magic ++ lay 2 2) := w1
  have w1' := rlay_eq k 2 (magic ++ lay 2 2) 40 (by omega) (by omega) (by omega) (by omega) (by rw [List.length_append, hml, lay_length]; simp only [Big]; omega)
  have e1 : magic ++ lay 2 2 ++ lay 2 40 = magic ++ ([2, 40] : List Int).flatMap (lay 2) := by simp only [List.flatMap_cons, List.flatMap_nil, List.append_nil, List.append_assoc]
  rw [e1] at w1'
  have w1' : atlasref23_File_lay.f k (magic ++ lay 2 2) 2 40 = some (magic ++ ([2, 40] : List Int).flatMap (lay 2)) := w1'
  have n1 : (magic ++ ([2, 40] : List Int).flatMap (lay 2)).length = 20 := by rw [List.length_append, flat_len]; rfl
  have hEu : IntKind.wrap .u64 E = E := wrap_u64e _ hE.1 (by omega)
  have w2 : ∀ sec : Int, 0 ≤ sec ∧ sec < 18446744073709551616 → atlasref23_File_words.f k (magic ++ ([2, 40] : List Int).flatMap (lay 2)) [1, E, 52, sec, 83886080] = some (magic ++ ([2, 40] : List Int).flatMap (lay 2) ++ ([1, E, 52, sec, 83886080] : List Int).flatMap (lay 4)) := fun sec hs =>
    rwords_eq k _ _ (by show 5 < k; omega) (by omega) (fun v hv => by
      simp only [List.mem_cons, List.not_mem_nil, or_false] at hv
      rcases hv with rfl | rfl | rfl | rfl | rfl <;> omega) (by rw [n1]; show 20 + 4 * 5 ≤ _; simp only [Big]; omega)
  have n2 : ∀ sec : Int, (magic ++ ([2, 40] : List Int).flatMap (lay 2) ++ ([1, E, 52, sec, 83886080] : List Int).flatMap (lay 4)).length = 40 := fun sec => by rw [List.length_append, n1, flat_len]; rfl
  have e3 : ∀ sec cnt ttl : Int, (magic ++ ([2, 40] : List Int).flatMap (lay 2) ++ ([1, E, 52, sec, 83886080] : List Int).flatMap (lay 4)) ++ ([52, 32, ((S.length : Nat) : Int), 40, cnt, ttl] : List Int).flatMap (lay 2) = headF E S sec cnt ttl := fun _ _ _ => rfl
  have hSu : IntKind.wrap .u64 ((S.length : Nat) : Int) = ((S.length : Nat) : Int) := wrap_u64e _ (by omega) (by omega)
  have w3 : ∀ (sec cnt ttl b1 b2 b3 b4 : Int) (N M : List Int), (0 ≤ cnt ∧ cnt < 5) → (0 ≤ ttl ∧ ttl < 5) → atlasref23_Write.q1.l k k ((plc S).2, b1, b2, b3, b4, 0, E, S, Y, N, [52, 32, ((S.length : Nat) : Int), 40, cnt, ttl], M, magic ++ ([2, 40] : List Int).flatMap (lay 2) ++ ([1, E, 52, sec, 83886080] : List Int).flatMap (lay 4)) = some ((plc S).2, b1, b2, b3, b4, E, S, Y, N, M, headF E S sec cnt ttl) := by
    intro sec cnt ttl b1 b2 b3 b4 N M hc ht
    exact rhalf_eq k (plc S).2 N M [52, 32, ((S.length : Nat) : Int), 40, cnt, ttl] _ b1 b2 b3 b4 E S Y rfl (fun v hv => by
      simp only [List.mem_cons, List.not_mem_nil, or_false] at hv
      rcases hv with rfl | rfl | rfl | rfl | rfl | rfl <;> omega) (by rw [n2]; omega) (by omega)
  -- the numbers
  have hsy : IntKind.wrap .u64 (IntKind.wrap .u64 (Int.tdiv (IntKind.wrap .u64 (((stp S : Nat) : Int) + 3)) 4) * 4) = ((sy S : Nat) : Int) := rup4_eq (stp S) (by omega)
  have hslen : (lay 16 0 ++ symL Y 1).length = 16 * (Y.length + 1) := by rw [List.length_append, lay_length, symL_len]; omega
  have hnlen : (([0] : List Int) ++ namesL Y).length = 1 + nt Y := by rw [List.length_append, namesL_len]; rfl
  have hntb := nt_le Y ho.size
  have us : IntKind.wrap .u64 (((16 * (Y.length + 1) : Nat)) : Int) = ((16 * (Y.length + 1) : Nat) : Int) := wrap_u64e _ (by omega) (by omega)
  have un : IntKind.wrap .u64 (((1 + nt Y : Nat)) : Int) = ((1 + nt Y : Nat) : Int) := wrap_u64e _ (by omega) (by omega)
  have hnm : IntKind.wrap .u64 (((sy S : Nat) : Int) + ((16 * (Y.length + 1) : Nat) : Int)) = ((nm S Y : Nat) : Int) := by rw [wrap_u64e _ (by omega) (by omega)]; unfold nm; omega
  have hti : IntKind.wrap .u64 (((nm S Y : Nat) : Int) + ((1 + nt Y : Nat) : Int)) = ((ti S Y : Nat) : Int) := by rw [wrap_u64e _ (by omega) (by omega)]; unfold ti; omega
  have hti2 : IntKind.wrap .u64 (((ti S Y : Nat) : Int) + 27) = ((ti S Y + 27 : Nat) : Int) := by rw [wrap_u64e _ (by omega) (by omega)]; omega
  have hse : IntKind.wrap .u64 (IntKind.wrap .u64 (Int.tdiv (IntKind.wrap .u64 (((ti S Y + 27 : Nat) : Int) + 3)) 4) * 4) = ((se S Y : Nat) : Int) := rup4_eq (ti S Y + 27) (by omega)
  have t0 : IntKind.wrap .u64 (IntKind.wrap .u64 (Int.tdiv 0 4) * 3) = 0 := rfl
  have t4 : IntKind.wrap .u64 (IntKind.wrap .u64 (Int.tdiv 4 4) * 3) = 3 := rfl
  have g0 : decide ((0 : Int) > 0) = false := rfl
  have g4 : decide ((4 : Int) > 0) = true := rfl
  unfold atlasref23_Write.f
  simp only [h1, Option.bind_some, hr, Bool.not_true, cond_false, hpl, hl16, hsym]
  by_cases hY : Y.length = 0
  · have hw : writeF E S Y = if stp S > 33554432 then ([], 239) else (midF E S 0 0 0, 0) := by unfold writeF sizeF fileF; rw [if_pos hY, if_pos hY]
    have hc : (((Y.length : Nat) : Int) == 0) = true := by rw [hY]; rfl
    have hp := (ph_eq k E S Y ho hS 0 0 0 0 0 (headF E S 0 0 0) (headF_len _ _ _ _ _) (by omega))
    have hb := (body_eq k E S Y ho 0 0 0 0 0 _ hp.2.2 (by omega))
    rw [hw]
    simp only [hc, cond_true, hm, w1, w1', Option.bind_some, hEu, w2 0 (by omega), hSu, t0, w3 _ 0 0 _ _ _ _ _ _ (by omega) (by omega), hp.2.1, hb.2.1, g0, cond_false]
    have hlen : (S.foldl bdG (S.foldl (phG (plc S).2) (0, headF E S 0 0 0)).2).length = stp S := hb.2.2
    rw [hlen]
    by_cases hbig : stp S > 33554432
    · rw [if_pos hbig, decide_eq_true (show ((stp S : Nat) : Int) > 33554432 by omega)]; rfl
    · rw [if_neg hbig, decide_eq_false (show ¬ ((stp S : Nat) : Int) > 33554432 by omega)]; rfl
  · have hw : writeF E S Y = if se S Y + 160 > 33554432 then ([], 239) else (tabB S Y (midF E S (se S Y : Int) 4 3), 0) := by unfold writeF sizeF fileF; rw [if_neg hY, if_neg hY]
    have hc : (((Y.length : Nat) : Int) == 0) = false := by rw [beq_eq_false_iff_ne]; omega
    have hp := (ph_eq k E S Y ho hS 0 0 0 0 0 (headF E S (se S Y : Int) 4 3) (headF_len _ _ _ _ _) (by omega))
    have hb := (body_eq k E S Y ho 0 0 0 0 0 _ hp.2.2 (by omega))
    rw [hw]
    have hlen : (midF E S (se S Y : Int) 4 3).length = stp S := hb.2.2
    have hmid : S.foldl bdG (S.foldl (phG (plc S).2) (0, headF E S (se S Y : Int) 4 3)).2 = midF E S (se S Y : Int) 4 3 := rfl
    generalize hF : midF E S (se S Y : Int) 4 3 = F at *
    have l1 := le_up4 (stp S)
    have l2 := le_up4 (ti S Y + 27)
    have p1 : atlasref23_File_up.f k F 4 = some (F ++ List.replicate (sy S - stp S) 0) := by
      have := rup_4 k F (by omega) (by rw [hlen]; simp only [Big]; omega)
      rw [hlen] at this; exact this
    have n3 : (F ++ List.replicate (sy S - stp S) (0 : Int)).length = sy S := by
      rw [List.length_append, List.length_replicate, hlen]
      have : stp S ≤ sy S := l1
      omega
    have r1 := room (n := (F ++ List.replicate (sy S - stp S) (0 : Int) ++ (lay 16 0 ++ symL Y 1)).length) (by rw [List.length_append, n3, hslen]; simp only [Big]; omega)
    have r2 := room (n := (F ++ List.replicate (sy S - stp S) (0 : Int) ++ (lay 16 0 ++ symL Y 1) ++ ([0] ++ namesL Y)).length) (by rw [List.length_append, List.length_append, n3, hslen, hnlen]; simp only [Big]; omega)
    have r3 := room (n := (F ++ List.replicate (sy S - stp S) (0 : Int) ++ (lay 16 0 ++ symL Y 1) ++ ([0] ++ namesL Y)).length + 27) (by rw [List.length_append, List.length_append, n3, hslen, hnlen]; simp only [Big]; omega)
    have ht : strI (⟨#[0, 46, 115, 121, 109, 116, 97, 98, 0, 46, 115, 116, 114, 116, 97, 98, 0, 46, 115, 104, 115, 116, 114, 116, 97, 98, 0]⟩ : ByteArray) = titI := by decide
    have hts : (⟨#[0, 46, 115, 121, 109, 116, 97, 98, 0, 46, 115, 116, 114, 116, 97, 98, 0, 46, 115, 104, 115, 116, 114, 116, 97, 98, 0]⟩ : ByteArray).size = 27 := rfl
    have eA : F ++ List.replicate (sy S - stp S) (0 : Int) ++ (lay 16 0 ++ symL Y 1) ++ ([0] ++ namesL Y) ++ titI = tabA S Y F := rfl
    have nA := tabA_len S Y F hlen
    have p2 : atlasref23_File_up.f k (tabA S Y F) 4 = some (tabA S Y F ++ List.replicate (se S Y - (ti S Y + 27)) 0) := by
      have := rup_4 k (tabA S Y F) (by omega) (by rw [nA]; simp only [Big]; omega)
      rw [nA] at this; exact this
    have n5 : (tabA S Y F ++ List.replicate (se S Y - (ti S Y + 27)) (0 : Int)).length = se S Y := by
      rw [List.length_append, List.length_replicate, nA]
      have : ti S Y + 27 ≤ se S Y := l2
      omega
    have p3 : atlasref23_File_words.f k (tabA S Y F ++ List.replicate (se S Y - (ti S Y + 27)) 0) [0, 0, 0, 0, 0, 0, 0, 0, 0, 0] = some (tabA S Y F ++ List.replicate (se S Y - (ti S Y + 27)) 0 ++ List.replicate 40 0) :=
      rwords_eq k _ _ (by show 10 < k; omega) (by omega) (fun v hv => by
        simp only [List.mem_cons, List.not_mem_nil, or_false, or_self] at hv
        subst hv; omega) (by rw [n5]; show _ + 4 * 10 ≤ _; simp only [Big]; omega)
    have n6 : (tabA S Y F ++ List.replicate (se S Y - (ti S Y + 27)) (0 : Int) ++ List.replicate 40 0).length = se S Y + 40 := by rw [List.length_append, n5, List.length_replicate]
    have p7 := rwords_eq k (tabA S Y F ++ List.replicate (se S Y - (ti S Y + 27)) 0 ++ List.replicate 40 0) (row1 S Y) (by show 10 < k; omega) (by omega) (fun v hv => by
      simp only [row1, List.mem_cons, List.not_mem_nil, or_false] at hv
      rcases hv with rfl | rfl | rfl | rfl | rfl | rfl | rfl | rfl | rfl | rfl <;> omega) (by rw [n6]; show _ + 4 * 10 ≤ _; simp only [Big]; omega)
    have n7 : (tabA S Y F ++ List.replicate (se S Y - (ti S Y + 27)) (0 : Int) ++ List.replicate 40 0 ++ (row1 S Y).flatMap (lay 4)).length = se S Y + 80 := by rw [List.length_append, n6, flat_len]; rfl
    have p8 := rwords_eq k (tabA S Y F ++ List.replicate (se S Y - (ti S Y + 27)) 0 ++ List.replicate 40 0 ++ (row1 S Y).flatMap (lay 4)) (row2 S Y) (by show 10 < k; omega) (by omega) (fun v hv => by
      simp only [row2, List.mem_cons, List.not_mem_nil, or_false] at hv
      rcases hv with rfl | rfl | rfl | rfl | rfl | rfl | rfl | rfl | rfl | rfl <;> omega) (by rw [n7]; show _ + 4 * 10 ≤ _; simp only [Big]; omega)
    have n8 : (tabA S Y F ++ List.replicate (se S Y - (ti S Y + 27)) (0 : Int) ++ List.replicate 40 0 ++ (row1 S Y).flatMap (lay 4) ++ (row2 S Y).flatMap (lay 4)).length = se S Y + 120 := by rw [List.length_append, n7, flat_len]; rfl
    have p9 := rwords_eq k (tabA S Y F ++ List.replicate (se S Y - (ti S Y + 27)) 0 ++ List.replicate 40 0 ++ (row1 S Y).flatMap (lay 4) ++ (row2 S Y).flatMap (lay 4)) (row3 S Y) (by show 10 < k; omega) (by omega) (fun v hv => by
      simp only [row3, List.mem_cons, List.not_mem_nil, or_false] at hv
      rcases hv with rfl | rfl | rfl | rfl | rfl | rfl | rfl | rfl | rfl | rfl <;> omega) (by rw [n8]; show _ + 4 * 10 ≤ _; simp only [Big]; omega)
    have eB : tabA S Y F ++ List.replicate (se S Y - (ti S Y + 27)) (0 : Int) ++ List.replicate 40 0 ++ (row1 S Y).flatMap (lay 4) ++ (row2 S Y).flatMap (lay 4) ++ (row3 S Y).flatMap (lay 4) = tabB S Y F := rfl
    rw [eB] at p9
    have nB := tabB_len S Y F hlen
    simp only [row1] at p7
    simp only [row1, row2] at p8
    simp only [row1, row2, row3] at p9
    simp only [hc, cond_false, hm, w1, w1', Option.bind_some, hEu, hsy, hslen, us, hnm, hnlen, un, hti, hti2, hse, w2 ((se S Y : Nat) : Int) (by omega), hSu, t4, w3 _ 4 3 _ _ _ _ _ _ (by omega) (by omega), hp.2.1, hb.2.1, hmid, g4, cond_true, p1, r1, r2, hts, r3, ht, eA, p2, p3, p7, p8, p9, nB]
    by_cases hbig : se S Y + 160 > 33554432
    · rw [if_pos hbig, decide_eq_true (show ((se S Y + 160 : Nat) : Int) > 33554432 by omega)]; rfl
    · rw [if_neg hbig, decide_eq_false (show ¬ ((se S Y + 160 : Nat) : Int) > 33554432 by omega)]; rfl
end Go.Va
