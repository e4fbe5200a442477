/-
  append of a text, and of zeros; texts out of bytes.
  Conditions: none.
-/
import Derived.Test.YtnidnmhcjngmeaaGreatVaWr
import Derived.Laws.IdiomStrings
set_option linter.unusedVariables false
set_option linter.unusedSimpArgs false
set_option autoImplicit false
namespace Go.Va

/-- The bytes of a text, as numbers. -/
def strI (s : ByteArray) : List Int := s.data.toList.map fun b => (b.toNat : Int)
/-- The text of bytes. -/
def bytesO (l : List Int) : ByteArray := ⟨(l.map fun x => UInt8.ofNat x.toNat).toArray⟩

/-- What an append comes to: nothing; a new row; the old one. -/
def AppC (P : Program) (w : World) (t u ty e : TypeId) (v y : Value) (n m : Nat) (xs ys : List Value) : Prop :=
  (v = .slice none 0 0 ∧ m = 0 ∧ (Builtin.append_ #[t, u] ty #[v, y]).run P w = .ok v w) ∨
  (∃ cap cells, (Builtin.append_ #[t, u] ty #[v, y]).run P w = .ok (.slice (some ⟨w.heap.size, 0, none⟩) (n + m) cap) (w.drew.alloc (.cells cells e (0, 0))) ∧ cells.size = cap ∧ n + m ≤ cap ∧ cap ≤ maxLen ∧ cells.toList.take (n + m) = xs ++ ys) ∨
  (∃ g cap cur cur', v = .slice (some ⟨g, 0, none⟩) n cap ∧ w.heap[g]? = some (.cells cur e (0, 0)) ∧ (Builtin.append_ #[t, u] ty #[v, y]).run P w = .ok (.slice (some ⟨g, 0, none⟩) (n + m) cap) (w.setRow g cur') ∧ cur'.size = cur.size ∧ cur.size = cap ∧ n + m ≤ cap ∧ cap ≤ maxLen ∧ cur'.toList.take (n + m) = xs ++ ys)

/-- The row that is appended to. -/
def OwnV (w : World) (e : TypeId) (v : Value) (n : Nat) (xs : List Value) : Prop :=
  (v = .slice none 0 0 ∧ n = 0 ∧ xs = []) ∨ ∃ g cap cur, v = .slice (some ⟨g, 0, none⟩) n cap ∧ w.heap[g]? = some (.cells cur e (0, 0)) ∧ cur.size = cap ∧ n ≤ cap ∧ cap ≤ maxLen ∧ cur.toList.take n = xs

theorem appC_of {P : Program} (w : World) (t u ty e : TypeId) (z : Value) (bytes : Nat) (hzs : z.cells.size = 1) (v y : Value) (n m : Nat) (xs ys : List Value) (hv : OwnV w e v n xs) (hxs : xs.length = n) (hys : ys.length = m) (h1 : ∀ u ∈ ys, u.oneCell' = true)
    (h63 : n + m ≤ maxLen) (hbytes : (n + m) * bytes ≤ 211106232532992) (hbb : bytes ≤ 65536)
    (r0 : m = 0 → (Builtin.append_ #[t, u] ty #[.slice none 0 0, y]).run P w = .ok (.slice none 0 0) w)
    (r1 : 0 < m → m * bytes ≤ 281474976710656 → (Builtin.append_ #[t, u] ty #[.slice none 0 0, y]).run P w = .ok (.slice (some ⟨w.heap.size, 0, none⟩) m (grownCap w m 0 e)) (w.drew.alloc (.cells (ys.toArray ++ Builtin.zeroCells z.cells (grownCap w m 0 e - m)) e (0, 0))))
    (r2 : ∀ g cap cur, w.heap[g]? = some (.cells cur e (0, 0)) → n + m ≤ cap → n + m ≤ cur.size → (Builtin.append_ #[t, u] ty #[.slice (some ⟨g, 0, none⟩) n cap, y]).run P w = .ok (.slice (some ⟨g, 0, none⟩) (n + m) cap) (w.setRow g (cur.toList.take n ++ ys ++ cur.toList.drop (n + ys.length)).toArray))
    (r3 : ∀ g cap, (∀ j u, xs[j]? = some u → w.cell? ⟨g, 0 + j, none⟩ = some u) → cap < n + m → Builtin.nextslicecap (n + m) cap * bytes ≤ 281474976710656 → (Builtin.append_ #[t, u] ty #[.slice (some ⟨g, 0, none⟩) n cap, y]).run P w = .ok (.slice (some ⟨w.heap.size, 0, none⟩) (n + m) (grownCap w (n + m) cap e)) (w.drew.alloc (.cells (xs.toArray ++ ys.toArray ++ Builtin.zeroCells z.cells (grownCap w (n + m) cap e - (n + m))) e (0, 0)))) :
    AppC P w t u ty e v y n m xs ys := by
  have hlen : (xs ++ ys).length = n + m := by rw [List.length_append, hxs, hys]
  have grown : ∀ (old : Nat),
      (xs.toArray ++ ys.toArray ++ Builtin.zeroCells z.cells (grownCap w (n + m) old e - (n + m))).size = grownCap w (n + m) old e ∧ n + m ≤ grownCap w (n + m) old e ∧ grownCap w (n + m) old e ≤ maxLen ∧
      (xs.toArray ++ ys.toArray ++ Builtin.zeroCells z.cells (grownCap w (n + m) old e - (n + m))).toList.take (n + m) = xs ++ ys := by
    intro old
    have hge := grownCap_ge w (n + m) old e
    refine ⟨?_, hge, grownCap_le_maxLen w (n + m) old e h63, ?_⟩
    · simp only [Array.size_append, List.size_toArray, size_zeroCells, hzs, hxs, hys]
      omega
    · simp only [Array.toList_append, List.append_assoc]
      rw [← List.append_assoc, ← hlen]
      exact List.take_left
  rcases hv with ⟨rfl, rfl, rfl⟩ | ⟨g, cap, cur, rfl, hg, hcs, hnc, hcm, htake⟩
  · by_cases hm : m = 0
    · exact .inl ⟨rfl, hm, r0 hm⟩
    · have hgr := grown 0
      simp only [Nat.zero_add, List.nil_append, Array.empty_append] at hgr
      refine .inr (.inl ⟨_, _, by rw [Nat.zero_add]; exact r1 (by omega) (by rw [Nat.zero_add] at hbytes; omega), hgr.1, by rw [Nat.zero_add]; exact hgr.2.1, hgr.2.2.1, by rw [Nat.zero_add]; exact hgr.2.2.2⟩)
  · by_cases hroom : n + m ≤ cap
    · refine .inr (.inr ⟨g, cap, cur, _, rfl, hg, r2 g cap cur hg hroom (by omega), ?_, hcs, hroom, hcm, ?_⟩)
      · simp only [List.size_toArray, List.length_append, List.length_take, List.length_drop, Array.length_toList]
        omega
      · show ((cur.toList.take n ++ ys ++ cur.toList.drop (n + ys.length)).toArray).toList.take (n + m) = _
        rw [htake, ← hlen]
        exact List.take_left
    · have holds : ∀ j u, xs[j]? = some u → w.cell? ⟨g, 0 + j, none⟩ = some u := fun j u hu => by
        rw [Nat.zero_add, cell_of_row w g j cur e (0, 0) hg]
        rw [← htake, List.getElem?_take] at hu
        split at hu
        · simpa using hu
        · cases hu
      have hgr := grown cap
      exact .inr (.inl ⟨_, _, r3 g cap holds (by omega) (growslice_fits_wide (by omega) (fit_wide hbytes hbb)), hgr.1, hgr.2.1, hgr.2.2.1, hgr.2.2.2⟩)

theorem app_str {P : Program} (w : World) (t u ty e : TypeId) (i : TypeInfo) (z : Value) (ht : P.underlying t = some (.slice e)) (hu : P.underlying u = some .string) (hi : P.info? e = some i) (hz : i.zero = some z) (his : i.size = 1) (hzs : z.cells.size = 1)
    (v : Value) (s : ByteArray) (n : Nat) (xs : List Value) (hv : OwnV w e v n xs) (hxs : xs.length = n) (h63 : n + s.size ≤ maxLen) (hbytes : (n + s.size) * i.bytes ≤ 211106232532992) (hbb : i.bytes ≤ 65536) :
    AppC P w t u ty e v (.string s) n s.size xs (s.data.toList.map fun b => Value.int .u8 (b.toNat : Int)) := by
  have h63' : n + s.size ≤ 9223372036854775807 := by simp only [maxLen] at h63; omega
  have hys : (s.data.toList.map fun b => Value.int .u8 (b.toNat : Int)).length = s.size := by simp
  have hx : (Array.map (fun b : UInt8 => Value.int IntKind.u8 (b.toNat : Int)) s.data).extract 0 s.size = Array.map (fun b : UInt8 => Value.int IntKind.u8 (b.toNat : Int)) s.data := by
    have hs : s.size = (Array.map (fun b : UInt8 => Value.int IntKind.u8 (b.toNat : Int)) s.data).size := by rw [Array.size_map]; rfl
    rw [hs, Array.extract_size]
  have hone : ∀ u ∈ (s.data.toList.map fun b => Value.int .u8 (b.toNat : Int)), u.oneCell' = true := fun u hu => by
    obtain ⟨b, _, rfl⟩ := List.mem_map.1 hu; rfl
  refine appC_of w t u ty e z i.bytes hzs v (.string s) n s.size xs _ hv hxs hys hone h63 hbytes hbb (fun h => ?_) (fun h0 h48 => ?_) (fun g cap cur hg hroom hsz => ?_) (fun g cap holds hcap hfit => ?_)
  · simp [Builtin.append_, run_underlying ht, run_underlying hu, sizeOf, typeInfo, hi, Builtin.lenOf, Builtin.firstCells, h]
  · have hr := run_append_nil_string (P := P) w t u ty e i z ht hu hi hz s h0 (by omega) h48
    rw [hr]
    congr 4
    apply Array.ext'
    simp
  · have hst := run_storeCells_at P g n e (s.data.toList.map fun b => Value.int .u8 (b.toNat : Int)) 0 cur w hg (by simpa [hys] using hsz) hone
    simp only [Nat.add_zero] at hst
    have hf : (Builtin.firstCells 1 s.size (.string s)).run P w = .ok (s.data.toList.map fun b => Value.int .u8 (b.toNat : Int)).toArray w := by
      simp only [Builtin.firstCells, Sem.run_pure]
      congr 1
      apply Array.ext'
      have : (s.extract 0 s.size) = s := by simp
      rw [this]; simp
    simp [Builtin.append_, run_underlying ht, run_underlying hu, sizeOf, typeInfo, hi, his, Builtin.lenOf, hroom, hf, Addr.add_lit, hst]
  · have hn : ¬ (n + s.size ≤ cap) := by omega
    have hb : ¬ (9223372036854775807 < ((n : Int) + (s.size : Int))) := by omega
    have h48' : ¬ (281474976710656 < Builtin.nextslicecap (n + s.size) cap * i.bytes) := by omega
    have hf : (Builtin.firstCells 1 s.size (.string s)).run P w.drew = .ok (s.data.toList.map fun b => Value.int .u8 (b.toNat : Int)).toArray w.drew := by
      simp only [Builtin.firstCells, Sem.run_pure]
      congr 1
      apply Array.ext'
      have : (s.extract 0 s.size) = s := by simp
      rw [this]; simp
    have hfo := run_firstCells_some (P := P) w.drew 1 n ⟨g, 0, none⟩ n cap xs (by simpa using hxs) (fun j u hu => by simpa [Addr.add_lit] using holds j u hu)
    simp [Builtin.append_, run_underlying ht, run_underlying hu, sizeOf, typeInfo, zeroValue, hi, hz, his, Builtin.lenOf, hn, hb, h48', Question.forced, hf, hfo, newRow, grownCap]
    congr 2
    apply Array.ext'
    simp [List.append_assoc]

theorem app_zero {P : Program} (w : World) (t u ty e : TypeId) (i : TypeInfo) (z : Value) (ku k : IntKind) (ht : P.underlying t = some (.slice e)) (hu : P.underlying u = some (.int ku)) (hi : P.info? e = some i) (hz : i.zero = some z) (his : i.size = 1) (hzs : z.cells.size = 1)
    (v : Value) (m n : Nat) (xs : List Value) (hv : OwnV w e v n xs) (hxs : xs.length = n) (h1 : ∀ u ∈ (Builtin.zeroCells z.cells m).toList, u.oneCell' = true) (h63 : n + m ≤ maxLen) (hbytes : (n + m) * i.bytes ≤ 211106232532992) (hbb : i.bytes ≤ 65536) :
    AppC P w t u ty e v (.int k (m : Int)) n m xs (Builtin.zeroCells z.cells m).toList := by
  have h63' : n + m ≤ 9223372036854775807 := by simp only [maxLen] at h63; omega
  have hys : (Builtin.zeroCells z.cells m).toList.length = m := by simp [size_zeroCells, hzs]
  have hwr : IntKind.wrap .i64 (m : Int) = (m : Int) := by
    have w' : IntKind.wrap .i64 (m : Int) = if (true && decide ((m : Int) % 18446744073709551616 ≥ 9223372036854775808)) = true then (m : Int) % 18446744073709551616 - 18446744073709551616 else (m : Int) % 18446744073709551616 := by rfl
    rw [w']
    simp only [Bool.true_and, decide_eq_true_eq]
    split <;> omega
  have hmb : m * i.bytes ≤ 211106232532992 := Nat.le_trans (Nat.mul_le_mul_right _ (by omega)) hbytes
  have hneg : ¬ ((m : Int) < 0) := by omega
  have hmb' : ¬ ((281474976710656 : Int) < (m : Int) * (i.bytes : Int)) := by
    have h2 : ((m * i.bytes : Nat) : Int) ≤ ((211106232532992 : Nat) : Int) := Int.ofNat_le.2 hmb
    rw [Int.natCast_mul] at h2; omega
  have hz0 : Builtin.zeroCells z.cells 0 = #[] := by simp [Builtin.zeroCells]
  have hai : ∀ w' : World, (asInt (.int k (m : Int))).run P w' = .ok (m : Int) w' := fun _ => rfl
  refine appC_of w t u ty e z i.bytes hzs v (.int k (m : Int)) n m xs _ hv hxs hys h1 h63 hbytes hbb (fun h => ?_) (fun h0 h48 => ?_) (fun g cap cur hg hroom hsz => ?_) (fun g cap holds hcap hfit => ?_)
  · simp [Builtin.append_, run_underlying ht, run_underlying hu, sizeOf, typeInfo, zeroValue, hi, hz, hai, hwr, hneg, hmb', his]
    simp [h]
  · have hm0 : m ≠ 0 := by omega
    have hb : ¬ (9223372036854775807 < (m : Int)) := by omega
    have h48' : ¬ (281474976710656 < Builtin.nextslicecap m 0 * i.bytes) := by rw [nextslicecap_zero h0]; omega
    simp [Builtin.append_, run_underlying ht, run_underlying hu, sizeOf, typeInfo, zeroValue, hi, hz, his, hai, hwr, hneg, hmb', hm0, hb, h48', Question.forced, run_firstCells_none, newRow, grownCap]
  · have hst := run_storeCells_at P g n e (Builtin.zeroCells z.cells m).toList 0 cur w hg (by simpa [hys] using hsz) h1
    simp only [Nat.add_zero] at hst
    by_cases hm0 : m = 0
    · simp [Builtin.append_, run_underlying ht, run_underlying hu, sizeOf, typeInfo, zeroValue, hi, hz, his, hai, hwr, hneg, hmb', hroom, Addr.add_lit]
      have hz1 : Builtin.zeroCells z.cells m = #[] := by rw [hm0]; exact hz0
      rw [hz1] at hst ⊢
      have hst2 : (storeCells ⟨g, n, none⟩ []).run P w = .ok () (w.setRow g cur) := by simpa using hst
      simp [hm0, hst2]
    · simp [Builtin.append_, run_underlying ht, run_underlying hu, sizeOf, typeInfo, zeroValue, hi, hz, his, hai, hwr, hneg, hmb', hm0, hroom, Addr.add_lit, hst]
  · have hn : ¬ (n + m ≤ cap) := by omega
    have hb : ¬ (9223372036854775807 < ((n : Int) + (m : Int))) := by omega
    have h48' : ¬ (281474976710656 < Builtin.nextslicecap (n + m) cap * i.bytes) := by omega
    have hfo := run_firstCells_some (P := P) w.drew 1 n ⟨g, 0, none⟩ n cap xs (by simpa using hxs) (fun j u hu => by simpa [Addr.add_lit] using holds j u hu)
    by_cases hm0 : m = 0
    · have hz1 : Builtin.zeroCells z.cells m = #[] := by rw [hm0]; exact hz0
      rw [hz1]
      simp [Builtin.append_, run_underlying ht, run_underlying hu, sizeOf, typeInfo, zeroValue, hi, hz, his, hai, hwr, hneg, hmb', hn, hb, h48', Question.forced, hfo, newRow, grownCap]
      simp [hm0]
    · simp [Builtin.append_, run_underlying ht, run_underlying hu, sizeOf, typeInfo, zeroValue, hi, hz, his, hai, hwr, hneg, hmb', hm0, hn, hb, h48', Question.forced, hfo, newRow, grownCap]

section
variable {β : Type} {P : Program} {tm : List AV} {hp : List Blk} {K : ORes → Option β} {o : Oper} {r : β}

theorem append_core {p : Nat} {t u e : TypeId} {x y : Operand} (ho : o.op = .call { callee := .builtin .append, args := #[x, y], argTypes := #[t, u] }) {c : CT} {l1 l2 : List c.D} {g t1 : List Nat}
    (hd : dstA c e hp (evA tm x) = some (l1, g, [], t1)) (hc1 : c.sz = 1) (hpl : c.plain = true) (hfree : gb hp p = .free) (hpn : p ∉ g)
    (hy : ∀ (C : Cx) (a : Act), VRel C true (evA tm y) (a.eval y) → ∃ ys : List Value, ys.length = l2.length ∧ (∀ D : Cx, ∀ j, j < l2.length → VRel D false (gt (c.enc (l2.getD j c.df)) 0) (vg ys j)) ∧
      ∀ v xs, OwnV C.w e v l1.length xs → xs.length = l1.length → AppC P C.w t u o.type e v (a.eval y) l1.length l2.length xs ys)
    (h : K ⟨.so p c.sz, p :: (t1 ++ g), g.map (fun b => (b, .gone)) ++ [(p, .rt c (l1 ++ l2) e)], none⟩ = some r) : Ends P o tm hp K r := by
  have hmx : x ∈ o.op.operands := by simp [ho, Op.operands, Call.operands]
  have hmy : y ∈ o.op.operands := by simp [ho, Op.operands, Call.operands]
  refine ⟨_, h, ?_⟩
  intro w0 O C tm' hp' a hr ha KK Q hK
  have hz0 : 0 < c.sz := by omega
  have hd' := dstA_agree hd (fun b hb => ha.foot b (List.mem_cons_of_mem _ (List.mem_append.2 (.inl hb))))
  have hf' : gb hp' p = .free := by rw [ha.foot p (by simp), hfree]
  have hvx : VRel C true (evA tm x) (a.eval x) := by rw [← ha.ops x hmx]; exact hr.ev x
  have hvy : VRel C true (evA tm y) (a.eval y) := by rw [← ha.ops y hmy]; exact hr.ev y
  obtain ⟨ys, hys, hyrel, hcase⟩ := hy C a hvy
  have hdst := dstA_ok hr.hp hd' hvx hz0 (S := fun _ => False) (fun b hb => by simp at hb)
  have hr2 : Rep w0 O C ⟨tm', goneL hp' g⟩ a := hr.sub (hp' := goneL hp' g) (goneL_length _ _) (gb_goneL' _ _)
  have hfree2 : gb (goneL hp' g) p = .free := by rw [gb_goneL_not hpn]; exact hf'
  have any : ∀ {C D : Cx} {m m' : Bool} {x : c.D} {i : Nat} {u : Value}, VRel C m (gt (c.enc x) i) u → VRel D m' (gt (c.enc x) i) u := fun h => h.nomem (nomemL_gt (CT.plain_nomem hpl _) _)
  have hyrel2 : ∀ (D : Cx) j, j < l2.length → ∀ i, i < c.sz → VRel D false (gt (c.enc (l2.getD j c.df)) i) (vg ys (j * c.sz + i)) := fun D j hj i hi => by
    have e1 : i = 0 := by omega
    subst e1
    rw [hc1, Nat.mul_one, Nat.add_zero]
    exact hyrel D j hj
  have wp_of : ∀ (v' : Value) (w' : World), (Builtin.append_ #[t, u] o.type #[a.eval x, a.eval y]).run P C.w = .ok v' w' → KK (a.put o.dst v') w' → o.wp P a C.w KK Q := fun v' w' hrun hk => by
    unfold Oper.wp execOp
    simp only [ho, resolve, invoke, builtin, Sem.run_bind, Sem.run_pure, Result.andThen_ok, List.map_toArray, List.map_cons, List.map_nil, hrun]
    exact hk
  have hfin : ∀ (C2 : Cx) (v' : Value), Rep w0 O C2 ⟨tm', sb (goneL hp' g) p (.rt c (l1 ++ l2) e)⟩ a → VRel C2 true (.so p c.sz) v' → KK (a.put o.dst v') C2.w := fun C2 v' hrep hv => by
    refine hK C2 _ ?_
    have := hrep.put o.dst hv
    simpa [ORes.st, killT, killH, upds_gone, upds] using this
  have hll : (l1 ++ l2).length = l1.length + l2.length := List.length_append
  have newrow : ∀ (xs : List Value), xs.length = l1.length → (∀ j, j < l1.length → ∀ i, i < c.sz → VRel C false (gt (c.enc (l1.getD j c.df)) i) (vg xs (j * c.sz + i))) → ∀ cap cells, (Builtin.append_ #[t, u] o.type #[a.eval x, a.eval y]).run P C.w = .ok (.slice (some ⟨C.w.heap.size, 0, none⟩) (l1.length + l2.length) cap) (C.w.drew.alloc (.cells cells e (0, 0))) →
      cells.size = cap → l1.length + l2.length ≤ cap → cap ≤ maxLen → cells.toList.take (l1.length + l2.length) = xs ++ ys → o.wp P a C.w KK Q := by
    intro xs hxs hxrel cap cells hrun h2 h3 h4 h5
    refine wp_of _ _ hrun ?_
    have hr3 := hr2.alike (w' := C.w.drew) ⟨rfl, rfl, rfl, rfl⟩
    have hrel := rows_append (C := C) (l1 := l1) (l2 := l2) (xs := xs) (ys := ys) (by rw [hxs, hc1, Nat.mul_one]) hxrel (hyrel2 C)
    have hm : (l1 ++ l2).length * c.sz ≤ cells.size := by rw [h2, hll, hc1, Nat.mul_one]; exact h3
    have hrep := hr3.allocB p ((l1 ++ l2).length * c.sz) hfree2 (.rt c (l1 ++ l2) e) cells e ⟨rfl, rfl, hm, fun j hj k hk => by
      have h6 := hrel j hj k hk
      rw [← h5, vg_take _ _ _ (by have := row_le (sz := c.sz) hj; rw [hc1, Nat.mul_one] at this ⊢; rw [← hll]; omega)] at h6
      have h7 : VRel (C.at C.w.drew) false (gt (c.enc ((l1 ++ l2).getD j c.df)) k) (vg cells.toList (j * c.sz + k)) := any h6
      simpa [vg, Array.getD_eq_getD_getElem?] using h7⟩
    have := hfin _ (.slice (some ⟨C.w.heap.size, 0, none⟩) (l1.length + l2.length) cap) hrep (by
      have e1 : ((C.at C.w.drew).alloc p cells.size ((l1 ++ l2).length * c.sz) (.cells cells e (0, 0))).mu p = C.w.heap.size := by simp [Cx.alloc, Cx.at]
      rw [← e1, ← hll]
      exact .so (.inr rfl) (by simp [Cx.alloc]) hz0 (by simp [Cx.alloc]) (by simp [Cx.alloc, h2, hc1]) (by rw [hll]; exact h3) h4)
    rw [show (C.w.drew.alloc (.cells cells e (0, 0))) = ((C.at C.w.drew).alloc p cells.size ((l1 ++ l2).length * c.sz) (.cells cells e (0, 0))).w by simp [Cx.alloc, Cx.at]]
    exact this
  rcases hdst with ⟨hx0, hl1⟩ | ⟨b, cap, cur, hg, hlive, hnl, hx0, hheap, hcur, hcap, hlc, hmax, hxrel⟩
  · have hn0 : l1.length = 0 := by rw [hl1]; rfl
    rcases hcase (a.eval x) [] (.inl ⟨hx0, hn0, rfl⟩) (by rw [hn0]; rfl) with ⟨_, hm, hrun⟩ | ⟨cap, cells, hrun, h2, h3, h4, h5⟩ | ⟨g', cap, cur, cur', h1, _⟩
    · refine wp_of _ _ hrun ?_
      have hl2 : l2 = [] := List.eq_nil_of_length_eq_zero hm
      have hrep := hr2.name (p := p) 0 0 0 true C.w (.rt c (l1 ++ l2) e) hfree2 ⟨rfl, rfl, rfl⟩ rfl (fun _ _ => rfl) (fun h => by cases h) (.inl ⟨rfl, rfl, c, e, by rw [hl1, hl2]; rfl⟩)
      have := hfin (C.name p 0 0 0 true C.w) (a.eval x) hrep (by rw [hx0]; exact VRel.so0 (C := C.name p 0 0 0 true C.w) (.inr rfl) (by simp [Cx.name]))
      exact this
    · exact newrow [] (by rw [hn0]; rfl) (fun j hj => by omega) cap cells hrun h2 h3 h4 h5
    · rw [hx0] at h1; cases h1
  · have hmine := hr.mine b hlive hnl
    have hown : C.own (C.mu b) := hr.hp.ownsB hlive hnl
    have hapart : ∀ b', (gb (goneL hp' g) b').live = true → C.nl b' = false → C.mu b' ≠ C.mu b := fun b' hb' hn' he => by
      rcases gb_goneL g hp' b' with ⟨h1, h2⟩ | h1
      · rw [h1] at hb'
        have := hr.hp.inj b' b hb' hlive hn' hnl he
        subst this
        exact h2 (by rw [hg]; simp)
      · rw [h1] at hb'; cases hb'
    have hxs : (cur.toList.take l1.length).length = l1.length := by
      rw [hc1, Nat.mul_one] at hcap
      simp; omega
    have hxrel2 : ∀ j, j < l1.length → ∀ i, i < c.sz → VRel C false (gt (c.enc (l1.getD j c.df)) i) (vg (cur.toList.take l1.length) (j * c.sz + i)) := fun j hj i hi => by
      have := hxrel j hj i hi
      simp only [hc1, Nat.mul_one] at this ⊢
      exact any this
    have hcs : cur.size = cap := by rw [hcap, hc1, Nat.mul_one]
    rcases hcase (a.eval x) (cur.toList.take l1.length) (.inr ⟨C.mu b, cap, cur, hx0, hheap, hcs, hlc, hmax, rfl⟩) hxs with ⟨h1, _⟩ | ⟨cap', cells, hrun, h2, h3, h4, h5⟩ | ⟨g', cap', cur0, cur', h1, hh, hrun, h2, h2', h3, h4, h5⟩
    · rw [hx0] at h1; cases h1
    · exact newrow _ hxs hxrel2 cap' cells hrun h2 h3 h4 h5
    · refine wp_of _ _ hrun ?_
      rw [hx0] at h1
      simp only [Value.slice.injEq, Option.some.injEq, Addr.mk.injEq, and_true, true_and] at h1
      obtain ⟨rfl, rfl⟩ := h1
      rw [hheap] at hh
      simp only [Option.some.injEq, Obj.cells.injEq, true_and, and_true] at hh
      subst hh
      have hrel := rows_append (C := C) (l1 := l1) (l2 := l2) (ys := ys) (by rw [hxs, hc1, Nat.mul_one]) hxrel2 (hyrel2 C)
      have hm : (l1 ++ l2).length * c.sz ≤ cur'.size := by rw [h2, hcs, hll, hc1, Nat.mul_one]; exact h3
      have hrep := hr2.name (p := p) (C.mu b) (C.ka b) ((l1 ++ l2).length * c.sz) false (C.w.setRow (C.mu b) cur') (.rt c (l1 ++ l2) e) hfree2 ⟨rfl, rfl, rfl⟩ (by simp) (fun B hB => setRow_other _ _ _ _ (hB.resolve_right (by simp)))
        (fun _ => ⟨hown, hmine, hapart⟩) (.inr ⟨rfl, cur', e, setRow_heap _ _ _ _ _ _ hheap, by rw [h2, hcur], rfl, rfl, hm, fun j hj k hk => by
          have h6 := hrel j hj k hk
          rw [← h5, vg_take _ _ _ (by have := row_le (sz := c.sz) hj; rw [hc1, Nat.mul_one] at this ⊢; rw [← hll]; omega)] at h6
          simpa [vg, Array.getD_eq_getD_getElem?] using h6⟩)
      have hv : VRel (C.name p (C.mu b) (C.ka b) ((l1 ++ l2).length * c.sz) false (C.w.setRow (C.mu b) cur')) true (.so p c.sz) (.slice (some ⟨(C.name p (C.mu b) (C.ka b) ((l1 ++ l2).length * c.sz) false (C.w.setRow (C.mu b) cur')).mu p, 0, none⟩) (l1 ++ l2).length cap) :=
        .so (.inr rfl) (by simp [Cx.name]) hz0 (by simp [Cx.name]) (by rw [hc1, Nat.mul_one]; simp only [Cx.name, if_true]; rw [← hcur, hcs]) (by rw [hll]; exact h3) h4
      have e1 : (C.name p (C.mu b) (C.ka b) ((l1 ++ l2).length * c.sz) false (C.w.setRow (C.mu b) cur')).mu p = C.mu b := by simp [Cx.name]
      rw [e1] at hv
      rw [show (l1 ++ l2).length = l1.length + l2.length from hll] at hv hrep
      have := hfin _ (.slice (some ⟨C.mu b, 0, none⟩) (l1.length + l2.length) cap) hrep hv
      exact this

/-- append of a text to bytes. -/
def appendSK (P : Program) (hp : List Blk) {β : Type} (K : ORes → Option β) (p : Nat) (t u : TypeId) (x : AV) (s : ByteArray) : Option β := match P.underlying t, P.underlying u with
  | some (.slice e), some .string => match P.info? e with
    | some i => match i.zero with
      | some z => match dstA (.int .u8) e hp x with
        | some (l1, g, [], t1) => match gb hp p with
          | .free => bif (((i.size == 1 && z.cells.size == 1) && !g.contains p) && decide (i.bytes ≤ 65536)) && (decide (l1.length + s.size ≤ maxLen) && decide ((l1.length + s.size) * i.bytes ≤ 211106232532992)) then
              K ⟨.so p 1, p :: (t1 ++ g), g.map (fun b => (b, .gone)) ++ [(p, .rt (.int .u8) (l1 ++ strI s) e)], none⟩ else none
          | _ => none
        | _ => none
      | none => none
    | none => none
  | _, _ => none

/-- append of so many zeros to numbers. -/
def appendZK (P : Program) (hp : List Blk) {β : Type} (K : ORes → Option β) (p : Nat) (t u : TypeId) (x : AV) (n : Int) : Option β := match P.underlying t, P.underlying u with
  | some (.slice e), some (.int _) => match P.underlying e, P.info? e with
    | some (.int q), some i => match i.zero with
      | some (.int q' 0) => match dstA (.int q) e hp x with
        | some (l1, g, [], t1) => match gb hp p with
          | .free => bif (((decide (i.bytes ≤ 65536) && (i.size == 1 && q' == q)) && decide (0 ≤ n)) && !g.contains p) && (decide (l1.length + n.toNat ≤ maxLen) && decide ((l1.length + n.toNat) * i.bytes ≤ 211106232532992)) then
              K ⟨.so p 1, p :: (t1 ++ g), g.map (fun b => (b, .gone)) ++ [(p, .rt (.int q) (l1 ++ List.replicate n.toNat (0 : Int)) e)], none⟩ else none
          | _ => none
        | _ => none
      | _ => none
    | _, _ => none
  | _, _ => none

theorem appendS_ok {p : Nat} {t u : TypeId} {x y : Operand} {s : ByteArray} (ho : o.op = .call { callee := .builtin .append, args := #[x, y], argTypes := #[t, u] }) (hys : evA tm y = .val (.string s)) (h : appendSK P hp K p t u (evA tm x) s = some r) : Ends P o tm hp K r := by
  unfold appendSK at h
  split at h <;> try cases h
  rename_i e ht hu
  split at h <;> try cases h
  rename_i i hi
  split at h <;> try cases h
  rename_i z hz
  split at h <;> try cases h
  rename_i l1 g t1 hd
  split at h <;> try cases h
  rename_i hfree
  cases hcond : ((((i.size == 1 && z.cells.size == 1) && !g.contains p) && decide (i.bytes ≤ 65536)) && (decide (l1.length + s.size ≤ maxLen) && decide ((l1.length + s.size) * i.bytes ≤ 211106232532992))) with
  | false => rw [hcond] at h; cases h
  | true =>
    rw [hcond, cond_true] at h
    simp only [Bool.and_eq_true, beq_iff_eq, decide_eq_true_eq, Bool.not_eq_true'] at hcond
    obtain ⟨⟨⟨⟨his, hzs⟩, hgp⟩, hbb⟩, h63, hby⟩ := hcond
    have hsl : (strI s).length = s.size := by simp [strI]
    refine append_core (c := .int .u8) (l2 := strI s) ho hd rfl rfl hfree (fun hm => by rw [show g.contains p = true by simpa using hm] at hgp; cases hgp) (fun C a hv => ?_) h
    rw [hys] at hv
    refine ⟨s.data.toList.map fun b => Value.int .u8 (b.toNat : Int), by simp [strI], fun D j hj => ?_, fun v xs hv2 hxs => ?_⟩
    · have hj' : j < s.data.toList.length := by simpa [strI] using hj
      have e1 : vg (s.data.toList.map fun b => Value.int .u8 (b.toNat : Int)) j = .int .u8 ((strI s).getD j 0) := by
        obtain ⟨b, hb⟩ : ∃ b, s.data.toList[j]? = some b := ⟨_, List.getElem?_eq_getElem hj'⟩
        simp only [vg, strI, List.getD_eq_getElem?_getD, List.getElem?_map, hb, Option.map_some, Option.getD_some]
      rw [e1]
      exact .val _
    · rw [hv.inv_val, hsl]
      exact app_str C.w t u o.type e i z ht hu hi hz his hzs v s _ xs hv2 hxs h63 hby hbb

theorem appendZ_ok {p : Nat} {t u : TypeId} {x y : Operand} {k : IntKind} {n : Int} (ho : o.op = .call { callee := .builtin .append, args := #[x, y], argTypes := #[t, u] }) (hys : evA tm y = .val (.int k n)) (h : appendZK P hp K p t u (evA tm x) n = some r) : Ends P o tm hp K r := by
  unfold appendZK at h
  split at h <;> try cases h
  rename_i e ku ht hu
  split at h <;> try cases h
  rename_i q i he hi
  split at h <;> try cases h
  rename_i q' hz
  split at h <;> try cases h
  rename_i l1 g t1 hd
  split at h <;> try cases h
  rename_i hfree
  cases hcond : ((((decide (i.bytes ≤ 65536) && (i.size == 1 && q' == q)) && decide (0 ≤ n)) && !g.contains p) && (decide (l1.length + n.toNat ≤ maxLen) && decide ((l1.length + n.toNat) * i.bytes ≤ 211106232532992))) with
  | false => rw [hcond] at h; cases h
  | true =>
    rw [hcond, cond_true] at h
    simp only [Bool.and_eq_true, beq_iff_eq, decide_eq_true_eq, Bool.not_eq_true'] at hcond
    obtain ⟨⟨⟨⟨hbb, his, rfl⟩, hn0⟩, hgp⟩, h63, hby⟩ := hcond
    have hnn : n = ((n.toNat : Nat) : Int) := by omega
    have hzc : (Builtin.zeroCells (Value.int q' 0).cells n.toNat).toList = List.replicate n.toNat (Value.int q' 0) := by
      apply List.ext_getElem
      · simp [Builtin.zeroCells, Value.cells]
      · intro j h1 h2
        simp [Builtin.zeroCells, Value.cells, Nat.mod_one]
    refine append_core (c := .int q') (l2 := List.replicate n.toNat (0 : Int)) ho hd rfl rfl hfree (fun hm => by rw [show g.contains p = true by simpa using hm] at hgp; cases hgp) (fun C a hv => ?_) h
    rw [hys] at hv
    refine ⟨List.replicate n.toNat (Value.int q' 0), by simp, fun D j hj => ?_, fun v xs hv2 hxs => ?_⟩
    · have hj' : j < n.toNat := by simpa using hj
      have e1 : vg (List.replicate n.toNat (Value.int q' 0)) j = .int q' 0 := by simp [vg, hj']
      have e2 : (List.replicate n.toNat (0 : Int)).getD j (CT.df (.int q')) = 0 := by simp [List.getD_eq_getElem?_getD, hj']
      rw [e1]
      show VRel D false (.val (.int q' ((List.replicate n.toNat (0 : Int)).getD j (CT.df (.int q'))))) _
      rw [e2]
      exact .val _
    · rw [hv.inv_val, ← hzc]
      have e3 : (List.replicate n.toNat (0 : Int)).length = n.toNat := by simp
      rw [e3, show (Value.int k n) = Value.int k ((n.toNat : Nat) : Int) by rw [← hnn]]
      exact app_zero C.w t u o.type e i (.int q' 0) ku k ht hu hi hz his rfl v n.toNat _ xs hv2 hxs (by rw [hzc]; intro w hw; rw [(List.mem_replicate.1 hw).2]; rfl) h63 hby hbb

/-- append, by what is appended. -/
def appendAK (P : Program) (hp : List Blk) {β : Type} (K : ORes → Option β) (p : Nat) (t u : TypeId) (x y : AV) : Option β := match y with
  | .val (.string s) => appendSK P hp K p t u x s
  | .val (.int _ n) => appendZK P hp K p t u x n
  | y => appendK P hp K p t u x y

theorem appendA_ok {p : Nat} {t u : TypeId} {x y : Operand} (ho : o.op = .call { callee := .builtin .append, args := #[x, y], argTypes := #[t, u] }) (h : appendAK P hp K p t u (evA tm x) (evA tm y) = some r) : Ends P o tm hp K r := by
  unfold appendAK at h
  split at h
  · exact appendS_ok ho ‹_› h
  · exact appendZ_ok ho ‹_› h
  · exact append_ok ho h

/-! ### Texts out of bytes -/
def bytesA (hp : List Blk) (x : AV) : Option (List Int × List Nat) := match srcA (.int .u8) hp x with
  | some (l, [], t) => some (l, t)
  | _ => none

def convBK (P : Program) (hp : List Blk) {β : Type} (K : ORes → Option β) (src dst : TypeId) (x : AV) : Option β := match P.underlying src, P.underlying dst with
  | some (.slice e), some .string => match P.underlying e with
    | some (.int .u8) => match bytesA hp x with
      | some (l, t) => bif l.all (fun b => decide (0 ≤ b) && decide (b < 256)) then K ⟨.val (.string (bytesO l)), t, [], none⟩ else none
      | none => none
    | _ => none
  | _, _ => none

def convAK (P : Program) (hp : List Blk) {β : Type} (K : ORes → Option β) (src dst : TypeId) (x : AV) : Option β := match x with
  | .val v => match v with
    | .slice none 0 0 => convBK P hp K src dst x
    | v => convK P K src dst (.val v)
  | x => convBK P hp K src dst x

theorem convB_ok {src dst : TypeId} {x : Operand} (ho : o.op = .convert src dst x) (h : convBK P hp K src dst (evA tm x) = some r) : Ends P o tm hp K r := by
  unfold convBK at h
  split at h <;> try cases h
  rename_i e hs hd
  split at h <;> try cases h
  rename_i he
  split at h <;> try cases h
  rename_i l t hb
  cases hall : l.all (fun b => decide (0 ≤ b) && decide (b < 256)) with
  | false => rw [hall] at h; cases h
  | true =>
    rw [hall, cond_true] at h
    have hr256 : ∀ b ∈ l, 0 ≤ b ∧ b < 256 := fun b hb => by
      have := List.all_eq_true.1 hall b hb
      simpa using this
    unfold bytesA at hb
    split at hb
    · rename_i l' t' hsrc
      simp only [Option.some.injEq, Prod.mk.injEq] at hb
      obtain ⟨rfl, rfl⟩ := hb
      refine ⟨_, h, .of_run fun C tm' hp' a hr hvs ha => ?_⟩
      have hv := hvs x (by simp [ho, Op.operands])
      have hok := srcA_ok hr (srcA_agree hsrc ha) hv (S := fun _ => False) (fun b hb => by simp at hb)
      refine ⟨_, ?_, .val _⟩
      unfold execOp
      simp only [ho]
      rw [Sem.run_bind]
      have hrun : (convert src dst (a.eval x)).run P C.w = .ok (.string (bytesO l')) C.w := by
        rcases hok with ⟨⟨ad, h1⟩, h2⟩ | ⟨B, off, cap, vs, h1, h2, h3, h4⟩
        · rw [h1, h2]
          cases ad with
          | none => rw [run_convert_bytes_string C.w src dst e none 0 0 hs he hd]; rfl
          | some ad => exact run_convert_bytes_back C.w src dst e ad 0 [] hs he hd (fun j hj => by simp at hj)
        · rw [h1]
          have hlen : l'.length = (l'.map fun x => UInt8.ofNat x.toNat).length := by simp
          rw [hlen]
          refine run_convert_bytes_back C.w src dst e ⟨B, off, none⟩ cap _ hs he hd (fun j hj => ?_)
          have hj' : j < l'.length := by simpa using hj
          have hjv : j < vs.length := by rw [h2]; simpa [CT.sz] using hj'
          have h5 := h3 j _ (List.getElem?_eq_getElem hjv)
          have h6 := h4 j hj' 0 (by simp [CT.sz])
          have h7 : vs[j] = .int .u8 l'[j] := by
            have e1 : vg vs (j * (CT.int .u8).sz + 0) = vs[j] := by simp [vg, CT.sz, hjv]
            rw [e1] at h6
            have e2 : l'.getD j (CT.df (.int .u8)) = l'[j] := by simp [List.getD_eq_getElem?_getD, hj']
            have h8 : VRel (C.fz fun _ => False) false (.val (.int .u8 (l'.getD j (CT.df (.int .u8))))) vs[j] := h6
            rw [e2] at h8
            exact h8.inv_val
          have hb := hr256 l'[j] (List.getElem_mem hj')
          rw [Addr.add_none]
          rw [h7] at h5
          refine (show C.w.cell? ⟨B, off + j, none⟩ = _ from h5).trans ?_
          simp only [List.getElem_map, Option.some.injEq, Value.int.injEq, true_and]
          have h9 : (UInt8.ofNat (l'[j]).toNat).toNat = (l'[j]).toNat := by
            rw [UInt8.toNat_ofNat']; exact Nat.mod_eq_of_lt (by omega)
          rw [h9]; omega
      rw [hrun]; rfl
    · cases hb

theorem convA_ok {src dst : TypeId} {x : Operand} (ho : o.op = .convert src dst x) (h : convAK P hp K src dst (evA tm x) = some r) : Ends P o tm hp K r := by
  unfold convAK at h
  split at h
  · rename_i v hx
    split at h
    · exact convB_ok ho h
    · exact conv_ok ho (by rw [hx]; exact h)
  · exact convB_ok ho h
end
end Go.Va
