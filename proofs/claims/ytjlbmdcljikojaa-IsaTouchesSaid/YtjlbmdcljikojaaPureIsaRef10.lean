/-
  Which registers an instruction reads and writes, as masks.
  Conditions: none.
-/
import Derived.Test.YtjlbmdcljikojaaPureIsaRef9
set_option linter.unusedVariables false
set_option linter.unusedSimpArgs false
set_option autoImplicit false
set_option maxRecDepth 10000
namespace Go.Va
def U (b : BitVec 16) : Int := (b.toNat : Int)
theorem U_of (z : Int) (z0 : 0 ≤ z) (z1 : z < 65536) : z = U (BitVec.ofInt 16 z) := by
  unfold U
  rw [BitVec.toNat_ofInt]
  have : z % ((2 ^ 16 : Nat) : Int) = z := Int.emod_eq_of_lt z0 z1
  rw [this]; omega
theorem U_or (a b : BitVec 16) : orI .u16 (U a) (U b) = U (a ||| b) := by
  have e : ∀ c : BitVec 16, BitVec.ofInt IntKind.u16.bits (c.toNat : Int) = c := fun c => by
    have : BitVec.ofInt 16 (c.toNat : Int) = c := by simp
    exact this
  unfold orI U
  rw [e, e]
  have w : ∀ z : Int, IntKind.wrap .u16 z = z % 65536 := fun z => by rfl
  have h : (a ||| b).toNat < 65536 := (a ||| b).isLt
  have h2 : IntKind.wrap .u16 (((a ||| b).toNat : Nat) : Int) = (((a ||| b).toNat : Nat) : Int) := by rw [w]; omega
  exact h2
def bitU (r : Int) : BitVec 16 := BitVec.ofInt 16 (shlI .u16 1 (IntKind.wrap .u64 r))
theorem bit_U (r : Int) : shlI .u16 1 (IntKind.wrap .u64 r) = U (bitU r) := by
  have w : ∀ z : Int, IntKind.wrap .u16 z = z % 65536 := fun z => by rfl
  refine U_of _ ?_ ?_ <;> unfold shlI <;> rw [w] <;> omega
theorem set_1 (r : Int) : isa_set.f 64 [r] = some (U (bitU r)) := by
  have h : ∀ n, isa_set.q0.l 64 (n + 2) (0, [r], 1, 0) = some (orI .u16 0 (shlI .u16 1 (IntKind.wrap .u64 r))) := fun n => by
    have c1 : decide ((0 : Int) < 1) = true := rfl
    have c2 : (decide ((0 : Int) ≤ 0) && decide ((0 : Int) < ((([r] : List Int).length : Nat) : Int))) = true := rfl
    have c3 : decide (IntKind.wrap .i64 (0 + 1) < 1) = false := by decide
    have c4 : ([r] : List Int).getD (0 : Int).toNat 0 = r := rfl
    have c5 : decide (IntKind.wrap .u64 r < 0) = false := rn_low _
    simp only [isa_set.q0.l, c1, c2, c3, c4, c5, cond_true, cond_false]
  have e : isa_set.f 64 [r] = (isa_set.q0.l 64 64 (0, [r], 1, 0)).bind fun r1 => some r1 := rfl
  have h2 : isa_set.q0.l 64 64 (0, [r], 1, 0) = _ := h 62
  rw [e, h2, Option.bind_some, bit_U]
  have z : (0 : Int) = U 0#16 := rfl
  rw [z, U_or]
  rw [BitVec.zero_or]
theorem set_2 (r s : Int) : isa_set.f 64 [r, s] = some (U (bitU r ||| bitU s)) := by
  have h : ∀ n, isa_set.q0.l 64 (n + 3) (0, [r, s], 2, 0) = some (orI .u16 (orI .u16 0 (shlI .u16 1 (IntKind.wrap .u64 r))) (shlI .u16 1 (IntKind.wrap .u64 s))) := fun n => by
    have c1 : decide ((0 : Int) < 2) = true := rfl
    have c2 : (decide ((0 : Int) ≤ 0) && decide ((0 : Int) < ((([r, s] : List Int).length : Nat) : Int))) = true := rfl
    have w1 : IntKind.wrap .i64 (0 + 1) = 1 := by decide
    have w2 : IntKind.wrap .i64 (1 + 1) = 2 := by decide
    have d1 : decide ((1 : Int) < 2) = true := rfl
    have d2 : (decide ((0 : Int) ≤ 1) && decide ((1 : Int) < ((([r, s] : List Int).length : Nat) : Int))) = true := rfl
    have d3 : decide ((2 : Int) < 2) = false := rfl
    have c4 : ([r, s] : List Int).getD (0 : Int).toNat 0 = r := rfl
    have d4 : ([r, s] : List Int).getD (1 : Int).toNat 0 = s := rfl
    have c5 : ∀ r : Int, decide (IntKind.wrap .u64 r < 0) = false := fun _ => rn_low _
    simp only [isa_set.q0.l, c1, c2, w1, w2, d1, d2, d3, c4, d4, c5, cond_true, cond_false]
  have e : isa_set.f 64 [r, s] = (isa_set.q0.l 64 64 (0, [r, s], 2, 0)).bind fun r1 => some r1 := rfl
  have h2 : isa_set.q0.l 64 64 (0, [r, s], 2, 0) = _ := h 61
  rw [e, h2, Option.bind_some, bit_U, bit_U]
  have z : (0 : Int) = U 0#16 := rfl
  rw [z, U_or, U_or]
  rw [BitVec.zero_or]
def setV (l : List Int) : Option Int := match l with
  | [r] => some (U (bitU r))
  | [r, s] => some (U (bitU r ||| bitU s))
  | l => isa_set.f 64 l
theorem set_V : isa_set.f 64 = setV := by
  funext l
  unfold setV
  split
  · exact set_1 _
  · exact set_2 _ _
  · rfl
def oneV (b : Bool) (r : Int) : Option Int := some (U (bif b then bitU r else 0#16))
theorem one_V : atlasref19_one.f = oneV := by
  funext b r
  unfold atlasref19_one.f oneV
  cases b with
  | false => rfl
  | true =>
    have c5 : decide (IntKind.wrap .u64 r < 0) = false := rn_low _
    rw [c5]; show some (shlI .u16 1 (IntKind.wrap .u64 r)) = some (U (bitU r)); rw [bit_U]
def inV (l : List Int) (x : Int) : Option Bool := bif decide (l.length ≤ 60) then some (l.any fun y => y == x) else atlasref19_in.f 64 l x
theorem in_V : atlasref19_in.f 64 = inV := by
  funext l x
  unfold inV
  cases h : decide (l.length ≤ 60) with
  | true => exact in_eq l x (of_decide_eq_true h)
  | false => rfl

/-! ### Masks -/
structure FM where
  n : Bool
  m : Bool
  s : Bool
  a : Bool
  d : Bool
  l : Bool
  p : Bool
  q : Bool
deriving DecidableEq
def FM.z : FM := ⟨false, false, false, false, false, false, false, false⟩
def FM.or (f g : FM) : FM := ⟨f.n || g.n, f.m || g.m, f.s || g.s, f.a || g.a, f.d || g.d, f.l || g.l, f.p || g.p, f.q || g.q⟩
def bt (b : Bool) (v : BitVec 16) : BitVec 16 := bif b then v else 0#16
theorem bt_or (a b : Bool) (v : BitVec 16) : bt a v ||| bt b v = bt (a || b) v := by
  cases a <;> cases b
  · exact BitVec.or_self
  · exact BitVec.zero_or
  · exact BitVec.or_zero
  · exact BitVec.or_self
def mask (f : FM) (j : T26) : BitVec 16 := bt f.n (bitU j.f5_Rn) ||| bt f.m (bitU j.f6_Rm) ||| bt f.s (bitU j.f7_Rs) ||| bt f.a (bitU j.f8_Ra) ||| bt f.d (bitU j.f4_Rd) ||| bt f.l (BitVec.ofInt 16 j.f15_List) ||| bt f.p (bitU 14) ||| bt f.q (bitU 15)
theorem mask_or (f g : FM) (j : T26) : mask f j ||| mask g j = mask (f.or g) j := by
  unfold mask FM.or
  simp only [← bt_or]
  ac_rfl
def W (j : T26) (v : Int) (f : FM) : Prop := v = U (mask f j)
theorem W.or {j : T26} {v w : Int} {f g : FM} (h : W j v f) (k : W j w g) : W j (orI .u16 v w) (f.or g) := by
  unfold W at h k ⊢
  rw [h, k, U_or, mask_or]
theorem W.bif {j : T26} {v w : Int} {f g : FM} (b : Bool) (h : W j v f) (k : W j w g) : W j (bif b then v else w) (bif b then f else g) := by cases b; exact k; exact h
theorem W.of {j : T26} {v : BitVec 16} {f : FM} (h : v = mask f j) : W j (U v) f := by rw [h]; rfl
def FM.on : FM := ⟨true, false, false, false, false, false, false, false⟩
def FM.om : FM := ⟨false, true, false, false, false, false, false, false⟩
def FM.os : FM := ⟨false, false, true, false, false, false, false, false⟩
def FM.oa : FM := ⟨false, false, false, true, false, false, false, false⟩
def FM.od : FM := ⟨false, false, false, false, true, false, false, false⟩
def FM.ol : FM := ⟨false, false, false, false, false, true, false, false⟩
def FM.op : FM := ⟨false, false, false, false, false, false, true, false⟩
def FM.oq : FM := ⟨false, false, false, false, false, false, false, true⟩
theorem bt_t (v : BitVec 16) : bt true v = v := rfl
theorem bt_f (v : BitVec 16) : bt false v = 0#16 := rfl
theorem W.z (j : T26) : W j 0 FM.z := by
  have e : (0 : Int) = U 0#16 := rfl
  rw [e]; refine W.of ?_
  simp only [mask, FM.z, bt_f, BitVec.or_self]
theorem W.n (j : T26) : W j (U (bitU j.f5_Rn)) FM.on := W.of (by simp only [mask, FM.on, bt_f, bt_t, BitVec.or_zero, BitVec.zero_or])
theorem W.m (j : T26) : W j (U (bitU j.f6_Rm)) FM.om := W.of (by simp only [mask, FM.om, bt_f, bt_t, BitVec.or_zero, BitVec.zero_or])
theorem W.s (j : T26) : W j (U (bitU j.f7_Rs)) FM.os := W.of (by simp only [mask, FM.os, bt_f, bt_t, BitVec.or_zero, BitVec.zero_or])
theorem W.a (j : T26) : W j (U (bitU j.f8_Ra)) FM.oa := W.of (by simp only [mask, FM.oa, bt_f, bt_t, BitVec.or_zero, BitVec.zero_or])
theorem W.d (j : T26) : W j (U (bitU j.f4_Rd)) FM.od := W.of (by simp only [mask, FM.od, bt_f, bt_t, BitVec.or_zero, BitVec.zero_or])
theorem W.p (j : T26) : W j (U (bitU 14)) FM.op := W.of (by simp only [mask, FM.op, bt_f, bt_t, BitVec.or_zero, BitVec.zero_or])
theorem W.q (j : T26) : W j (U (bitU 15)) FM.oq := W.of (by simp only [mask, FM.oq, bt_f, bt_t, BitVec.or_zero, BitVec.zero_or])
theorem W.l (j : T26) (l0 : 0 ≤ j.f15_List) (l1 : j.f15_List < 65536) : W j j.f15_List FM.ol := by
  have e : W j (U (BitVec.ofInt 16 j.f15_List)) FM.ol := W.of (by simp only [mask, FM.ol, bt_f, bt_t, BitVec.or_zero, BitVec.zero_or])
  rw [← U_of _ l0 l1] at e; exact e
theorem W.ms (j : T26) : W j (U (bitU j.f6_Rm ||| bitU j.f7_Rs)) (FM.om.or FM.os) := by
  have := (W.m j).or (W.s j)
  rw [U_or] at this; exact this
theorem W.pq (j : T26) : W j (U (bitU 14 ||| bitU 15)) (FM.op.or FM.oq) := by
  have := (W.p j).or (W.q j)
  rw [U_or] at this; exact this
theorem W.one {j : T26} {r : Int} {f : FM} (b : Bool) (h : W j (U (bitU r)) f) : W j (U (bif b then bitU r else 0#16)) (bif b then f else FM.z) := by cases b; exact W.z j; exact h

/-! ### Reads -/
def formV (j : T26) (m : Int) : Int := bif j.f3_Form == 3 then orI .u16 (orI .u16 m (U (bitU j.f7_Rs))) (U (bitU j.f6_Rm)) else (bif j.f3_Form == 2 then orI .u16 m (U (bitU j.f6_Rm)) else m)
def isaRv (j : T26) : Int :=
  bif decide (j.f1_Op ≤ 16) then formV j (bif j.f1_Op == 14 || j.f1_Op == 16 then 0 else orI .u16 0 (U (bitU j.f5_Rn))) else
  (bif j.f1_Op == 18 then formV j (orI .u16 0 (U (bitU j.f4_Rd))) else
  (bif decide (19 ≤ j.f1_Op) && decide (j.f1_Op ≤ 24) then (bif j.f1_Op == 22 || j.f1_Op == 24 then orI .u16 (orI .u16 (orI .u16 0 (U (bitU j.f6_Rm ||| bitU j.f7_Rs))) (U (bitU j.f4_Rd))) (U (bitU j.f8_Ra)) else (bif j.f1_Op == 20 then orI .u16 (orI .u16 0 (U (bitU j.f6_Rm ||| bitU j.f7_Rs))) (U (bitU j.f8_Ra)) else orI .u16 0 (U (bitU j.f6_Rm ||| bitU j.f7_Rs)))) else
  (bif decide (25 ≤ j.f1_Op) && decide (j.f1_Op ≤ 30) || (j.f1_Op == 43 || j.f1_Op == 44) then U (bitU j.f6_Rm) else
  (bif decide (31 ≤ j.f1_Op) && decide (j.f1_Op ≤ 40) then formV j (bif j.f1_Op == 32 || (j.f1_Op == 34 || j.f1_Op == 36) then orI .u16 (orI .u16 0 (U (bitU j.f5_Rn))) (U (bitU j.f4_Rd)) else (bif j.f1_Op == 40 then orI .u16 (orI .u16 0 (U (bitU j.f5_Rn))) j.f15_List else orI .u16 0 (U (bitU j.f5_Rn)))) else
  (bif j.f1_Op == 49 then formV j (orI .u16 0 (U (bitU j.f4_Rd))) else formV j 0)))))
def formF (form : Int) (f : FM) : FM := bif form == 3 then (f.or FM.os).or FM.om else (bif form == 2 then f.or FM.om else f)
def isaRf (op form : Int) : FM :=
  bif decide (op ≤ 16) then formF form (bif op == 14 || op == 16 then FM.z else FM.z.or FM.on) else
  (bif op == 18 then formF form (FM.z.or FM.od) else
  (bif decide (19 ≤ op) && decide (op ≤ 24) then (bif op == 22 || op == 24 then ((FM.z.or (FM.om.or FM.os)).or FM.od).or FM.oa else (bif op == 20 then (FM.z.or (FM.om.or FM.os)).or FM.oa else FM.z.or (FM.om.or FM.os))) else
  (bif decide (25 ≤ op) && decide (op ≤ 30) || (op == 43 || op == 44) then FM.om else
  (bif decide (31 ≤ op) && decide (op ≤ 40) then formF form (bif op == 32 || (op == 34 || op == 36) then (FM.z.or FM.on).or FM.od else (bif op == 40 then (FM.z.or FM.on).or FM.ol else FM.z.or FM.on)) else
  (bif op == 49 then formF form (FM.z.or FM.od) else formF form FM.z)))))
theorem W.form {j : T26} {m : Int} {f : FM} (h : W j m f) : W j (formV j m) (formF j.f3_Form f) := .bif _ ((h.or (.s j)).or (.m j)) (.bif _ (h.or (.m j)) h)
theorem isaR_W (j : T26) (l0 : 0 ≤ j.f15_List) (l1 : j.f15_List < 65536) : W j (isaRv j) (isaRf j.f1_Op j.f3_Form) :=
  .bif _ (.form (.bif _ (.z j) ((W.z j).or (.n j)))) (.bif _ (.form ((W.z j).or (.d j))) (.bif _ (.bif _ ((((W.z j).or (.ms j)).or (.d j)).or (.a j)) (.bif _ (((W.z j).or (.ms j)).or (.a j)) ((W.z j).or (.ms j)))) (.bif _ (.m j) (.bif _ (.form (.bif _ (((W.z j).or (.n j)).or (.d j)) (.bif _ (((W.z j).or (.n j)).or (.l j l0 l1)) ((W.z j).or (.n j))))) (.bif _ (.form ((W.z j).or (.d j))) (.form (.z j)))))))
def pairs : List (Int × Int) := [(1, 1), (1, 2), (1, 3), (1, 4), (1, 5), (1, 6), (1, 7), (1, 8), (1, 13), (1, 15), (2, 1), (2, 2), (2, 3), (2, 4), (2, 5), (2, 6), (2, 7), (2, 8), (2, 13), (2, 15), (3, 1), (3, 2), (3, 3), (3, 4), (3, 5), (3, 6), (3, 7), (3, 8), (3, 13), (3, 15), (1, 9), (1, 10), (1, 11), (1, 12), (2, 9), (2, 10), (2, 11), (2, 12), (3, 9), (3, 10), (3, 11), (3, 12), (1, 14), (1, 16), (2, 14), (2, 16), (3, 14), (3, 16), (0, 17), (0, 18), (0, 19), (0, 20), (0, 21), (0, 22), (0, 23), (0, 24), (0, 25), (0, 26), (0, 27), (0, 28), (0, 29), (0, 30), (0, 41), (0, 42), (0, 43), (0, 44), (0, 45), (0, 46), (0, 47), (2, 48), (1, 48), (0, 49), (0, 50), (0, 51), (0, 52), (1, 31), (1, 32), (1, 33), (1, 34), (2, 31), (2, 32), (2, 33), (2, 34), (1, 35), (1, 36), (1, 37), (1, 38), (2, 35), (2, 36), (2, 37), (2, 38), (0, 39), (0, 40)]
theorem pairs_all : (rowsV.all fun r => r.1.all fun o => pairs.any fun t => t.1 == r.2.1 && t.2 == o) = true := by kernel_rfl
theorem reads_isa (j : T26) (h : (j.f3_Form, j.f1_Op) ∈ pairs) (hr : isa_Right.f 64 j = some true) : isa_Reads.f 64 j = some (isaRv j) := by
  have hr' : isa_Right.f 64 ⟨j.f0_Cond, j.f1_Op, j.f2_S, j.f3_Form, j.f4_Rd, j.f5_Rn, j.f6_Rm, j.f7_Rs, j.f8_Ra, j.f9_Imm, j.f10_Shift, j.f11_Amount, j.f12_Pre, j.f13_Up, j.f14_Write, j.f15_List, j.f16_Tuple_CRn, j.f17_Tuple_Op1, j.f18_Tuple_CRm, j.f19_Tuple_Op2⟩ = some true := hr
  unfold isa_Reads.f isa_Reads.q0.l isa_Reads.q1.l isa_Reads.q2.l
  rw [hr', Option.bind_some, set_V]
  obtain ⟨c, op, s, form, rd, rn, rm, rs, ra, imm, sh, am, p, u, w, li, t1, t2, t3, t4⟩ := j
  clear hr hr'
  simp only [pairs, List.mem_cons, List.not_mem_nil, or_false, Prod.mk.injEq] at h
  rcases h with ⟨rfl, rfl⟩ | ⟨rfl, rfl⟩ | ⟨rfl, rfl⟩ | ⟨rfl, rfl⟩ | ⟨rfl, rfl⟩ | ⟨rfl, rfl⟩ | ⟨rfl, rfl⟩ | ⟨rfl, rfl⟩ | ⟨rfl, rfl⟩ | ⟨rfl, rfl⟩ | ⟨rfl, rfl⟩ | ⟨rfl, rfl⟩ | ⟨rfl, rfl⟩ | ⟨rfl, rfl⟩ | ⟨rfl, rfl⟩ | ⟨rfl, rfl⟩ | ⟨rfl, rfl⟩ | ⟨rfl, rfl⟩ | ⟨rfl, rfl⟩ | ⟨rfl, rfl⟩ | ⟨rfl, rfl⟩ | ⟨rfl, rfl⟩ | ⟨rfl, rfl⟩ | ⟨rfl, rfl⟩ | ⟨rfl, rfl⟩ | ⟨rfl, rfl⟩ | ⟨rfl, rfl⟩ | ⟨rfl, rfl⟩ | ⟨rfl, rfl⟩ | ⟨rfl, rfl⟩ | ⟨rfl, rfl⟩ | ⟨rfl, rfl⟩ | ⟨rfl, rfl⟩ | ⟨rfl, rfl⟩ | ⟨rfl, rfl⟩ | ⟨rfl, rfl⟩ | ⟨rfl, rfl⟩ | ⟨rfl, rfl⟩ | ⟨rfl, rfl⟩ | ⟨rfl, rfl⟩ | ⟨rfl, rfl⟩ | ⟨rfl, rfl⟩ | ⟨rfl, rfl⟩ | ⟨rfl, rfl⟩ | ⟨rfl, rfl⟩ | ⟨rfl, rfl⟩ | ⟨rfl, rfl⟩ | ⟨rfl, rfl⟩ | ⟨rfl, rfl⟩ | ⟨rfl, rfl⟩ | ⟨rfl, rfl⟩ | ⟨rfl, rfl⟩ | ⟨rfl, rfl⟩ | ⟨rfl, rfl⟩ | ⟨rfl, rfl⟩ | ⟨rfl, rfl⟩ | ⟨rfl, rfl⟩ | ⟨rfl, rfl⟩ | ⟨rfl, rfl⟩ | ⟨rfl, rfl⟩ | ⟨rfl, rfl⟩ | ⟨rfl, rfl⟩ | ⟨rfl, rfl⟩ | ⟨rfl, rfl⟩ | ⟨rfl, rfl⟩ | ⟨rfl, rfl⟩ | ⟨rfl, rfl⟩ | ⟨rfl, rfl⟩ | ⟨rfl, rfl⟩ | ⟨rfl, rfl⟩ | ⟨rfl, rfl⟩ | ⟨rfl, rfl⟩ | ⟨rfl, rfl⟩ | ⟨rfl, rfl⟩ | ⟨rfl, rfl⟩ | ⟨rfl, rfl⟩ | ⟨rfl, rfl⟩ | ⟨rfl, rfl⟩ | ⟨rfl, rfl⟩ | ⟨rfl, rfl⟩ | ⟨rfl, rfl⟩ | ⟨rfl, rfl⟩ | ⟨rfl, rfl⟩ | ⟨rfl, rfl⟩ | ⟨rfl, rfl⟩ | ⟨rfl, rfl⟩ | ⟨rfl, rfl⟩ | ⟨rfl, rfl⟩ | ⟨rfl, rfl⟩ | ⟨rfl, rfl⟩ | ⟨rfl, rfl⟩ | ⟨rfl, rfl⟩ | ⟨rfl, rfl⟩ <;> refine Eq.trans ?_ rfl <;> kernel_rfl
def hasB (r : RowT) (L : Int) : Bool := decide (((CN r.2.2.1 L : Nat) : Int) > 0)
def refRv (hn hm hs : Bool) (j : T26) : Int := bif j.f1_Op == 40 then orI .u16 (orI .u16 (orI .u16 (orI .u16 (orI .u16 (U (bif hn then bitU j.f5_Rn else 0#16)) (U (bif hm then bitU j.f6_Rm else 0#16))) (U (bif hs then bitU j.f7_Rs else 0#16))) (U (bif ([20, 22, 24].any fun y => y == j.f1_Op) then bitU j.f8_Ra else 0#16))) (U (bif ([18, 22, 24, 32, 34, 36, 49].any fun y => y == j.f1_Op) then bitU j.f4_Rd else 0#16))) j.f15_List else orI .u16 (orI .u16 (orI .u16 (orI .u16 (U (bif hn then bitU j.f5_Rn else 0#16)) (U (bif hm then bitU j.f6_Rm else 0#16))) (U (bif hs then bitU j.f7_Rs else 0#16))) (U (bif ([20, 22, 24].any fun y => y == j.f1_Op) then bitU j.f8_Ra else 0#16))) (U (bif ([18, 22, 24, 32, 34, 36, 49].any fun y => y == j.f1_Op) then bitU j.f4_Rd else 0#16))
def refRb (hn hm hs : Bool) (op : Int) : FM := ((((bif hn then FM.on else FM.z).or (bif hm then FM.om else FM.z)).or (bif hs then FM.os else FM.z)).or (bif ([20, 22, 24].any fun y => y == op) then FM.oa else FM.z)).or (bif ([18, 22, 24, 32, 34, 36, 49].any fun y => y == op) then FM.od else FM.z)
def refRf (hn hm hs : Bool) (op : Int) : FM := bif op == 40 then (refRb hn hm hs op).or FM.ol else refRb hn hm hs op
theorem refR_W (hn hm hs : Bool) (j : T26) (l0 : 0 ≤ j.f15_List) (l1 : j.f15_List < 65536) : W j (refRv hn hm hs j) (refRf hn hm hs j.f1_Op) := by
  have b : W j _ (refRb hn hm hs j.f1_Op) := (((W.one hn (.n j)).or (W.one hm (.m j))).or (W.one hs (.s j))).or (W.one _ (.a j)) |>.or (W.one _ (.d j))
  exact .bif _ (b.or (.l j l0 l1)) b
theorem reads_ref (j : T26) (x : Int) (k : Nat) (x0 : 0 ≤ x) (hk : okR (rowD k) = true) (he : atlasref19_Encode.f 64 j = some (x, 0)) (hf : firstV x rowsV = some (rowD k, j)) : atlasref19_Reads.f 64 j = some (refRv (hasB (rowD k) 110) (hasB (rowD k) 109) (hasB (rowD k) 114) j) := by
  have he' : atlasref19_Encode.f 64 ⟨j.f0_Cond, j.f1_Op, j.f2_S, j.f3_Form, j.f4_Rd, j.f5_Rn, j.f6_Rm, j.f7_Rs, j.f8_Ra, j.f9_Imm, j.f10_Shift, j.f11_Amount, j.f12_Pre, j.f13_Up, j.f14_Write, j.f15_List, j.f16_Tuple_CRn, j.f17_Tuple_Op1, j.f18_Tuple_CRm, j.f19_Tuple_Op2⟩ = some (x, 0) := he
  simp only [okR, Bool.and_eq_true] at hk
  have hh := fun L => has_FV (rowD k).1 (rowD k).2.1 hk.1.1 L
  unfold atlasref19_Reads.f
  rw [he', Option.bind_some]
  have c : (((x, (0 : Int)).2) != 0) = false := rfl
  rw [c, cond_false]
  have hx : atlasref19_find.f 64 (x, (0 : Int)).1 = some (⟨(rowD k).1, (rowD k).2.1, (rowD k).2.2.1⟩, j, true) := by
    have := find_eq x x0
    rw [hf] at this; exact this
  rw [hx, Option.bind_some, one_V, in_V]
  simp only [hh, Option.bind_some]
  unfold refRv hasB
  cases (j.f1_Op == 40) <;> rfl
theorem flagsR : (rowsV.all fun r => r.1.all fun o => decide (isaRf o r.2.1 = refRf (hasB r 110) (hasB r 109) (hasB r 114) o)) = true := by kernel_rfl

/-! ### Writes -/
def backV (j : T26) (m : Int) : Int := bif j.f14_Write || !j.f12_Pre then orI .u16 m (U (bitU j.f5_Rn)) else m
def isaWv (j : T26) : Int :=
  bif decide (9 ≤ j.f1_Op) && decide (j.f1_Op ≤ 12) then 0 else
  (bif decide (j.f1_Op ≤ 30) || (j.f1_Op == 47 || j.f1_Op == 50) then (bif decide (21 ≤ j.f1_Op) && decide (j.f1_Op ≤ 24) then orI .u16 (U (bitU j.f4_Rd)) (U (bitU j.f8_Ra)) else U (bitU j.f4_Rd)) else
  (bif decide (j.f1_Op ≤ 38) then backV j (bif j.f1_Op == 32 || (j.f1_Op == 34 || j.f1_Op == 36) then 0 else U (bitU j.f4_Rd)) else
  (bif decide (j.f1_Op ≤ 40) then (bif j.f1_Op == 39 then (bif j.f14_Write then orI .u16 j.f15_List (U (bitU j.f5_Rn)) else j.f15_List) else (bif j.f14_Write then orI .u16 0 (U (bitU j.f5_Rn)) else 0)) else
  (bif j.f1_Op == 42 || j.f1_Op == 44 then U (bitU 14 ||| bitU 15) else (bif j.f1_Op == 41 || j.f1_Op == 43 then U (bitU 15) else 0)))))
def isaWf (op : Int) (pre wr : Bool) : FM :=
  bif decide (9 ≤ op) && decide (op ≤ 12) then FM.z else
  (bif decide (op ≤ 30) || (op == 47 || op == 50) then (bif decide (21 ≤ op) && decide (op ≤ 24) then FM.od.or FM.oa else FM.od) else
  (bif decide (op ≤ 38) then (bif wr || !pre then (bif op == 32 || (op == 34 || op == 36) then FM.z else FM.od).or FM.on else (bif op == 32 || (op == 34 || op == 36) then FM.z else FM.od)) else
  (bif decide (op ≤ 40) then (bif op == 39 then (bif wr then FM.ol.or FM.on else FM.ol) else (bif wr then FM.z.or FM.on else FM.z)) else
  (bif op == 42 || op == 44 then FM.op.or FM.oq else (bif op == 41 || op == 43 then FM.oq else FM.z)))))
theorem isaW_W (j : T26) (l0 : 0 ≤ j.f15_List) (l1 : j.f15_List < 65536) : W j (isaWv j) (isaWf j.f1_Op j.f12_Pre j.f14_Write) :=
  .bif _ (.z j) (.bif _ (.bif _ ((W.d j).or (.a j)) (.d j)) (.bif _ (.bif _ ((W.bif _ (.z j) (.d j)).or (.n j)) (.bif _ (.z j) (.d j))) (.bif _ (.bif _ (.bif _ ((W.l j l0 l1).or (.n j)) (.l j l0 l1)) (.bif _ ((W.z j).or (.n j)) (.z j))) (.bif _ (.pq j) (.bif _ (.q j) (.z j))))))
def refWa (j : T26) : Bool := decide (j.f1_Op ≤ 8) || (decide (j.f1_Op ≥ 13) && decide (j.f1_Op ≤ 31) || [33, 35, 37, 38, 47, 50].any fun y => y == j.f1_Op)
def refWn (j : T26) : Bool := decide (j.f1_Op ≥ 31) && decide (j.f1_Op ≤ 38) && (j.f14_Write || !j.f12_Pre) || (j.f1_Op == 39 || j.f1_Op == 40) && j.f14_Write
def refWb (j : T26) : Int := orI .u16 (orI .u16 (orI .u16 (orI .u16 (U (bif refWa j then bitU j.f4_Rd else 0#16)) (U (bif decide (j.f1_Op ≥ 21) && decide (j.f1_Op ≤ 24) then bitU j.f8_Ra else 0#16))) (U (bif refWn j then bitU j.f5_Rn else 0#16))) (U (bif j.f1_Op == 42 || j.f1_Op == 44 then bitU 14 else 0#16))) (U (bif decide (j.f1_Op ≥ 41) && decide (j.f1_Op ≤ 44) then bitU 15 else 0#16))
def refWv (j : T26) : Int := bif j.f1_Op == 39 then orI .u16 (refWb j) j.f15_List else refWb j
def refWg (j : T26) : FM := ((((bif refWa j then FM.od else FM.z).or (bif decide (j.f1_Op ≥ 21) && decide (j.f1_Op ≤ 24) then FM.oa else FM.z)).or (bif refWn j then FM.on else FM.z)).or (bif j.f1_Op == 42 || j.f1_Op == 44 then FM.op else FM.z)).or (bif decide (j.f1_Op ≥ 41) && decide (j.f1_Op ≤ 44) then FM.oq else FM.z)
def refWf (j : T26) : FM := bif j.f1_Op == 39 then (refWg j).or FM.ol else refWg j
theorem refW_W (j : T26) (l0 : 0 ≤ j.f15_List) (l1 : j.f15_List < 65536) : W j (refWv j) (refWf j) := by
  have b : W j (refWb j) (refWg j) := (((W.one _ (.d j)).or (W.one _ (.a j))).or (W.one _ (.n j))).or (W.one _ (.p j)) |>.or (W.one _ (.q j))
  exact .bif _ (b.or (.l j l0 l1)) b
theorem op_cases (o : Int) (o1 : 1 ≤ o) (o2 : o ≤ 52) : o = 1 ∨ o = 2 ∨ o = 3 ∨ o = 4 ∨ o = 5 ∨ o = 6 ∨ o = 7 ∨ o = 8 ∨ o = 9 ∨ o = 10 ∨ o = 11 ∨ o = 12 ∨ o = 13 ∨ o = 14 ∨ o = 15 ∨ o = 16 ∨ o = 17 ∨ o = 18 ∨ o = 19 ∨ o = 20 ∨ o = 21 ∨ o = 22 ∨ o = 23 ∨ o = 24 ∨ o = 25 ∨ o = 26 ∨ o = 27 ∨ o = 28 ∨ o = 29 ∨ o = 30 ∨ o = 31 ∨ o = 32 ∨ o = 33 ∨ o = 34 ∨ o = 35 ∨ o = 36 ∨ o = 37 ∨ o = 38 ∨ o = 39 ∨ o = 40 ∨ o = 41 ∨ o = 42 ∨ o = 43 ∨ o = 44 ∨ o = 45 ∨ o = 46 ∨ o = 47 ∨ o = 48 ∨ o = 49 ∨ o = 50 ∨ o = 51 ∨ o = 52 := by omega
theorem writes_isa (j : T26) (o1 : 1 ≤ j.f1_Op) (o2 : j.f1_Op ≤ 52) (hr : isa_Right.f 64 j = some true) : isa_Writes.f 64 j = some (isaWv j) := by
  have hr' : isa_Right.f 64 ⟨j.f0_Cond, j.f1_Op, j.f2_S, j.f3_Form, j.f4_Rd, j.f5_Rn, j.f6_Rm, j.f7_Rs, j.f8_Ra, j.f9_Imm, j.f10_Shift, j.f11_Amount, j.f12_Pre, j.f13_Up, j.f14_Write, j.f15_List, j.f16_Tuple_CRn, j.f17_Tuple_Op1, j.f18_Tuple_CRm, j.f19_Tuple_Op2⟩ = some true := hr
  unfold isa_Writes.f isa_Writes.q0.l
  rw [hr', Option.bind_some, set_V]
  obtain ⟨c, op, s, form, rd, rn, rm, rs, ra, imm, sh, am, p, u, w, li, t1, t2, t3, t4⟩ := j
  clear hr hr'
  rcases op_cases op o1 o2 with rfl | rfl | rfl | rfl | rfl | rfl | rfl | rfl | rfl | rfl | rfl | rfl | rfl | rfl | rfl | rfl | rfl | rfl | rfl | rfl | rfl | rfl | rfl | rfl | rfl | rfl | rfl | rfl | rfl | rfl | rfl | rfl | rfl | rfl | rfl | rfl | rfl | rfl | rfl | rfl | rfl | rfl | rfl | rfl | rfl | rfl | rfl | rfl | rfl | rfl | rfl | rfl <;> cases p <;> cases w <;> refine Eq.trans ?_ rfl <;> kernel_rfl
def refWq (b1 b2 : Bool) (op rd rn ra li : Int) : Int := bif op == 39 then orI .u16 (orI .u16 (orI .u16 (orI .u16 (orI .u16 (U (bif b1 then bitU rd else 0#16)) (U (bif decide (op ≥ 21) && decide (op ≤ 24) then bitU ra else 0#16))) (U (bif b2 then bitU rn else 0#16))) (U (bif op == 42 || op == 44 then bitU 14 else 0#16))) (U (bif decide (op ≥ 41) && decide (op ≤ 44) then bitU 15 else 0#16))) li else orI .u16 (orI .u16 (orI .u16 (orI .u16 (U (bif b1 then bitU rd else 0#16)) (U (bif decide (op ≥ 21) && decide (op ≤ 24) then bitU ra else 0#16))) (U (bif b2 then bitU rn else 0#16))) (U (bif op == 42 || op == 44 then bitU 14 else 0#16))) (U (bif decide (op ≥ 41) && decide (op ≤ 44) then bitU 15 else 0#16))
def q1V (x : Bool × Bool × Int × Int × Bool × Int × Int × Int × Int × Int × Int × Int × Int × Int × Bool × Bool × Bool × Int × Int × Int × Int × Int) : Option Int := bif decide (1 ≤ x.2.2.2.1) && decide (x.2.2.2.1 ≤ 52) then some (refWq x.1 x.2.1 x.2.2.2.1 x.2.2.2.2.2.2.1 x.2.2.2.2.2.2.2.1 x.2.2.2.2.2.2.2.2.2.2.1 x.2.2.2.2.2.2.2.2.2.2.2.2.2.2.2.2.2.1) else atlasref19_Writes.q1.l 64 x
theorem q1_V : atlasref19_Writes.q1.l 64 = q1V := by
  funext x
  obtain ⟨b1, b2, c, op, s, form, rd, rn, rm, rs, ra, imm, sh, am, p, u, w, li, t1, t2, t3, t4⟩ := x
  unfold q1V
  simp only
  cases h : (decide (1 ≤ op) && decide (op ≤ 52)) with
  | false => rfl
  | true =>
    simp only [Bool.and_eq_true, decide_eq_true_eq] at h
    unfold atlasref19_Writes.q1.l
    rw [one_V]
    rcases op_cases op h.1 h.2 with rfl | rfl | rfl | rfl | rfl | rfl | rfl | rfl | rfl | rfl | rfl | rfl | rfl | rfl | rfl | rfl | rfl | rfl | rfl | rfl | rfl | rfl | rfl | rfl | rfl | rfl | rfl | rfl | rfl | rfl | rfl | rfl | rfl | rfl | rfl | rfl | rfl | rfl | rfl | rfl | rfl | rfl | rfl | rfl | rfl | rfl | rfl | rfl | rfl | rfl | rfl | rfl <;> refine Eq.trans ?_ rfl <;> kernel_rfl
theorem writes_ref (j : T26) (x : Int) (o1 : 1 ≤ j.f1_Op) (o2 : j.f1_Op ≤ 52) (he : atlasref19_Encode.f 64 j = some (x, 0)) : atlasref19_Writes.f 64 j = some (refWv j) := by
  have he' : atlasref19_Encode.f 64 ⟨j.f0_Cond, j.f1_Op, j.f2_S, j.f3_Form, j.f4_Rd, j.f5_Rn, j.f6_Rm, j.f7_Rs, j.f8_Ra, j.f9_Imm, j.f10_Shift, j.f11_Amount, j.f12_Pre, j.f13_Up, j.f14_Write, j.f15_List, j.f16_Tuple_CRn, j.f17_Tuple_Op1, j.f18_Tuple_CRm, j.f19_Tuple_Op2⟩ = some (x, 0) := he
  unfold atlasref19_Writes.f atlasref19_Writes.q0.l
  rw [he', Option.bind_some, q1_V, in_V]
  obtain ⟨c, op, s, form, rd, rn, rm, rs, ra, imm, sh, am, p, u, w, li, t1, t2, t3, t4⟩ := j
  clear he he'
  rcases op_cases op o1 o2 with rfl | rfl | rfl | rfl | rfl | rfl | rfl | rfl | rfl | rfl | rfl | rfl | rfl | rfl | rfl | rfl | rfl | rfl | rfl | rfl | rfl | rfl | rfl | rfl | rfl | rfl | rfl | rfl | rfl | rfl | rfl | rfl | rfl | rfl | rfl | rfl | rfl | rfl | rfl | rfl | rfl | rfl | rfl | rfl | rfl | rfl | rfl | rfl | rfl | rfl | rfl | rfl <;> cases p <;> cases w <;> refine Eq.trans ?_ rfl <;> kernel_rfl
theorem flagsW (j : T26) (o1 : 1 ≤ j.f1_Op) (o2 : j.f1_Op ≤ 52) : isaWf j.f1_Op j.f12_Pre j.f14_Write = refWf j := by
  obtain ⟨c, op, s, form, rd, rn, rm, rs, ra, imm, sh, am, p, u, w, li, t1, t2, t3, t4⟩ := j
  rcases op_cases op o1 o2 with rfl | rfl | rfl | rfl | rfl | rfl | rfl | rfl | rfl | rfl | rfl | rfl | rfl | rfl | rfl | rfl | rfl | rfl | rfl | rfl | rfl | rfl | rfl | rfl | rfl | rfl | rfl | rfl | rfl | rfl | rfl | rfl | rfl | rfl | rfl | rfl | rfl | rfl | rfl | rfl | rfl | rfl | rfl | rfl | rfl | rfl | rfl | rfl | rfl | rfl | rfl | rfl <;> cases p <;> cases w <;> refine Eq.trans ?_ rfl <;> kernel_rfl
end Go.Va
