-- Written by a program of this session (wip/va/vaprint.py). Not trusted: Lean checks it.
import Derived.Test.YtmphkmoakamepaaVaTy
import Derived.Test.YtmphkmoakamepaaVf0
import Derived.Test.YtmphkmoakamepaaVf1
import Derived.Test.YtmphkmoakamepaaVf2
set_option linter.unusedVariables false
set_option linter.unusedSimpArgs false
set_option autoImplicit false
set_option maxRecDepth 100000
namespace Go.Va
open Go.Proofs
/-! ### atlas/elf.Write: function 17 -/
def elf_Write.q0.h : Head (SgL × Int × Int × Int × SgL × SyL × (List Int) × Int × Int × Int × Int × Int × (List Int)) where
  k γ s F := (sizedN 126 s).bind fun _ => (ptrN 0 (gt s.tm 1)).bind fun b2 => (ptrN 0 (gt s.tm 4)).bind fun b4 => (ptrN 0 (gt s.tm 5)).bind fun b6 => (vtO SgC (gt s.tm 55)).bind fun v8 => (intO .i64 (gt s.tm 56)).bind fun v10 => (intO .i64 (gt s.tm 57)).bind fun v12 => (rowN 26 3 s.hp b2).bind fun l14 => (intO .u32 (gt l14 0)).bind fun v16 => (vtO SgC (gt l14 1)).bind fun v18 => (vtO SyC (gt l14 2)).bind fun v20 => (rowN 59 6 s.hp b4).bind fun l22 => (vtO (.int .u64) (gt l22 0)).bind fun v24 => (intO .u64 (gt l22 1)).bind fun v26 => (intO .u64 (gt l22 2)).bind fun v28 => (intO .u64 (gt l22 3)).bind fun v30 => (intO .u64 (gt l22 4)).bind fun v32 => (intO .u64 (gt l22 5)).bind fun v34 => (rowN 63 1 s.hp b6).bind fun l36 => (soN 1 s.hp (gt l36 0)).bind fun b38 => (rtN (.int .u8) 5 s.hp b38).bind fun v40 => (distO [some b2, some b4, some b6, b38]).bind fun _ => F (v8, v10, v12, v16, v18, v20, v24, v26, v28, v30, v32, v34, v40)
  st x := ⟨sparseT [(1, (.ptr 0 0)), (4, (.ptr 1 0)), (5, (.ptr 2 0)), (55, (.vt SgC x.1)), (56, (.val (.int .i64 x.2.1))), (57, (.val (.int .i64 x.2.2.1)))] 126 0, [.row [(.val (.int .u32 x.2.2.2.1)), (.vt SgC x.2.2.2.2.1), (.vt SyC x.2.2.2.2.2.1)] 26 true, .row [(.vt (.int .u64) x.2.2.2.2.2.2.1), (.val (.int .u64 x.2.2.2.2.2.2.2.1)), (.val (.int .u64 x.2.2.2.2.2.2.2.2.1)), (.val (.int .u64 x.2.2.2.2.2.2.2.2.2.1)), (.val (.int .u64 x.2.2.2.2.2.2.2.2.2.2.1)), (.val (.int .u64 x.2.2.2.2.2.2.2.2.2.2.2.1))] 59 true, .row [(.so 3 1)] 63 false, .rt (.int .u8) x.2.2.2.2.2.2.2.2.2.2.2.2 5]⟩
  ok γ s F r h := by
    have ⟨_, hz, h⟩ := bs h
    have ⟨b2, h1, h⟩ := bs h
    have ⟨b4, h3, h⟩ := bs h
    have ⟨b6, h5, h⟩ := bs h
    have ⟨v8, h7, h⟩ := bs h
    have ⟨v10, h9, h⟩ := bs h
    have ⟨v12, h11, h⟩ := bs h
    have ⟨l14, h13, h⟩ := bs h
    have ⟨v16, h15, h⟩ := bs h
    have ⟨v18, h17, h⟩ := bs h
    have ⟨v20, h19, h⟩ := bs h
    have ⟨l22, h21, h⟩ := bs h
    have ⟨v24, h23, h⟩ := bs h
    have ⟨v26, h25, h⟩ := bs h
    have ⟨v28, h27, h⟩ := bs h
    have ⟨v30, h29, h⟩ := bs h
    have ⟨v32, h31, h⟩ := bs h
    have ⟨v34, h33, h⟩ := bs h
    have ⟨l36, h35, h⟩ := bs h
    have ⟨b38, h37, h⟩ := bs h
    have ⟨v40, h39, h⟩ := bs h
    have ⟨_, h41, h⟩ := bs h
    exact ⟨_, h, weak_ren (l := [some b2, some b4, some b6, b38]) (sizedN_ok hz) (distO_ok h41) (LiveR.cons (RefsR.ptr (l := [some b2, some b4, some b6, b38]) (i := 0) rfl (ptrN_eq h1)) (LiveR.cons (RefsR.ptr (l := [some b2, some b4, some b6, b38]) (i := 1) rfl (ptrN_eq h3)) (LiveR.cons (RefsR.ptr (l := [some b2, some b4, some b6, b38]) (i := 2) rfl (ptrN_eq h5)) (LiveR.cons (pV h7) (LiveR.cons (pI h9) (LiveR.cons (pI h11) LiveR.nil)))))) (BlksR.cons (rowN_refs h13 rfl (GtRefsR.cons (pI h15) (GtRefsR.cons (pV h17) (GtRefsR.cons (pV h19) GtRefsR.nil))) rfl) (BlksR.cons (rowN_refs h21 rfl (GtRefsR.cons (pV h23) (GtRefsR.cons (pI h25) (GtRefsR.cons (pI h27) (GtRefsR.cons (pI h29) (GtRefsR.cons (pI h31) (GtRefsR.cons (pI h33) GtRefsR.nil)))))) rfl) (BlksR.cons (rowN_refs h35 rfl (GtRefsR.cons (RefsR.so (l := [some b2, some b4, some b6, b38]) (i := 3) rfl (Nat.le_of_ble_eq_true rfl) h37) GtRefsR.nil) rfl) (BlksR.cons (rtN_blk h39) BlksR.nil))))⟩

def elf_Write.q0.x0 : Head (Int × SgL × SyL × (List Int) × Int × Int × Int × Int × Int × (List Int)) where
  k γ s F := (sizedN 126 s).bind fun _ => (ptrN 0 (gt s.tm 1)).bind fun b2 => (ptrN 0 (gt s.tm 4)).bind fun b4 => (ptrN 0 (gt s.tm 5)).bind fun b6 => (rowN 26 3 s.hp b2).bind fun l8 => (intO .u32 (gt l8 0)).bind fun v10 => (vtO SgC (gt l8 1)).bind fun v12 => (vtO SyC (gt l8 2)).bind fun v14 => (rowN 59 6 s.hp b4).bind fun l16 => (vtO (.int .u64) (gt l16 0)).bind fun v18 => (intO .u64 (gt l16 1)).bind fun v20 => (intO .u64 (gt l16 2)).bind fun v22 => (intO .u64 (gt l16 3)).bind fun v24 => (intO .u64 (gt l16 4)).bind fun v26 => (intO .u64 (gt l16 5)).bind fun v28 => (rowN 63 1 s.hp b6).bind fun l30 => (soN 1 s.hp (gt l30 0)).bind fun b32 => (rtN (.int .u8) 5 s.hp b32).bind fun v34 => (distO [some b2, some b4, some b6, b32]).bind fun _ => F (v10, v12, v14, v18, v20, v22, v24, v26, v28, v34)
  st x := ⟨sparseT [(1, (.ptr 0 0)), (4, (.ptr 1 0)), (5, (.ptr 2 0))] 126 0, [.row [(.val (.int .u32 x.1)), (.vt SgC x.2.1), (.vt SyC x.2.2.1)] 26 true, .row [(.vt (.int .u64) x.2.2.2.1), (.val (.int .u64 x.2.2.2.2.1)), (.val (.int .u64 x.2.2.2.2.2.1)), (.val (.int .u64 x.2.2.2.2.2.2.1)), (.val (.int .u64 x.2.2.2.2.2.2.2.1)), (.val (.int .u64 x.2.2.2.2.2.2.2.2.1))] 59 true, .row [(.so 3 1)] 63 false, .rt (.int .u8) x.2.2.2.2.2.2.2.2.2 5]⟩
  ok γ s F r h := by
    have ⟨_, hz, h⟩ := bs h
    have ⟨b2, h1, h⟩ := bs h
    have ⟨b4, h3, h⟩ := bs h
    have ⟨b6, h5, h⟩ := bs h
    have ⟨l8, h7, h⟩ := bs h
    have ⟨v10, h9, h⟩ := bs h
    have ⟨v12, h11, h⟩ := bs h
    have ⟨v14, h13, h⟩ := bs h
    have ⟨l16, h15, h⟩ := bs h
    have ⟨v18, h17, h⟩ := bs h
    have ⟨v20, h19, h⟩ := bs h
    have ⟨v22, h21, h⟩ := bs h
    have ⟨v24, h23, h⟩ := bs h
    have ⟨v26, h25, h⟩ := bs h
    have ⟨v28, h27, h⟩ := bs h
    have ⟨l30, h29, h⟩ := bs h
    have ⟨b32, h31, h⟩ := bs h
    have ⟨v34, h33, h⟩ := bs h
    have ⟨_, h35, h⟩ := bs h
    exact ⟨_, h, weak_ren (l := [some b2, some b4, some b6, b32]) (sizedN_ok hz) (distO_ok h35) (LiveR.cons (RefsR.ptr (l := [some b2, some b4, some b6, b32]) (i := 0) rfl (ptrN_eq h1)) (LiveR.cons (RefsR.ptr (l := [some b2, some b4, some b6, b32]) (i := 1) rfl (ptrN_eq h3)) (LiveR.cons (RefsR.ptr (l := [some b2, some b4, some b6, b32]) (i := 2) rfl (ptrN_eq h5)) LiveR.nil))) (BlksR.cons (rowN_refs h7 rfl (GtRefsR.cons (pI h9) (GtRefsR.cons (pV h11) (GtRefsR.cons (pV h13) GtRefsR.nil))) rfl) (BlksR.cons (rowN_refs h15 rfl (GtRefsR.cons (pV h17) (GtRefsR.cons (pI h19) (GtRefsR.cons (pI h21) (GtRefsR.cons (pI h23) (GtRefsR.cons (pI h25) (GtRefsR.cons (pI h27) GtRefsR.nil)))))) rfl) (BlksR.cons (rowN_refs h29 rfl (GtRefsR.cons (RefsR.so (l := [some b2, some b4, some b6, b32]) (i := 3) rfl (Nat.le_of_ble_eq_true rfl) h31) GtRefsR.nil) rfl) (BlksR.cons (rtN_blk h33) BlksR.nil))))⟩

def elf_Write.q0.t : Tail (Int × SgL × SyL × (List Int) × Int × Int × Int × Int × Int × (List Int)) := Tail.one (.exit 0) elf_Write.q0.x0
theorem elf_Write.q0.np (y : (Int × SgL × SyL × (List Int) × Int × Int × Int × Int × Int × (List Int))) (v : AV) : (elf_Write.q0.t.out y).1 = .panic v → nomem v = true := fun h => by cases h
theorem elf_Write.q0.nn (y : (Int × SgL × SyL × (List Int) × Int × Int × Int × Int × Int × (List Int))) : (elf_Write.q0.t.out y).1 ≠ .normal := fun h => by cases h
def elf_Write.q0.l (k : Nat) : Nat → (SgL × Int × Int × Int × SgL × SyL × (List Int) × Int × Int × Int × Int × Int × (List Int)) → Option (Int × SgL × SyL × (List Int) × Int × Int × Int × Int × Int × (List Int))
  | 0, _ => none
  | n + 1, x => (bif (decide (x.2.2.1 < x.2.1)) then (bif (decide (0 ≤ x.2.2.1) && decide (x.2.2.1 < ((x.1.length : Nat) : Int))) then (bif (decide (0 ≤ x.2.2.1) && decide (x.2.2.1 < ((x.2.2.2.2.2.2.1.length : Nat) : Int))) then ((elf_bits.f (⟨(x.1.getD (x.2.2.1).toNat (0, 0, (false, false, false, ()), [], ())).2.2.1.1, (x.1.getD (x.2.2.1).toNat (0, 0, (false, false, false, ()), [], ())).2.2.1.2.1, (x.1.getD (x.2.2.1).toNat (0, 0, (false, false, false, ()), [], ())).2.2.1.2.2.1⟩ : T43)).bind fun r6 => ((elf_writer_word.f k x.2.2.2.2.2.2.2.2.2.2.2.2 ([1, (IntKind.wrap .u32 (x.2.2.2.2.2.2.1.getD (x.2.2.1).toNat 0)), (x.1.getD (x.2.2.1).toNat (0, 0, (false, false, false, ()), [], ())).1, (x.1.getD (x.2.2.1).toNat (0, 0, (false, false, false, ()), [], ())).1, (IntKind.wrap .u32 ((((x.1.getD (x.2.2.1).toNat (0, 0, (false, false, false, ()), [], ())).2.2.2.1).length : Nat) : Int)), (x.1.getD (x.2.2.1).toNat (0, 0, (false, false, false, ()), [], ())).2.1, r6, 4096] : List Int)).bind fun r7 => (elf_Write.q0.l k n (x.1, x.2.1, (IntKind.wrap .i64 (x.2.2.1 + 1)), x.2.2.2.1, x.2.2.2.2.1, x.2.2.2.2.2.1, x.2.2.2.2.2.2.1, x.2.2.2.2.2.2.2.1, x.2.2.2.2.2.2.2.2.1, x.2.2.2.2.2.2.2.2.2.1, x.2.2.2.2.2.2.2.2.2.2.1, x.2.2.2.2.2.2.2.2.2.2.2.1, r7)))) else none) else none) else (some (x.2.2.2.1, x.2.2.2.2.1, x.2.2.2.2.2.1, x.2.2.2.2.2.2.1, x.2.2.2.2.2.2.2.1, x.2.2.2.2.2.2.2.2.1, x.2.2.2.2.2.2.2.2.2.1, x.2.2.2.2.2.2.2.2.2.2.1, x.2.2.2.2.2.2.2.2.2.2.2.1, x.2.2.2.2.2.2.2.2.2.2.2.2)))
theorem elf_Write.q0.z (k : Nat) (x : (SgL × Int × Int × Int × SgL × SyL × (List Int) × Int × Int × Int × Int × Int × (List Int))) : elf_Write.q0.l k 0 x = none := rfl
theorem elf_Write.q0.at : codeAt (bodyOf Try.f17) [false, true, false, true, true, true, true, true, true, true, true, true, true, true] = some (.loop (loopBody (bodyOf Try.f17) [false, true, false, true, true, true, true, true, true, true, true, true, true, true])) := by kernel_rfl
theorem elf_Write.q0.goes (k n : Nat) (x : (SgL × Int × Int × Int × SgL × SyL × (List Int) × Int × Int × Int × Int × Int × (List Int))) : E Try.prog (gamW (gamOf [(15, elf_Right.g k), (31, elf_laid.g k), (34, elf_bits.g)]) [(32, elf_writer_half.w k), (33, elf_writer_word.w k)]) (lamOf []) (loopBody (bodyOf Try.f17) [false, true, false, true, true, true, true, true, true, true, true, true, true, true]) (false :: [false, true, false, true, true, true, true, true, true, true, true, true, true, true]) (elf_Write.q0.h.st x) (contD elf_Write.q0.h elf_Write.q0.t (elf_Write.q0.l k n) some) = elf_Write.q0.l k (n + 1) x := by
  kernel_rfl
theorem elf_Write.q0.ok_ (k : Nat) : PieceOk Try.prog (bodyOf Try.f17) ⟨[false, true, false, true, true, true, true, true, true, true, true, true, true, true], _, _, elf_Write.q0.h, elf_Write.q0.t, elf_Write.q0.l k k⟩ :=
  piece_loop (gamW_ok (gamOf_cons (elf_Right.ok k) elf_Right.callable (gamOf_cons (elf_laid.ok k) elf_laid.callable (gamOf_cons (elf_bits.ok) elf_bits.callable (gamOf_nil _)))) (wsOk_cons (elf_writer_half.wok k) elf_writer_half.callable (wsOk_cons (elf_writer_word.wok k) elf_writer_word.callable (wsOk_nil _)))) (lamOf_nil _ _) mixed elf_Write.q0.at elf_Write.q0.np elf_Write.q0.nn (elf_Write.q0.z k) (elf_Write.q0.goes k) k
def elf_Write.q0.p (k : Nat) : Piece := ⟨[false, true, false, true, true, true, true, true, true, true, true, true, true, true], _, _, elf_Write.q0.h, elf_Write.q0.t, elf_Write.q0.l k k⟩
theorem elf_Write.q0.ok (k : Nat) : PieceOk Try.prog (bodyOf Try.f17) (elf_Write.q0.p k) := elf_Write.q0.ok_ k
def elf_Write.q1.h : Head (SgL × Int × Int × Int × SgL × SyL × (List Int) × Int × Int × Int × Int × Int × (List Int)) where
  k γ s F := (sizedN 126 s).bind fun _ => (ptrN 0 (gt s.tm 1)).bind fun b2 => (ptrN 0 (gt s.tm 4)).bind fun b4 => (ptrN 0 (gt s.tm 5)).bind fun b6 => (vtO SgC (gt s.tm 86)).bind fun v8 => (intO .i64 (gt s.tm 87)).bind fun v10 => (intO .i64 (gt s.tm 88)).bind fun v12 => (rowN 26 3 s.hp b2).bind fun l14 => (intO .u32 (gt l14 0)).bind fun v16 => (vtO SgC (gt l14 1)).bind fun v18 => (vtO SyC (gt l14 2)).bind fun v20 => (rowN 59 6 s.hp b4).bind fun l22 => (vtO (.int .u64) (gt l22 0)).bind fun v24 => (intO .u64 (gt l22 1)).bind fun v26 => (intO .u64 (gt l22 2)).bind fun v28 => (intO .u64 (gt l22 3)).bind fun v30 => (intO .u64 (gt l22 4)).bind fun v32 => (intO .u64 (gt l22 5)).bind fun v34 => (rowN 63 1 s.hp b6).bind fun l36 => (soN 1 s.hp (gt l36 0)).bind fun b38 => (rtN (.int .u8) 5 s.hp b38).bind fun v40 => (distO [some b2, some b4, some b6, b38]).bind fun _ => F (v8, v10, v12, v16, v18, v20, v24, v26, v28, v30, v32, v34, v40)
  st x := ⟨sparseT [(1, (.ptr 0 0)), (4, (.ptr 1 0)), (5, (.ptr 2 0)), (86, (.vt SgC x.1)), (87, (.val (.int .i64 x.2.1))), (88, (.val (.int .i64 x.2.2.1)))] 126 0, [.row [(.val (.int .u32 x.2.2.2.1)), (.vt SgC x.2.2.2.2.1), (.vt SyC x.2.2.2.2.2.1)] 26 true, .row [(.vt (.int .u64) x.2.2.2.2.2.2.1), (.val (.int .u64 x.2.2.2.2.2.2.2.1)), (.val (.int .u64 x.2.2.2.2.2.2.2.2.1)), (.val (.int .u64 x.2.2.2.2.2.2.2.2.2.1)), (.val (.int .u64 x.2.2.2.2.2.2.2.2.2.2.1)), (.val (.int .u64 x.2.2.2.2.2.2.2.2.2.2.2.1))] 59 true, .row [(.so 3 1)] 63 false, .rt (.int .u8) x.2.2.2.2.2.2.2.2.2.2.2.2 5]⟩
  ok γ s F r h := by
    have ⟨_, hz, h⟩ := bs h
    have ⟨b2, h1, h⟩ := bs h
    have ⟨b4, h3, h⟩ := bs h
    have ⟨b6, h5, h⟩ := bs h
    have ⟨v8, h7, h⟩ := bs h
    have ⟨v10, h9, h⟩ := bs h
    have ⟨v12, h11, h⟩ := bs h
    have ⟨l14, h13, h⟩ := bs h
    have ⟨v16, h15, h⟩ := bs h
    have ⟨v18, h17, h⟩ := bs h
    have ⟨v20, h19, h⟩ := bs h
    have ⟨l22, h21, h⟩ := bs h
    have ⟨v24, h23, h⟩ := bs h
    have ⟨v26, h25, h⟩ := bs h
    have ⟨v28, h27, h⟩ := bs h
    have ⟨v30, h29, h⟩ := bs h
    have ⟨v32, h31, h⟩ := bs h
    have ⟨v34, h33, h⟩ := bs h
    have ⟨l36, h35, h⟩ := bs h
    have ⟨b38, h37, h⟩ := bs h
    have ⟨v40, h39, h⟩ := bs h
    have ⟨_, h41, h⟩ := bs h
    exact ⟨_, h, weak_ren (l := [some b2, some b4, some b6, b38]) (sizedN_ok hz) (distO_ok h41) (LiveR.cons (RefsR.ptr (l := [some b2, some b4, some b6, b38]) (i := 0) rfl (ptrN_eq h1)) (LiveR.cons (RefsR.ptr (l := [some b2, some b4, some b6, b38]) (i := 1) rfl (ptrN_eq h3)) (LiveR.cons (RefsR.ptr (l := [some b2, some b4, some b6, b38]) (i := 2) rfl (ptrN_eq h5)) (LiveR.cons (pV h7) (LiveR.cons (pI h9) (LiveR.cons (pI h11) LiveR.nil)))))) (BlksR.cons (rowN_refs h13 rfl (GtRefsR.cons (pI h15) (GtRefsR.cons (pV h17) (GtRefsR.cons (pV h19) GtRefsR.nil))) rfl) (BlksR.cons (rowN_refs h21 rfl (GtRefsR.cons (pV h23) (GtRefsR.cons (pI h25) (GtRefsR.cons (pI h27) (GtRefsR.cons (pI h29) (GtRefsR.cons (pI h31) (GtRefsR.cons (pI h33) GtRefsR.nil)))))) rfl) (BlksR.cons (rowN_refs h35 rfl (GtRefsR.cons (RefsR.so (l := [some b2, some b4, some b6, b38]) (i := 3) rfl (Nat.le_of_ble_eq_true rfl) h37) GtRefsR.nil) rfl) (BlksR.cons (rtN_blk h39) BlksR.nil))))⟩

def elf_Write.q1.x0 : Head (Int × SgL × SyL × (List Int) × Int × Int × Int × Int × Int × (List Int)) where
  k γ s F := (sizedN 126 s).bind fun _ => (ptrN 0 (gt s.tm 1)).bind fun b2 => (ptrN 0 (gt s.tm 4)).bind fun b4 => (ptrN 0 (gt s.tm 5)).bind fun b6 => (rowN 26 3 s.hp b2).bind fun l8 => (intO .u32 (gt l8 0)).bind fun v10 => (vtO SgC (gt l8 1)).bind fun v12 => (vtO SyC (gt l8 2)).bind fun v14 => (rowN 59 6 s.hp b4).bind fun l16 => (vtO (.int .u64) (gt l16 0)).bind fun v18 => (intO .u64 (gt l16 1)).bind fun v20 => (intO .u64 (gt l16 2)).bind fun v22 => (intO .u64 (gt l16 3)).bind fun v24 => (intO .u64 (gt l16 4)).bind fun v26 => (intO .u64 (gt l16 5)).bind fun v28 => (rowN 63 1 s.hp b6).bind fun l30 => (soN 1 s.hp (gt l30 0)).bind fun b32 => (rtN (.int .u8) 5 s.hp b32).bind fun v34 => (distO [some b2, some b4, some b6, b32]).bind fun _ => F (v10, v12, v14, v18, v20, v22, v24, v26, v28, v34)
  st x := ⟨sparseT [(1, (.ptr 0 0)), (4, (.ptr 1 0)), (5, (.ptr 2 0))] 126 0, [.row [(.val (.int .u32 x.1)), (.vt SgC x.2.1), (.vt SyC x.2.2.1)] 26 true, .row [(.vt (.int .u64) x.2.2.2.1), (.val (.int .u64 x.2.2.2.2.1)), (.val (.int .u64 x.2.2.2.2.2.1)), (.val (.int .u64 x.2.2.2.2.2.2.1)), (.val (.int .u64 x.2.2.2.2.2.2.2.1)), (.val (.int .u64 x.2.2.2.2.2.2.2.2.1))] 59 true, .row [(.so 3 1)] 63 false, .rt (.int .u8) x.2.2.2.2.2.2.2.2.2 5]⟩
  ok γ s F r h := by
    have ⟨_, hz, h⟩ := bs h
    have ⟨b2, h1, h⟩ := bs h
    have ⟨b4, h3, h⟩ := bs h
    have ⟨b6, h5, h⟩ := bs h
    have ⟨l8, h7, h⟩ := bs h
    have ⟨v10, h9, h⟩ := bs h
    have ⟨v12, h11, h⟩ := bs h
    have ⟨v14, h13, h⟩ := bs h
    have ⟨l16, h15, h⟩ := bs h
    have ⟨v18, h17, h⟩ := bs h
    have ⟨v20, h19, h⟩ := bs h
    have ⟨v22, h21, h⟩ := bs h
    have ⟨v24, h23, h⟩ := bs h
    have ⟨v26, h25, h⟩ := bs h
    have ⟨v28, h27, h⟩ := bs h
    have ⟨l30, h29, h⟩ := bs h
    have ⟨b32, h31, h⟩ := bs h
    have ⟨v34, h33, h⟩ := bs h
    have ⟨_, h35, h⟩ := bs h
    exact ⟨_, h, weak_ren (l := [some b2, some b4, some b6, b32]) (sizedN_ok hz) (distO_ok h35) (LiveR.cons (RefsR.ptr (l := [some b2, some b4, some b6, b32]) (i := 0) rfl (ptrN_eq h1)) (LiveR.cons (RefsR.ptr (l := [some b2, some b4, some b6, b32]) (i := 1) rfl (ptrN_eq h3)) (LiveR.cons (RefsR.ptr (l := [some b2, some b4, some b6, b32]) (i := 2) rfl (ptrN_eq h5)) LiveR.nil))) (BlksR.cons (rowN_refs h7 rfl (GtRefsR.cons (pI h9) (GtRefsR.cons (pV h11) (GtRefsR.cons (pV h13) GtRefsR.nil))) rfl) (BlksR.cons (rowN_refs h15 rfl (GtRefsR.cons (pV h17) (GtRefsR.cons (pI h19) (GtRefsR.cons (pI h21) (GtRefsR.cons (pI h23) (GtRefsR.cons (pI h25) (GtRefsR.cons (pI h27) GtRefsR.nil)))))) rfl) (BlksR.cons (rowN_refs h29 rfl (GtRefsR.cons (RefsR.so (l := [some b2, some b4, some b6, b32]) (i := 3) rfl (Nat.le_of_ble_eq_true rfl) h31) GtRefsR.nil) rfl) (BlksR.cons (rtN_blk h33) BlksR.nil))))⟩

def elf_Write.q1.t : Tail (Int × SgL × SyL × (List Int) × Int × Int × Int × Int × Int × (List Int)) := Tail.one (.exit 2) elf_Write.q1.x0
theorem elf_Write.q1.np (y : (Int × SgL × SyL × (List Int) × Int × Int × Int × Int × Int × (List Int))) (v : AV) : (elf_Write.q1.t.out y).1 = .panic v → nomem v = true := fun h => by cases h
theorem elf_Write.q1.nn (y : (Int × SgL × SyL × (List Int) × Int × Int × Int × Int × Int × (List Int))) : (elf_Write.q1.t.out y).1 ≠ .normal := fun h => by cases h
def elf_Write.q1.l (k : Nat) : Nat → (SgL × Int × Int × Int × SgL × SyL × (List Int) × Int × Int × Int × Int × Int × (List Int)) → Option (Int × SgL × SyL × (List Int) × Int × Int × Int × Int × Int × (List Int))
  | 0, _ => none
  | n + 1, x => (bif (decide (x.2.2.1 < x.2.1)) then (bif (decide (0 ≤ x.2.2.1) && decide (x.2.2.1 < ((x.1.length : Nat) : Int))) then (bif (decide (((((x.1.getD (x.2.2.1).toNat (0, 0, (false, false, false, ()), [], ())).2.2.2.1).length : Nat) : Int) > 0)) then (bif (decide (0 ≤ x.2.2.1) && decide (x.2.2.1 < ((x.2.2.2.2.2.2.1.length : Nat) : Int))) then ((elf_writer_pad.f x.2.2.2.2.2.2.2.2.2.2.2.2 (x.2.2.2.2.2.2.1.getD (x.2.2.1).toNat 0)).bind fun r9 => (bif (decide ((r9 ++ (x.1.getD (x.2.2.1).toNat (0, 0, (false, false, false, ()), [], ())).2.2.2.1).length ≤ maxLen) && decide ((r9 ++ (x.1.getD (x.2.2.1).toNat (0, 0, (false, false, false, ()), [], ())).2.2.2.1).length * 1 ≤ 211106232532992)) then (elf_Write.q1.l k n (x.1, x.2.1, (IntKind.wrap .i64 (x.2.2.1 + 1)), x.2.2.2.1, x.2.2.2.2.1, x.2.2.2.2.2.1, x.2.2.2.2.2.2.1, x.2.2.2.2.2.2.2.1, x.2.2.2.2.2.2.2.2.1, x.2.2.2.2.2.2.2.2.2.1, x.2.2.2.2.2.2.2.2.2.2.1, x.2.2.2.2.2.2.2.2.2.2.2.1, (r9 ++ (x.1.getD (x.2.2.1).toNat (0, 0, (false, false, false, ()), [], ())).2.2.2.1))) else none)) else none) else (elf_Write.q1.l k n (x.1, x.2.1, (IntKind.wrap .i64 (x.2.2.1 + 1)), x.2.2.2.1, x.2.2.2.2.1, x.2.2.2.2.2.1, x.2.2.2.2.2.2.1, x.2.2.2.2.2.2.2.1, x.2.2.2.2.2.2.2.2.1, x.2.2.2.2.2.2.2.2.2.1, x.2.2.2.2.2.2.2.2.2.2.1, x.2.2.2.2.2.2.2.2.2.2.2.1, x.2.2.2.2.2.2.2.2.2.2.2.2))) else none) else (some (x.2.2.2.1, x.2.2.2.2.1, x.2.2.2.2.2.1, x.2.2.2.2.2.2.1, x.2.2.2.2.2.2.2.1, x.2.2.2.2.2.2.2.2.1, x.2.2.2.2.2.2.2.2.2.1, x.2.2.2.2.2.2.2.2.2.2.1, x.2.2.2.2.2.2.2.2.2.2.2.1, x.2.2.2.2.2.2.2.2.2.2.2.2)))
theorem elf_Write.q1.z (k : Nat) (x : (SgL × Int × Int × Int × SgL × SyL × (List Int) × Int × Int × Int × Int × Int × (List Int))) : elf_Write.q1.l k 0 x = none := rfl
theorem elf_Write.q1.at : codeAt (bodyOf Try.f17) [false, true, false, true, true, true, true, true, true, true, true, true, true, true, true] = some (.loop (loopBody (bodyOf Try.f17) [false, true, false, true, true, true, true, true, true, true, true, true, true, true, true])) := by kernel_rfl
theorem elf_Write.q1.goes (k n : Nat) (x : (SgL × Int × Int × Int × SgL × SyL × (List Int) × Int × Int × Int × Int × Int × (List Int))) : E Try.prog (gamW (gamOf [(15, elf_Right.g k), (31, elf_laid.g k), (34, elf_bits.g)]) [(32, elf_writer_half.w k), (33, elf_writer_word.w k), (35, elf_writer_pad.w)]) (lamOf []) (loopBody (bodyOf Try.f17) [false, true, false, true, true, true, true, true, true, true, true, true, true, true, true]) (false :: [false, true, false, true, true, true, true, true, true, true, true, true, true, true, true]) (elf_Write.q1.h.st x) (contD elf_Write.q1.h elf_Write.q1.t (elf_Write.q1.l k n) some) = elf_Write.q1.l k (n + 1) x := by
  kernel_rfl
theorem elf_Write.q1.ok_ (k : Nat) : PieceOk Try.prog (bodyOf Try.f17) ⟨[false, true, false, true, true, true, true, true, true, true, true, true, true, true, true], _, _, elf_Write.q1.h, elf_Write.q1.t, elf_Write.q1.l k k⟩ :=
  piece_loop (gamW_ok (gamOf_cons (elf_Right.ok k) elf_Right.callable (gamOf_cons (elf_laid.ok k) elf_laid.callable (gamOf_cons (elf_bits.ok) elf_bits.callable (gamOf_nil _)))) (wsOk_cons (elf_writer_half.wok k) elf_writer_half.callable (wsOk_cons (elf_writer_word.wok k) elf_writer_word.callable (wsOk_cons (elf_writer_pad.wok) elf_writer_pad.callable (wsOk_nil _))))) (lamOf_nil _ _) mixed elf_Write.q1.at elf_Write.q1.np elf_Write.q1.nn (elf_Write.q1.z k) (elf_Write.q1.goes k) k
def elf_Write.q1.p (k : Nat) : Piece := ⟨[false, true, false, true, true, true, true, true, true, true, true, true, true, true, true], _, _, elf_Write.q1.h, elf_Write.q1.t, elf_Write.q1.l k k⟩
theorem elf_Write.q1.ok (k : Nat) : PieceOk Try.prog (bodyOf Try.f17) (elf_Write.q1.p k) := elf_Write.q1.ok_ k
def elf_Write.f (k : Nat) (x0 : T25) : Option ((List Int) × Int) := ((elf_Right.f k (⟨x0.f0_Entry, x0.f1_Segments, x0.f2_Symbols⟩ : T25)).bind fun r1 => (bif (!r1) then (some (([] : List Int), 239)) else ((elf_laid.f k (⟨x0.f0_Entry, x0.f1_Segments, x0.f2_Symbols⟩ : T25)).bind fun r2 => (bif (decide (r2.f5_size > 33554432)) then (some (([] : List Int), 239)) else (bif (decide ((([] : List Int) ++ ([127, 69, 76, 70, 1, 1, 1, 0, 0, 0, 0, 0, 0, 0, 0, 0] : List Int)).length ≤ maxLen) && decide ((([] : List Int) ++ ([127, 69, 76, 70, 1, 1, 1, 0, 0, 0, 0, 0, 0, 0, 0, 0] : List Int)).length * 1 ≤ 211106232532992)) then ((elf_writer_half.f k (([] : List Int) ++ ([127, 69, 76, 70, 1, 1, 1, 0, 0, 0, 0, 0, 0, 0, 0, 0] : List Int)) ([2, 40] : List Int)).bind fun r3 => ((elf_writer_word.f k r3 ([1, x0.f0_Entry, 52, (IntKind.wrap .u32 r2.f4_sections), 83886080] : List Int)).bind fun r4 => (bif (decide (r2.f4_sections > 0)) then ((elf_writer_half.f k r4 ([52, 32, (IntKind.wrap .u32 ((x0.f1_Segments.length : Nat) : Int)), 40, 4, 3] : List Int)).bind fun r5 => ((elf_Write.q0.l k k (x0.f1_Segments, ((x0.f1_Segments.length : Nat) : Int), 0, x0.f0_Entry, x0.f1_Segments, x0.f2_Symbols, r2.f0_places, r2.f1_symbols, r2.f2_names, r2.f3_titles, r2.f4_sections, r2.f5_size, r5)).bind fun r8 => ((elf_Write.q1.l k k (r8.2.1, ((r8.2.1.length : Nat) : Int), 0, r8.1, r8.2.1, r8.2.2.1, r8.2.2.2.1, r8.2.2.2.2.1, r8.2.2.2.2.2.1, r8.2.2.2.2.2.2.1, r8.2.2.2.2.2.2.2.1, r8.2.2.2.2.2.2.2.2.1, r8.2.2.2.2.2.2.2.2.2)).bind fun r10 => (bif (decide (r10.2.2.2.2.2.2.2.1 > 0)) then ((elf_tables.f k r10.2.2.2.2.2.2.2.2.2 (⟨r10.1, r10.2.1, r10.2.2.1⟩ : T25) (⟨r10.2.2.2.1, r10.2.2.2.2.1, r10.2.2.2.2.2.1, r10.2.2.2.2.2.2.1, r10.2.2.2.2.2.2.2.1, r10.2.2.2.2.2.2.2.2.1⟩ : T58)).bind fun r11 => (some (r11, 0))) else (some (r10.2.2.2.2.2.2.2.2.2, 0)))))) else ((elf_writer_half.f k r4 ([52, 32, (IntKind.wrap .u32 ((x0.f1_Segments.length : Nat) : Int)), 40, 0, 0] : List Int)).bind fun r12 => ((elf_Write.q0.l k k (x0.f1_Segments, ((x0.f1_Segments.length : Nat) : Int), 0, x0.f0_Entry, x0.f1_Segments, x0.f2_Symbols, r2.f0_places, r2.f1_symbols, r2.f2_names, r2.f3_titles, r2.f4_sections, r2.f5_size, r12)).bind fun r13 => ((elf_Write.q1.l k k (r13.2.1, ((r13.2.1.length : Nat) : Int), 0, r13.1, r13.2.1, r13.2.2.1, r13.2.2.2.1, r13.2.2.2.2.1, r13.2.2.2.2.2.1, r13.2.2.2.2.2.2.1, r13.2.2.2.2.2.2.2.1, r13.2.2.2.2.2.2.2.2.1, r13.2.2.2.2.2.2.2.2.2)).bind fun r14 => (bif (decide (r14.2.2.2.2.2.2.2.1 > 0)) then ((elf_tables.f k r14.2.2.2.2.2.2.2.2.2 (⟨r14.1, r14.2.1, r14.2.2.1⟩ : T25) (⟨r14.2.2.2.1, r14.2.2.2.2.1, r14.2.2.2.2.2.1, r14.2.2.2.2.2.2.1, r14.2.2.2.2.2.2.2.1, r14.2.2.2.2.2.2.2.2.1⟩ : T58)).bind fun r15 => (some (r15, 0))) else (some (r14.2.2.2.2.2.2.2.2.2, 0))))))))) else none)))))
theorem elf_Write.run (k : Nat) (x0 : T25) : runF Try.prog (gamW (gamOf [(15, elf_Right.g k), (31, elf_laid.g k), (34, elf_bits.g)]) [(32, elf_writer_half.w k), (33, elf_writer_word.w k), (35, elf_writer_pad.w), (36, elf_tables.w k)]) (lamOf [elf_Write.q0.p k, elf_Write.q1.p k]) Try.f17 [(T25.av x0)] some = (elf_Write.f k x0).bind fun r => some (.ret (.tup [(.vt (.int .u8) r.1), (.val (.int .i64 r.2))])) := by
  unfold elf_Write.f
  try simp only [cond_bind, elim_bind, Option.bind_some, Option.bind_none, Option.bind_assoc, Sum.elim_inl, Sum.elim_inr]
  kernel_rfl
def elf_Write.g (k : Nat) : GFun := fun β args K => match args with
  | [a0] => (T25.of a0).bind fun x0 => (elf_Write.f k x0).bind fun r => K (.ret (.tup [(.vt (.int .u8) r.1), (.val (.int .i64 r.2))]))
  | _ => none
theorem elf_Write.callable : callable Try.prog 17 = true := callable_of Try.func17 (by kernel_rfl)
theorem elf_Write.ok (k : Nat) : GOk Try.prog 17 (elf_Write.g k) := by
  intro β args K r h
  unfold elf_Write.g at h
  split at h
  · obtain ⟨x0, e0, h⟩ := bs h
    obtain ⟨y, hy, hK⟩ := bs h
    have hrun := elf_Write.run k x0
    rw [hy] at hrun
    obtain ⟨out, e, hs⟩ := sim_of_run Try.func17 (by kernel_rfl) mixed (gamW_ok (gamOf_cons (elf_Right.ok k) elf_Right.callable (gamOf_cons (elf_laid.ok k) elf_laid.callable (gamOf_cons (elf_bits.ok) elf_bits.callable (gamOf_nil _)))) (wsOk_cons (elf_writer_half.wok k) elf_writer_half.callable (wsOk_cons (elf_writer_word.wok k) elf_writer_word.callable (wsOk_cons (elf_writer_pad.wok) elf_writer_pad.callable (wsOk_cons (elf_tables.wok k) elf_tables.callable (wsOk_nil _)))))) (lamOf_cons (elf_Write.q0.ok k) (lamOf_cons (elf_Write.q1.ok k) (lamOf_nil _ _))) (args' := [(T25.av x0)]) (RefsL.cons (T25.refs e0) RefsL.nil) hrun
    simp only [Option.some.injEq] at e
    subst e
    exact ⟨_, hK, hs⟩
  · cases h
/-! ### atlas/atlaslaw23.same: function 19 -/
def atlaslaw23_same.q0.h : Head (Int × Int × SgL × SyL × Int × SgL × SyL) where
  k γ s F := (sizedN 95 s).bind fun _ => (ptrN 0 (gt s.tm 2)).bind fun b2 => (ptrN 0 (gt s.tm 3)).bind fun b4 => (intO .i64 (gt s.tm 5)).bind fun v6 => (rowN 26 3 s.hp b2).bind fun l8 => (intO .u32 (gt l8 0)).bind fun v10 => (vtO SgC (gt l8 1)).bind fun v12 => (vtO SyC (gt l8 2)).bind fun v14 => (rowN 26 3 s.hp b4).bind fun l16 => (intO .u32 (gt l16 0)).bind fun v18 => (vtO SgC (gt l16 1)).bind fun v20 => (vtO SyC (gt l16 2)).bind fun v22 => (distO [some b2, some b4]).bind fun _ => F (v6, v10, v12, v14, v18, v20, v22)
  st x := ⟨sparseT [(2, (.ptr 0 0)), (3, (.ptr 1 0)), (5, (.val (.int .i64 x.1)))] 95 0, [.row [(.val (.int .u32 x.2.1)), (.vt SgC x.2.2.1), (.vt SyC x.2.2.2.1)] 26 true, .row [(.val (.int .u32 x.2.2.2.2.1)), (.vt SgC x.2.2.2.2.2.1), (.vt SyC x.2.2.2.2.2.2)] 26 true]⟩
  ok γ s F r h := by
    have ⟨_, hz, h⟩ := bs h
    have ⟨b2, h1, h⟩ := bs h
    have ⟨b4, h3, h⟩ := bs h
    have ⟨v6, h5, h⟩ := bs h
    have ⟨l8, h7, h⟩ := bs h
    have ⟨v10, h9, h⟩ := bs h
    have ⟨v12, h11, h⟩ := bs h
    have ⟨v14, h13, h⟩ := bs h
    have ⟨l16, h15, h⟩ := bs h
    have ⟨v18, h17, h⟩ := bs h
    have ⟨v20, h19, h⟩ := bs h
    have ⟨v22, h21, h⟩ := bs h
    have ⟨_, h23, h⟩ := bs h
    exact ⟨_, h, weak_ren (l := [some b2, some b4]) (sizedN_ok hz) (distO_ok h23) (LiveR.cons (RefsR.ptr (l := [some b2, some b4]) (i := 0) rfl (ptrN_eq h1)) (LiveR.cons (RefsR.ptr (l := [some b2, some b4]) (i := 1) rfl (ptrN_eq h3)) (LiveR.cons (pI h5) LiveR.nil))) (BlksR.cons (rowN_refs h7 rfl (GtRefsR.cons (pI h9) (GtRefsR.cons (pV h11) (GtRefsR.cons (pV h13) GtRefsR.nil))) rfl) (BlksR.cons (rowN_refs h15 rfl (GtRefsR.cons (pI h17) (GtRefsR.cons (pV h19) (GtRefsR.cons (pV h21) GtRefsR.nil))) rfl) BlksR.nil))⟩

def atlaslaw23_same.q0.x0 : Head (Bool) where
  k γ s F := (sizedN 95 s).bind fun _ => (boolO (gt s.tm 4)).bind fun v2 => (distO []).bind fun _ => F (v2)
  st x := ⟨sparseT [(4, (.val (.bool x)))] 95 0, []⟩
  ok γ s F r h := by
    have ⟨_, hz, h⟩ := bs h
    have ⟨v2, h1, h⟩ := bs h
    have ⟨_, h3, h⟩ := bs h
    exact ⟨_, h, weak_ren (l := []) (sizedN_ok hz) (distO_ok h3) (LiveR.cons (pB h1) LiveR.nil) BlksR.nil⟩

def atlaslaw23_same.q0.x1 : Head (Int × SgL × SyL × Int × SgL × SyL) where
  k γ s F := (sizedN 95 s).bind fun _ => (ptrN 0 (gt s.tm 2)).bind fun b2 => (ptrN 0 (gt s.tm 3)).bind fun b4 => (rowN 26 3 s.hp b2).bind fun l6 => (intO .u32 (gt l6 0)).bind fun v8 => (vtO SgC (gt l6 1)).bind fun v10 => (vtO SyC (gt l6 2)).bind fun v12 => (rowN 26 3 s.hp b4).bind fun l14 => (intO .u32 (gt l14 0)).bind fun v16 => (vtO SgC (gt l14 1)).bind fun v18 => (vtO SyC (gt l14 2)).bind fun v20 => (distO [some b2, some b4]).bind fun _ => F (v8, v10, v12, v16, v18, v20)
  st x := ⟨sparseT [(2, (.ptr 0 0)), (3, (.ptr 1 0))] 95 0, [.row [(.val (.int .u32 x.1)), (.vt SgC x.2.1), (.vt SyC x.2.2.1)] 26 true, .row [(.val (.int .u32 x.2.2.2.1)), (.vt SgC x.2.2.2.2.1), (.vt SyC x.2.2.2.2.2)] 26 true]⟩
  ok γ s F r h := by
    have ⟨_, hz, h⟩ := bs h
    have ⟨b2, h1, h⟩ := bs h
    have ⟨b4, h3, h⟩ := bs h
    have ⟨l6, h5, h⟩ := bs h
    have ⟨v8, h7, h⟩ := bs h
    have ⟨v10, h9, h⟩ := bs h
    have ⟨v12, h11, h⟩ := bs h
    have ⟨l14, h13, h⟩ := bs h
    have ⟨v16, h15, h⟩ := bs h
    have ⟨v18, h17, h⟩ := bs h
    have ⟨v20, h19, h⟩ := bs h
    have ⟨_, h21, h⟩ := bs h
    exact ⟨_, h, weak_ren (l := [some b2, some b4]) (sizedN_ok hz) (distO_ok h21) (LiveR.cons (RefsR.ptr (l := [some b2, some b4]) (i := 0) rfl (ptrN_eq h1)) (LiveR.cons (RefsR.ptr (l := [some b2, some b4]) (i := 1) rfl (ptrN_eq h3)) LiveR.nil)) (BlksR.cons (rowN_refs h5 rfl (GtRefsR.cons (pI h7) (GtRefsR.cons (pV h9) (GtRefsR.cons (pV h11) GtRefsR.nil))) rfl) (BlksR.cons (rowN_refs h13 rfl (GtRefsR.cons (pI h15) (GtRefsR.cons (pV h17) (GtRefsR.cons (pV h19) GtRefsR.nil))) rfl) BlksR.nil))⟩

def atlaslaw23_same.q0.t : Tail ((Bool) ⊕ (Int × SgL × SyL × Int × SgL × SyL)) := Tail.or .ret atlaslaw23_same.q0.x0 (Tail.one (.exit 0) atlaslaw23_same.q0.x1)
theorem atlaslaw23_same.q0.np (y : ((Bool) ⊕ (Int × SgL × SyL × Int × SgL × SyL))) (v : AV) : (atlaslaw23_same.q0.t.out y).1 = .panic v → nomem v = true := fun h => by rcases y with _ | y <;> first | (cases h; done) | (cases h; rfl) | (cases h)
theorem atlaslaw23_same.q0.nn (y : ((Bool) ⊕ (Int × SgL × SyL × Int × SgL × SyL))) : (atlaslaw23_same.q0.t.out y).1 ≠ .normal := fun h => by rcases y with _ | y <;> first | (cases h; done) | (cases h; rfl) | (cases h)
def atlaslaw23_same.q0.l (k : Nat) : Nat → (Int × Int × SgL × SyL × Int × SgL × SyL) → Option ((Bool) ⊕ (Int × SgL × SyL × Int × SgL × SyL))
  | 0, _ => none
  | n + 1, x => (bif (decide (x.1 < ((x.2.2.1.length : Nat) : Int))) then (bif (decide (0 ≤ x.1) && decide (x.1 < ((x.2.2.1.length : Nat) : Int))) then (bif (decide (0 ≤ x.1) && decide (x.1 < ((x.2.2.2.2.2.1.length : Nat) : Int))) then (bif (((x.2.2.1.getD (x.1).toNat (0, 0, (false, false, false, ()), [], ())).1) != ((x.2.2.2.2.2.1.getD (x.1).toNat (0, 0, (false, false, false, ()), [], ())).1)) then (some (Sum.inl false)) else (bif (((x.2.2.1.getD (x.1).toNat (0, 0, (false, false, false, ()), [], ())).2.1) != ((x.2.2.2.2.2.1.getD (x.1).toNat (0, 0, (false, false, false, ()), [], ())).2.1)) then (some (Sum.inl false)) else (bif (!((((x.2.2.1.getD (x.1).toNat (0, 0, (false, false, false, ()), [], ())).2.2.1.1) == ((x.2.2.2.2.2.1.getD (x.1).toNat (0, 0, (false, false, false, ()), [], ())).2.2.1.1)) && ((((x.2.2.1.getD (x.1).toNat (0, 0, (false, false, false, ()), [], ())).2.2.1.2.1) == ((x.2.2.2.2.2.1.getD (x.1).toNat (0, 0, (false, false, false, ()), [], ())).2.2.1.2.1)) && ((((x.2.2.1.getD (x.1).toNat (0, 0, (false, false, false, ()), [], ())).2.2.1.2.2.1) == ((x.2.2.2.2.2.1.getD (x.1).toNat (0, 0, (false, false, false, ()), [], ())).2.2.1.2.2.1)) && true)))) then (some (Sum.inl false)) else (bif ((x.2.2.1.getD (x.1).toNat (0, 0, (false, false, false, ()), [], ())).2.2.2.1).all (fun b => decide (0 ≤ b) && decide (b < 256)) then (bif ((x.2.2.2.2.2.1.getD (x.1).toNat (0, 0, (false, false, false, ()), [], ())).2.2.2.1).all (fun b => decide (0 ≤ b) && decide (b < 256)) then (bif (!((bytesO ((x.2.2.1.getD (x.1).toNat (0, 0, (false, false, false, ()), [], ())).2.2.2.1)).toList == (bytesO ((x.2.2.2.2.2.1.getD (x.1).toNat (0, 0, (false, false, false, ()), [], ())).2.2.2.1)).toList)) then (some (Sum.inl false)) else (atlaslaw23_same.q0.l k n ((IntKind.wrap .i64 (x.1 + 1)), x.2.1, x.2.2.1, x.2.2.2.1, x.2.2.2.2.1, x.2.2.2.2.2.1, x.2.2.2.2.2.2))) else none) else none)))) else none) else none) else (some (Sum.inr (x.2.1, x.2.2.1, x.2.2.2.1, x.2.2.2.2.1, x.2.2.2.2.2.1, x.2.2.2.2.2.2))))
theorem atlaslaw23_same.q0.z (k : Nat) (x : (Int × Int × SgL × SyL × Int × SgL × SyL)) : atlaslaw23_same.q0.l k 0 x = none := rfl
theorem atlaslaw23_same.q0.at : codeAt (bodyOf Try.f19) [false, true, false, true, true] = some (.loop (loopBody (bodyOf Try.f19) [false, true, false, true, true])) := by kernel_rfl
theorem atlaslaw23_same.q0.goes (k n : Nat) (x : (Int × Int × SgL × SyL × Int × SgL × SyL)) : E Try.prog (gamOf []) (lamOf []) (loopBody (bodyOf Try.f19) [false, true, false, true, true]) (false :: [false, true, false, true, true]) (atlaslaw23_same.q0.h.st x) (contD atlaslaw23_same.q0.h atlaslaw23_same.q0.t (atlaslaw23_same.q0.l k n) some) = atlaslaw23_same.q0.l k (n + 1) x := by
  kernel_rfl
theorem atlaslaw23_same.q0.ok_ (k : Nat) : PieceOk Try.prog (bodyOf Try.f19) ⟨[false, true, false, true, true], _, _, atlaslaw23_same.q0.h, atlaslaw23_same.q0.t, atlaslaw23_same.q0.l k k⟩ :=
  piece_loop (gamOf_nil _) (lamOf_nil _ _) mixed atlaslaw23_same.q0.at atlaslaw23_same.q0.np atlaslaw23_same.q0.nn (atlaslaw23_same.q0.z k) (atlaslaw23_same.q0.goes k) k
def atlaslaw23_same.q0.p (k : Nat) : Piece := ⟨[false, true, false, true, true], _, _, atlaslaw23_same.q0.h, atlaslaw23_same.q0.t, atlaslaw23_same.q0.l k k⟩
theorem atlaslaw23_same.q0.ok (k : Nat) : PieceOk Try.prog (bodyOf Try.f19) (atlaslaw23_same.q0.p k) := atlaslaw23_same.q0.ok_ k
def atlaslaw23_same.q1.h : Head (Int × Int × SgL × SyL × Int × SgL × SyL) where
  k γ s F := (sizedN 95 s).bind fun _ => (ptrN 0 (gt s.tm 2)).bind fun b2 => (ptrN 0 (gt s.tm 3)).bind fun b4 => (intO .i64 (gt s.tm 8)).bind fun v6 => (rowN 26 3 s.hp b2).bind fun l8 => (intO .u32 (gt l8 0)).bind fun v10 => (vtO SgC (gt l8 1)).bind fun v12 => (vtO SyC (gt l8 2)).bind fun v14 => (rowN 26 3 s.hp b4).bind fun l16 => (intO .u32 (gt l16 0)).bind fun v18 => (vtO SgC (gt l16 1)).bind fun v20 => (vtO SyC (gt l16 2)).bind fun v22 => (distO [some b2, some b4]).bind fun _ => F (v6, v10, v12, v14, v18, v20, v22)
  st x := ⟨sparseT [(2, (.ptr 0 0)), (3, (.ptr 1 0)), (8, (.val (.int .i64 x.1)))] 95 0, [.row [(.val (.int .u32 x.2.1)), (.vt SgC x.2.2.1), (.vt SyC x.2.2.2.1)] 26 true, .row [(.val (.int .u32 x.2.2.2.2.1)), (.vt SgC x.2.2.2.2.2.1), (.vt SyC x.2.2.2.2.2.2)] 26 true]⟩
  ok γ s F r h := by
    have ⟨_, hz, h⟩ := bs h
    have ⟨b2, h1, h⟩ := bs h
    have ⟨b4, h3, h⟩ := bs h
    have ⟨v6, h5, h⟩ := bs h
    have ⟨l8, h7, h⟩ := bs h
    have ⟨v10, h9, h⟩ := bs h
    have ⟨v12, h11, h⟩ := bs h
    have ⟨v14, h13, h⟩ := bs h
    have ⟨l16, h15, h⟩ := bs h
    have ⟨v18, h17, h⟩ := bs h
    have ⟨v20, h19, h⟩ := bs h
    have ⟨v22, h21, h⟩ := bs h
    have ⟨_, h23, h⟩ := bs h
    exact ⟨_, h, weak_ren (l := [some b2, some b4]) (sizedN_ok hz) (distO_ok h23) (LiveR.cons (RefsR.ptr (l := [some b2, some b4]) (i := 0) rfl (ptrN_eq h1)) (LiveR.cons (RefsR.ptr (l := [some b2, some b4]) (i := 1) rfl (ptrN_eq h3)) (LiveR.cons (pI h5) LiveR.nil))) (BlksR.cons (rowN_refs h7 rfl (GtRefsR.cons (pI h9) (GtRefsR.cons (pV h11) (GtRefsR.cons (pV h13) GtRefsR.nil))) rfl) (BlksR.cons (rowN_refs h15 rfl (GtRefsR.cons (pI h17) (GtRefsR.cons (pV h19) (GtRefsR.cons (pV h21) GtRefsR.nil))) rfl) BlksR.nil))⟩

def atlaslaw23_same.q1.x0 : Head (Bool) where
  k γ s F := (sizedN 95 s).bind fun _ => (boolO (gt s.tm 4)).bind fun v2 => (distO []).bind fun _ => F (v2)
  st x := ⟨sparseT [(4, (.val (.bool x)))] 95 0, []⟩
  ok γ s F r h := by
    have ⟨_, hz, h⟩ := bs h
    have ⟨v2, h1, h⟩ := bs h
    have ⟨_, h3, h⟩ := bs h
    exact ⟨_, h, weak_ren (l := []) (sizedN_ok hz) (distO_ok h3) (LiveR.cons (pB h1) LiveR.nil) BlksR.nil⟩

def atlaslaw23_same.q1.x1 : Head (Unit) where
  k γ s F := (sizedN 95 s).bind fun _ => (distO []).bind fun _ => F ()
  st x := ⟨sparseT [] 95 0, []⟩
  ok γ s F r h := by
    have ⟨_, hz, h⟩ := bs h
    have ⟨_, h1, h⟩ := bs h
    exact ⟨_, h, weak_ren (l := []) (sizedN_ok hz) (distO_ok h1) LiveR.nil BlksR.nil⟩

def atlaslaw23_same.q1.t : Tail ((Bool) ⊕ (Unit)) := Tail.or .ret atlaslaw23_same.q1.x0 (Tail.one (.exit 2) atlaslaw23_same.q1.x1)
theorem atlaslaw23_same.q1.np (y : ((Bool) ⊕ (Unit))) (v : AV) : (atlaslaw23_same.q1.t.out y).1 = .panic v → nomem v = true := fun h => by rcases y with _ | y <;> first | (cases h; done) | (cases h; rfl) | (cases h)
theorem atlaslaw23_same.q1.nn (y : ((Bool) ⊕ (Unit))) : (atlaslaw23_same.q1.t.out y).1 ≠ .normal := fun h => by rcases y with _ | y <;> first | (cases h; done) | (cases h; rfl) | (cases h)
def atlaslaw23_same.q1.l (k : Nat) : Nat → (Int × Int × SgL × SyL × Int × SgL × SyL) → Option ((Bool) ⊕ (Unit))
  | 0, _ => none
  | n + 1, x => (bif (decide (x.1 < ((x.2.2.2.1.length : Nat) : Int))) then (bif (decide (0 ≤ x.1) && decide (x.1 < ((x.2.2.2.1.length : Nat) : Int))) then (bif (decide (0 ≤ x.1) && decide (x.1 < ((x.2.2.2.2.2.2.length : Nat) : Int))) then (bif (!((((x.2.2.2.1.getD (x.1).toNat (ByteArray.empty, 0, ())).1).toList == ((x.2.2.2.2.2.2.getD (x.1).toNat (ByteArray.empty, 0, ())).1).toList) && ((((x.2.2.2.1.getD (x.1).toNat (ByteArray.empty, 0, ())).2.1) == ((x.2.2.2.2.2.2.getD (x.1).toNat (ByteArray.empty, 0, ())).2.1)) && true))) then (some (Sum.inl false)) else (atlaslaw23_same.q1.l k n ((IntKind.wrap .i64 (x.1 + 1)), x.2.1, x.2.2.1, x.2.2.2.1, x.2.2.2.2.1, x.2.2.2.2.2.1, x.2.2.2.2.2.2))) else none) else none) else (some (Sum.inr ())))
theorem atlaslaw23_same.q1.z (k : Nat) (x : (Int × Int × SgL × SyL × Int × SgL × SyL)) : atlaslaw23_same.q1.l k 0 x = none := rfl
theorem atlaslaw23_same.q1.at : codeAt (bodyOf Try.f19) [false, true, false, true, true, true] = some (.loop (loopBody (bodyOf Try.f19) [false, true, false, true, true, true])) := by kernel_rfl
theorem atlaslaw23_same.q1.goes (k n : Nat) (x : (Int × Int × SgL × SyL × Int × SgL × SyL)) : E Try.prog (gamOf []) (lamOf []) (loopBody (bodyOf Try.f19) [false, true, false, true, true, true]) (false :: [false, true, false, true, true, true]) (atlaslaw23_same.q1.h.st x) (contD atlaslaw23_same.q1.h atlaslaw23_same.q1.t (atlaslaw23_same.q1.l k n) some) = atlaslaw23_same.q1.l k (n + 1) x := by
  kernel_rfl
theorem atlaslaw23_same.q1.ok_ (k : Nat) : PieceOk Try.prog (bodyOf Try.f19) ⟨[false, true, false, true, true, true], _, _, atlaslaw23_same.q1.h, atlaslaw23_same.q1.t, atlaslaw23_same.q1.l k k⟩ :=
  piece_loop (gamOf_nil _) (lamOf_nil _ _) mixed atlaslaw23_same.q1.at atlaslaw23_same.q1.np atlaslaw23_same.q1.nn (atlaslaw23_same.q1.z k) (atlaslaw23_same.q1.goes k) k
def atlaslaw23_same.q1.p (k : Nat) : Piece := ⟨[false, true, false, true, true, true], _, _, atlaslaw23_same.q1.h, atlaslaw23_same.q1.t, atlaslaw23_same.q1.l k k⟩
theorem atlaslaw23_same.q1.ok (k : Nat) : PieceOk Try.prog (bodyOf Try.f19) (atlaslaw23_same.q1.p k) := atlaslaw23_same.q1.ok_ k
def atlaslaw23_same.f (k : Nat) (x0 : T25) (x1 : T25) : Option (Bool) := (bif (x0.f0_Entry != x1.f0_Entry) then (some false) else (bif (((x0.f1_Segments.length : Nat) : Int) != ((x1.f1_Segments.length : Nat) : Int)) then (some false) else (bif (((x0.f2_Symbols.length : Nat) : Int) != ((x1.f2_Symbols.length : Nat) : Int)) then (some false) else ((atlaslaw23_same.q0.l k k (0, x0.f0_Entry, x0.f1_Segments, x0.f2_Symbols, x1.f0_Entry, x1.f1_Segments, x1.f2_Symbols)).bind fun r1 => (Sum.elim (fun r2 => (some r2)) (fun r3 => ((atlaslaw23_same.q1.l k k (0, r3.1, r3.2.1, r3.2.2.1, r3.2.2.2.1, r3.2.2.2.2.1, r3.2.2.2.2.2)).bind fun r4 => (Sum.elim (fun r5 => (some r5)) (fun r6 => (some true)) r4))) r1)))))
theorem atlaslaw23_same.run (k : Nat) (x0 : T25) (x1 : T25) : runF Try.prog (gamOf []) (lamOf [atlaslaw23_same.q0.p k, atlaslaw23_same.q1.p k]) Try.f19 [(T25.av x0), (T25.av x1)] some = (atlaslaw23_same.f k x0 x1).bind fun r => some (.ret (.val (.bool r))) := by
  unfold atlaslaw23_same.f
  try simp only [cond_bind, elim_bind, Option.bind_some, Option.bind_none, Option.bind_assoc, Sum.elim_inl, Sum.elim_inr]
  kernel_rfl
def atlaslaw23_same.g (k : Nat) : GFun := fun β args K => match args with
  | [a0, a1] => (T25.of a0).bind fun x0 => (T25.of a1).bind fun x1 => (atlaslaw23_same.f k x0 x1).bind fun r => K (.ret (.val (.bool r)))
  | _ => none
theorem atlaslaw23_same.callable : callable Try.prog 19 = true := callable_of Try.func19 (by kernel_rfl)
theorem atlaslaw23_same.ok (k : Nat) : GOk Try.prog 19 (atlaslaw23_same.g k) := by
  intro β args K r h
  unfold atlaslaw23_same.g at h
  split at h
  · obtain ⟨x0, e0, h⟩ := bs h
    have ⟨x1, e1, h⟩ := bs h
    obtain ⟨y, hy, hK⟩ := bs h
    have hrun := atlaslaw23_same.run k x0 x1
    rw [hy] at hrun
    obtain ⟨out, e, hs⟩ := sim_of_run Try.func19 (by kernel_rfl) mixed (gamOf_nil _) (lamOf_cons (atlaslaw23_same.q0.ok k) (lamOf_cons (atlaslaw23_same.q1.ok k) (lamOf_nil _ _))) (args' := [(T25.av x0), (T25.av x1)]) (RefsL.cons (T25.refs e0) (RefsL.cons (T25.refs e1) RefsL.nil)) hrun
    simp only [Option.some.injEq] at e
    subst e
    exact ⟨_, hK, hs⟩
  · cases h
/-! ### atlas/elf.must: function 43 -/
def elf_must.f (x0 : Bool) (x1 : Int) : Option (T77 ⊕ (Unit)) := (bif (!x0) then (some (Sum.inl (⟨x1⟩ : T77))) else (some (Sum.inr ())))
theorem elf_must.run (x0 : Bool) (x1 : Int) : runF Try.prog (gamOf []) noLam Try.f43 [(.val (.bool x0)), (.val (.int .i64 x1))] some = (elf_must.f x0 x1).bind fun r => Sum.elim (fun e => some (.pan (.iface 78 (T77.av e)))) (fun r => some (.ret (.tup []))) r := by
  unfold elf_must.f
  try simp only [cond_bind, elim_bind, Option.bind_some, Option.bind_none, Option.bind_assoc, Sum.elim_inl, Sum.elim_inr]
  kernel_rfl
def elf_must.g : GFun := fun β args K => match args with
  | [a0, a1] => (boolO a0).bind fun x0 => (intO .i64 a1).bind fun x1 => (elf_must.f x0 x1).bind fun r => Sum.elim (fun e => K (.pan (.iface 78 (T77.av e)))) (fun r => K (.ret (.tup []))) r
  | _ => none
theorem elf_must.callable : callable Try.prog 43 = true := callable_of Try.func43 (by kernel_rfl)
theorem elf_must.ok : GOk Try.prog 43 (elf_must.g) := by
  intro β args K r h
  unfold elf_must.g at h
  split at h
  · obtain ⟨x0, e0, h⟩ := bs h
    have ⟨x1, e1, h⟩ := bs h
    obtain ⟨y, hy, hK⟩ := bs h
    have hrun := elf_must.run x0 x1
    rw [hy] at hrun
    cases y with
    | inl z =>
      obtain ⟨out, e, hs⟩ := sim_of_run Try.func43 (by kernel_rfl) mixed (gamOf_nil _) (noLam_ok _ _) (args' := [(.val (.bool x0)), (.val (.int .i64 x1))]) (RefsL.cons (Refs.of_eq (boolO_eq e0)) (RefsL.cons (Refs.of_eq (intO_eq e1)) RefsL.nil)) hrun
      simp only [Option.some.injEq] at e
      subst e
      exact ⟨_, hK, hs⟩
    | inr z =>
      obtain ⟨out, e, hs⟩ := sim_of_run Try.func43 (by kernel_rfl) mixed (gamOf_nil _) (noLam_ok _ _) (args' := [(.val (.bool x0)), (.val (.int .i64 x1))]) (RefsL.cons (Refs.of_eq (boolO_eq e0)) (RefsL.cons (Refs.of_eq (intO_eq e1)) RefsL.nil)) hrun
      simp only [Option.some.injEq] at e
      subst e
      exact ⟨_, hK, hs⟩
  · cases h
end Go.Va
