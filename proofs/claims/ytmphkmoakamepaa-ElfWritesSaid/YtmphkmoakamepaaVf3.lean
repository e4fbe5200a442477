-- Written by a program of this session (wip/va/vaprint.py). Not trusted: Lean checks it.
import Derived.Test.YtmphkmoakamepaaVaTy
import Derived.Test.YtmphkmoakamepaaVf1
import Derived.Test.YtmphkmoakamepaaVf2
set_option linter.unusedVariables false
set_option linter.unusedSimpArgs false
set_option autoImplicit false
set_option maxRecDepth 100000
namespace Go.Va
open Go.Proofs
/-! ### atlas/elf.Write: function 17 -/
def elf_Write.q0.h : Head ((List (Int × Int × (Bool × Bool × Bool × Unit) × (List Int) × Unit)) × Int × Int × Int × (List (Int × Int × (Bool × Bool × Bool × Unit) × (List Int) × Unit)) × (List (ByteArray × Int × Unit)) × (List Int) × Int × Int × Int × Int × Int × (List Int)) where
  k γ s F := (sizedN 126 s).bind fun _ => (ptrN 0 (gt s.tm 1)).bind fun b2 => (ptrN 0 (gt s.tm 4)).bind fun b4 => (ptrN 0 (gt s.tm 5)).bind fun b6 => (vtO (.pair (.int .u32) (.pair (.int .u32) (.pair (.pair .bool (.pair .bool (.pair .bool .unit))) (.pair (.vec (.int .u8)) .unit)))) (gt s.tm 55)).bind fun v8 => (intO .i64 (gt s.tm 56)).bind fun v10 => (intO .i64 (gt s.tm 57)).bind fun v12 => (rowN 26 3 s.hp b2).bind fun l14 => (intO .u32 (gt l14 0)).bind fun v16 => (vtO (.pair (.int .u32) (.pair (.int .u32) (.pair (.pair .bool (.pair .bool (.pair .bool .unit))) (.pair (.vec (.int .u8)) .unit)))) (gt l14 1)).bind fun v18 => (vtO (.pair .str (.pair (.int .u32) .unit)) (gt l14 2)).bind fun v20 => (rowN 59 6 s.hp b4).bind fun l22 => (vtO (.int .u64) (gt l22 0)).bind fun v24 => (intO .u64 (gt l22 1)).bind fun v26 => (intO .u64 (gt l22 2)).bind fun v28 => (intO .u64 (gt l22 3)).bind fun v30 => (intO .u64 (gt l22 4)).bind fun v32 => (intO .u64 (gt l22 5)).bind fun v34 => (rowN 63 1 s.hp b6).bind fun l36 => (soN 1 s.hp (gt l36 0)).bind fun b38 => (rtN (.int .u8) 5 s.hp b38).bind fun v40 => (distO [some b2, some b4, some b6, b38]).bind fun _ => F (v8, v10, v12, v16, v18, v20, v24, v26, v28, v30, v32, v34, v40)
  st x := ⟨sparseT [(1, (.ptr 0 0)), (4, (.ptr 1 0)), (5, (.ptr 2 0)), (55, (.vt (.pair (.int .u32) (.pair (.int .u32) (.pair (.pair .bool (.pair .bool (.pair .bool .unit))) (.pair (.vec (.int .u8)) .unit)))) x.1)), (56, (.val (.int .i64 x.2.1))), (57, (.val (.int .i64 x.2.2.1)))] 126 0, [.row [(.val (.int .u32 x.2.2.2.1)), (.vt (.pair (.int .u32) (.pair (.int .u32) (.pair (.pair .bool (.pair .bool (.pair .bool .unit))) (.pair (.vec (.int .u8)) .unit)))) x.2.2.2.2.1), (.vt (.pair .str (.pair (.int .u32) .unit)) x.2.2.2.2.2.1)] 26 true, .row [(.vt (.int .u64) x.2.2.2.2.2.2.1), (.val (.int .u64 x.2.2.2.2.2.2.2.1)), (.val (.int .u64 x.2.2.2.2.2.2.2.2.1)), (.val (.int .u64 x.2.2.2.2.2.2.2.2.2.1)), (.val (.int .u64 x.2.2.2.2.2.2.2.2.2.2.1)), (.val (.int .u64 x.2.2.2.2.2.2.2.2.2.2.2.1))] 59 true, .row [(.so 3 1)] 63 false, .rt (.int .u8) x.2.2.2.2.2.2.2.2.2.2.2.2 5]⟩
  ok γ s F r h := by
    obtain ⟨_, hz, h⟩ := Option.bind_eq_some_iff.1 h
    obtain ⟨b2, h1, h⟩ := Option.bind_eq_some_iff.1 h
    obtain ⟨b4, h3, h⟩ := Option.bind_eq_some_iff.1 h
    obtain ⟨b6, h5, h⟩ := Option.bind_eq_some_iff.1 h
    obtain ⟨v8, h7, h⟩ := Option.bind_eq_some_iff.1 h
    obtain ⟨v10, h9, h⟩ := Option.bind_eq_some_iff.1 h
    obtain ⟨v12, h11, h⟩ := Option.bind_eq_some_iff.1 h
    obtain ⟨l14, h13, h⟩ := Option.bind_eq_some_iff.1 h
    obtain ⟨v16, h15, h⟩ := Option.bind_eq_some_iff.1 h
    obtain ⟨v18, h17, h⟩ := Option.bind_eq_some_iff.1 h
    obtain ⟨v20, h19, h⟩ := Option.bind_eq_some_iff.1 h
    obtain ⟨l22, h21, h⟩ := Option.bind_eq_some_iff.1 h
    obtain ⟨v24, h23, h⟩ := Option.bind_eq_some_iff.1 h
    obtain ⟨v26, h25, h⟩ := Option.bind_eq_some_iff.1 h
    obtain ⟨v28, h27, h⟩ := Option.bind_eq_some_iff.1 h
    obtain ⟨v30, h29, h⟩ := Option.bind_eq_some_iff.1 h
    obtain ⟨v32, h31, h⟩ := Option.bind_eq_some_iff.1 h
    obtain ⟨v34, h33, h⟩ := Option.bind_eq_some_iff.1 h
    obtain ⟨l36, h35, h⟩ := Option.bind_eq_some_iff.1 h
    obtain ⟨b38, h37, h⟩ := Option.bind_eq_some_iff.1 h
    obtain ⟨v40, h39, h⟩ := Option.bind_eq_some_iff.1 h
    obtain ⟨_, h41, h⟩ := Option.bind_eq_some_iff.1 h
    exact ⟨_, h, weak_ren (l := [some b2, some b4, some b6, b38]) (sizedN_ok hz) (distO_ok h41) (LiveR.cons (RefsR.ptr (l := [some b2, some b4, some b6, b38]) (i := 0) rfl (ptrN_eq h1)) (LiveR.cons (RefsR.ptr (l := [some b2, some b4, some b6, b38]) (i := 1) rfl (ptrN_eq h3)) (LiveR.cons (RefsR.ptr (l := [some b2, some b4, some b6, b38]) (i := 2) rfl (ptrN_eq h5)) (LiveR.cons (RefsR.plain (vtO_refs h7) rfl) (LiveR.cons (RefsR.plain (Refs.of_eq (intO_eq h9)) rfl) (LiveR.cons (RefsR.plain (Refs.of_eq (intO_eq h11)) rfl) LiveR.nil)))))) (BlksR.cons (rowN_refs h13 rfl (GtRefsR.cons (RefsR.plain (Refs.of_eq (intO_eq h15)) rfl) (GtRefsR.cons (RefsR.plain (vtO_refs h17) rfl) (GtRefsR.cons (RefsR.plain (vtO_refs h19) rfl) GtRefsR.nil))) rfl) (BlksR.cons (rowN_refs h21 rfl (GtRefsR.cons (RefsR.plain (vtO_refs h23) rfl) (GtRefsR.cons (RefsR.plain (Refs.of_eq (intO_eq h25)) rfl) (GtRefsR.cons (RefsR.plain (Refs.of_eq (intO_eq h27)) rfl) (GtRefsR.cons (RefsR.plain (Refs.of_eq (intO_eq h29)) rfl) (GtRefsR.cons (RefsR.plain (Refs.of_eq (intO_eq h31)) rfl) (GtRefsR.cons (RefsR.plain (Refs.of_eq (intO_eq h33)) rfl) GtRefsR.nil)))))) rfl) (BlksR.cons (rowN_refs h35 rfl (GtRefsR.cons (RefsR.so (l := [some b2, some b4, some b6, b38]) (i := 3) rfl (Nat.le_of_ble_eq_true rfl) h37) GtRefsR.nil) rfl) (BlksR.cons (rtN_blk h39) BlksR.nil))))⟩

def elf_Write.q0.x0 : Head (Int × (List (Int × Int × (Bool × Bool × Bool × Unit) × (List Int) × Unit)) × (List (ByteArray × Int × Unit)) × (List Int) × Int × Int × Int × Int × Int × (List Int)) where
  k γ s F := (sizedN 126 s).bind fun _ => (ptrN 0 (gt s.tm 1)).bind fun b2 => (ptrN 0 (gt s.tm 4)).bind fun b4 => (ptrN 0 (gt s.tm 5)).bind fun b6 => (rowN 26 3 s.hp b2).bind fun l8 => (intO .u32 (gt l8 0)).bind fun v10 => (vtO (.pair (.int .u32) (.pair (.int .u32) (.pair (.pair .bool (.pair .bool (.pair .bool .unit))) (.pair (.vec (.int .u8)) .unit)))) (gt l8 1)).bind fun v12 => (vtO (.pair .str (.pair (.int .u32) .unit)) (gt l8 2)).bind fun v14 => (rowN 59 6 s.hp b4).bind fun l16 => (vtO (.int .u64) (gt l16 0)).bind fun v18 => (intO .u64 (gt l16 1)).bind fun v20 => (intO .u64 (gt l16 2)).bind fun v22 => (intO .u64 (gt l16 3)).bind fun v24 => (intO .u64 (gt l16 4)).bind fun v26 => (intO .u64 (gt l16 5)).bind fun v28 => (rowN 63 1 s.hp b6).bind fun l30 => (soN 1 s.hp (gt l30 0)).bind fun b32 => (rtN (.int .u8) 5 s.hp b32).bind fun v34 => (distO [some b2, some b4, some b6, b32]).bind fun _ => F (v10, v12, v14, v18, v20, v22, v24, v26, v28, v34)
  st x := ⟨sparseT [(1, (.ptr 0 0)), (4, (.ptr 1 0)), (5, (.ptr 2 0))] 126 0, [.row [(.val (.int .u32 x.1)), (.vt (.pair (.int .u32) (.pair (.int .u32) (.pair (.pair .bool (.pair .bool (.pair .bool .unit))) (.pair (.vec (.int .u8)) .unit)))) x.2.1), (.vt (.pair .str (.pair (.int .u32) .unit)) x.2.2.1)] 26 true, .row [(.vt (.int .u64) x.2.2.2.1), (.val (.int .u64 x.2.2.2.2.1)), (.val (.int .u64 x.2.2.2.2.2.1)), (.val (.int .u64 x.2.2.2.2.2.2.1)), (.val (.int .u64 x.2.2.2.2.2.2.2.1)), (.val (.int .u64 x.2.2.2.2.2.2.2.2.1))] 59 true, .row [(.so 3 1)] 63 false, .rt (.int .u8) x.2.2.2.2.2.2.2.2.2 5]⟩
  ok γ s F r h := by
    obtain ⟨_, hz, h⟩ := Option.bind_eq_some_iff.1 h
    obtain ⟨b2, h1, h⟩ := Option.bind_eq_some_iff.1 h
    obtain ⟨b4, h3, h⟩ := Option.bind_eq_some_iff.1 h
    obtain ⟨b6, h5, h⟩ := Option.bind_eq_some_iff.1 h
    obtain ⟨l8, h7, h⟩ := Option.bind_eq_some_iff.1 h
    obtain ⟨v10, h9, h⟩ := Option.bind_eq_some_iff.1 h
    obtain ⟨v12, h11, h⟩ := Option.bind_eq_some_iff.1 h
    obtain ⟨v14, h13, h⟩ := Option.bind_eq_some_iff.1 h
    obtain ⟨l16, h15, h⟩ := Option.bind_eq_some_iff.1 h
    obtain ⟨v18, h17, h⟩ := Option.bind_eq_some_iff.1 h
    obtain ⟨v20, h19, h⟩ := Option.bind_eq_some_iff.1 h
    obtain ⟨v22, h21, h⟩ := Option.bind_eq_some_iff.1 h
    obtain ⟨v24, h23, h⟩ := Option.bind_eq_some_iff.1 h
    obtain ⟨v26, h25, h⟩ := Option.bind_eq_some_iff.1 h
    obtain ⟨v28, h27, h⟩ := Option.bind_eq_some_iff.1 h
    obtain ⟨l30, h29, h⟩ := Option.bind_eq_some_iff.1 h
    obtain ⟨b32, h31, h⟩ := Option.bind_eq_some_iff.1 h
    obtain ⟨v34, h33, h⟩ := Option.bind_eq_some_iff.1 h
    obtain ⟨_, h35, h⟩ := Option.bind_eq_some_iff.1 h
    exact ⟨_, h, weak_ren (l := [some b2, some b4, some b6, b32]) (sizedN_ok hz) (distO_ok h35) (LiveR.cons (RefsR.ptr (l := [some b2, some b4, some b6, b32]) (i := 0) rfl (ptrN_eq h1)) (LiveR.cons (RefsR.ptr (l := [some b2, some b4, some b6, b32]) (i := 1) rfl (ptrN_eq h3)) (LiveR.cons (RefsR.ptr (l := [some b2, some b4, some b6, b32]) (i := 2) rfl (ptrN_eq h5)) LiveR.nil))) (BlksR.cons (rowN_refs h7 rfl (GtRefsR.cons (RefsR.plain (Refs.of_eq (intO_eq h9)) rfl) (GtRefsR.cons (RefsR.plain (vtO_refs h11) rfl) (GtRefsR.cons (RefsR.plain (vtO_refs h13) rfl) GtRefsR.nil))) rfl) (BlksR.cons (rowN_refs h15 rfl (GtRefsR.cons (RefsR.plain (vtO_refs h17) rfl) (GtRefsR.cons (RefsR.plain (Refs.of_eq (intO_eq h19)) rfl) (GtRefsR.cons (RefsR.plain (Refs.of_eq (intO_eq h21)) rfl) (GtRefsR.cons (RefsR.plain (Refs.of_eq (intO_eq h23)) rfl) (GtRefsR.cons (RefsR.plain (Refs.of_eq (intO_eq h25)) rfl) (GtRefsR.cons (RefsR.plain (Refs.of_eq (intO_eq h27)) rfl) GtRefsR.nil)))))) rfl) (BlksR.cons (rowN_refs h29 rfl (GtRefsR.cons (RefsR.so (l := [some b2, some b4, some b6, b32]) (i := 3) rfl (Nat.le_of_ble_eq_true rfl) h31) GtRefsR.nil) rfl) (BlksR.cons (rtN_blk h33) BlksR.nil))))⟩

def elf_Write.q0.t : Tail (Int × (List (Int × Int × (Bool × Bool × Bool × Unit) × (List Int) × Unit)) × (List (ByteArray × Int × Unit)) × (List Int) × Int × Int × Int × Int × Int × (List Int)) := Tail.one (.exit 0) elf_Write.q0.x0
theorem elf_Write.q0.np (y : (Int × (List (Int × Int × (Bool × Bool × Bool × Unit) × (List Int) × Unit)) × (List (ByteArray × Int × Unit)) × (List Int) × Int × Int × Int × Int × Int × (List Int))) (v : AV) : (elf_Write.q0.t.out y).1 ≠ .panic v := fun h => by cases h
theorem elf_Write.q0.nn (y : (Int × (List (Int × Int × (Bool × Bool × Bool × Unit) × (List Int) × Unit)) × (List (ByteArray × Int × Unit)) × (List Int) × Int × Int × Int × Int × Int × (List Int))) : (elf_Write.q0.t.out y).1 ≠ .normal := fun h => by cases h
def elf_Write.q0.l (k : Nat) : Nat → ((List (Int × Int × (Bool × Bool × Bool × Unit) × (List Int) × Unit)) × Int × Int × Int × (List (Int × Int × (Bool × Bool × Bool × Unit) × (List Int) × Unit)) × (List (ByteArray × Int × Unit)) × (List Int) × Int × Int × Int × Int × Int × (List Int)) → Option (Int × (List (Int × Int × (Bool × Bool × Bool × Unit) × (List Int) × Unit)) × (List (ByteArray × Int × Unit)) × (List Int) × Int × Int × Int × Int × Int × (List Int))
  | 0, _ => none
  | n + 1, x => (bif (decide (x.2.2.1 < x.2.1)) then (bif (decide (0 ≤ x.2.2.1) && decide (x.2.2.1 < ((x.1.length : Nat) : Int))) then (bif (decide (0 ≤ x.2.2.1) && decide (x.2.2.1 < ((x.2.2.2.2.2.2.1.length : Nat) : Int))) then ((elf_bits.f (⟨(x.1.getD (x.2.2.1).toNat (0, 0, (false, false, false, ()), [], ())).2.2.1.1, (x.1.getD (x.2.2.1).toNat (0, 0, (false, false, false, ()), [], ())).2.2.1.2.1, (x.1.getD (x.2.2.1).toNat (0, 0, (false, false, false, ()), [], ())).2.2.1.2.2.1⟩ : T43)).bind fun r6 => ((elf_writer_word.f k x.2.2.2.2.2.2.2.2.2.2.2.2 ([1, (IntKind.wrap .u32 (x.2.2.2.2.2.2.1.getD (x.2.2.1).toNat 0)), (x.1.getD (x.2.2.1).toNat (0, 0, (false, false, false, ()), [], ())).1, (x.1.getD (x.2.2.1).toNat (0, 0, (false, false, false, ()), [], ())).1, (IntKind.wrap .u32 ((((x.1.getD (x.2.2.1).toNat (0, 0, (false, false, false, ()), [], ())).2.2.2.1).length : Nat) : Int)), (x.1.getD (x.2.2.1).toNat (0, 0, (false, false, false, ()), [], ())).2.1, r6, 4096] : List Int)).bind fun r7 => (elf_Write.q0.l k n (x.1, x.2.1, (IntKind.wrap .i64 (x.2.2.1 + 1)), x.2.2.2.1, x.2.2.2.2.1, x.2.2.2.2.2.1, x.2.2.2.2.2.2.1, x.2.2.2.2.2.2.2.1, x.2.2.2.2.2.2.2.2.1, x.2.2.2.2.2.2.2.2.2.1, x.2.2.2.2.2.2.2.2.2.2.1, x.2.2.2.2.2.2.2.2.2.2.2.1, r7)))) else none) else none) else (some (x.2.2.2.1, x.2.2.2.2.1, x.2.2.2.2.2.1, x.2.2.2.2.2.2.1, x.2.2.2.2.2.2.2.1, x.2.2.2.2.2.2.2.2.1, x.2.2.2.2.2.2.2.2.2.1, x.2.2.2.2.2.2.2.2.2.2.1, x.2.2.2.2.2.2.2.2.2.2.2.1, x.2.2.2.2.2.2.2.2.2.2.2.2)))
theorem elf_Write.q0.z (k : Nat) (x : ((List (Int × Int × (Bool × Bool × Bool × Unit) × (List Int) × Unit)) × Int × Int × Int × (List (Int × Int × (Bool × Bool × Bool × Unit) × (List Int) × Unit)) × (List (ByteArray × Int × Unit)) × (List Int) × Int × Int × Int × Int × Int × (List Int))) : elf_Write.q0.l k 0 x = none := rfl
theorem elf_Write.q0.at : codeAt (bodyOf Try.f17) [false, true, false, true, true, true, true, true, true, true, true, true, true, true] = some (.loop (loopBody (bodyOf Try.f17) [false, true, false, true, true, true, true, true, true, true, true, true, true, true])) := by kernel_rfl
theorem elf_Write.q0.goes (k n : Nat) (x : ((List (Int × Int × (Bool × Bool × Bool × Unit) × (List Int) × Unit)) × Int × Int × Int × (List (Int × Int × (Bool × Bool × Bool × Unit) × (List Int) × Unit)) × (List (ByteArray × Int × Unit)) × (List Int) × Int × Int × Int × Int × Int × (List Int))) : E Try.prog (gamW (gamOf [(15, elf_Right.g k), (31, elf_laid.g k), (34, elf_bits.g)]) [(32, elf_writer_half.w k), (33, elf_writer_word.w k)]) (lamOf []) (loopBody (bodyOf Try.f17) [false, true, false, true, true, true, true, true, true, true, true, true, true, true]) (false :: [false, true, false, true, true, true, true, true, true, true, true, true, true, true]) (elf_Write.q0.h.st x) (contD elf_Write.q0.h elf_Write.q0.t (elf_Write.q0.l k n) some) = elf_Write.q0.l k (n + 1) x := by
  kernel_rfl
theorem elf_Write.q0.ok_ (k : Nat) : PieceOk Try.prog (bodyOf Try.f17) ⟨[false, true, false, true, true, true, true, true, true, true, true, true, true, true], _, _, elf_Write.q0.h, elf_Write.q0.t, elf_Write.q0.l k k⟩ :=
  piece_loop (gamW_ok (gamOf_cons (elf_Right.ok k) elf_Right.callable (gamOf_cons (elf_laid.ok k) elf_laid.callable (gamOf_cons (elf_bits.ok) elf_bits.callable (gamOf_nil _)))) (wsOk_cons (elf_writer_half.wok k) elf_writer_half.callable (wsOk_cons (elf_writer_word.wok k) elf_writer_word.callable (wsOk_nil _)))) (lamOf_nil _ _) mixed elf_Write.q0.at elf_Write.q0.np elf_Write.q0.nn (elf_Write.q0.z k) (elf_Write.q0.goes k) k
def elf_Write.q0.p (k : Nat) : Piece := ⟨[false, true, false, true, true, true, true, true, true, true, true, true, true, true], _, _, elf_Write.q0.h, elf_Write.q0.t, elf_Write.q0.l k k⟩
theorem elf_Write.q0.ok (k : Nat) : PieceOk Try.prog (bodyOf Try.f17) (elf_Write.q0.p k) := elf_Write.q0.ok_ k
def elf_Write.q1.h : Head ((List (Int × Int × (Bool × Bool × Bool × Unit) × (List Int) × Unit)) × Int × Int × Int × (List (Int × Int × (Bool × Bool × Bool × Unit) × (List Int) × Unit)) × (List (ByteArray × Int × Unit)) × (List Int) × Int × Int × Int × Int × Int × (List Int)) where
  k γ s F := (sizedN 126 s).bind fun _ => (ptrN 0 (gt s.tm 1)).bind fun b2 => (ptrN 0 (gt s.tm 4)).bind fun b4 => (ptrN 0 (gt s.tm 5)).bind fun b6 => (vtO (.pair (.int .u32) (.pair (.int .u32) (.pair (.pair .bool (.pair .bool (.pair .bool .unit))) (.pair (.vec (.int .u8)) .unit)))) (gt s.tm 86)).bind fun v8 => (intO .i64 (gt s.tm 87)).bind fun v10 => (intO .i64 (gt s.tm 88)).bind fun v12 => (rowN 26 3 s.hp b2).bind fun l14 => (intO .u32 (gt l14 0)).bind fun v16 => (vtO (.pair (.int .u32) (.pair (.int .u32) (.pair (.pair .bool (.pair .bool (.pair .bool .unit))) (.pair (.vec (.int .u8)) .unit)))) (gt l14 1)).bind fun v18 => (vtO (.pair .str (.pair (.int .u32) .unit)) (gt l14 2)).bind fun v20 => (rowN 59 6 s.hp b4).bind fun l22 => (vtO (.int .u64) (gt l22 0)).bind fun v24 => (intO .u64 (gt l22 1)).bind fun v26 => (intO .u64 (gt l22 2)).bind fun v28 => (intO .u64 (gt l22 3)).bind fun v30 => (intO .u64 (gt l22 4)).bind fun v32 => (intO .u64 (gt l22 5)).bind fun v34 => (rowN 63 1 s.hp b6).bind fun l36 => (soN 1 s.hp (gt l36 0)).bind fun b38 => (rtN (.int .u8) 5 s.hp b38).bind fun v40 => (distO [some b2, some b4, some b6, b38]).bind fun _ => F (v8, v10, v12, v16, v18, v20, v24, v26, v28, v30, v32, v34, v40)
  st x := ⟨sparseT [(1, (.ptr 0 0)), (4, (.ptr 1 0)), (5, (.ptr 2 0)), (86, (.vt (.pair (.int .u32) (.pair (.int .u32) (.pair (.pair .bool (.pair .bool (.pair .bool .unit))) (.pair (.vec (.int .u8)) .unit)))) x.1)), (87, (.val (.int .i64 x.2.1))), (88, (.val (.int .i64 x.2.2.1)))] 126 0, [.row [(.val (.int .u32 x.2.2.2.1)), (.vt (.pair (.int .u32) (.pair (.int .u32) (.pair (.pair .bool (.pair .bool (.pair .bool .unit))) (.pair (.vec (.int .u8)) .unit)))) x.2.2.2.2.1), (.vt (.pair .str (.pair (.int .u32) .unit)) x.2.2.2.2.2.1)] 26 true, .row [(.vt (.int .u64) x.2.2.2.2.2.2.1), (.val (.int .u64 x.2.2.2.2.2.2.2.1)), (.val (.int .u64 x.2.2.2.2.2.2.2.2.1)), (.val (.int .u64 x.2.2.2.2.2.2.2.2.2.1)), (.val (.int .u64 x.2.2.2.2.2.2.2.2.2.2.1)), (.val (.int .u64 x.2.2.2.2.2.2.2.2.2.2.2.1))] 59 true, .row [(.so 3 1)] 63 false, .rt (.int .u8) x.2.2.2.2.2.2.2.2.2.2.2.2 5]⟩
  ok γ s F r h := by
    obtain ⟨_, hz, h⟩ := Option.bind_eq_some_iff.1 h
    obtain ⟨b2, h1, h⟩ := Option.bind_eq_some_iff.1 h
    obtain ⟨b4, h3, h⟩ := Option.bind_eq_some_iff.1 h
    obtain ⟨b6, h5, h⟩ := Option.bind_eq_some_iff.1 h
    obtain ⟨v8, h7, h⟩ := Option.bind_eq_some_iff.1 h
    obtain ⟨v10, h9, h⟩ := Option.bind_eq_some_iff.1 h
    obtain ⟨v12, h11, h⟩ := Option.bind_eq_some_iff.1 h
    obtain ⟨l14, h13, h⟩ := Option.bind_eq_some_iff.1 h
    obtain ⟨v16, h15, h⟩ := Option.bind_eq_some_iff.1 h
    obtain ⟨v18, h17, h⟩ := Option.bind_eq_some_iff.1 h
    obtain ⟨v20, h19, h⟩ := Option.bind_eq_some_iff.1 h
    obtain ⟨l22, h21, h⟩ := Option.bind_eq_some_iff.1 h
    obtain ⟨v24, h23, h⟩ := Option.bind_eq_some_iff.1 h
    obtain ⟨v26, h25, h⟩ := Option.bind_eq_some_iff.1 h
    obtain ⟨v28, h27, h⟩ := Option.bind_eq_some_iff.1 h
    obtain ⟨v30, h29, h⟩ := Option.bind_eq_some_iff.1 h
    obtain ⟨v32, h31, h⟩ := Option.bind_eq_some_iff.1 h
    obtain ⟨v34, h33, h⟩ := Option.bind_eq_some_iff.1 h
    obtain ⟨l36, h35, h⟩ := Option.bind_eq_some_iff.1 h
    obtain ⟨b38, h37, h⟩ := Option.bind_eq_some_iff.1 h
    obtain ⟨v40, h39, h⟩ := Option.bind_eq_some_iff.1 h
    obtain ⟨_, h41, h⟩ := Option.bind_eq_some_iff.1 h
    exact ⟨_, h, weak_ren (l := [some b2, some b4, some b6, b38]) (sizedN_ok hz) (distO_ok h41) (LiveR.cons (RefsR.ptr (l := [some b2, some b4, some b6, b38]) (i := 0) rfl (ptrN_eq h1)) (LiveR.cons (RefsR.ptr (l := [some b2, some b4, some b6, b38]) (i := 1) rfl (ptrN_eq h3)) (LiveR.cons (RefsR.ptr (l := [some b2, some b4, some b6, b38]) (i := 2) rfl (ptrN_eq h5)) (LiveR.cons (RefsR.plain (vtO_refs h7) rfl) (LiveR.cons (RefsR.plain (Refs.of_eq (intO_eq h9)) rfl) (LiveR.cons (RefsR.plain (Refs.of_eq (intO_eq h11)) rfl) LiveR.nil)))))) (BlksR.cons (rowN_refs h13 rfl (GtRefsR.cons (RefsR.plain (Refs.of_eq (intO_eq h15)) rfl) (GtRefsR.cons (RefsR.plain (vtO_refs h17) rfl) (GtRefsR.cons (RefsR.plain (vtO_refs h19) rfl) GtRefsR.nil))) rfl) (BlksR.cons (rowN_refs h21 rfl (GtRefsR.cons (RefsR.plain (vtO_refs h23) rfl) (GtRefsR.cons (RefsR.plain (Refs.of_eq (intO_eq h25)) rfl) (GtRefsR.cons (RefsR.plain (Refs.of_eq (intO_eq h27)) rfl) (GtRefsR.cons (RefsR.plain (Refs.of_eq (intO_eq h29)) rfl) (GtRefsR.cons (RefsR.plain (Refs.of_eq (intO_eq h31)) rfl) (GtRefsR.cons (RefsR.plain (Refs.of_eq (intO_eq h33)) rfl) GtRefsR.nil)))))) rfl) (BlksR.cons (rowN_refs h35 rfl (GtRefsR.cons (RefsR.so (l := [some b2, some b4, some b6, b38]) (i := 3) rfl (Nat.le_of_ble_eq_true rfl) h37) GtRefsR.nil) rfl) (BlksR.cons (rtN_blk h39) BlksR.nil))))⟩

def elf_Write.q1.x0 : Head (Int × (List (Int × Int × (Bool × Bool × Bool × Unit) × (List Int) × Unit)) × (List (ByteArray × Int × Unit)) × (List Int) × Int × Int × Int × Int × Int × (List Int)) where
  k γ s F := (sizedN 126 s).bind fun _ => (ptrN 0 (gt s.tm 1)).bind fun b2 => (ptrN 0 (gt s.tm 4)).bind fun b4 => (ptrN 0 (gt s.tm 5)).bind fun b6 => (rowN 26 3 s.hp b2).bind fun l8 => (intO .u32 (gt l8 0)).bind fun v10 => (vtO (.pair (.int .u32) (.pair (.int .u32) (.pair (.pair .bool (.pair .bool (.pair .bool .unit))) (.pair (.vec (.int .u8)) .unit)))) (gt l8 1)).bind fun v12 => (vtO (.pair .str (.pair (.int .u32) .unit)) (gt l8 2)).bind fun v14 => (rowN 59 6 s.hp b4).bind fun l16 => (vtO (.int .u64) (gt l16 0)).bind fun v18 => (intO .u64 (gt l16 1)).bind fun v20 => (intO .u64 (gt l16 2)).bind fun v22 => (intO .u64 (gt l16 3)).bind fun v24 => (intO .u64 (gt l16 4)).bind fun v26 => (intO .u64 (gt l16 5)).bind fun v28 => (rowN 63 1 s.hp b6).bind fun l30 => (soN 1 s.hp (gt l30 0)).bind fun b32 => (rtN (.int .u8) 5 s.hp b32).bind fun v34 => (distO [some b2, some b4, some b6, b32]).bind fun _ => F (v10, v12, v14, v18, v20, v22, v24, v26, v28, v34)
  st x := ⟨sparseT [(1, (.ptr 0 0)), (4, (.ptr 1 0)), (5, (.ptr 2 0))] 126 0, [.row [(.val (.int .u32 x.1)), (.vt (.pair (.int .u32) (.pair (.int .u32) (.pair (.pair .bool (.pair .bool (.pair .bool .unit))) (.pair (.vec (.int .u8)) .unit)))) x.2.1), (.vt (.pair .str (.pair (.int .u32) .unit)) x.2.2.1)] 26 true, .row [(.vt (.int .u64) x.2.2.2.1), (.val (.int .u64 x.2.2.2.2.1)), (.val (.int .u64 x.2.2.2.2.2.1)), (.val (.int .u64 x.2.2.2.2.2.2.1)), (.val (.int .u64 x.2.2.2.2.2.2.2.1)), (.val (.int .u64 x.2.2.2.2.2.2.2.2.1))] 59 true, .row [(.so 3 1)] 63 false, .rt (.int .u8) x.2.2.2.2.2.2.2.2.2 5]⟩
  ok γ s F r h := by
    obtain ⟨_, hz, h⟩ := Option.bind_eq_some_iff.1 h
    obtain ⟨b2, h1, h⟩ := Option.bind_eq_some_iff.1 h
    obtain ⟨b4, h3, h⟩ := Option.bind_eq_some_iff.1 h
    obtain ⟨b6, h5, h⟩ := Option.bind_eq_some_iff.1 h
    obtain ⟨l8, h7, h⟩ := Option.bind_eq_some_iff.1 h
    obtain ⟨v10, h9, h⟩ := Option.bind_eq_some_iff.1 h
    obtain ⟨v12, h11, h⟩ := Option.bind_eq_some_iff.1 h
    obtain ⟨v14, h13, h⟩ := Option.bind_eq_some_iff.1 h
    obtain ⟨l16, h15, h⟩ := Option.bind_eq_some_iff.1 h
    obtain ⟨v18, h17, h⟩ := Option.bind_eq_some_iff.1 h
    obtain ⟨v20, h19, h⟩ := Option.bind_eq_some_iff.1 h
    obtain ⟨v22, h21, h⟩ := Option.bind_eq_some_iff.1 h
    obtain ⟨v24, h23, h⟩ := Option.bind_eq_some_iff.1 h
    obtain ⟨v26, h25, h⟩ := Option.bind_eq_some_iff.1 h
    obtain ⟨v28, h27, h⟩ := Option.bind_eq_some_iff.1 h
    obtain ⟨l30, h29, h⟩ := Option.bind_eq_some_iff.1 h
    obtain ⟨b32, h31, h⟩ := Option.bind_eq_some_iff.1 h
    obtain ⟨v34, h33, h⟩ := Option.bind_eq_some_iff.1 h
    obtain ⟨_, h35, h⟩ := Option.bind_eq_some_iff.1 h
    exact ⟨_, h, weak_ren (l := [some b2, some b4, some b6, b32]) (sizedN_ok hz) (distO_ok h35) (LiveR.cons (RefsR.ptr (l := [some b2, some b4, some b6, b32]) (i := 0) rfl (ptrN_eq h1)) (LiveR.cons (RefsR.ptr (l := [some b2, some b4, some b6, b32]) (i := 1) rfl (ptrN_eq h3)) (LiveR.cons (RefsR.ptr (l := [some b2, some b4, some b6, b32]) (i := 2) rfl (ptrN_eq h5)) LiveR.nil))) (BlksR.cons (rowN_refs h7 rfl (GtRefsR.cons (RefsR.plain (Refs.of_eq (intO_eq h9)) rfl) (GtRefsR.cons (RefsR.plain (vtO_refs h11) rfl) (GtRefsR.cons (RefsR.plain (vtO_refs h13) rfl) GtRefsR.nil))) rfl) (BlksR.cons (rowN_refs h15 rfl (GtRefsR.cons (RefsR.plain (vtO_refs h17) rfl) (GtRefsR.cons (RefsR.plain (Refs.of_eq (intO_eq h19)) rfl) (GtRefsR.cons (RefsR.plain (Refs.of_eq (intO_eq h21)) rfl) (GtRefsR.cons (RefsR.plain (Refs.of_eq (intO_eq h23)) rfl) (GtRefsR.cons (RefsR.plain (Refs.of_eq (intO_eq h25)) rfl) (GtRefsR.cons (RefsR.plain (Refs.of_eq (intO_eq h27)) rfl) GtRefsR.nil)))))) rfl) (BlksR.cons (rowN_refs h29 rfl (GtRefsR.cons (RefsR.so (l := [some b2, some b4, some b6, b32]) (i := 3) rfl (Nat.le_of_ble_eq_true rfl) h31) GtRefsR.nil) rfl) (BlksR.cons (rtN_blk h33) BlksR.nil))))⟩

def elf_Write.q1.t : Tail (Int × (List (Int × Int × (Bool × Bool × Bool × Unit) × (List Int) × Unit)) × (List (ByteArray × Int × Unit)) × (List Int) × Int × Int × Int × Int × Int × (List Int)) := Tail.one (.exit 2) elf_Write.q1.x0
theorem elf_Write.q1.np (y : (Int × (List (Int × Int × (Bool × Bool × Bool × Unit) × (List Int) × Unit)) × (List (ByteArray × Int × Unit)) × (List Int) × Int × Int × Int × Int × Int × (List Int))) (v : AV) : (elf_Write.q1.t.out y).1 ≠ .panic v := fun h => by cases h
theorem elf_Write.q1.nn (y : (Int × (List (Int × Int × (Bool × Bool × Bool × Unit) × (List Int) × Unit)) × (List (ByteArray × Int × Unit)) × (List Int) × Int × Int × Int × Int × Int × (List Int))) : (elf_Write.q1.t.out y).1 ≠ .normal := fun h => by cases h
def elf_Write.q1.l (k : Nat) : Nat → ((List (Int × Int × (Bool × Bool × Bool × Unit) × (List Int) × Unit)) × Int × Int × Int × (List (Int × Int × (Bool × Bool × Bool × Unit) × (List Int) × Unit)) × (List (ByteArray × Int × Unit)) × (List Int) × Int × Int × Int × Int × Int × (List Int)) → Option (Int × (List (Int × Int × (Bool × Bool × Bool × Unit) × (List Int) × Unit)) × (List (ByteArray × Int × Unit)) × (List Int) × Int × Int × Int × Int × Int × (List Int))
  | 0, _ => none
  | n + 1, x => (bif (decide (x.2.2.1 < x.2.1)) then (bif (decide (0 ≤ x.2.2.1) && decide (x.2.2.1 < ((x.1.length : Nat) : Int))) then (bif (decide (((((x.1.getD (x.2.2.1).toNat (0, 0, (false, false, false, ()), [], ())).2.2.2.1).length : Nat) : Int) > 0)) then (bif (decide (0 ≤ x.2.2.1) && decide (x.2.2.1 < ((x.2.2.2.2.2.2.1.length : Nat) : Int))) then ((elf_writer_pad.f x.2.2.2.2.2.2.2.2.2.2.2.2 (x.2.2.2.2.2.2.1.getD (x.2.2.1).toNat 0)).bind fun r9 => (bif (decide ((r9 ++ (x.1.getD (x.2.2.1).toNat (0, 0, (false, false, false, ()), [], ())).2.2.2.1).length ≤ maxLen) && decide ((r9 ++ (x.1.getD (x.2.2.1).toNat (0, 0, (false, false, false, ()), [], ())).2.2.2.1).length * 1 ≤ 140737488355328)) then (elf_Write.q1.l k n (x.1, x.2.1, (IntKind.wrap .i64 (x.2.2.1 + 1)), x.2.2.2.1, x.2.2.2.2.1, x.2.2.2.2.2.1, x.2.2.2.2.2.2.1, x.2.2.2.2.2.2.2.1, x.2.2.2.2.2.2.2.2.1, x.2.2.2.2.2.2.2.2.2.1, x.2.2.2.2.2.2.2.2.2.2.1, x.2.2.2.2.2.2.2.2.2.2.2.1, (r9 ++ (x.1.getD (x.2.2.1).toNat (0, 0, (false, false, false, ()), [], ())).2.2.2.1))) else none)) else none) else (elf_Write.q1.l k n (x.1, x.2.1, (IntKind.wrap .i64 (x.2.2.1 + 1)), x.2.2.2.1, x.2.2.2.2.1, x.2.2.2.2.2.1, x.2.2.2.2.2.2.1, x.2.2.2.2.2.2.2.1, x.2.2.2.2.2.2.2.2.1, x.2.2.2.2.2.2.2.2.2.1, x.2.2.2.2.2.2.2.2.2.2.1, x.2.2.2.2.2.2.2.2.2.2.2.1, x.2.2.2.2.2.2.2.2.2.2.2.2))) else none) else (some (x.2.2.2.1, x.2.2.2.2.1, x.2.2.2.2.2.1, x.2.2.2.2.2.2.1, x.2.2.2.2.2.2.2.1, x.2.2.2.2.2.2.2.2.1, x.2.2.2.2.2.2.2.2.2.1, x.2.2.2.2.2.2.2.2.2.2.1, x.2.2.2.2.2.2.2.2.2.2.2.1, x.2.2.2.2.2.2.2.2.2.2.2.2)))
theorem elf_Write.q1.z (k : Nat) (x : ((List (Int × Int × (Bool × Bool × Bool × Unit) × (List Int) × Unit)) × Int × Int × Int × (List (Int × Int × (Bool × Bool × Bool × Unit) × (List Int) × Unit)) × (List (ByteArray × Int × Unit)) × (List Int) × Int × Int × Int × Int × Int × (List Int))) : elf_Write.q1.l k 0 x = none := rfl
theorem elf_Write.q1.at : codeAt (bodyOf Try.f17) [false, true, false, true, true, true, true, true, true, true, true, true, true, true, true] = some (.loop (loopBody (bodyOf Try.f17) [false, true, false, true, true, true, true, true, true, true, true, true, true, true, true])) := by kernel_rfl
theorem elf_Write.q1.goes (k n : Nat) (x : ((List (Int × Int × (Bool × Bool × Bool × Unit) × (List Int) × Unit)) × Int × Int × Int × (List (Int × Int × (Bool × Bool × Bool × Unit) × (List Int) × Unit)) × (List (ByteArray × Int × Unit)) × (List Int) × Int × Int × Int × Int × Int × (List Int))) : E Try.prog (gamW (gamOf [(15, elf_Right.g k), (31, elf_laid.g k), (34, elf_bits.g)]) [(32, elf_writer_half.w k), (33, elf_writer_word.w k), (35, elf_writer_pad.w)]) (lamOf []) (loopBody (bodyOf Try.f17) [false, true, false, true, true, true, true, true, true, true, true, true, true, true, true]) (false :: [false, true, false, true, true, true, true, true, true, true, true, true, true, true, true]) (elf_Write.q1.h.st x) (contD elf_Write.q1.h elf_Write.q1.t (elf_Write.q1.l k n) some) = elf_Write.q1.l k (n + 1) x := by
  kernel_rfl
theorem elf_Write.q1.ok_ (k : Nat) : PieceOk Try.prog (bodyOf Try.f17) ⟨[false, true, false, true, true, true, true, true, true, true, true, true, true, true, true], _, _, elf_Write.q1.h, elf_Write.q1.t, elf_Write.q1.l k k⟩ :=
  piece_loop (gamW_ok (gamOf_cons (elf_Right.ok k) elf_Right.callable (gamOf_cons (elf_laid.ok k) elf_laid.callable (gamOf_cons (elf_bits.ok) elf_bits.callable (gamOf_nil _)))) (wsOk_cons (elf_writer_half.wok k) elf_writer_half.callable (wsOk_cons (elf_writer_word.wok k) elf_writer_word.callable (wsOk_cons (elf_writer_pad.wok) elf_writer_pad.callable (wsOk_nil _))))) (lamOf_nil _ _) mixed elf_Write.q1.at elf_Write.q1.np elf_Write.q1.nn (elf_Write.q1.z k) (elf_Write.q1.goes k) k
def elf_Write.q1.p (k : Nat) : Piece := ⟨[false, true, false, true, true, true, true, true, true, true, true, true, true, true, true], _, _, elf_Write.q1.h, elf_Write.q1.t, elf_Write.q1.l k k⟩
theorem elf_Write.q1.ok (k : Nat) : PieceOk Try.prog (bodyOf Try.f17) (elf_Write.q1.p k) := elf_Write.q1.ok_ k
def elf_Write.f (k : Nat) (x0 : T25) : Option ((List Int) × Int) := ((elf_Right.f k (⟨x0.f0_Entry, x0.f1_Segments, x0.f2_Symbols⟩ : T25)).bind fun r1 => (bif (!r1) then (some (([] : List Int), 239)) else ((elf_laid.f k (⟨x0.f0_Entry, x0.f1_Segments, x0.f2_Symbols⟩ : T25)).bind fun r2 => (bif (decide (r2.f5_size > 33554432)) then (some (([] : List Int), 239)) else (bif (decide ((([] : List Int) ++ ([127, 69, 76, 70, 1, 1, 1, 0, 0, 0, 0, 0, 0, 0, 0, 0] : List Int)).length ≤ maxLen) && decide ((([] : List Int) ++ ([127, 69, 76, 70, 1, 1, 1, 0, 0, 0, 0, 0, 0, 0, 0, 0] : List Int)).length * 1 ≤ 140737488355328)) then ((elf_writer_half.f k (([] : List Int) ++ ([127, 69, 76, 70, 1, 1, 1, 0, 0, 0, 0, 0, 0, 0, 0, 0] : List Int)) ([2, 40] : List Int)).bind fun r3 => ((elf_writer_word.f k r3 ([1, x0.f0_Entry, 52, (IntKind.wrap .u32 r2.f4_sections), 83886080] : List Int)).bind fun r4 => (bif (decide (r2.f4_sections > 0)) then ((elf_writer_half.f k r4 ([52, 32, (IntKind.wrap .u32 ((x0.f1_Segments.length : Nat) : Int)), 40, 4, 3] : List Int)).bind fun r5 => ((elf_Write.q0.l k k (x0.f1_Segments, ((x0.f1_Segments.length : Nat) : Int), 0, x0.f0_Entry, x0.f1_Segments, x0.f2_Symbols, r2.f0_places, r2.f1_symbols, r2.f2_names, r2.f3_titles, r2.f4_sections, r2.f5_size, r5)).bind fun r8 => ((elf_Write.q1.l k k (r8.2.1, ((r8.2.1.length : Nat) : Int), 0, r8.1, r8.2.1, r8.2.2.1, r8.2.2.2.1, r8.2.2.2.2.1, r8.2.2.2.2.2.1, r8.2.2.2.2.2.2.1, r8.2.2.2.2.2.2.2.1, r8.2.2.2.2.2.2.2.2.1, r8.2.2.2.2.2.2.2.2.2)).bind fun r10 => (bif (decide (r10.2.2.2.2.2.2.2.1 > 0)) then ((elf_tables.f k r10.2.2.2.2.2.2.2.2.2 (⟨r10.1, r10.2.1, r10.2.2.1⟩ : T25) (⟨r10.2.2.2.1, r10.2.2.2.2.1, r10.2.2.2.2.2.1, r10.2.2.2.2.2.2.1, r10.2.2.2.2.2.2.2.1, r10.2.2.2.2.2.2.2.2.1⟩ : T58)).bind fun r11 => (some (r11, 0))) else (some (r10.2.2.2.2.2.2.2.2.2, 0)))))) else ((elf_writer_half.f k r4 ([52, 32, (IntKind.wrap .u32 ((x0.f1_Segments.length : Nat) : Int)), 40, 0, 0] : List Int)).bind fun r12 => ((elf_Write.q0.l k k (x0.f1_Segments, ((x0.f1_Segments.length : Nat) : Int), 0, x0.f0_Entry, x0.f1_Segments, x0.f2_Symbols, r2.f0_places, r2.f1_symbols, r2.f2_names, r2.f3_titles, r2.f4_sections, r2.f5_size, r12)).bind fun r13 => ((elf_Write.q1.l k k (r13.2.1, ((r13.2.1.length : Nat) : Int), 0, r13.1, r13.2.1, r13.2.2.1, r13.2.2.2.1, r13.2.2.2.2.1, r13.2.2.2.2.2.1, r13.2.2.2.2.2.2.1, r13.2.2.2.2.2.2.2.1, r13.2.2.2.2.2.2.2.2.1, r13.2.2.2.2.2.2.2.2.2)).bind fun r14 => (bif (decide (r14.2.2.2.2.2.2.2.1 > 0)) then ((elf_tables.f k r14.2.2.2.2.2.2.2.2.2 (⟨r14.1, r14.2.1, r14.2.2.1⟩ : T25) (⟨r14.2.2.2.1, r14.2.2.2.2.1, r14.2.2.2.2.2.1, r14.2.2.2.2.2.2.1, r14.2.2.2.2.2.2.2.1, r14.2.2.2.2.2.2.2.2.1⟩ : T58)).bind fun r15 => (some (r15, 0))) else (some (r14.2.2.2.2.2.2.2.2.2, 0))))))))) else none)))))
theorem elf_Write.run (k : Nat) (x0 : T25) : runF Try.prog (gamW (gamOf [(15, elf_Right.g k), (31, elf_laid.g k), (34, elf_bits.g)]) [(32, elf_writer_half.w k), (33, elf_writer_word.w k), (35, elf_writer_pad.w), (36, elf_tables.w k)]) (lamOf [elf_Write.q0.p k, elf_Write.q1.p k]) Try.f17 [(T25.av x0)] some = (elf_Write.f k x0).bind fun r => some (.ret (.tup [(.vt (.int .u8) r.1), (.val (.int .i64 r.2))])) := by
  unfold elf_Write.f
  try simp only [cond_bind, elim_bind, Option.bind_some, Option.bind_none, Option.bind_assoc]
  kernel_rfl
def elf_Write.g (k : Nat) : GFun := fun β args K => match args with
  | [a0] => (T25.of a0).bind fun x0 => (elf_Write.f k x0).bind fun r => K (.ret (.tup [(.vt (.int .u8) r.1), (.val (.int .i64 r.2))]))
  | _ => none
theorem elf_Write.callable : callable Try.prog 17 = true := callable_of Try.func17 (by kernel_rfl)
theorem elf_Write.ok (k : Nat) : GOk Try.prog 17 (elf_Write.g k) := by
  intro β args K r h
  unfold elf_Write.g at h
  split at h
  · obtain ⟨x0, e0, h⟩ := Option.bind_eq_some_iff.1 h
    obtain ⟨y, hy, hK⟩ := Option.bind_eq_some_iff.1 h
    have hrun := elf_Write.run k x0
    rw [hy] at hrun
    obtain ⟨out, e, hs⟩ := sim_of_run Try.func17 (by kernel_rfl) mixed (gamW_ok (gamOf_cons (elf_Right.ok k) elf_Right.callable (gamOf_cons (elf_laid.ok k) elf_laid.callable (gamOf_cons (elf_bits.ok) elf_bits.callable (gamOf_nil _)))) (wsOk_cons (elf_writer_half.wok k) elf_writer_half.callable (wsOk_cons (elf_writer_word.wok k) elf_writer_word.callable (wsOk_cons (elf_writer_pad.wok) elf_writer_pad.callable (wsOk_cons (elf_tables.wok k) elf_tables.callable (wsOk_nil _)))))) (lamOf_cons (elf_Write.q0.ok k) (lamOf_cons (elf_Write.q1.ok k) (lamOf_nil _ _))) (args' := [(T25.av x0)]) (RefsL.cons (T25.refs e0) RefsL.nil) hrun
    simp only [Option.some.injEq] at e
    subst e
    exact ⟨_, hK, hs⟩
  · cases h
/-! ### atlas/atlasref23.Find: function 12 -/
def atlasref23_Find.q0.h : Head (ByteArray × Int × Int × (List (Int × Int × (Bool × Bool × Bool × Unit) × (List Int) × Unit)) × (List (ByteArray × Int × Unit))) where
  k γ s F := (sizedN 28 s).bind fun _ => (strO (gt s.tm 1)).bind fun v2 => (ptrN 0 (gt s.tm 2)).bind fun b4 => (intO .i64 (gt s.tm 6)).bind fun v6 => (rowN 26 3 s.hp b4).bind fun l8 => (intO .u32 (gt l8 0)).bind fun v10 => (vtO (.pair (.int .u32) (.pair (.int .u32) (.pair (.pair .bool (.pair .bool (.pair .bool .unit))) (.pair (.vec (.int .u8)) .unit)))) (gt l8 1)).bind fun v12 => (vtO (.pair .str (.pair (.int .u32) .unit)) (gt l8 2)).bind fun v14 => (distO [some b4]).bind fun _ => F (v2, v6, v10, v12, v14)
  st x := ⟨sparseT [(1, (.val (.string x.1))), (2, (.ptr 0 0)), (6, (.val (.int .i64 x.2.1)))] 28 0, [.row [(.val (.int .u32 x.2.2.1)), (.vt (.pair (.int .u32) (.pair (.int .u32) (.pair (.pair .bool (.pair .bool (.pair .bool .unit))) (.pair (.vec (.int .u8)) .unit)))) x.2.2.2.1), (.vt (.pair .str (.pair (.int .u32) .unit)) x.2.2.2.2)] 26 true]⟩
  ok γ s F r h := by
    obtain ⟨_, hz, h⟩ := Option.bind_eq_some_iff.1 h
    obtain ⟨v2, h1, h⟩ := Option.bind_eq_some_iff.1 h
    obtain ⟨b4, h3, h⟩ := Option.bind_eq_some_iff.1 h
    obtain ⟨v6, h5, h⟩ := Option.bind_eq_some_iff.1 h
    obtain ⟨l8, h7, h⟩ := Option.bind_eq_some_iff.1 h
    obtain ⟨v10, h9, h⟩ := Option.bind_eq_some_iff.1 h
    obtain ⟨v12, h11, h⟩ := Option.bind_eq_some_iff.1 h
    obtain ⟨v14, h13, h⟩ := Option.bind_eq_some_iff.1 h
    obtain ⟨_, h15, h⟩ := Option.bind_eq_some_iff.1 h
    exact ⟨_, h, weak_ren (l := [some b4]) (sizedN_ok hz) (distO_ok h15) (LiveR.cons (RefsR.plain (Refs.of_eq (strO_eq h1)) rfl) (LiveR.cons (RefsR.ptr (l := [some b4]) (i := 0) rfl (ptrN_eq h3)) (LiveR.cons (RefsR.plain (Refs.of_eq (intO_eq h5)) rfl) LiveR.nil))) (BlksR.cons (rowN_refs h7 rfl (GtRefsR.cons (RefsR.plain (Refs.of_eq (intO_eq h9)) rfl) (GtRefsR.cons (RefsR.plain (vtO_refs h11) rfl) (GtRefsR.cons (RefsR.plain (vtO_refs h13) rfl) GtRefsR.nil))) rfl) BlksR.nil)⟩

def atlasref23_Find.q0.x0 : Head (Int × Bool) where
  k γ s F := (sizedN 28 s).bind fun _ => (intO .u32 (gt s.tm 4)).bind fun v2 => (boolO (gt s.tm 5)).bind fun v4 => (distO []).bind fun _ => F (v2, v4)
  st x := ⟨sparseT [(4, (.val (.int .u32 x.1))), (5, (.val (.bool x.2)))] 28 0, []⟩
  ok γ s F r h := by
    obtain ⟨_, hz, h⟩ := Option.bind_eq_some_iff.1 h
    obtain ⟨v2, h1, h⟩ := Option.bind_eq_some_iff.1 h
    obtain ⟨v4, h3, h⟩ := Option.bind_eq_some_iff.1 h
    obtain ⟨_, h5, h⟩ := Option.bind_eq_some_iff.1 h
    exact ⟨_, h, weak_ren (l := []) (sizedN_ok hz) (distO_ok h5) (LiveR.cons (RefsR.plain (Refs.of_eq (intO_eq h1)) rfl) (LiveR.cons (RefsR.plain (Refs.of_eq (boolO_eq h3)) rfl) LiveR.nil)) BlksR.nil⟩

def atlasref23_Find.q0.x1 : Head (Unit) where
  k γ s F := (sizedN 28 s).bind fun _ => (distO []).bind fun _ => F ()
  st x := ⟨sparseT [] 28 0, []⟩
  ok γ s F r h := by
    obtain ⟨_, hz, h⟩ := Option.bind_eq_some_iff.1 h
    obtain ⟨_, h1, h⟩ := Option.bind_eq_some_iff.1 h
    exact ⟨_, h, weak_ren (l := []) (sizedN_ok hz) (distO_ok h1) LiveR.nil BlksR.nil⟩

def atlasref23_Find.q0.t : Tail ((Int × Bool) ⊕ (Unit)) := Tail.or .ret atlasref23_Find.q0.x0 (Tail.one (.exit 0) atlasref23_Find.q0.x1)
theorem atlasref23_Find.q0.np (y : ((Int × Bool) ⊕ (Unit))) (v : AV) : (atlasref23_Find.q0.t.out y).1 ≠ .panic v := fun h => by rcases y with _ | y <;> first | (cases h; done) | (cases h)
theorem atlasref23_Find.q0.nn (y : ((Int × Bool) ⊕ (Unit))) : (atlasref23_Find.q0.t.out y).1 ≠ .normal := fun h => by rcases y with _ | y <;> first | (cases h; done) | (cases h)
def atlasref23_Find.q0.l (k : Nat) : Nat → (ByteArray × Int × Int × (List (Int × Int × (Bool × Bool × Bool × Unit) × (List Int) × Unit)) × (List (ByteArray × Int × Unit))) → Option ((Int × Bool) ⊕ (Unit))
  | 0, _ => none
  | n + 1, x => (bif (decide (x.2.1 < ((x.2.2.2.2.length : Nat) : Int))) then (bif (decide (0 ≤ x.2.1) && decide (x.2.1 < ((x.2.2.2.2.length : Nat) : Int))) then (bif (((x.2.2.2.2.getD (x.2.1).toNat (ByteArray.empty, 0, ())).1).toList == x.1.toList) then (bif (decide (0 ≤ x.2.1) && decide (x.2.1 < ((x.2.2.2.2.length : Nat) : Int))) then (some (Sum.inl ((x.2.2.2.2.getD (x.2.1).toNat (ByteArray.empty, 0, ())).2.1, true))) else none) else (atlasref23_Find.q0.l k n (x.1, (IntKind.wrap .i64 (x.2.1 + 1)), x.2.2.1, x.2.2.2.1, x.2.2.2.2))) else none) else (some (Sum.inr ())))
theorem atlasref23_Find.q0.z (k : Nat) (x : (ByteArray × Int × Int × (List (Int × Int × (Bool × Bool × Bool × Unit) × (List Int) × Unit)) × (List (ByteArray × Int × Unit)))) : atlasref23_Find.q0.l k 0 x = none := rfl
theorem atlasref23_Find.q0.at : codeAt (bodyOf Try.f12) [false, true, false, true] = some (.loop (loopBody (bodyOf Try.f12) [false, true, false, true])) := by kernel_rfl
theorem atlasref23_Find.q0.goes (k n : Nat) (x : (ByteArray × Int × Int × (List (Int × Int × (Bool × Bool × Bool × Unit) × (List Int) × Unit)) × (List (ByteArray × Int × Unit)))) : E Try.prog (gamOf []) (lamOf []) (loopBody (bodyOf Try.f12) [false, true, false, true]) (false :: [false, true, false, true]) (atlasref23_Find.q0.h.st x) (contD atlasref23_Find.q0.h atlasref23_Find.q0.t (atlasref23_Find.q0.l k n) some) = atlasref23_Find.q0.l k (n + 1) x := by
  kernel_rfl
theorem atlasref23_Find.q0.ok_ (k : Nat) : PieceOk Try.prog (bodyOf Try.f12) ⟨[false, true, false, true], _, _, atlasref23_Find.q0.h, atlasref23_Find.q0.t, atlasref23_Find.q0.l k k⟩ :=
  piece_loop (gamOf_nil _) (lamOf_nil _ _) mixed atlasref23_Find.q0.at atlasref23_Find.q0.np atlasref23_Find.q0.nn (atlasref23_Find.q0.z k) (atlasref23_Find.q0.goes k) k
def atlasref23_Find.q0.p (k : Nat) : Piece := ⟨[false, true, false, true], _, _, atlasref23_Find.q0.h, atlasref23_Find.q0.t, atlasref23_Find.q0.l k k⟩
theorem atlasref23_Find.q0.ok (k : Nat) : PieceOk Try.prog (bodyOf Try.f12) (atlasref23_Find.q0.p k) := atlasref23_Find.q0.ok_ k
def atlasref23_Find.f (k : Nat) (x0 : T25) (x1 : ByteArray) : Option (Int × Bool) := ((atlasref23_Find.q0.l k k (x1, 0, x0.f0_Entry, x0.f1_Segments, x0.f2_Symbols)).bind fun r1 => (Sum.elim (fun r2 => (some (r2.1, r2.2))) (fun r3 => (some (0, false))) r1))
theorem atlasref23_Find.run (k : Nat) (x0 : T25) (x1 : ByteArray) : runF Try.prog (gamOf []) (lamOf [atlasref23_Find.q0.p k]) Try.f12 [(T25.av x0), (.val (.string x1))] some = (atlasref23_Find.f k x0 x1).bind fun r => some (.ret (.tup [(.val (.int .u32 r.1)), (.val (.bool r.2))])) := by
  unfold atlasref23_Find.f
  try simp only [cond_bind, elim_bind, Option.bind_some, Option.bind_none, Option.bind_assoc]
  kernel_rfl
def atlasref23_Find.g (k : Nat) : GFun := fun β args K => match args with
  | [a0, a1] => (T25.of a0).bind fun x0 => (strO a1).bind fun x1 => (atlasref23_Find.f k x0 x1).bind fun r => K (.ret (.tup [(.val (.int .u32 r.1)), (.val (.bool r.2))]))
  | _ => none
theorem atlasref23_Find.callable : callable Try.prog 12 = true := callable_of Try.func12 (by kernel_rfl)
theorem atlasref23_Find.ok (k : Nat) : GOk Try.prog 12 (atlasref23_Find.g k) := by
  intro β args K r h
  unfold atlasref23_Find.g at h
  split at h
  · obtain ⟨x0, e0, h⟩ := Option.bind_eq_some_iff.1 h
    obtain ⟨x1, e1, h⟩ := Option.bind_eq_some_iff.1 h
    obtain ⟨y, hy, hK⟩ := Option.bind_eq_some_iff.1 h
    have hrun := atlasref23_Find.run k x0 x1
    rw [hy] at hrun
    obtain ⟨out, e, hs⟩ := sim_of_run Try.func12 (by kernel_rfl) mixed (gamOf_nil _) (lamOf_cons (atlasref23_Find.q0.ok k) (lamOf_nil _ _)) (args' := [(T25.av x0), (.val (.string x1))]) (RefsL.cons (T25.refs e0) (RefsL.cons (Refs.of_eq (strO_eq e1)) RefsL.nil)) hrun
    simp only [Option.some.injEq] at e
    subst e
    exact ⟨_, hK, hs⟩
  · cases h
/-! ### atlas/atlasref23.segment: function 27 -/
def atlasref23_segment.q0.h : Head (Bool × Int × Int × Bool × Bool × Bool × (List Int)) where
  k γ s F := (sizedN 44 s).bind fun _ => (ptrN 0 (gt s.tm 1)).bind fun b2 => (boolO (gt s.tm 3)).bind fun v4 => (rowN 46 6 s.hp b2).bind fun l6 => (intO .u32 (gt l6 0)).bind fun v8 => (intO .u32 (gt l6 1)).bind fun v10 => (boolO (gt l6 2)).bind fun v12 => (boolO (gt l6 3)).bind fun v14 => (boolO (gt l6 4)).bind fun v16 => (vtO (.int .u8) (gt l6 5)).bind fun v18 => (distO [some b2]).bind fun _ => F (v4, v8, v10, v12, v14, v16, v18)
  st x := ⟨sparseT [(1, (.ptr 0 0)), (3, (.val (.bool x.1)))] 44 0, [.row [(.val (.int .u32 x.2.1)), (.val (.int .u32 x.2.2.1)), (.val (.bool x.2.2.2.1)), (.val (.bool x.2.2.2.2.1)), (.val (.bool x.2.2.2.2.2.1)), (.vt (.int .u8) x.2.2.2.2.2.2)] 46 true]⟩
  ok γ s F r h := by
    obtain ⟨_, hz, h⟩ := Option.bind_eq_some_iff.1 h
    obtain ⟨b2, h1, h⟩ := Option.bind_eq_some_iff.1 h
    obtain ⟨v4, h3, h⟩ := Option.bind_eq_some_iff.1 h
    obtain ⟨l6, h5, h⟩ := Option.bind_eq_some_iff.1 h
    obtain ⟨v8, h7, h⟩ := Option.bind_eq_some_iff.1 h
    obtain ⟨v10, h9, h⟩ := Option.bind_eq_some_iff.1 h
    obtain ⟨v12, h11, h⟩ := Option.bind_eq_some_iff.1 h
    obtain ⟨v14, h13, h⟩ := Option.bind_eq_some_iff.1 h
    obtain ⟨v16, h15, h⟩ := Option.bind_eq_some_iff.1 h
    obtain ⟨v18, h17, h⟩ := Option.bind_eq_some_iff.1 h
    obtain ⟨_, h19, h⟩ := Option.bind_eq_some_iff.1 h
    exact ⟨_, h, weak_ren (l := [some b2]) (sizedN_ok hz) (distO_ok h19) (LiveR.cons (RefsR.ptr (l := [some b2]) (i := 0) rfl (ptrN_eq h1)) (LiveR.cons (RefsR.plain (Refs.of_eq (boolO_eq h3)) rfl) LiveR.nil)) (BlksR.cons (rowN_refs h5 rfl (GtRefsR.cons (RefsR.plain (Refs.of_eq (intO_eq h7)) rfl) (GtRefsR.cons (RefsR.plain (Refs.of_eq (intO_eq h9)) rfl) (GtRefsR.cons (RefsR.plain (Refs.of_eq (boolO_eq h11)) rfl) (GtRefsR.cons (RefsR.plain (Refs.of_eq (boolO_eq h13)) rfl) (GtRefsR.cons (RefsR.plain (Refs.of_eq (boolO_eq h15)) rfl) (GtRefsR.cons (RefsR.plain (vtO_refs h17) rfl) GtRefsR.nil)))))) rfl) BlksR.nil)⟩

def atlasref23_segment.q0.x0 : Head (Bool) where
  k γ s F := (sizedN 44 s).bind fun _ => (boolO (gt s.tm 2)).bind fun v2 => (distO []).bind fun _ => F (v2)
  st x := ⟨sparseT [(2, (.val (.bool x)))] 44 0, []⟩
  ok γ s F r h := by
    obtain ⟨_, hz, h⟩ := Option.bind_eq_some_iff.1 h
    obtain ⟨v2, h1, h⟩ := Option.bind_eq_some_iff.1 h
    obtain ⟨_, h3, h⟩ := Option.bind_eq_some_iff.1 h
    exact ⟨_, h, weak_ren (l := []) (sizedN_ok hz) (distO_ok h3) (LiveR.cons (RefsR.plain (Refs.of_eq (boolO_eq h1)) rfl) LiveR.nil) BlksR.nil⟩

def atlasref23_segment.q0.t : Tail (Bool) := Tail.one .ret atlasref23_segment.q0.x0
theorem atlasref23_segment.q0.np (y : (Bool)) (v : AV) : (atlasref23_segment.q0.t.out y).1 ≠ .panic v := fun h => by cases h
def atlasref23_segment.q0.l (k : Nat) (x : (Bool × Int × Int × Bool × Bool × Bool × (List Int))) : Option (Bool) := (bif x.1 then (bif (decide ((IntKind.wrap .u64 ((x.2.2.2.2.2.2.length : Nat) : Int)) ≤ (IntKind.wrap .u64 x.2.2.1))) then (some x.2.2.2.1) else (some false)) else (some false))
theorem atlasref23_segment.q0.at : codeAt (bodyOf Try.f27) [true, true] = some (codeOf (bodyOf Try.f27) [true, true]) := by kernel_rfl
theorem atlasref23_segment.q0.goes (k : Nat) (x : (Bool × Int × Int × Bool × Bool × Bool × (List Int))) : E Try.prog (gamOf []) (lamOf []) (codeOf (bodyOf Try.f27) [true, true]) [true, true] (atlasref23_segment.q0.h.st x) (fun ex t => atlasref23_segment.q0.t.d _ ex t some) = atlasref23_segment.q0.l k x := by
  kernel_rfl
theorem atlasref23_segment.q0.ok_ (k : Nat) : PieceOk Try.prog (bodyOf Try.f27) ⟨[true, true], _, _, atlasref23_segment.q0.h, atlasref23_segment.q0.t, atlasref23_segment.q0.l k⟩ :=
  piece_code (gamOf_nil _) (lamOf_nil _ _) mixed atlasref23_segment.q0.at atlasref23_segment.q0.np (atlasref23_segment.q0.goes k)
def atlasref23_segment.q0.p (k : Nat) : Piece := ⟨[true, true], _, _, atlasref23_segment.q0.h, atlasref23_segment.q0.t, atlasref23_segment.q0.l k⟩
theorem atlasref23_segment.q0.ok (k : Nat) : PieceOk Try.prog (bodyOf Try.f27) (atlasref23_segment.q0.p k) := atlasref23_segment.q0.ok_ k
def atlasref23_segment.f (k : Nat) (x0 : T45) : Option (Bool) := (bif ((Int.tmod x0.f0_VA 4096) == 0) then (bif (decide (x0.f1_Size ≥ 1)) then (bif (decide (x0.f1_Size ≤ 16777216)) then ((atlasref23_segment.q0.l k ((decide ((IntKind.wrap .u64 ((IntKind.wrap .u64 x0.f0_VA) + (IntKind.wrap .u64 x0.f1_Size))) ≤ 4294967296)), x0.f0_VA, x0.f1_Size, x0.f2_Rights_Read, x0.f3_Rights_Write, x0.f4_Rights_Exec, x0.f5_Data)).bind fun r1 => (some r1)) else ((atlasref23_segment.q0.l k (false, x0.f0_VA, x0.f1_Size, x0.f2_Rights_Read, x0.f3_Rights_Write, x0.f4_Rights_Exec, x0.f5_Data)).bind fun r2 => (some r2))) else ((atlasref23_segment.q0.l k (false, x0.f0_VA, x0.f1_Size, x0.f2_Rights_Read, x0.f3_Rights_Write, x0.f4_Rights_Exec, x0.f5_Data)).bind fun r3 => (some r3))) else ((atlasref23_segment.q0.l k (false, x0.f0_VA, x0.f1_Size, x0.f2_Rights_Read, x0.f3_Rights_Write, x0.f4_Rights_Exec, x0.f5_Data)).bind fun r4 => (some r4)))
theorem atlasref23_segment.run (k : Nat) (x0 : T45) : runF Try.prog (gamOf []) (lamOf [atlasref23_segment.q0.p k]) Try.f27 [(T45.av x0)] some = (atlasref23_segment.f k x0).bind fun r => some (.ret (.val (.bool r))) := by
  unfold atlasref23_segment.f
  try simp only [cond_bind, elim_bind, Option.bind_some, Option.bind_none, Option.bind_assoc]
  kernel_rfl
def atlasref23_segment.g (k : Nat) : GFun := fun β args K => match args with
  | [a0] => (T45.of a0).bind fun x0 => (atlasref23_segment.f k x0).bind fun r => K (.ret (.val (.bool r)))
  | _ => none
theorem atlasref23_segment.callable : callable Try.prog 27 = true := callable_of Try.func27 (by kernel_rfl)
theorem atlasref23_segment.ok (k : Nat) : GOk Try.prog 27 (atlasref23_segment.g k) := by
  intro β args K r h
  unfold atlasref23_segment.g at h
  split at h
  · obtain ⟨x0, e0, h⟩ := Option.bind_eq_some_iff.1 h
    obtain ⟨y, hy, hK⟩ := Option.bind_eq_some_iff.1 h
    have hrun := atlasref23_segment.run k x0
    rw [hy] at hrun
    obtain ⟨out, e, hs⟩ := sim_of_run Try.func27 (by kernel_rfl) mixed (gamOf_nil _) (lamOf_cons (atlasref23_segment.q0.ok k) (lamOf_nil _ _)) (args' := [(T45.av x0)]) (RefsL.cons (T45.refs e0) RefsL.nil) hrun
    simp only [Option.some.injEq] at e
    subst e
    exact ⟨_, hK, hs⟩
  · cases h
/-! ### atlas/atlasref01.tail: function 68 -/
def atlasref01_tail.f (x0 : ByteArray) (x1 : Int) : Option (Bool) := (bif (decide (x1 < ((x0).size : Int))) then (bif (decide (0 ≤ x1) && decide (x1 < ((x0).size : Int))) then (bif (decide ((byteAt x0 x1) ≥ 128)) then (bif (decide (0 ≤ x1) && decide (x1 < ((x0).size : Int))) then (some (decide ((byteAt x0 x1) ≤ 191))) else none) else (some false)) else none) else (some false))
theorem atlasref01_tail.run (x0 : ByteArray) (x1 : Int) : runF Try.prog (gamOf []) noLam Try.f68 [(.val (.string x0)), (.val (.int .i64 x1))] some = (atlasref01_tail.f x0 x1).bind fun r => some (.ret (.val (.bool r))) := by
  unfold atlasref01_tail.f
  try simp only [cond_bind, elim_bind, Option.bind_some, Option.bind_none, Option.bind_assoc]
  kernel_rfl
def atlasref01_tail.g : GFun := fun β args K => match args with
  | [a0, a1] => (strO a0).bind fun x0 => (intO .i64 a1).bind fun x1 => (atlasref01_tail.f x0 x1).bind fun r => K (.ret (.val (.bool r)))
  | _ => none
theorem atlasref01_tail.callable : callable Try.prog 68 = true := callable_of Try.func68 (by kernel_rfl)
theorem atlasref01_tail.ok : GOk Try.prog 68 (atlasref01_tail.g) := by
  intro β args K r h
  unfold atlasref01_tail.g at h
  split at h
  · obtain ⟨x0, e0, h⟩ := Option.bind_eq_some_iff.1 h
    obtain ⟨x1, e1, h⟩ := Option.bind_eq_some_iff.1 h
    obtain ⟨y, hy, hK⟩ := Option.bind_eq_some_iff.1 h
    have hrun := atlasref01_tail.run x0 x1
    rw [hy] at hrun
    obtain ⟨out, e, hs⟩ := sim_of_run Try.func68 (by kernel_rfl) mixed (gamOf_nil _) (noLam_ok _ _) (args' := [(.val (.string x0)), (.val (.int .i64 x1))]) (RefsL.cons (Refs.of_eq (strO_eq e0)) (RefsL.cons (Refs.of_eq (intO_eq e1)) RefsL.nil)) hrun
    simp only [Option.some.injEq] at e
    subst e
    exact ⟨_, hK, hs⟩
  · cases h
end Go.Va
