-- Written by a program of this session (wip/va/vaprint.py). Not trusted: Lean checks it.
import Derived.Test.YtmphkmoakamepaaVaTy
import Derived.Test.YtmphkmoakamepaaVf1
set_option linter.unusedVariables false
set_option linter.unusedSimpArgs false
set_option autoImplicit false
set_option maxRecDepth 100000
namespace Go.Va
open Go.Proofs
/-! ### atlas/elf.tables: function 36, which writes through its first argument -/
def elf_tables.q0.h : Head (Int × SyL × Int × Int × Int × SgL × SyL × (List Int) × Int × Int × Int × Int × Int × (List Int)) where
  k γ s F := (sizedN 136 s).bind fun _ => (ppN 0 (gt s.tm 0)).bind fun b2 => (ptrN 0 (gt s.tm 4)).bind fun b4 => (ptrN 0 (gt s.tm 5)).bind fun b6 => (intO .u32 (gt s.tm 6)).bind fun v8 => (vtO SyC (gt s.tm 21)).bind fun v10 => (intO .i64 (gt s.tm 22)).bind fun v12 => (intO .i64 (gt s.tm 23)).bind fun v14 => (rowN 63 1 s.hp b2).bind fun l16 => (soN 1 s.hp (gt l16 0)).bind fun b18 => (rowN 26 3 s.hp b4).bind fun l20 => (intO .u32 (gt l20 0)).bind fun v22 => (vtO SgC (gt l20 1)).bind fun v24 => (vtO SyC (gt l20 2)).bind fun v26 => (rowN 59 6 s.hp b6).bind fun l28 => (vtO (.int .u64) (gt l28 0)).bind fun v30 => (intO .u64 (gt l28 1)).bind fun v32 => (intO .u64 (gt l28 2)).bind fun v34 => (intO .u64 (gt l28 3)).bind fun v36 => (intO .u64 (gt l28 4)).bind fun v38 => (intO .u64 (gt l28 5)).bind fun v40 => (rtN (.int .u8) 5 s.hp b18).bind fun v42 => (distO [some b2, some b4, some b6, b18]).bind fun _ => F (v8, v10, v12, v14, v22, v24, v26, v30, v32, v34, v36, v38, v40, v42)
  st x := ⟨sparseT [(0, (.pp 0 0)), (4, (.ptr 1 0)), (5, (.ptr 2 0)), (6, (.val (.int .u32 x.1))), (21, (.vt SyC x.2.1)), (22, (.val (.int .i64 x.2.2.1))), (23, (.val (.int .i64 x.2.2.2.1)))] 136 0, [.row [(.so 3 1)] 63 false, .row [(.val (.int .u32 x.2.2.2.2.1)), (.vt SgC x.2.2.2.2.2.1), (.vt SyC x.2.2.2.2.2.2.1)] 26 true, .row [(.vt (.int .u64) x.2.2.2.2.2.2.2.1), (.val (.int .u64 x.2.2.2.2.2.2.2.2.1)), (.val (.int .u64 x.2.2.2.2.2.2.2.2.2.1)), (.val (.int .u64 x.2.2.2.2.2.2.2.2.2.2.1)), (.val (.int .u64 x.2.2.2.2.2.2.2.2.2.2.2.1)), (.val (.int .u64 x.2.2.2.2.2.2.2.2.2.2.2.2.1))] 59 true, .rt (.int .u8) x.2.2.2.2.2.2.2.2.2.2.2.2.2 5]⟩
  ok γ s F r h := by
    have ⟨_, hz, h⟩ := bs h
    have ⟨b2, h1, h⟩ := bs h
    have ⟨b4, h3, h⟩ := bs h
    have ⟨b6, h5, h⟩ := bs h
    have ⟨v8, h7, h⟩ := bs h
    have ⟨v10, h9, h⟩ := bs h
    have ⟨v12, h11, h⟩ := bs h
    have ⟨v14, h13, h⟩ := bs h
    have ⟨l16, h15, h⟩ := bs h
    have ⟨b18, h17, h⟩ := bs h
    have ⟨l20, h19, h⟩ := bs h
    have ⟨v22, h21, h⟩ := bs h
    have ⟨v24, h23, h⟩ := bs h
    have ⟨v26, h25, h⟩ := bs h
    have ⟨l28, h27, h⟩ := bs h
    have ⟨v30, h29, h⟩ := bs h
    have ⟨v32, h31, h⟩ := bs h
    have ⟨v34, h33, h⟩ := bs h
    have ⟨v36, h35, h⟩ := bs h
    have ⟨v38, h37, h⟩ := bs h
    have ⟨v40, h39, h⟩ := bs h
    have ⟨v42, h41, h⟩ := bs h
    have ⟨_, h43, h⟩ := bs h
    exact ⟨_, h, weak_ren (l := [some b2, some b4, some b6, b18]) (sizedN_ok hz) (distO_ok h43) (LiveR.cons (RefsR.pp (l := [some b2, some b4, some b6, b18]) (i := 0) rfl (ppN_eq h1)) (LiveR.cons (RefsR.ptr (l := [some b2, some b4, some b6, b18]) (i := 1) rfl (ptrN_eq h3)) (LiveR.cons (RefsR.ptr (l := [some b2, some b4, some b6, b18]) (i := 2) rfl (ptrN_eq h5)) (LiveR.cons (pI h7) (LiveR.cons (pV h9) (LiveR.cons (pI h11) (LiveR.cons (pI h13) LiveR.nil))))))) (BlksR.cons (rowN_refs h15 rfl (GtRefsR.cons (RefsR.so (l := [some b2, some b4, some b6, b18]) (i := 3) rfl (Nat.le_of_ble_eq_true rfl) h17) GtRefsR.nil) rfl) (BlksR.cons (rowN_refs h19 rfl (GtRefsR.cons (pI h21) (GtRefsR.cons (pV h23) (GtRefsR.cons (pV h25) GtRefsR.nil))) rfl) (BlksR.cons (rowN_refs h27 rfl (GtRefsR.cons (pV h29) (GtRefsR.cons (pI h31) (GtRefsR.cons (pI h33) (GtRefsR.cons (pI h35) (GtRefsR.cons (pI h37) (GtRefsR.cons (pI h39) GtRefsR.nil)))))) rfl) (BlksR.cons (rtN_blk h41) BlksR.nil))))⟩

def elf_tables.q0.x0 : Head (Int × SgL × SyL × (List Int) × Int × Int × Int × Int × Int × (List Int)) where
  k γ s F := (sizedN 136 s).bind fun _ => (ppN 0 (gt s.tm 0)).bind fun b2 => (ptrN 0 (gt s.tm 4)).bind fun b4 => (ptrN 0 (gt s.tm 5)).bind fun b6 => (rowN 63 1 s.hp b2).bind fun l8 => (soN 1 s.hp (gt l8 0)).bind fun b10 => (rowN 26 3 s.hp b4).bind fun l12 => (intO .u32 (gt l12 0)).bind fun v14 => (vtO SgC (gt l12 1)).bind fun v16 => (vtO SyC (gt l12 2)).bind fun v18 => (rowN 59 6 s.hp b6).bind fun l20 => (vtO (.int .u64) (gt l20 0)).bind fun v22 => (intO .u64 (gt l20 1)).bind fun v24 => (intO .u64 (gt l20 2)).bind fun v26 => (intO .u64 (gt l20 3)).bind fun v28 => (intO .u64 (gt l20 4)).bind fun v30 => (intO .u64 (gt l20 5)).bind fun v32 => (rtN (.int .u8) 5 s.hp b10).bind fun v34 => (distO [some b2, some b4, some b6, b10]).bind fun _ => F (v14, v16, v18, v22, v24, v26, v28, v30, v32, v34)
  st x := ⟨sparseT [(0, (.pp 0 0)), (4, (.ptr 1 0)), (5, (.ptr 2 0))] 136 0, [.row [(.so 3 1)] 63 false, .row [(.val (.int .u32 x.1)), (.vt SgC x.2.1), (.vt SyC x.2.2.1)] 26 true, .row [(.vt (.int .u64) x.2.2.2.1), (.val (.int .u64 x.2.2.2.2.1)), (.val (.int .u64 x.2.2.2.2.2.1)), (.val (.int .u64 x.2.2.2.2.2.2.1)), (.val (.int .u64 x.2.2.2.2.2.2.2.1)), (.val (.int .u64 x.2.2.2.2.2.2.2.2.1))] 59 true, .rt (.int .u8) x.2.2.2.2.2.2.2.2.2 5]⟩
  ok γ s F r h := by
    have ⟨_, hz, h⟩ := bs h
    have ⟨b2, h1, h⟩ := bs h
    have ⟨b4, h3, h⟩ := bs h
    have ⟨b6, h5, h⟩ := bs h
    have ⟨l8, h7, h⟩ := bs h
    have ⟨b10, h9, h⟩ := bs h
    have ⟨l12, h11, h⟩ := bs h
    have ⟨v14, h13, h⟩ := bs h
    have ⟨v16, h15, h⟩ := bs h
    have ⟨v18, h17, h⟩ := bs h
    have ⟨l20, h19, h⟩ := bs h
    have ⟨v22, h21, h⟩ := bs h
    have ⟨v24, h23, h⟩ := bs h
    have ⟨v26, h25, h⟩ := bs h
    have ⟨v28, h27, h⟩ := bs h
    have ⟨v30, h29, h⟩ := bs h
    have ⟨v32, h31, h⟩ := bs h
    have ⟨v34, h33, h⟩ := bs h
    have ⟨_, h35, h⟩ := bs h
    exact ⟨_, h, weak_ren (l := [some b2, some b4, some b6, b10]) (sizedN_ok hz) (distO_ok h35) (LiveR.cons (RefsR.pp (l := [some b2, some b4, some b6, b10]) (i := 0) rfl (ppN_eq h1)) (LiveR.cons (RefsR.ptr (l := [some b2, some b4, some b6, b10]) (i := 1) rfl (ptrN_eq h3)) (LiveR.cons (RefsR.ptr (l := [some b2, some b4, some b6, b10]) (i := 2) rfl (ptrN_eq h5)) LiveR.nil))) (BlksR.cons (rowN_refs h7 rfl (GtRefsR.cons (RefsR.so (l := [some b2, some b4, some b6, b10]) (i := 3) rfl (Nat.le_of_ble_eq_true rfl) h9) GtRefsR.nil) rfl) (BlksR.cons (rowN_refs h11 rfl (GtRefsR.cons (pI h13) (GtRefsR.cons (pV h15) (GtRefsR.cons (pV h17) GtRefsR.nil))) rfl) (BlksR.cons (rowN_refs h19 rfl (GtRefsR.cons (pV h21) (GtRefsR.cons (pI h23) (GtRefsR.cons (pI h25) (GtRefsR.cons (pI h27) (GtRefsR.cons (pI h29) (GtRefsR.cons (pI h31) GtRefsR.nil)))))) rfl) (BlksR.cons (rtN_blk h33) BlksR.nil))))⟩

def elf_tables.q0.t : Tail (Int × SgL × SyL × (List Int) × Int × Int × Int × Int × Int × (List Int)) := Tail.one (.exit 0) elf_tables.q0.x0
theorem elf_tables.q0.np (y : (Int × SgL × SyL × (List Int) × Int × Int × Int × Int × Int × (List Int))) (v : AV) : (elf_tables.q0.t.out y).1 = .panic v → nomem v = true := fun h => by cases h
theorem elf_tables.q0.nn (y : (Int × SgL × SyL × (List Int) × Int × Int × Int × Int × Int × (List Int))) : (elf_tables.q0.t.out y).1 ≠ .normal := fun h => by cases h
def elf_tables.q0.l (k : Nat) : Nat → (Int × SyL × Int × Int × Int × SgL × SyL × (List Int) × Int × Int × Int × Int × Int × (List Int)) → Option (Int × SgL × SyL × (List Int) × Int × Int × Int × Int × Int × (List Int))
  | 0, _ => none
  | n + 1, x => (bif (decide (x.2.2.2.1 < x.2.2.1)) then (bif (decide (0 ≤ x.2.2.2.1) && decide (x.2.2.2.1 < ((x.2.1.length : Nat) : Int))) then ((elf_writer_word.f k x.2.2.2.2.2.2.2.2.2.2.2.2.2 ([x.1, (x.2.1.getD (x.2.2.2.1).toNat (ByteArray.empty, 0, ())).2.1, 0] : List Int)).bind fun r3 => (bif (decide ((r3 ++ ([16, 0] : List Int)).length ≤ maxLen) && decide ((r3 ++ ([16, 0] : List Int)).length * 1 ≤ 211106232532992)) then ((elf_writer_half.f k (r3 ++ ([16, 0] : List Int)) ([65521] : List Int)).bind fun r4 => (elf_tables.q0.l k n ((IntKind.wrap .u32 (x.1 + (IntKind.wrap .u32 ((IntKind.wrap .u32 (((x.2.1.getD (x.2.2.2.1).toNat (ByteArray.empty, 0, ())).1).size : Int)) + 1)))), x.2.1, x.2.2.1, (IntKind.wrap .i64 (x.2.2.2.1 + 1)), x.2.2.2.2.1, x.2.2.2.2.2.1, x.2.2.2.2.2.2.1, x.2.2.2.2.2.2.2.1, x.2.2.2.2.2.2.2.2.1, x.2.2.2.2.2.2.2.2.2.1, x.2.2.2.2.2.2.2.2.2.2.1, x.2.2.2.2.2.2.2.2.2.2.2.1, x.2.2.2.2.2.2.2.2.2.2.2.2.1, r4))) else none)) else none) else (some (x.2.2.2.2.1, x.2.2.2.2.2.1, x.2.2.2.2.2.2.1, x.2.2.2.2.2.2.2.1, x.2.2.2.2.2.2.2.2.1, x.2.2.2.2.2.2.2.2.2.1, x.2.2.2.2.2.2.2.2.2.2.1, x.2.2.2.2.2.2.2.2.2.2.2.1, x.2.2.2.2.2.2.2.2.2.2.2.2.1, x.2.2.2.2.2.2.2.2.2.2.2.2.2)))
theorem elf_tables.q0.z (k : Nat) (x : (Int × SyL × Int × Int × Int × SgL × SyL × (List Int) × Int × Int × Int × Int × Int × (List Int))) : elf_tables.q0.l k 0 x = none := rfl
theorem elf_tables.q0.at : codeAt (bodyOf Try.f36) [false, true, false, true, true, true, true] = some (.loop (loopBody (bodyOf Try.f36) [false, true, false, true, true, true, true])) := by kernel_rfl
theorem elf_tables.q0.goes (k n : Nat) (x : (Int × SyL × Int × Int × Int × SgL × SyL × (List Int) × Int × Int × Int × Int × Int × (List Int))) : E Try.prog (gamW (gamOf []) [(35, elf_writer_pad.w), (33, elf_writer_word.w k), (32, elf_writer_half.w k)]) (lamOf []) (loopBody (bodyOf Try.f36) [false, true, false, true, true, true, true]) (false :: [false, true, false, true, true, true, true]) (elf_tables.q0.h.st x) (contD elf_tables.q0.h elf_tables.q0.t (elf_tables.q0.l k n) some) = elf_tables.q0.l k (n + 1) x := by
  kernel_rfl
theorem elf_tables.q0.ok_ (k : Nat) : PieceOk Try.prog (bodyOf Try.f36) ⟨[false, true, false, true, true, true, true], _, _, elf_tables.q0.h, elf_tables.q0.t, elf_tables.q0.l k k⟩ :=
  piece_loop (gamW_ok (gamOf_nil _) (wsOk_cons (elf_writer_pad.wok) elf_writer_pad.callable (wsOk_cons (elf_writer_word.wok k) elf_writer_word.callable (wsOk_cons (elf_writer_half.wok k) elf_writer_half.callable (wsOk_nil _))))) (lamOf_nil _ _) mixed elf_tables.q0.at elf_tables.q0.np elf_tables.q0.nn (elf_tables.q0.z k) (elf_tables.q0.goes k) k
def elf_tables.q0.p (k : Nat) : Piece := ⟨[false, true, false, true, true, true, true], _, _, elf_tables.q0.h, elf_tables.q0.t, elf_tables.q0.l k k⟩
theorem elf_tables.q0.ok (k : Nat) : PieceOk Try.prog (bodyOf Try.f36) (elf_tables.q0.p k) := elf_tables.q0.ok_ k
def elf_tables.q1.h : Head (SyL × Int × Int × (List Int) × Int × Int × Int × Int × Int × (List Int)) where
  k γ s F := (sizedN 136 s).bind fun _ => (ppN 0 (gt s.tm 0)).bind fun b2 => (ptrN 0 (gt s.tm 5)).bind fun b4 => (vtO SyC (gt s.tm 63)).bind fun v6 => (intO .i64 (gt s.tm 64)).bind fun v8 => (intO .i64 (gt s.tm 65)).bind fun v10 => (rowN 63 1 s.hp b2).bind fun l12 => (soN 1 s.hp (gt l12 0)).bind fun b14 => (rowN 59 6 s.hp b4).bind fun l16 => (vtO (.int .u64) (gt l16 0)).bind fun v18 => (intO .u64 (gt l16 1)).bind fun v20 => (intO .u64 (gt l16 2)).bind fun v22 => (intO .u64 (gt l16 3)).bind fun v24 => (intO .u64 (gt l16 4)).bind fun v26 => (intO .u64 (gt l16 5)).bind fun v28 => (rtN (.int .u8) 5 s.hp b14).bind fun v30 => (distO [some b2, some b4, b14]).bind fun _ => F (v6, v8, v10, v18, v20, v22, v24, v26, v28, v30)
  st x := ⟨sparseT [(0, (.pp 0 0)), (5, (.ptr 1 0)), (63, (.vt SyC x.1)), (64, (.val (.int .i64 x.2.1))), (65, (.val (.int .i64 x.2.2.1)))] 136 0, [.row [(.so 2 1)] 63 false, .row [(.vt (.int .u64) x.2.2.2.1), (.val (.int .u64 x.2.2.2.2.1)), (.val (.int .u64 x.2.2.2.2.2.1)), (.val (.int .u64 x.2.2.2.2.2.2.1)), (.val (.int .u64 x.2.2.2.2.2.2.2.1)), (.val (.int .u64 x.2.2.2.2.2.2.2.2.1))] 59 true, .rt (.int .u8) x.2.2.2.2.2.2.2.2.2 5]⟩
  ok γ s F r h := by
    have ⟨_, hz, h⟩ := bs h
    have ⟨b2, h1, h⟩ := bs h
    have ⟨b4, h3, h⟩ := bs h
    have ⟨v6, h5, h⟩ := bs h
    have ⟨v8, h7, h⟩ := bs h
    have ⟨v10, h9, h⟩ := bs h
    have ⟨l12, h11, h⟩ := bs h
    have ⟨b14, h13, h⟩ := bs h
    have ⟨l16, h15, h⟩ := bs h
    have ⟨v18, h17, h⟩ := bs h
    have ⟨v20, h19, h⟩ := bs h
    have ⟨v22, h21, h⟩ := bs h
    have ⟨v24, h23, h⟩ := bs h
    have ⟨v26, h25, h⟩ := bs h
    have ⟨v28, h27, h⟩ := bs h
    have ⟨v30, h29, h⟩ := bs h
    have ⟨_, h31, h⟩ := bs h
    exact ⟨_, h, weak_ren (l := [some b2, some b4, b14]) (sizedN_ok hz) (distO_ok h31) (LiveR.cons (RefsR.pp (l := [some b2, some b4, b14]) (i := 0) rfl (ppN_eq h1)) (LiveR.cons (RefsR.ptr (l := [some b2, some b4, b14]) (i := 1) rfl (ptrN_eq h3)) (LiveR.cons (pV h5) (LiveR.cons (pI h7) (LiveR.cons (pI h9) LiveR.nil))))) (BlksR.cons (rowN_refs h11 rfl (GtRefsR.cons (RefsR.so (l := [some b2, some b4, b14]) (i := 2) rfl (Nat.le_of_ble_eq_true rfl) h13) GtRefsR.nil) rfl) (BlksR.cons (rowN_refs h15 rfl (GtRefsR.cons (pV h17) (GtRefsR.cons (pI h19) (GtRefsR.cons (pI h21) (GtRefsR.cons (pI h23) (GtRefsR.cons (pI h25) (GtRefsR.cons (pI h27) GtRefsR.nil)))))) rfl) (BlksR.cons (rtN_blk h29) BlksR.nil)))⟩

def elf_tables.q1.x0 : Head ((List Int) × Int × Int × Int × Int × Int × (List Int)) where
  k γ s F := (sizedN 136 s).bind fun _ => (ppN 0 (gt s.tm 0)).bind fun b2 => (ptrN 0 (gt s.tm 5)).bind fun b4 => (rowN 63 1 s.hp b2).bind fun l6 => (soN 1 s.hp (gt l6 0)).bind fun b8 => (rowN 59 6 s.hp b4).bind fun l10 => (vtO (.int .u64) (gt l10 0)).bind fun v12 => (intO .u64 (gt l10 1)).bind fun v14 => (intO .u64 (gt l10 2)).bind fun v16 => (intO .u64 (gt l10 3)).bind fun v18 => (intO .u64 (gt l10 4)).bind fun v20 => (intO .u64 (gt l10 5)).bind fun v22 => (rtN (.int .u8) 5 s.hp b8).bind fun v24 => (distO [some b2, some b4, b8]).bind fun _ => F (v12, v14, v16, v18, v20, v22, v24)
  st x := ⟨sparseT [(0, (.pp 0 0)), (5, (.ptr 1 0))] 136 0, [.row [(.so 2 1)] 63 false, .row [(.vt (.int .u64) x.1), (.val (.int .u64 x.2.1)), (.val (.int .u64 x.2.2.1)), (.val (.int .u64 x.2.2.2.1)), (.val (.int .u64 x.2.2.2.2.1)), (.val (.int .u64 x.2.2.2.2.2.1))] 59 true, .rt (.int .u8) x.2.2.2.2.2.2 5]⟩
  ok γ s F r h := by
    have ⟨_, hz, h⟩ := bs h
    have ⟨b2, h1, h⟩ := bs h
    have ⟨b4, h3, h⟩ := bs h
    have ⟨l6, h5, h⟩ := bs h
    have ⟨b8, h7, h⟩ := bs h
    have ⟨l10, h9, h⟩ := bs h
    have ⟨v12, h11, h⟩ := bs h
    have ⟨v14, h13, h⟩ := bs h
    have ⟨v16, h15, h⟩ := bs h
    have ⟨v18, h17, h⟩ := bs h
    have ⟨v20, h19, h⟩ := bs h
    have ⟨v22, h21, h⟩ := bs h
    have ⟨v24, h23, h⟩ := bs h
    have ⟨_, h25, h⟩ := bs h
    exact ⟨_, h, weak_ren (l := [some b2, some b4, b8]) (sizedN_ok hz) (distO_ok h25) (LiveR.cons (RefsR.pp (l := [some b2, some b4, b8]) (i := 0) rfl (ppN_eq h1)) (LiveR.cons (RefsR.ptr (l := [some b2, some b4, b8]) (i := 1) rfl (ptrN_eq h3)) LiveR.nil)) (BlksR.cons (rowN_refs h5 rfl (GtRefsR.cons (RefsR.so (l := [some b2, some b4, b8]) (i := 2) rfl (Nat.le_of_ble_eq_true rfl) h7) GtRefsR.nil) rfl) (BlksR.cons (rowN_refs h9 rfl (GtRefsR.cons (pV h11) (GtRefsR.cons (pI h13) (GtRefsR.cons (pI h15) (GtRefsR.cons (pI h17) (GtRefsR.cons (pI h19) (GtRefsR.cons (pI h21) GtRefsR.nil)))))) rfl) (BlksR.cons (rtN_blk h23) BlksR.nil)))⟩

def elf_tables.q1.t : Tail ((List Int) × Int × Int × Int × Int × Int × (List Int)) := Tail.one (.exit 2) elf_tables.q1.x0
theorem elf_tables.q1.np (y : ((List Int) × Int × Int × Int × Int × Int × (List Int))) (v : AV) : (elf_tables.q1.t.out y).1 = .panic v → nomem v = true := fun h => by cases h
theorem elf_tables.q1.nn (y : ((List Int) × Int × Int × Int × Int × Int × (List Int))) : (elf_tables.q1.t.out y).1 ≠ .normal := fun h => by cases h
def elf_tables.q1.l (k : Nat) : Nat → (SyL × Int × Int × (List Int) × Int × Int × Int × Int × Int × (List Int)) → Option ((List Int) × Int × Int × Int × Int × Int × (List Int))
  | 0, _ => none
  | n + 1, x => (bif (decide (x.2.2.1 < x.2.1)) then (bif (decide (0 ≤ x.2.2.1) && decide (x.2.2.1 < ((x.1.length : Nat) : Int))) then (bif (decide (x.2.2.2.2.2.2.2.2.2.length + ((x.1.getD (x.2.2.1).toNat (ByteArray.empty, 0, ())).1).size ≤ maxLen) && decide ((x.2.2.2.2.2.2.2.2.2.length + ((x.1.getD (x.2.2.1).toNat (ByteArray.empty, 0, ())).1).size) * 1 ≤ 211106232532992)) then (bif (decide (((x.2.2.2.2.2.2.2.2.2 ++ strI ((x.1.getD (x.2.2.1).toNat (ByteArray.empty, 0, ())).1)) ++ ([0] : List Int)).length ≤ maxLen) && decide (((x.2.2.2.2.2.2.2.2.2 ++ strI ((x.1.getD (x.2.2.1).toNat (ByteArray.empty, 0, ())).1)) ++ ([0] : List Int)).length * 1 ≤ 211106232532992)) then (elf_tables.q1.l k n (x.1, x.2.1, (IntKind.wrap .i64 (x.2.2.1 + 1)), x.2.2.2.1, x.2.2.2.2.1, x.2.2.2.2.2.1, x.2.2.2.2.2.2.1, x.2.2.2.2.2.2.2.1, x.2.2.2.2.2.2.2.2.1, ((x.2.2.2.2.2.2.2.2.2 ++ strI ((x.1.getD (x.2.2.1).toNat (ByteArray.empty, 0, ())).1)) ++ ([0] : List Int)))) else none) else none) else none) else (some (x.2.2.2.1, x.2.2.2.2.1, x.2.2.2.2.2.1, x.2.2.2.2.2.2.1, x.2.2.2.2.2.2.2.1, x.2.2.2.2.2.2.2.2.1, x.2.2.2.2.2.2.2.2.2)))
theorem elf_tables.q1.z (k : Nat) (x : (SyL × Int × Int × (List Int) × Int × Int × Int × Int × Int × (List Int))) : elf_tables.q1.l k 0 x = none := rfl
theorem elf_tables.q1.at : codeAt (bodyOf Try.f36) [false, true, false, true, true, true, true, true, true] = some (.loop (loopBody (bodyOf Try.f36) [false, true, false, true, true, true, true, true, true])) := by kernel_rfl
theorem elf_tables.q1.goes (k n : Nat) (x : (SyL × Int × Int × (List Int) × Int × Int × Int × Int × Int × (List Int))) : E Try.prog (gamW (gamOf []) [(35, elf_writer_pad.w), (33, elf_writer_word.w k), (32, elf_writer_half.w k)]) (lamOf []) (loopBody (bodyOf Try.f36) [false, true, false, true, true, true, true, true, true]) (false :: [false, true, false, true, true, true, true, true, true]) (elf_tables.q1.h.st x) (contD elf_tables.q1.h elf_tables.q1.t (elf_tables.q1.l k n) some) = elf_tables.q1.l k (n + 1) x := by
  kernel_rfl
theorem elf_tables.q1.ok_ (k : Nat) : PieceOk Try.prog (bodyOf Try.f36) ⟨[false, true, false, true, true, true, true, true, true], _, _, elf_tables.q1.h, elf_tables.q1.t, elf_tables.q1.l k k⟩ :=
  piece_loop (gamW_ok (gamOf_nil _) (wsOk_cons (elf_writer_pad.wok) elf_writer_pad.callable (wsOk_cons (elf_writer_word.wok k) elf_writer_word.callable (wsOk_cons (elf_writer_half.wok k) elf_writer_half.callable (wsOk_nil _))))) (lamOf_nil _ _) mixed elf_tables.q1.at elf_tables.q1.np elf_tables.q1.nn (elf_tables.q1.z k) (elf_tables.q1.goes k) k
def elf_tables.q1.p (k : Nat) : Piece := ⟨[false, true, false, true, true, true, true, true, true], _, _, elf_tables.q1.h, elf_tables.q1.t, elf_tables.q1.l k k⟩
theorem elf_tables.q1.ok (k : Nat) : PieceOk Try.prog (bodyOf Try.f36) (elf_tables.q1.p k) := elf_tables.q1.ok_ k
def elf_tables.f (k : Nat) (x0 : List Int) (x1 : T25) (x2 : T58) : Option (List Int) := ((elf_writer_pad.f x0 x2.f1_symbols).bind fun r1 => ((elf_writer_pad.f r1 (IntKind.wrap .u64 (x2.f1_symbols + 16))).bind fun r2 => ((elf_tables.q0.l k k (1, x1.f2_Symbols, ((x1.f2_Symbols.length : Nat) : Int), 0, x1.f0_Entry, x1.f1_Segments, x1.f2_Symbols, x2.f0_places, x2.f1_symbols, x2.f2_names, x2.f3_titles, x2.f4_sections, x2.f5_size, r2)).bind fun r5 => (bif (decide ((r5.2.2.2.2.2.2.2.2.2 ++ ([0] : List Int)).length ≤ maxLen) && decide ((r5.2.2.2.2.2.2.2.2.2 ++ ([0] : List Int)).length * 1 ≤ 211106232532992)) then ((elf_tables.q1.l k k (r5.2.2.1, ((r5.2.2.1.length : Nat) : Int), 0, r5.2.2.2.1, r5.2.2.2.2.1, r5.2.2.2.2.2.1, r5.2.2.2.2.2.2.1, r5.2.2.2.2.2.2.2.1, r5.2.2.2.2.2.2.2.2.1, (r5.2.2.2.2.2.2.2.2.2 ++ ([0] : List Int)))).bind fun r6 => (bif (decide (r6.2.2.2.2.2.2.length + (⟨#[0, 46, 115, 121, 109, 116, 97, 98, 0, 46, 115, 116, 114, 116, 97, 98, 0, 46, 115, 104, 115, 116, 114, 116, 97, 98, 0]⟩ : ByteArray).size ≤ maxLen) && decide ((r6.2.2.2.2.2.2.length + (⟨#[0, 46, 115, 121, 109, 116, 97, 98, 0, 46, 115, 116, 114, 116, 97, 98, 0, 46, 115, 104, 115, 116, 114, 116, 97, 98, 0]⟩ : ByteArray).size) * 1 ≤ 211106232532992)) then ((elf_writer_pad.f (r6.2.2.2.2.2.2 ++ strI (⟨#[0, 46, 115, 121, 109, 116, 97, 98, 0, 46, 115, 116, 114, 116, 97, 98, 0, 46, 115, 104, 115, 116, 114, 116, 97, 98, 0]⟩ : ByteArray)) r6.2.2.2.2.1).bind fun r7 => ((elf_writer_pad.f r7 (IntKind.wrap .u64 (r6.2.2.2.2.1 + 40))).bind fun r8 => ((elf_writer_word.f k r8 ([1, 2, 0, 0, (IntKind.wrap .u32 r6.2.1), (IntKind.wrap .u32 (IntKind.wrap .u64 (r6.2.2.1 - r6.2.1))), 2, 1, 4, 16] : List Int)).bind fun r9 => ((elf_writer_word.f k r9 ([9, 3, 0, 0, (IntKind.wrap .u32 r6.2.2.1), (IntKind.wrap .u32 (IntKind.wrap .u64 (r6.2.2.2.1 - r6.2.2.1))), 0, 0, 1, 0] : List Int)).bind fun r10 => ((elf_writer_word.f k r10 ([17, 3, 0, 0, (IntKind.wrap .u32 r6.2.2.2.1), 27, 0, 0, 1, 0] : List Int)).bind fun r11 => (some r11)))))) else none)) else none))))
def elf_tables.x : Head ((List Int)) where
  k γ s F := (sizedN 136 s).bind fun _ => (ppN 0 (gt s.tm 0)).bind fun b2 => (rowN 63 1 s.hp b2).bind fun l4 => (soN 1 s.hp (gt l4 0)).bind fun b6 => (rtN (.int .u8) 5 s.hp b6).bind fun v8 => (distO [some b2, b6]).bind fun _ => F (v8)
  st x := ⟨sparseT [(0, (.pp 0 0))] 136 0, [.row [(.so 1 1)] 63 false, .rt (.int .u8) x 5]⟩
  ok γ s F r h := by
    have ⟨_, hz, h⟩ := bs h
    have ⟨b2, h1, h⟩ := bs h
    have ⟨l4, h3, h⟩ := bs h
    have ⟨b6, h5, h⟩ := bs h
    have ⟨v8, h7, h⟩ := bs h
    have ⟨_, h9, h⟩ := bs h
    exact ⟨_, h, weak_ren (l := [some b2, b6]) (sizedN_ok hz) (distO_ok h9) (LiveR.cons (RefsR.pp (l := [some b2, b6]) (i := 0) rfl (ppN_eq h1)) LiveR.nil) (BlksR.cons (rowN_refs h3 rfl (GtRefsR.cons (RefsR.so (l := [some b2, b6]) (i := 1) rfl (Nat.le_of_ble_eq_true rfl) h5) GtRefsR.nil) rfl) (BlksR.cons (rtN_blk h7) BlksR.nil))⟩

def elf_tables.w (k : Nat) : WFun where
  T := 63
  t := 5
  c := (.int .u8)
  α := T25 × T58
  rd l := match l with
    | [a0, a1] => (T25.of a0).bind fun c0 => (T58.of a1).bind fun c1 => some (c0, c1)
    | _ => none
  st a := [(T25.av a.1), (T58.av a.2)]
  ok := by
    intro l a h C m vs hc
    split at h
    · obtain ⟨c0, e0, h⟩ := bs h
      obtain ⟨c1, e1, h⟩ := bs h
      simp only [Option.some.injEq] at h
      subst h
      exact RefsL.cells (RefsL.cons (T25.refs e0) (RefsL.cons (T58.refs e1) RefsL.nil)) hc
    · cases h
  l x a := elf_tables.f k x a.1 a.2
theorem elf_tables.run (k : Nat) (x : List Int) (a : (elf_tables.w k).α) : E Try.prog (gamW (gamOf []) [(35, elf_writer_pad.w), (33, elf_writer_word.w k), (32, elf_writer_half.w k)]) (lamOf [elf_tables.q0.p k, elf_tables.q1.p k]) (bodyOf Try.f36) [] (wSt (elf_tables.w k) Try.f36 x a) (wK elf_tables.x) = elf_tables.f k x a.1 a.2 := by
  unfold elf_tables.f
  try simp only [cond_bind, elim_bind, Option.bind_some, Option.bind_none, Option.bind_assoc]
  kernel_rfl
theorem elf_tables.callable : callable Try.prog 36 = true := callable_of Try.func36 (by kernel_rfl)
theorem elf_tables.wok (k : Nat) : WOk Try.prog 36 (elf_tables.w k) := wok_of_run Try.func36 (by kernel_rfl) (by kernel_rfl) mixed (gamW_ok (gamOf_nil _) (wsOk_cons (elf_writer_pad.wok) elf_writer_pad.callable (wsOk_cons (elf_writer_word.wok k) elf_writer_word.callable (wsOk_cons (elf_writer_half.wok k) elf_writer_half.callable (wsOk_nil _))))) (lamOf_cons (elf_tables.q0.ok k) (lamOf_cons (elf_tables.q1.ok k) (lamOf_nil _ _))) (elf_tables.w k) rfl elf_tables.x (fun y => ⟨rfl, rfl⟩) (fun x a => elf_tables.run k x a)
end Go.Va
