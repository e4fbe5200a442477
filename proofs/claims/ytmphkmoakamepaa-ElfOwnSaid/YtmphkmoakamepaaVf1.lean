-- Written by a program of this session (wip/va/vaprint.py). Not trusted: Lean checks it.
import Derived.Test.YtmphkmoakamepaaVaTy
import Derived.Test.YtmphkmoakamepaaVf0
set_option linter.unusedVariables false
set_option linter.unusedSimpArgs false
set_option autoImplicit false
set_option maxRecDepth 100000
namespace Go.Va
open Go.Proofs
/-! ### atlas/elf.laid: function 31 -/
def elf_laid.q0.h : Head (Int × SgL × Int × Int × Int × SgL × SyL × Int × Int × Int × Int × Int × Int × Int × Int × Int × Int × (List Int) × (List Int)) where
  k γ s F := (sizedN 92 s).bind fun _ => (ptrN 0 (gt s.tm 1)).bind fun b2 => (ptrN 0 (gt s.tm 2)).bind fun b4 => (ptrN 0 (gt s.tm 3)).bind fun b6 => (intO .u64 (gt s.tm 4)).bind fun v8 => (vtO SgC (gt s.tm 17)).bind fun v10 => (intO .i64 (gt s.tm 18)).bind fun v12 => (intO .i64 (gt s.tm 19)).bind fun v14 => (rowN 26 3 s.hp b2).bind fun l16 => (intO .u32 (gt l16 0)).bind fun v18 => (vtO SgC (gt l16 1)).bind fun v20 => (vtO SyC (gt l16 2)).bind fun v22 => (rowN 59 6 s.hp b4).bind fun l24 => (soN 1 s.hp (gt l24 0)).bind fun b26 => (intO .u64 (gt l24 1)).bind fun v28 => (intO .u64 (gt l24 2)).bind fun v30 => (intO .u64 (gt l24 3)).bind fun v32 => (intO .u64 (gt l24 4)).bind fun v34 => (intO .u64 (gt l24 5)).bind fun v36 => (rowN 59 6 s.hp b6).bind fun l38 => (soN 1 s.hp (gt l38 0)).bind fun b40 => (intO .u64 (gt l38 1)).bind fun v42 => (intO .u64 (gt l38 2)).bind fun v44 => (intO .u64 (gt l38 3)).bind fun v46 => (intO .u64 (gt l38 4)).bind fun v48 => (intO .u64 (gt l38 5)).bind fun v50 => (rtN (.int .u64) 57 s.hp b26).bind fun v52 => (rtN (.int .u64) 57 s.hp b40).bind fun v54 => (distO [some b2, some b4, some b6, b26, b40]).bind fun _ => F (v8, v10, v12, v14, v18, v20, v22, v28, v30, v32, v34, v36, v42, v44, v46, v48, v50, v52, v54)
  st x := ⟨sparseT [(1, (.ptr 0 0)), (2, (.ptr 1 0)), (3, (.ptr 2 0)), (4, (.val (.int .u64 x.1))), (17, (.vt SgC x.2.1)), (18, (.val (.int .i64 x.2.2.1))), (19, (.val (.int .i64 x.2.2.2.1)))] 92 0, [.row [(.val (.int .u32 x.2.2.2.2.1)), (.vt SgC x.2.2.2.2.2.1), (.vt SyC x.2.2.2.2.2.2.1)] 26 true, .row [(.so 3 1), (.val (.int .u64 x.2.2.2.2.2.2.2.1)), (.val (.int .u64 x.2.2.2.2.2.2.2.2.1)), (.val (.int .u64 x.2.2.2.2.2.2.2.2.2.1)), (.val (.int .u64 x.2.2.2.2.2.2.2.2.2.2.1)), (.val (.int .u64 x.2.2.2.2.2.2.2.2.2.2.2.1))] 59 false, .row [(.so 4 1), (.val (.int .u64 x.2.2.2.2.2.2.2.2.2.2.2.2.1)), (.val (.int .u64 x.2.2.2.2.2.2.2.2.2.2.2.2.2.1)), (.val (.int .u64 x.2.2.2.2.2.2.2.2.2.2.2.2.2.2.1)), (.val (.int .u64 x.2.2.2.2.2.2.2.2.2.2.2.2.2.2.2.1)), (.val (.int .u64 x.2.2.2.2.2.2.2.2.2.2.2.2.2.2.2.2.1))] 59 false, .rt (.int .u64) x.2.2.2.2.2.2.2.2.2.2.2.2.2.2.2.2.2.1 57, .rt (.int .u64) x.2.2.2.2.2.2.2.2.2.2.2.2.2.2.2.2.2.2 57]⟩
  ok γ s F r h := by
    have ⟨_, hz, h⟩ := bs h
    have ⟨b2, h1, h⟩ := bs h
    have ⟨b4, h3, h⟩ := bs h
    have ⟨b6, h5, h⟩ := bs h
    have ⟨v8, h7, h⟩ := bs h
    have ⟨v10, h9, h⟩ := bs h
    have ⟨v12, h11, h⟩ := bs h
    have ⟨v14, h13, h⟩ := bs h
    have ⟨l16, h15, h⟩ := bs h
    have ⟨v18, h17, h⟩ := bs h
    have ⟨v20, h19, h⟩ := bs h
    have ⟨v22, h21, h⟩ := bs h
    have ⟨l24, h23, h⟩ := bs h
    have ⟨b26, h25, h⟩ := bs h
    have ⟨v28, h27, h⟩ := bs h
    have ⟨v30, h29, h⟩ := bs h
    have ⟨v32, h31, h⟩ := bs h
    have ⟨v34, h33, h⟩ := bs h
    have ⟨v36, h35, h⟩ := bs h
    have ⟨l38, h37, h⟩ := bs h
    have ⟨b40, h39, h⟩ := bs h
    have ⟨v42, h41, h⟩ := bs h
    have ⟨v44, h43, h⟩ := bs h
    have ⟨v46, h45, h⟩ := bs h
    have ⟨v48, h47, h⟩ := bs h
    have ⟨v50, h49, h⟩ := bs h
    have ⟨v52, h51, h⟩ := bs h
    have ⟨v54, h53, h⟩ := bs h
    have ⟨_, h55, h⟩ := bs h
    exact ⟨_, h, weak_ren (l := [some b2, some b4, some b6, b26, b40]) (sizedN_ok hz) (distO_ok h55) (LiveR.cons (RefsR.ptr (l := [some b2, some b4, some b6, b26, b40]) (i := 0) rfl (ptrN_eq h1)) (LiveR.cons (RefsR.ptr (l := [some b2, some b4, some b6, b26, b40]) (i := 1) rfl (ptrN_eq h3)) (LiveR.cons (RefsR.ptr (l := [some b2, some b4, some b6, b26, b40]) (i := 2) rfl (ptrN_eq h5)) (LiveR.cons (pI h7) (LiveR.cons (pV h9) (LiveR.cons (pI h11) (LiveR.cons (pI h13) LiveR.nil))))))) (BlksR.cons (rowN_refs h15 rfl (GtRefsR.cons (pI h17) (GtRefsR.cons (pV h19) (GtRefsR.cons (pV h21) GtRefsR.nil))) rfl) (BlksR.cons (rowN_refs h23 rfl (GtRefsR.cons (RefsR.so (l := [some b2, some b4, some b6, b26, b40]) (i := 3) rfl (Nat.le_of_ble_eq_true rfl) h25) (GtRefsR.cons (pI h27) (GtRefsR.cons (pI h29) (GtRefsR.cons (pI h31) (GtRefsR.cons (pI h33) (GtRefsR.cons (pI h35) GtRefsR.nil)))))) rfl) (BlksR.cons (rowN_refs h37 rfl (GtRefsR.cons (RefsR.so (l := [some b2, some b4, some b6, b26, b40]) (i := 4) rfl (Nat.le_of_ble_eq_true rfl) h39) (GtRefsR.cons (pI h41) (GtRefsR.cons (pI h43) (GtRefsR.cons (pI h45) (GtRefsR.cons (pI h47) (GtRefsR.cons (pI h49) GtRefsR.nil)))))) rfl) (BlksR.cons (rtN_blk h51) (BlksR.cons (rtN_blk h53) BlksR.nil)))))⟩

def elf_laid.q0.x0 : Head (Int × Int × SgL × SyL × Int × Int × Int × Int × Int × Int × Int × Int × Int × Int × (List Int) × (List Int)) where
  k γ s F := (sizedN 92 s).bind fun _ => (ptrN 0 (gt s.tm 1)).bind fun b2 => (ptrN 0 (gt s.tm 2)).bind fun b4 => (ptrN 0 (gt s.tm 3)).bind fun b6 => (intO .u64 (gt s.tm 4)).bind fun v8 => (rowN 26 3 s.hp b2).bind fun l10 => (intO .u32 (gt l10 0)).bind fun v12 => (vtO SgC (gt l10 1)).bind fun v14 => (vtO SyC (gt l10 2)).bind fun v16 => (rowN 59 6 s.hp b4).bind fun l18 => (soN 1 s.hp (gt l18 0)).bind fun b20 => (intO .u64 (gt l18 1)).bind fun v22 => (intO .u64 (gt l18 2)).bind fun v24 => (intO .u64 (gt l18 3)).bind fun v26 => (intO .u64 (gt l18 4)).bind fun v28 => (intO .u64 (gt l18 5)).bind fun v30 => (rowN 59 6 s.hp b6).bind fun l32 => (soN 1 s.hp (gt l32 0)).bind fun b34 => (intO .u64 (gt l32 1)).bind fun v36 => (intO .u64 (gt l32 2)).bind fun v38 => (intO .u64 (gt l32 3)).bind fun v40 => (intO .u64 (gt l32 4)).bind fun v42 => (intO .u64 (gt l32 5)).bind fun v44 => (rtN (.int .u64) 57 s.hp b20).bind fun v46 => (rtN (.int .u64) 57 s.hp b34).bind fun v48 => (distO [some b2, some b4, some b6, b20, b34]).bind fun _ => F (v8, v12, v14, v16, v22, v24, v26, v28, v30, v36, v38, v40, v42, v44, v46, v48)
  st x := ⟨sparseT [(1, (.ptr 0 0)), (2, (.ptr 1 0)), (3, (.ptr 2 0)), (4, (.val (.int .u64 x.1)))] 92 0, [.row [(.val (.int .u32 x.2.1)), (.vt SgC x.2.2.1), (.vt SyC x.2.2.2.1)] 26 true, .row [(.so 3 1), (.val (.int .u64 x.2.2.2.2.1)), (.val (.int .u64 x.2.2.2.2.2.1)), (.val (.int .u64 x.2.2.2.2.2.2.1)), (.val (.int .u64 x.2.2.2.2.2.2.2.1)), (.val (.int .u64 x.2.2.2.2.2.2.2.2.1))] 59 false, .row [(.so 4 1), (.val (.int .u64 x.2.2.2.2.2.2.2.2.2.1)), (.val (.int .u64 x.2.2.2.2.2.2.2.2.2.2.1)), (.val (.int .u64 x.2.2.2.2.2.2.2.2.2.2.2.1)), (.val (.int .u64 x.2.2.2.2.2.2.2.2.2.2.2.2.1)), (.val (.int .u64 x.2.2.2.2.2.2.2.2.2.2.2.2.2.1))] 59 false, .rt (.int .u64) x.2.2.2.2.2.2.2.2.2.2.2.2.2.2.1 57, .rt (.int .u64) x.2.2.2.2.2.2.2.2.2.2.2.2.2.2.2 57]⟩
  ok γ s F r h := by
    have ⟨_, hz, h⟩ := bs h
    have ⟨b2, h1, h⟩ := bs h
    have ⟨b4, h3, h⟩ := bs h
    have ⟨b6, h5, h⟩ := bs h
    have ⟨v8, h7, h⟩ := bs h
    have ⟨l10, h9, h⟩ := bs h
    have ⟨v12, h11, h⟩ := bs h
    have ⟨v14, h13, h⟩ := bs h
    have ⟨v16, h15, h⟩ := bs h
    have ⟨l18, h17, h⟩ := bs h
    have ⟨b20, h19, h⟩ := bs h
    have ⟨v22, h21, h⟩ := bs h
    have ⟨v24, h23, h⟩ := bs h
    have ⟨v26, h25, h⟩ := bs h
    have ⟨v28, h27, h⟩ := bs h
    have ⟨v30, h29, h⟩ := bs h
    have ⟨l32, h31, h⟩ := bs h
    have ⟨b34, h33, h⟩ := bs h
    have ⟨v36, h35, h⟩ := bs h
    have ⟨v38, h37, h⟩ := bs h
    have ⟨v40, h39, h⟩ := bs h
    have ⟨v42, h41, h⟩ := bs h
    have ⟨v44, h43, h⟩ := bs h
    have ⟨v46, h45, h⟩ := bs h
    have ⟨v48, h47, h⟩ := bs h
    have ⟨_, h49, h⟩ := bs h
    exact ⟨_, h, weak_ren (l := [some b2, some b4, some b6, b20, b34]) (sizedN_ok hz) (distO_ok h49) (LiveR.cons (RefsR.ptr (l := [some b2, some b4, some b6, b20, b34]) (i := 0) rfl (ptrN_eq h1)) (LiveR.cons (RefsR.ptr (l := [some b2, some b4, some b6, b20, b34]) (i := 1) rfl (ptrN_eq h3)) (LiveR.cons (RefsR.ptr (l := [some b2, some b4, some b6, b20, b34]) (i := 2) rfl (ptrN_eq h5)) (LiveR.cons (pI h7) LiveR.nil)))) (BlksR.cons (rowN_refs h9 rfl (GtRefsR.cons (pI h11) (GtRefsR.cons (pV h13) (GtRefsR.cons (pV h15) GtRefsR.nil))) rfl) (BlksR.cons (rowN_refs h17 rfl (GtRefsR.cons (RefsR.so (l := [some b2, some b4, some b6, b20, b34]) (i := 3) rfl (Nat.le_of_ble_eq_true rfl) h19) (GtRefsR.cons (pI h21) (GtRefsR.cons (pI h23) (GtRefsR.cons (pI h25) (GtRefsR.cons (pI h27) (GtRefsR.cons (pI h29) GtRefsR.nil)))))) rfl) (BlksR.cons (rowN_refs h31 rfl (GtRefsR.cons (RefsR.so (l := [some b2, some b4, some b6, b20, b34]) (i := 4) rfl (Nat.le_of_ble_eq_true rfl) h33) (GtRefsR.cons (pI h35) (GtRefsR.cons (pI h37) (GtRefsR.cons (pI h39) (GtRefsR.cons (pI h41) (GtRefsR.cons (pI h43) GtRefsR.nil)))))) rfl) (BlksR.cons (rtN_blk h45) (BlksR.cons (rtN_blk h47) BlksR.nil)))))⟩

def elf_laid.q0.t : Tail (Int × Int × SgL × SyL × Int × Int × Int × Int × Int × Int × Int × Int × Int × Int × (List Int) × (List Int)) := Tail.one (.exit 0) elf_laid.q0.x0
theorem elf_laid.q0.np (y : (Int × Int × SgL × SyL × Int × Int × Int × Int × Int × Int × Int × Int × Int × Int × (List Int) × (List Int))) (v : AV) : (elf_laid.q0.t.out y).1 = .panic v → nomem v = true := fun h => by cases h
theorem elf_laid.q0.nn (y : (Int × Int × SgL × SyL × Int × Int × Int × Int × Int × Int × Int × Int × Int × Int × (List Int) × (List Int))) : (elf_laid.q0.t.out y).1 ≠ .normal := fun h => by cases h
def elf_laid.q0.l (k : Nat) : Nat → (Int × SgL × Int × Int × Int × SgL × SyL × Int × Int × Int × Int × Int × Int × Int × Int × Int × Int × (List Int) × (List Int)) → Option (Int × Int × SgL × SyL × Int × Int × Int × Int × Int × Int × Int × Int × Int × Int × (List Int) × (List Int))
  | 0, _ => none
  | n + 1, x => (bif (decide (x.2.2.2.1 < x.2.2.1)) then (bif (decide (0 ≤ x.2.2.2.1) && decide (x.2.2.2.1 < ((x.2.1.length : Nat) : Int))) then ((elf_up.f x.1 4096).bind fun r1 => (bif (decide ((x.2.2.2.2.2.2.2.2.2.2.2.2.2.2.2.2.2.2 ++ ([r1] : List Int)).length ≤ maxLen) && decide ((x.2.2.2.2.2.2.2.2.2.2.2.2.2.2.2.2.2.2 ++ ([r1] : List Int)).length * 8 ≤ 211106232532992)) then (bif (decide (((((x.2.1.getD (x.2.2.2.1).toNat (0, 0, (false, false, false, ()), [], ())).2.2.2.1).length : Nat) : Int) > 0)) then (elf_laid.q0.l k n ((IntKind.wrap .u64 (r1 + (IntKind.wrap .u64 ((((x.2.1.getD (x.2.2.2.1).toNat (0, 0, (false, false, false, ()), [], ())).2.2.2.1).length : Nat) : Int)))), x.2.1, x.2.2.1, (IntKind.wrap .i64 (x.2.2.2.1 + 1)), x.2.2.2.2.1, x.2.2.2.2.2.1, x.2.2.2.2.2.2.1, x.2.2.2.2.2.2.2.1, x.2.2.2.2.2.2.2.2.1, x.2.2.2.2.2.2.2.2.2.1, x.2.2.2.2.2.2.2.2.2.2.1, x.2.2.2.2.2.2.2.2.2.2.2.1, x.2.2.2.2.2.2.2.2.2.2.2.2.1, x.2.2.2.2.2.2.2.2.2.2.2.2.2.1, x.2.2.2.2.2.2.2.2.2.2.2.2.2.2.1, x.2.2.2.2.2.2.2.2.2.2.2.2.2.2.2.1, x.2.2.2.2.2.2.2.2.2.2.2.2.2.2.2.2.1, x.2.2.2.2.2.2.2.2.2.2.2.2.2.2.2.2.2.1, (x.2.2.2.2.2.2.2.2.2.2.2.2.2.2.2.2.2.2 ++ ([r1] : List Int)))) else (elf_laid.q0.l k n (x.1, x.2.1, x.2.2.1, (IntKind.wrap .i64 (x.2.2.2.1 + 1)), x.2.2.2.2.1, x.2.2.2.2.2.1, x.2.2.2.2.2.2.1, x.2.2.2.2.2.2.2.1, x.2.2.2.2.2.2.2.2.1, x.2.2.2.2.2.2.2.2.2.1, x.2.2.2.2.2.2.2.2.2.2.1, x.2.2.2.2.2.2.2.2.2.2.2.1, x.2.2.2.2.2.2.2.2.2.2.2.2.1, x.2.2.2.2.2.2.2.2.2.2.2.2.2.1, x.2.2.2.2.2.2.2.2.2.2.2.2.2.2.1, x.2.2.2.2.2.2.2.2.2.2.2.2.2.2.2.1, x.2.2.2.2.2.2.2.2.2.2.2.2.2.2.2.2.1, x.2.2.2.2.2.2.2.2.2.2.2.2.2.2.2.2.2.1, (x.2.2.2.2.2.2.2.2.2.2.2.2.2.2.2.2.2.2 ++ ([r1] : List Int))))) else none)) else none) else (some (x.1, x.2.2.2.2.1, x.2.2.2.2.2.1, x.2.2.2.2.2.2.1, x.2.2.2.2.2.2.2.1, x.2.2.2.2.2.2.2.2.1, x.2.2.2.2.2.2.2.2.2.1, x.2.2.2.2.2.2.2.2.2.2.1, x.2.2.2.2.2.2.2.2.2.2.2.1, x.2.2.2.2.2.2.2.2.2.2.2.2.1, x.2.2.2.2.2.2.2.2.2.2.2.2.2.1, x.2.2.2.2.2.2.2.2.2.2.2.2.2.2.1, x.2.2.2.2.2.2.2.2.2.2.2.2.2.2.2.1, x.2.2.2.2.2.2.2.2.2.2.2.2.2.2.2.2.1, x.2.2.2.2.2.2.2.2.2.2.2.2.2.2.2.2.2.1, x.2.2.2.2.2.2.2.2.2.2.2.2.2.2.2.2.2.2)))
theorem elf_laid.q0.z (k : Nat) (x : (Int × SgL × Int × Int × Int × SgL × SyL × Int × Int × Int × Int × Int × Int × Int × Int × Int × Int × (List Int) × (List Int))) : elf_laid.q0.l k 0 x = none := rfl
theorem elf_laid.q0.at : codeAt (bodyOf Try.f31) [false, true, false, true, true, true] = some (.loop (loopBody (bodyOf Try.f31) [false, true, false, true, true, true])) := by kernel_rfl
theorem elf_laid.q0.goes (k n : Nat) (x : (Int × SgL × Int × Int × Int × SgL × SyL × Int × Int × Int × Int × Int × Int × Int × Int × Int × Int × (List Int) × (List Int))) : E Try.prog (gamOf [(56, elf_up.g)]) (lamOf []) (loopBody (bodyOf Try.f31) [false, true, false, true, true, true]) (false :: [false, true, false, true, true, true]) (elf_laid.q0.h.st x) (contD elf_laid.q0.h elf_laid.q0.t (elf_laid.q0.l k n) some) = elf_laid.q0.l k (n + 1) x := by
  kernel_rfl
theorem elf_laid.q0.ok_ (k : Nat) : PieceOk Try.prog (bodyOf Try.f31) ⟨[false, true, false, true, true, true], _, _, elf_laid.q0.h, elf_laid.q0.t, elf_laid.q0.l k k⟩ :=
  piece_loop (gamOf_cons (elf_up.ok) elf_up.callable (gamOf_nil _)) (lamOf_nil _ _) mixed elf_laid.q0.at elf_laid.q0.np elf_laid.q0.nn (elf_laid.q0.z k) (elf_laid.q0.goes k) k
def elf_laid.q0.p (k : Nat) : Piece := ⟨[false, true, false, true, true, true], _, _, elf_laid.q0.h, elf_laid.q0.t, elf_laid.q0.l k k⟩
theorem elf_laid.q0.ok (k : Nat) : PieceOk Try.prog (bodyOf Try.f31) (elf_laid.q0.p k) := elf_laid.q0.ok_ k
def elf_laid.q1.h : Head (SyL × Int × Int × Int × Int × Int × Int × Int × Int × Int × Int × Int × Int × (List Int) × (List Int)) where
  k γ s F := (sizedN 92 s).bind fun _ => (ptrN 0 (gt s.tm 2)).bind fun b2 => (ptrN 0 (gt s.tm 3)).bind fun b4 => (vtO SyC (gt s.tm 66)).bind fun v6 => (intO .i64 (gt s.tm 67)).bind fun v8 => (intO .i64 (gt s.tm 68)).bind fun v10 => (rowN 59 6 s.hp b2).bind fun l12 => (soN 1 s.hp (gt l12 0)).bind fun b14 => (intO .u64 (gt l12 1)).bind fun v16 => (intO .u64 (gt l12 2)).bind fun v18 => (intO .u64 (gt l12 3)).bind fun v20 => (intO .u64 (gt l12 4)).bind fun v22 => (intO .u64 (gt l12 5)).bind fun v24 => (rowN 59 6 s.hp b4).bind fun l26 => (soN 1 s.hp (gt l26 0)).bind fun b28 => (intO .u64 (gt l26 1)).bind fun v30 => (intO .u64 (gt l26 2)).bind fun v32 => (intO .u64 (gt l26 3)).bind fun v34 => (intO .u64 (gt l26 4)).bind fun v36 => (intO .u64 (gt l26 5)).bind fun v38 => (rtN (.int .u64) 57 s.hp b14).bind fun v40 => (rtN (.int .u64) 57 s.hp b28).bind fun v42 => (distO [some b2, some b4, b14, b28]).bind fun _ => F (v6, v8, v10, v16, v18, v20, v22, v24, v30, v32, v34, v36, v38, v40, v42)
  st x := ⟨sparseT [(2, (.ptr 0 0)), (3, (.ptr 1 0)), (66, (.vt SyC x.1)), (67, (.val (.int .i64 x.2.1))), (68, (.val (.int .i64 x.2.2.1)))] 92 0, [.row [(.so 2 1), (.val (.int .u64 x.2.2.2.1)), (.val (.int .u64 x.2.2.2.2.1)), (.val (.int .u64 x.2.2.2.2.2.1)), (.val (.int .u64 x.2.2.2.2.2.2.1)), (.val (.int .u64 x.2.2.2.2.2.2.2.1))] 59 false, .row [(.so 3 1), (.val (.int .u64 x.2.2.2.2.2.2.2.2.1)), (.val (.int .u64 x.2.2.2.2.2.2.2.2.2.1)), (.val (.int .u64 x.2.2.2.2.2.2.2.2.2.2.1)), (.val (.int .u64 x.2.2.2.2.2.2.2.2.2.2.2.1)), (.val (.int .u64 x.2.2.2.2.2.2.2.2.2.2.2.2.1))] 59 false, .rt (.int .u64) x.2.2.2.2.2.2.2.2.2.2.2.2.2.1 57, .rt (.int .u64) x.2.2.2.2.2.2.2.2.2.2.2.2.2.2 57]⟩
  ok γ s F r h := by
    have ⟨_, hz, h⟩ := bs h
    have ⟨b2, h1, h⟩ := bs h
    have ⟨b4, h3, h⟩ := bs h
    have ⟨v6, h5, h⟩ := bs h
    have ⟨v8, h7, h⟩ := bs h
    have ⟨v10, h9, h⟩ := bs h
    have ⟨l12, h11, h⟩ := bs h
    have ⟨b14, h13, h⟩ := bs h
    have ⟨v16, h15, h⟩ := bs h
    have ⟨v18, h17, h⟩ := bs h
    have ⟨v20, h19, h⟩ := bs h
    have ⟨v22, h21, h⟩ := bs h
    have ⟨v24, h23, h⟩ := bs h
    have ⟨l26, h25, h⟩ := bs h
    have ⟨b28, h27, h⟩ := bs h
    have ⟨v30, h29, h⟩ := bs h
    have ⟨v32, h31, h⟩ := bs h
    have ⟨v34, h33, h⟩ := bs h
    have ⟨v36, h35, h⟩ := bs h
    have ⟨v38, h37, h⟩ := bs h
    have ⟨v40, h39, h⟩ := bs h
    have ⟨v42, h41, h⟩ := bs h
    have ⟨_, h43, h⟩ := bs h
    exact ⟨_, h, weak_ren (l := [some b2, some b4, b14, b28]) (sizedN_ok hz) (distO_ok h43) (LiveR.cons (RefsR.ptr (l := [some b2, some b4, b14, b28]) (i := 0) rfl (ptrN_eq h1)) (LiveR.cons (RefsR.ptr (l := [some b2, some b4, b14, b28]) (i := 1) rfl (ptrN_eq h3)) (LiveR.cons (pV h5) (LiveR.cons (pI h7) (LiveR.cons (pI h9) LiveR.nil))))) (BlksR.cons (rowN_refs h11 rfl (GtRefsR.cons (RefsR.so (l := [some b2, some b4, b14, b28]) (i := 2) rfl (Nat.le_of_ble_eq_true rfl) h13) (GtRefsR.cons (pI h15) (GtRefsR.cons (pI h17) (GtRefsR.cons (pI h19) (GtRefsR.cons (pI h21) (GtRefsR.cons (pI h23) GtRefsR.nil)))))) rfl) (BlksR.cons (rowN_refs h25 rfl (GtRefsR.cons (RefsR.so (l := [some b2, some b4, b14, b28]) (i := 3) rfl (Nat.le_of_ble_eq_true rfl) h27) (GtRefsR.cons (pI h29) (GtRefsR.cons (pI h31) (GtRefsR.cons (pI h33) (GtRefsR.cons (pI h35) (GtRefsR.cons (pI h37) GtRefsR.nil)))))) rfl) (BlksR.cons (rtN_blk h39) (BlksR.cons (rtN_blk h41) BlksR.nil))))⟩

def elf_laid.q1.x0 : Head (Int × Int × Int × Int × Int × Int × Int × Int × Int × Int × (List Int) × (List Int)) where
  k γ s F := (sizedN 92 s).bind fun _ => (ptrN 0 (gt s.tm 2)).bind fun b2 => (ptrN 0 (gt s.tm 3)).bind fun b4 => (rowN 59 6 s.hp b2).bind fun l6 => (soN 1 s.hp (gt l6 0)).bind fun b8 => (intO .u64 (gt l6 1)).bind fun v10 => (intO .u64 (gt l6 2)).bind fun v12 => (intO .u64 (gt l6 3)).bind fun v14 => (intO .u64 (gt l6 4)).bind fun v16 => (intO .u64 (gt l6 5)).bind fun v18 => (rowN 59 6 s.hp b4).bind fun l20 => (soN 1 s.hp (gt l20 0)).bind fun b22 => (intO .u64 (gt l20 1)).bind fun v24 => (intO .u64 (gt l20 2)).bind fun v26 => (intO .u64 (gt l20 3)).bind fun v28 => (intO .u64 (gt l20 4)).bind fun v30 => (intO .u64 (gt l20 5)).bind fun v32 => (rtN (.int .u64) 57 s.hp b8).bind fun v34 => (rtN (.int .u64) 57 s.hp b22).bind fun v36 => (distO [some b2, some b4, b8, b22]).bind fun _ => F (v10, v12, v14, v16, v18, v24, v26, v28, v30, v32, v34, v36)
  st x := ⟨sparseT [(2, (.ptr 0 0)), (3, (.ptr 1 0))] 92 0, [.row [(.so 2 1), (.val (.int .u64 x.1)), (.val (.int .u64 x.2.1)), (.val (.int .u64 x.2.2.1)), (.val (.int .u64 x.2.2.2.1)), (.val (.int .u64 x.2.2.2.2.1))] 59 false, .row [(.so 3 1), (.val (.int .u64 x.2.2.2.2.2.1)), (.val (.int .u64 x.2.2.2.2.2.2.1)), (.val (.int .u64 x.2.2.2.2.2.2.2.1)), (.val (.int .u64 x.2.2.2.2.2.2.2.2.1)), (.val (.int .u64 x.2.2.2.2.2.2.2.2.2.1))] 59 false, .rt (.int .u64) x.2.2.2.2.2.2.2.2.2.2.1 57, .rt (.int .u64) x.2.2.2.2.2.2.2.2.2.2.2 57]⟩
  ok γ s F r h := by
    have ⟨_, hz, h⟩ := bs h
    have ⟨b2, h1, h⟩ := bs h
    have ⟨b4, h3, h⟩ := bs h
    have ⟨l6, h5, h⟩ := bs h
    have ⟨b8, h7, h⟩ := bs h
    have ⟨v10, h9, h⟩ := bs h
    have ⟨v12, h11, h⟩ := bs h
    have ⟨v14, h13, h⟩ := bs h
    have ⟨v16, h15, h⟩ := bs h
    have ⟨v18, h17, h⟩ := bs h
    have ⟨l20, h19, h⟩ := bs h
    have ⟨b22, h21, h⟩ := bs h
    have ⟨v24, h23, h⟩ := bs h
    have ⟨v26, h25, h⟩ := bs h
    have ⟨v28, h27, h⟩ := bs h
    have ⟨v30, h29, h⟩ := bs h
    have ⟨v32, h31, h⟩ := bs h
    have ⟨v34, h33, h⟩ := bs h
    have ⟨v36, h35, h⟩ := bs h
    have ⟨_, h37, h⟩ := bs h
    exact ⟨_, h, weak_ren (l := [some b2, some b4, b8, b22]) (sizedN_ok hz) (distO_ok h37) (LiveR.cons (RefsR.ptr (l := [some b2, some b4, b8, b22]) (i := 0) rfl (ptrN_eq h1)) (LiveR.cons (RefsR.ptr (l := [some b2, some b4, b8, b22]) (i := 1) rfl (ptrN_eq h3)) LiveR.nil)) (BlksR.cons (rowN_refs h5 rfl (GtRefsR.cons (RefsR.so (l := [some b2, some b4, b8, b22]) (i := 2) rfl (Nat.le_of_ble_eq_true rfl) h7) (GtRefsR.cons (pI h9) (GtRefsR.cons (pI h11) (GtRefsR.cons (pI h13) (GtRefsR.cons (pI h15) (GtRefsR.cons (pI h17) GtRefsR.nil)))))) rfl) (BlksR.cons (rowN_refs h19 rfl (GtRefsR.cons (RefsR.so (l := [some b2, some b4, b8, b22]) (i := 3) rfl (Nat.le_of_ble_eq_true rfl) h21) (GtRefsR.cons (pI h23) (GtRefsR.cons (pI h25) (GtRefsR.cons (pI h27) (GtRefsR.cons (pI h29) (GtRefsR.cons (pI h31) GtRefsR.nil)))))) rfl) (BlksR.cons (rtN_blk h33) (BlksR.cons (rtN_blk h35) BlksR.nil))))⟩

def elf_laid.q1.t : Tail (Int × Int × Int × Int × Int × Int × Int × Int × Int × Int × (List Int) × (List Int)) := Tail.one (.exit 2) elf_laid.q1.x0
theorem elf_laid.q1.np (y : (Int × Int × Int × Int × Int × Int × Int × Int × Int × Int × (List Int) × (List Int))) (v : AV) : (elf_laid.q1.t.out y).1 = .panic v → nomem v = true := fun h => by cases h
theorem elf_laid.q1.nn (y : (Int × Int × Int × Int × Int × Int × Int × Int × Int × Int × (List Int) × (List Int))) : (elf_laid.q1.t.out y).1 ≠ .normal := fun h => by cases h
def elf_laid.q1.l (k : Nat) : Nat → (SyL × Int × Int × Int × Int × Int × Int × Int × Int × Int × Int × Int × Int × (List Int) × (List Int)) → Option (Int × Int × Int × Int × Int × Int × Int × Int × Int × Int × (List Int) × (List Int))
  | 0, _ => none
  | n + 1, x => (bif (decide (x.2.2.1 < x.2.1)) then (bif (decide (0 ≤ x.2.2.1) && decide (x.2.2.1 < ((x.1.length : Nat) : Int))) then (elf_laid.q1.l k n (x.1, x.2.1, (IntKind.wrap .i64 (x.2.2.1 + 1)), x.2.2.2.1, x.2.2.2.2.1, x.2.2.2.2.2.1, x.2.2.2.2.2.2.1, x.2.2.2.2.2.2.2.1, x.2.2.2.2.2.2.2.2.1, x.2.2.2.2.2.2.2.2.2.1, (IntKind.wrap .u64 (x.2.2.2.2.2.2.2.2.2.2.1 + (IntKind.wrap .u64 ((IntKind.wrap .u64 (((x.1.getD (x.2.2.1).toNat (ByteArray.empty, 0, ())).1).size : Int)) + 1)))), x.2.2.2.2.2.2.2.2.2.2.2.1, x.2.2.2.2.2.2.2.2.2.2.2.2.1, x.2.2.2.2.2.2.2.2.2.2.2.2.2.1, x.2.2.2.2.2.2.2.2.2.2.2.2.2.2)) else none) else (some (x.2.2.2.1, x.2.2.2.2.1, x.2.2.2.2.2.1, x.2.2.2.2.2.2.1, x.2.2.2.2.2.2.2.1, x.2.2.2.2.2.2.2.2.1, x.2.2.2.2.2.2.2.2.2.1, x.2.2.2.2.2.2.2.2.2.2.1, x.2.2.2.2.2.2.2.2.2.2.2.1, x.2.2.2.2.2.2.2.2.2.2.2.2.1, x.2.2.2.2.2.2.2.2.2.2.2.2.2.1, x.2.2.2.2.2.2.2.2.2.2.2.2.2.2)))
theorem elf_laid.q1.z (k : Nat) (x : (SyL × Int × Int × Int × Int × Int × Int × Int × Int × Int × Int × Int × Int × (List Int) × (List Int))) : elf_laid.q1.l k 0 x = none := rfl
theorem elf_laid.q1.at : codeAt (bodyOf Try.f31) [false, true, false, true, true, true, false, true, false, true, true, true, true, true] = some (.loop (loopBody (bodyOf Try.f31) [false, true, false, true, true, true, false, true, false, true, true, true, true, true])) := by kernel_rfl
theorem elf_laid.q1.goes (k n : Nat) (x : (SyL × Int × Int × Int × Int × Int × Int × Int × Int × Int × Int × Int × Int × (List Int) × (List Int))) : E Try.prog (gamOf [(56, elf_up.g)]) (lamOf []) (loopBody (bodyOf Try.f31) [false, true, false, true, true, true, false, true, false, true, true, true, true, true]) (false :: [false, true, false, true, true, true, false, true, false, true, true, true, true, true]) (elf_laid.q1.h.st x) (contD elf_laid.q1.h elf_laid.q1.t (elf_laid.q1.l k n) some) = elf_laid.q1.l k (n + 1) x := by
  kernel_rfl
theorem elf_laid.q1.ok_ (k : Nat) : PieceOk Try.prog (bodyOf Try.f31) ⟨[false, true, false, true, true, true, false, true, false, true, true, true, true, true], _, _, elf_laid.q1.h, elf_laid.q1.t, elf_laid.q1.l k k⟩ :=
  piece_loop (gamOf_cons (elf_up.ok) elf_up.callable (gamOf_nil _)) (lamOf_nil _ _) mixed elf_laid.q1.at elf_laid.q1.np elf_laid.q1.nn (elf_laid.q1.z k) (elf_laid.q1.goes k) k
def elf_laid.q1.p (k : Nat) : Piece := ⟨[false, true, false, true, true, true, false, true, false, true, true, true, true, true], _, _, elf_laid.q1.h, elf_laid.q1.t, elf_laid.q1.l k k⟩
theorem elf_laid.q1.ok (k : Nat) : PieceOk Try.prog (bodyOf Try.f31) (elf_laid.q1.p k) := elf_laid.q1.ok_ k
def elf_laid.f (k : Nat) (x0 : T25) : Option (T58) := ((elf_laid.q0.l k k ((IntKind.wrap .u64 (IntKind.wrap .i64 (52 + (IntKind.wrap .i64 (32 * ((x0.f1_Segments.length : Nat) : Int)))))), x0.f1_Segments, ((x0.f1_Segments.length : Nat) : Int), 0, x0.f0_Entry, x0.f1_Segments, x0.f2_Symbols, 0, 0, 0, 0, 0, 0, 0, 0, 0, 0, ([] : List Int), ([] : List Int))).bind fun r2 => (bif (decide (((r2.2.2.2.1.length : Nat) : Int) > 0)) then ((elf_up.f r2.1 4).bind fun r3 => ((elf_laid.q1.l k k (r2.2.2.2.1, ((r2.2.2.2.1.length : Nat) : Int), 0, r2.2.2.2.2.1, r2.2.2.2.2.2.1, r2.2.2.2.2.2.2.1, r2.2.2.2.2.2.2.2.1, r2.2.2.2.2.2.2.2.2.1, r3, (IntKind.wrap .u64 (r3 + (IntKind.wrap .u64 (16 * (IntKind.wrap .u64 (IntKind.wrap .i64 (((r2.2.2.2.1.length : Nat) : Int) + 1))))))), (IntKind.wrap .u64 ((IntKind.wrap .u64 (r3 + (IntKind.wrap .u64 (16 * (IntKind.wrap .u64 (IntKind.wrap .i64 (((r2.2.2.2.1.length : Nat) : Int) + 1))))))) + 1)), r2.2.2.2.2.2.2.2.2.2.2.2.2.1, r2.1, r2.2.2.2.2.2.2.2.2.2.2.2.2.2.2.1, r2.2.2.2.2.2.2.2.2.2.2.2.2.2.2.2)).bind fun r4 => ((elf_up.f (IntKind.wrap .u64 (r4.2.2.2.2.2.2.2.1 + 27)) 4).bind fun r5 => (some (⟨r4.2.2.2.2.2.2.2.2.2.2.2, r4.2.2.2.2.2.1, r4.2.2.2.2.2.2.1, r4.2.2.2.2.2.2.2.1, r5, (IntKind.wrap .u64 (r5 + 160))⟩ : T58))))) else (some (⟨r2.2.2.2.2.2.2.2.2.2.2.2.2.2.2.2, r2.2.2.2.2.2.2.2.2.2.1, r2.2.2.2.2.2.2.2.2.2.2.1, r2.2.2.2.2.2.2.2.2.2.2.2.1, r2.2.2.2.2.2.2.2.2.2.2.2.2.1, r2.1⟩ : T58))))
theorem elf_laid.run (k : Nat) (x0 : T25) : runF Try.prog (gamOf [(56, elf_up.g)]) (lamOf [elf_laid.q0.p k, elf_laid.q1.p k]) Try.f31 [(T25.av x0)] some = (elf_laid.f k x0).bind fun r => some (.ret (T58.av r)) := by
  unfold elf_laid.f
  try simp only [cond_bind, elim_bind, Option.bind_some, Option.bind_none, Option.bind_assoc, Sum.elim_inl, Sum.elim_inr]
  kernel_rfl
def elf_laid.g (k : Nat) : GFun := fun β args K => match args with
  | [a0] => (T25.of a0).bind fun x0 => (elf_laid.f k x0).bind fun r => K (.ret (T58.av r))
  | _ => none
theorem elf_laid.callable : callable Try.prog 31 = true := callable_of Try.func31 (by kernel_rfl)
theorem elf_laid.ok (k : Nat) : GOk Try.prog 31 (elf_laid.g k) := by
  intro β args K r h
  unfold elf_laid.g at h
  split at h
  · obtain ⟨x0, e0, h⟩ := bs h
    obtain ⟨y, hy, hK⟩ := bs h
    have hrun := elf_laid.run k x0
    rw [hy] at hrun
    obtain ⟨out, e, hs⟩ := sim_of_run Try.func31 (by kernel_rfl) mixed (gamOf_cons (elf_up.ok) elf_up.callable (gamOf_nil _)) (lamOf_cons (elf_laid.q0.ok k) (lamOf_cons (elf_laid.q1.ok k) (lamOf_nil _ _))) (args' := [(T25.av x0)]) (RefsL.cons (T25.refs e0) RefsL.nil) hrun
    simp only [Option.some.injEq] at e
    subst e
    exact ⟨_, hK, hs⟩
  · cases h
/-! ### (*atlas/elf.writer).half: function 32, which writes through its first argument -/
def elf_writer_half.q0.h : Head ((List Int) × Int × Int × (List Int)) where
  k γ s F := (sizedN 27 s).bind fun _ => (ppN 0 (gt s.tm 0)).bind fun b2 => (vtO (.int .u32) (gt s.tm 6)).bind fun v4 => (intO .i64 (gt s.tm 7)).bind fun v6 => (intO .i64 (gt s.tm 8)).bind fun v8 => (rowN 63 1 s.hp b2).bind fun l10 => (soN 1 s.hp (gt l10 0)).bind fun b12 => (rtN (.int .u8) 5 s.hp b12).bind fun v14 => (distO [some b2, b12]).bind fun _ => F (v4, v6, v8, v14)
  st x := ⟨sparseT [(0, (.pp 0 0)), (6, (.vt (.int .u32) x.1)), (7, (.val (.int .i64 x.2.1))), (8, (.val (.int .i64 x.2.2.1)))] 27 0, [.row [(.so 1 1)] 63 false, .rt (.int .u8) x.2.2.2 5]⟩
  ok γ s F r h := by
    have ⟨_, hz, h⟩ := bs h
    have ⟨b2, h1, h⟩ := bs h
    have ⟨v4, h3, h⟩ := bs h
    have ⟨v6, h5, h⟩ := bs h
    have ⟨v8, h7, h⟩ := bs h
    have ⟨l10, h9, h⟩ := bs h
    have ⟨b12, h11, h⟩ := bs h
    have ⟨v14, h13, h⟩ := bs h
    have ⟨_, h15, h⟩ := bs h
    exact ⟨_, h, weak_ren (l := [some b2, b12]) (sizedN_ok hz) (distO_ok h15) (LiveR.cons (RefsR.pp (l := [some b2, b12]) (i := 0) rfl (ppN_eq h1)) (LiveR.cons (pV h3) (LiveR.cons (pI h5) (LiveR.cons (pI h7) LiveR.nil)))) (BlksR.cons (rowN_refs h9 rfl (GtRefsR.cons (RefsR.so (l := [some b2, b12]) (i := 1) rfl (Nat.le_of_ble_eq_true rfl) h11) GtRefsR.nil) rfl) (BlksR.cons (rtN_blk h13) BlksR.nil))⟩

def elf_writer_half.q0.x0 : Head ((List Int)) where
  k γ s F := (sizedN 27 s).bind fun _ => (ppN 0 (gt s.tm 0)).bind fun b2 => (rowN 63 1 s.hp b2).bind fun l4 => (soN 1 s.hp (gt l4 0)).bind fun b6 => (rtN (.int .u8) 5 s.hp b6).bind fun v8 => (distO [some b2, b6]).bind fun _ => F (v8)
  st x := ⟨sparseT [(0, (.pp 0 0))] 27 0, [.row [(.so 1 1)] 63 false, .rt (.int .u8) x 5]⟩
  ok γ s F r h := by
    have ⟨_, hz, h⟩ := bs h
    have ⟨b2, h1, h⟩ := bs h
    have ⟨l4, h3, h⟩ := bs h
    have ⟨b6, h5, h⟩ := bs h
    have ⟨v8, h7, h⟩ := bs h
    have ⟨_, h9, h⟩ := bs h
    exact ⟨_, h, weak_ren (l := [some b2, b6]) (sizedN_ok hz) (distO_ok h9) (LiveR.cons (RefsR.pp (l := [some b2, b6]) (i := 0) rfl (ppN_eq h1)) LiveR.nil) (BlksR.cons (rowN_refs h3 rfl (GtRefsR.cons (RefsR.so (l := [some b2, b6]) (i := 1) rfl (Nat.le_of_ble_eq_true rfl) h5) GtRefsR.nil) rfl) (BlksR.cons (rtN_blk h7) BlksR.nil))⟩

def elf_writer_half.q0.t : Tail ((List Int)) := Tail.one (.exit 0) elf_writer_half.q0.x0
theorem elf_writer_half.q0.np (y : ((List Int))) (v : AV) : (elf_writer_half.q0.t.out y).1 = .panic v → nomem v = true := fun h => by cases h
theorem elf_writer_half.q0.nn (y : ((List Int))) : (elf_writer_half.q0.t.out y).1 ≠ .normal := fun h => by cases h
def elf_writer_half.q0.l (k : Nat) : Nat → ((List Int) × Int × Int × (List Int)) → Option ((List Int))
  | 0, _ => none
  | n + 1, x => (bif (decide (x.2.2.1 < x.2.1)) then (bif (decide (0 ≤ x.2.2.1) && decide (x.2.2.1 < ((x.1.length : Nat) : Int))) then (bif (decide ((x.2.2.2 ++ ([(IntKind.wrap .u8 (x.1.getD (x.2.2.1).toNat 0)), (IntKind.wrap .u8 (shrI .u32 (x.1.getD (x.2.2.1).toNat 0) 8))] : List Int)).length ≤ maxLen) && decide ((x.2.2.2 ++ ([(IntKind.wrap .u8 (x.1.getD (x.2.2.1).toNat 0)), (IntKind.wrap .u8 (shrI .u32 (x.1.getD (x.2.2.1).toNat 0) 8))] : List Int)).length * 1 ≤ 211106232532992)) then (elf_writer_half.q0.l k n (x.1, x.2.1, (IntKind.wrap .i64 (x.2.2.1 + 1)), (x.2.2.2 ++ ([(IntKind.wrap .u8 (x.1.getD (x.2.2.1).toNat 0)), (IntKind.wrap .u8 (shrI .u32 (x.1.getD (x.2.2.1).toNat 0) 8))] : List Int)))) else none) else none) else (some x.2.2.2))
theorem elf_writer_half.q0.z (k : Nat) (x : ((List Int) × Int × Int × (List Int))) : elf_writer_half.q0.l k 0 x = none := rfl
theorem elf_writer_half.q0.at : codeAt (bodyOf Try.f32) [false, true] = some (.loop (loopBody (bodyOf Try.f32) [false, true])) := by kernel_rfl
theorem elf_writer_half.q0.goes (k n : Nat) (x : ((List Int) × Int × Int × (List Int))) : E Try.prog (gamOf []) (lamOf []) (loopBody (bodyOf Try.f32) [false, true]) (false :: [false, true]) (elf_writer_half.q0.h.st x) (contD elf_writer_half.q0.h elf_writer_half.q0.t (elf_writer_half.q0.l k n) some) = elf_writer_half.q0.l k (n + 1) x := by
  kernel_rfl
theorem elf_writer_half.q0.ok_ (k : Nat) : PieceOk Try.prog (bodyOf Try.f32) ⟨[false, true], _, _, elf_writer_half.q0.h, elf_writer_half.q0.t, elf_writer_half.q0.l k k⟩ :=
  piece_loop (gamOf_nil _) (lamOf_nil _ _) mixed elf_writer_half.q0.at elf_writer_half.q0.np elf_writer_half.q0.nn (elf_writer_half.q0.z k) (elf_writer_half.q0.goes k) k
def elf_writer_half.q0.p (k : Nat) : Piece := ⟨[false, true], _, _, elf_writer_half.q0.h, elf_writer_half.q0.t, elf_writer_half.q0.l k k⟩
theorem elf_writer_half.q0.ok (k : Nat) : PieceOk Try.prog (bodyOf Try.f32) (elf_writer_half.q0.p k) := elf_writer_half.q0.ok_ k
def elf_writer_half.f (k : Nat) (x0 : List Int) (x1 : (List Int)) : Option (List Int) := ((elf_writer_half.q0.l k k (x1, ((x1.length : Nat) : Int), 0, x0)).bind fun r1 => (some r1))
def elf_writer_half.x : Head ((List Int)) where
  k γ s F := (sizedN 27 s).bind fun _ => (ppN 0 (gt s.tm 0)).bind fun b2 => (rowN 63 1 s.hp b2).bind fun l4 => (soN 1 s.hp (gt l4 0)).bind fun b6 => (rtN (.int .u8) 5 s.hp b6).bind fun v8 => (distO [some b2, b6]).bind fun _ => F (v8)
  st x := ⟨sparseT [(0, (.pp 0 0))] 27 0, [.row [(.so 1 1)] 63 false, .rt (.int .u8) x 5]⟩
  ok γ s F r h := by
    have ⟨_, hz, h⟩ := bs h
    have ⟨b2, h1, h⟩ := bs h
    have ⟨l4, h3, h⟩ := bs h
    have ⟨b6, h5, h⟩ := bs h
    have ⟨v8, h7, h⟩ := bs h
    have ⟨_, h9, h⟩ := bs h
    exact ⟨_, h, weak_ren (l := [some b2, b6]) (sizedN_ok hz) (distO_ok h9) (LiveR.cons (RefsR.pp (l := [some b2, b6]) (i := 0) rfl (ppN_eq h1)) LiveR.nil) (BlksR.cons (rowN_refs h3 rfl (GtRefsR.cons (RefsR.so (l := [some b2, b6]) (i := 1) rfl (Nat.le_of_ble_eq_true rfl) h5) GtRefsR.nil) rfl) (BlksR.cons (rtN_blk h7) BlksR.nil))⟩

def elf_writer_half.w (k : Nat) : WFun where
  T := 63
  t := 5
  c := (.int .u8)
  α := (List Int)
  rd l := match l with
    | [a0] => (vtO (.int .u32) a0).bind fun c0 => some (c0)
    | _ => none
  st a := [(.vt (.int .u32) a)]
  ok := by
    intro l a h C m vs hc
    split at h
    · obtain ⟨c0, e0, h⟩ := bs h
      simp only [Option.some.injEq] at h
      subst h
      exact RefsL.cells (RefsL.cons (vtO_refs e0) RefsL.nil) hc
    · cases h
  l x a := elf_writer_half.f k x a
theorem elf_writer_half.run (k : Nat) (x : List Int) (a : (elf_writer_half.w k).α) : E Try.prog (gamOf []) (lamOf [elf_writer_half.q0.p k]) (bodyOf Try.f32) [] (wSt (elf_writer_half.w k) Try.f32 x a) (wK elf_writer_half.x) = elf_writer_half.f k x a := by
  unfold elf_writer_half.f
  try simp only [cond_bind, elim_bind, Option.bind_some, Option.bind_none, Option.bind_assoc]
  kernel_rfl
theorem elf_writer_half.callable : callable Try.prog 32 = true := callable_of Try.func32 (by kernel_rfl)
theorem elf_writer_half.wok (k : Nat) : WOk Try.prog 32 (elf_writer_half.w k) := wok_of_run Try.func32 (by kernel_rfl) (by kernel_rfl) mixed (gamOf_nil _) (lamOf_cons (elf_writer_half.q0.ok k) (lamOf_nil _ _)) (elf_writer_half.w k) rfl elf_writer_half.x (fun y => ⟨rfl, rfl⟩) (fun x a => elf_writer_half.run k x a)
/-! ### (*atlas/elf.writer).word: function 33, which writes through its first argument -/
def elf_writer_word.q0.h : Head ((List Int) × Int × Int × (List Int)) where
  k γ s F := (sizedN 33 s).bind fun _ => (ppN 0 (gt s.tm 0)).bind fun b2 => (vtO (.int .u32) (gt s.tm 6)).bind fun v4 => (intO .i64 (gt s.tm 7)).bind fun v6 => (intO .i64 (gt s.tm 8)).bind fun v8 => (rowN 63 1 s.hp b2).bind fun l10 => (soN 1 s.hp (gt l10 0)).bind fun b12 => (rtN (.int .u8) 5 s.hp b12).bind fun v14 => (distO [some b2, b12]).bind fun _ => F (v4, v6, v8, v14)
  st x := ⟨sparseT [(0, (.pp 0 0)), (6, (.vt (.int .u32) x.1)), (7, (.val (.int .i64 x.2.1))), (8, (.val (.int .i64 x.2.2.1)))] 33 0, [.row [(.so 1 1)] 63 false, .rt (.int .u8) x.2.2.2 5]⟩
  ok γ s F r h := by
    have ⟨_, hz, h⟩ := bs h
    have ⟨b2, h1, h⟩ := bs h
    have ⟨v4, h3, h⟩ := bs h
    have ⟨v6, h5, h⟩ := bs h
    have ⟨v8, h7, h⟩ := bs h
    have ⟨l10, h9, h⟩ := bs h
    have ⟨b12, h11, h⟩ := bs h
    have ⟨v14, h13, h⟩ := bs h
    have ⟨_, h15, h⟩ := bs h
    exact ⟨_, h, weak_ren (l := [some b2, b12]) (sizedN_ok hz) (distO_ok h15) (LiveR.cons (RefsR.pp (l := [some b2, b12]) (i := 0) rfl (ppN_eq h1)) (LiveR.cons (pV h3) (LiveR.cons (pI h5) (LiveR.cons (pI h7) LiveR.nil)))) (BlksR.cons (rowN_refs h9 rfl (GtRefsR.cons (RefsR.so (l := [some b2, b12]) (i := 1) rfl (Nat.le_of_ble_eq_true rfl) h11) GtRefsR.nil) rfl) (BlksR.cons (rtN_blk h13) BlksR.nil))⟩

def elf_writer_word.q0.x0 : Head ((List Int)) where
  k γ s F := (sizedN 33 s).bind fun _ => (ppN 0 (gt s.tm 0)).bind fun b2 => (rowN 63 1 s.hp b2).bind fun l4 => (soN 1 s.hp (gt l4 0)).bind fun b6 => (rtN (.int .u8) 5 s.hp b6).bind fun v8 => (distO [some b2, b6]).bind fun _ => F (v8)
  st x := ⟨sparseT [(0, (.pp 0 0))] 33 0, [.row [(.so 1 1)] 63 false, .rt (.int .u8) x 5]⟩
  ok γ s F r h := by
    have ⟨_, hz, h⟩ := bs h
    have ⟨b2, h1, h⟩ := bs h
    have ⟨l4, h3, h⟩ := bs h
    have ⟨b6, h5, h⟩ := bs h
    have ⟨v8, h7, h⟩ := bs h
    have ⟨_, h9, h⟩ := bs h
    exact ⟨_, h, weak_ren (l := [some b2, b6]) (sizedN_ok hz) (distO_ok h9) (LiveR.cons (RefsR.pp (l := [some b2, b6]) (i := 0) rfl (ppN_eq h1)) LiveR.nil) (BlksR.cons (rowN_refs h3 rfl (GtRefsR.cons (RefsR.so (l := [some b2, b6]) (i := 1) rfl (Nat.le_of_ble_eq_true rfl) h5) GtRefsR.nil) rfl) (BlksR.cons (rtN_blk h7) BlksR.nil))⟩

def elf_writer_word.q0.t : Tail ((List Int)) := Tail.one (.exit 0) elf_writer_word.q0.x0
theorem elf_writer_word.q0.np (y : ((List Int))) (v : AV) : (elf_writer_word.q0.t.out y).1 = .panic v → nomem v = true := fun h => by cases h
theorem elf_writer_word.q0.nn (y : ((List Int))) : (elf_writer_word.q0.t.out y).1 ≠ .normal := fun h => by cases h
def elf_writer_word.q0.l (k : Nat) : Nat → ((List Int) × Int × Int × (List Int)) → Option ((List Int))
  | 0, _ => none
  | n + 1, x => (bif (decide (x.2.2.1 < x.2.1)) then (bif (decide (0 ≤ x.2.2.1) && decide (x.2.2.1 < ((x.1.length : Nat) : Int))) then (bif (decide ((x.2.2.2 ++ ([(IntKind.wrap .u8 (x.1.getD (x.2.2.1).toNat 0)), (IntKind.wrap .u8 (shrI .u32 (x.1.getD (x.2.2.1).toNat 0) 8)), (IntKind.wrap .u8 (shrI .u32 (x.1.getD (x.2.2.1).toNat 0) 16)), (IntKind.wrap .u8 (shrI .u32 (x.1.getD (x.2.2.1).toNat 0) 24))] : List Int)).length ≤ maxLen) && decide ((x.2.2.2 ++ ([(IntKind.wrap .u8 (x.1.getD (x.2.2.1).toNat 0)), (IntKind.wrap .u8 (shrI .u32 (x.1.getD (x.2.2.1).toNat 0) 8)), (IntKind.wrap .u8 (shrI .u32 (x.1.getD (x.2.2.1).toNat 0) 16)), (IntKind.wrap .u8 (shrI .u32 (x.1.getD (x.2.2.1).toNat 0) 24))] : List Int)).length * 1 ≤ 211106232532992)) then (elf_writer_word.q0.l k n (x.1, x.2.1, (IntKind.wrap .i64 (x.2.2.1 + 1)), (x.2.2.2 ++ ([(IntKind.wrap .u8 (x.1.getD (x.2.2.1).toNat 0)), (IntKind.wrap .u8 (shrI .u32 (x.1.getD (x.2.2.1).toNat 0) 8)), (IntKind.wrap .u8 (shrI .u32 (x.1.getD (x.2.2.1).toNat 0) 16)), (IntKind.wrap .u8 (shrI .u32 (x.1.getD (x.2.2.1).toNat 0) 24))] : List Int)))) else none) else none) else (some x.2.2.2))
theorem elf_writer_word.q0.z (k : Nat) (x : ((List Int) × Int × Int × (List Int))) : elf_writer_word.q0.l k 0 x = none := rfl
theorem elf_writer_word.q0.at : codeAt (bodyOf Try.f33) [false, true] = some (.loop (loopBody (bodyOf Try.f33) [false, true])) := by kernel_rfl
theorem elf_writer_word.q0.goes (k n : Nat) (x : ((List Int) × Int × Int × (List Int))) : E Try.prog (gamOf []) (lamOf []) (loopBody (bodyOf Try.f33) [false, true]) (false :: [false, true]) (elf_writer_word.q0.h.st x) (contD elf_writer_word.q0.h elf_writer_word.q0.t (elf_writer_word.q0.l k n) some) = elf_writer_word.q0.l k (n + 1) x := by
  kernel_rfl
theorem elf_writer_word.q0.ok_ (k : Nat) : PieceOk Try.prog (bodyOf Try.f33) ⟨[false, true], _, _, elf_writer_word.q0.h, elf_writer_word.q0.t, elf_writer_word.q0.l k k⟩ :=
  piece_loop (gamOf_nil _) (lamOf_nil _ _) mixed elf_writer_word.q0.at elf_writer_word.q0.np elf_writer_word.q0.nn (elf_writer_word.q0.z k) (elf_writer_word.q0.goes k) k
def elf_writer_word.q0.p (k : Nat) : Piece := ⟨[false, true], _, _, elf_writer_word.q0.h, elf_writer_word.q0.t, elf_writer_word.q0.l k k⟩
theorem elf_writer_word.q0.ok (k : Nat) : PieceOk Try.prog (bodyOf Try.f33) (elf_writer_word.q0.p k) := elf_writer_word.q0.ok_ k
def elf_writer_word.f (k : Nat) (x0 : List Int) (x1 : (List Int)) : Option (List Int) := ((elf_writer_word.q0.l k k (x1, ((x1.length : Nat) : Int), 0, x0)).bind fun r1 => (some r1))
def elf_writer_word.x : Head ((List Int)) where
  k γ s F := (sizedN 33 s).bind fun _ => (ppN 0 (gt s.tm 0)).bind fun b2 => (rowN 63 1 s.hp b2).bind fun l4 => (soN 1 s.hp (gt l4 0)).bind fun b6 => (rtN (.int .u8) 5 s.hp b6).bind fun v8 => (distO [some b2, b6]).bind fun _ => F (v8)
  st x := ⟨sparseT [(0, (.pp 0 0))] 33 0, [.row [(.so 1 1)] 63 false, .rt (.int .u8) x 5]⟩
  ok γ s F r h := by
    have ⟨_, hz, h⟩ := bs h
    have ⟨b2, h1, h⟩ := bs h
    have ⟨l4, h3, h⟩ := bs h
    have ⟨b6, h5, h⟩ := bs h
    have ⟨v8, h7, h⟩ := bs h
    have ⟨_, h9, h⟩ := bs h
    exact ⟨_, h, weak_ren (l := [some b2, b6]) (sizedN_ok hz) (distO_ok h9) (LiveR.cons (RefsR.pp (l := [some b2, b6]) (i := 0) rfl (ppN_eq h1)) LiveR.nil) (BlksR.cons (rowN_refs h3 rfl (GtRefsR.cons (RefsR.so (l := [some b2, b6]) (i := 1) rfl (Nat.le_of_ble_eq_true rfl) h5) GtRefsR.nil) rfl) (BlksR.cons (rtN_blk h7) BlksR.nil))⟩

def elf_writer_word.w (k : Nat) : WFun where
  T := 63
  t := 5
  c := (.int .u8)
  α := (List Int)
  rd l := match l with
    | [a0] => (vtO (.int .u32) a0).bind fun c0 => some (c0)
    | _ => none
  st a := [(.vt (.int .u32) a)]
  ok := by
    intro l a h C m vs hc
    split at h
    · obtain ⟨c0, e0, h⟩ := bs h
      simp only [Option.some.injEq] at h
      subst h
      exact RefsL.cells (RefsL.cons (vtO_refs e0) RefsL.nil) hc
    · cases h
  l x a := elf_writer_word.f k x a
theorem elf_writer_word.run (k : Nat) (x : List Int) (a : (elf_writer_word.w k).α) : E Try.prog (gamOf []) (lamOf [elf_writer_word.q0.p k]) (bodyOf Try.f33) [] (wSt (elf_writer_word.w k) Try.f33 x a) (wK elf_writer_word.x) = elf_writer_word.f k x a := by
  unfold elf_writer_word.f
  try simp only [cond_bind, elim_bind, Option.bind_some, Option.bind_none, Option.bind_assoc]
  kernel_rfl
theorem elf_writer_word.callable : callable Try.prog 33 = true := callable_of Try.func33 (by kernel_rfl)
theorem elf_writer_word.wok (k : Nat) : WOk Try.prog 33 (elf_writer_word.w k) := wok_of_run Try.func33 (by kernel_rfl) (by kernel_rfl) mixed (gamOf_nil _) (lamOf_cons (elf_writer_word.q0.ok k) (lamOf_nil _ _)) (elf_writer_word.w k) rfl elf_writer_word.x (fun y => ⟨rfl, rfl⟩) (fun x a => elf_writer_word.run k x a)
/-! ### atlas/elf.bits: function 34 -/
def elf_bits.f (x0 : T43) : Option (Int) := (bif x0.f0_Read then (bif x0.f1_Write then (bif x0.f2_Exec then (some 7) else (some 6)) else (bif x0.f2_Exec then (some 5) else (some 4))) else (bif x0.f1_Write then (bif x0.f2_Exec then (some 3) else (some 2)) else (bif x0.f2_Exec then (some 1) else (some 0))))
theorem elf_bits.run (x0 : T43) : runF Try.prog (gamOf []) noLam Try.f34 [(T43.av x0)] some = (elf_bits.f x0).bind fun r => some (.ret (.val (.int .u32 r))) := by
  unfold elf_bits.f
  try simp only [cond_bind, elim_bind, Option.bind_some, Option.bind_none, Option.bind_assoc, Sum.elim_inl, Sum.elim_inr]
  kernel_rfl
def elf_bits.g : GFun := fun β args K => match args with
  | [a0] => (T43.of a0).bind fun x0 => (elf_bits.f x0).bind fun r => K (.ret (.val (.int .u32 r)))
  | _ => none
theorem elf_bits.callable : callable Try.prog 34 = true := callable_of Try.func34 (by kernel_rfl)
theorem elf_bits.ok : GOk Try.prog 34 (elf_bits.g) := by
  intro β args K r h
  unfold elf_bits.g at h
  split at h
  · obtain ⟨x0, e0, h⟩ := bs h
    obtain ⟨y, hy, hK⟩ := bs h
    have hrun := elf_bits.run x0
    rw [hy] at hrun
    obtain ⟨out, e, hs⟩ := sim_of_run Try.func34 (by kernel_rfl) mixed (gamOf_nil _) (noLam_ok _ _) (args' := [(T43.av x0)]) (RefsL.cons (T43.refs e0) RefsL.nil) hrun
    simp only [Option.some.injEq] at e
    subst e
    exact ⟨_, hK, hs⟩
  · cases h
/-! ### (*atlas/elf.writer).pad: function 35, which writes through its first argument -/
def elf_writer_pad.f (x0 : List Int) (x1 : Int) : Option (List Int) := (bif ((decide (0 ≤ (IntKind.wrap .u64 (x1 - (IntKind.wrap .u64 ((x0.length : Nat) : Int))))) && true) && (decide (x0.length + ((IntKind.wrap .u64 (x1 - (IntKind.wrap .u64 ((x0.length : Nat) : Int))))).toNat ≤ maxLen) && decide ((x0.length + ((IntKind.wrap .u64 (x1 - (IntKind.wrap .u64 ((x0.length : Nat) : Int))))).toNat) * 1 ≤ 211106232532992))) then (some (x0 ++ List.replicate ((IntKind.wrap .u64 (x1 - (IntKind.wrap .u64 ((x0.length : Nat) : Int))))).toNat (0 : Int))) else none)
def elf_writer_pad.x : Head ((List Int)) where
  k γ s F := (sizedN 20 s).bind fun _ => (ppN 0 (gt s.tm 0)).bind fun b2 => (rowN 63 1 s.hp b2).bind fun l4 => (soN 1 s.hp (gt l4 0)).bind fun b6 => (rtN (.int .u8) 5 s.hp b6).bind fun v8 => (distO [some b2, b6]).bind fun _ => F (v8)
  st x := ⟨sparseT [(0, (.pp 0 0))] 20 0, [.row [(.so 1 1)] 63 false, .rt (.int .u8) x 5]⟩
  ok γ s F r h := by
    have ⟨_, hz, h⟩ := bs h
    have ⟨b2, h1, h⟩ := bs h
    have ⟨l4, h3, h⟩ := bs h
    have ⟨b6, h5, h⟩ := bs h
    have ⟨v8, h7, h⟩ := bs h
    have ⟨_, h9, h⟩ := bs h
    exact ⟨_, h, weak_ren (l := [some b2, b6]) (sizedN_ok hz) (distO_ok h9) (LiveR.cons (RefsR.pp (l := [some b2, b6]) (i := 0) rfl (ppN_eq h1)) LiveR.nil) (BlksR.cons (rowN_refs h3 rfl (GtRefsR.cons (RefsR.so (l := [some b2, b6]) (i := 1) rfl (Nat.le_of_ble_eq_true rfl) h5) GtRefsR.nil) rfl) (BlksR.cons (rtN_blk h7) BlksR.nil))⟩

def elf_writer_pad.w : WFun where
  T := 63
  t := 5
  c := (.int .u8)
  α := Int
  rd l := match l with
    | [a0] => (intO .u64 a0).bind fun c0 => some (c0)
    | _ => none
  st a := [(.val (.int .u64 a))]
  ok := by
    intro l a h C m vs hc
    split at h
    · obtain ⟨c0, e0, h⟩ := bs h
      simp only [Option.some.injEq] at h
      subst h
      exact RefsL.cells (RefsL.cons (Refs.of_eq (intO_eq e0)) RefsL.nil) hc
    · cases h
  l x a := elf_writer_pad.f x a
theorem elf_writer_pad.run (x : List Int) (a : (elf_writer_pad.w).α) : E Try.prog (gamOf []) noLam (bodyOf Try.f35) [] (wSt (elf_writer_pad.w) Try.f35 x a) (wK elf_writer_pad.x) = elf_writer_pad.f x a := by
  unfold elf_writer_pad.f
  try simp only [cond_bind, elim_bind, Option.bind_some, Option.bind_none, Option.bind_assoc]
  kernel_rfl
theorem elf_writer_pad.callable : callable Try.prog 35 = true := callable_of Try.func35 (by kernel_rfl)
theorem elf_writer_pad.wok : WOk Try.prog 35 (elf_writer_pad.w) := wok_of_run Try.func35 (by kernel_rfl) (by kernel_rfl) mixed (gamOf_nil _) (noLam_ok _ _) (elf_writer_pad.w) rfl elf_writer_pad.x (fun y => ⟨rfl, rfl⟩) (fun x a => elf_writer_pad.run x a)
end Go.Va
