-- Written by a program of this session (wip/va/vaprint.py). Not trusted: Lean checks it.
import Derived.Test.YtmphkmoakamepaaVaTy
import Derived.Test.YtmphkmoakamepaaVf0
set_option linter.unusedVariables false
set_option linter.unusedSimpArgs false
set_option autoImplicit false
set_option maxRecDepth 100000
namespace Go.Va
open Go.Proofs
/-! ### atlas/elf.Right: function 15 -/
def elf_Right.q0.h : Head ((List (Int × Int × (Bool × Bool × Bool × Unit) × (List Int) × Unit)) × Int × Int × Int × (List (Int × Int × (Bool × Bool × Bool × Unit) × (List Int) × Unit)) × (List (ByteArray × Int × Unit))) where
  k γ s F := (sizedN 68 s).bind fun _ => (ptrN 0 (gt s.tm 1)).bind fun b2 => (vtO (.pair (.int .u32) (.pair (.int .u32) (.pair (.pair .bool (.pair .bool (.pair .bool .unit))) (.pair (.vec (.int .u8)) .unit)))) (gt s.tm 25)).bind fun v4 => (intO .i64 (gt s.tm 26)).bind fun v6 => (intO .i64 (gt s.tm 27)).bind fun v8 => (rowN 26 3 s.hp b2).bind fun l10 => (intO .u32 (gt l10 0)).bind fun v12 => (vtO (.pair (.int .u32) (.pair (.int .u32) (.pair (.pair .bool (.pair .bool (.pair .bool .unit))) (.pair (.vec (.int .u8)) .unit)))) (gt l10 1)).bind fun v14 => (vtO (.pair .str (.pair (.int .u32) .unit)) (gt l10 2)).bind fun v16 => (distO [some b2]).bind fun _ => F (v4, v6, v8, v12, v14, v16)
  st x := ⟨sparseT [(1, (.ptr 0 0)), (25, (.vt (.pair (.int .u32) (.pair (.int .u32) (.pair (.pair .bool (.pair .bool (.pair .bool .unit))) (.pair (.vec (.int .u8)) .unit)))) x.1)), (26, (.val (.int .i64 x.2.1))), (27, (.val (.int .i64 x.2.2.1)))] 68 0, [.row [(.val (.int .u32 x.2.2.2.1)), (.vt (.pair (.int .u32) (.pair (.int .u32) (.pair (.pair .bool (.pair .bool (.pair .bool .unit))) (.pair (.vec (.int .u8)) .unit)))) x.2.2.2.2.1), (.vt (.pair .str (.pair (.int .u32) .unit)) x.2.2.2.2.2)] 26 true]⟩
  ok γ s F r h := by
    obtain ⟨_, hz, h⟩ := Option.bind_eq_some_iff.1 h
    obtain ⟨b2, h1, h⟩ := Option.bind_eq_some_iff.1 h
    obtain ⟨v4, h3, h⟩ := Option.bind_eq_some_iff.1 h
    obtain ⟨v6, h5, h⟩ := Option.bind_eq_some_iff.1 h
    obtain ⟨v8, h7, h⟩ := Option.bind_eq_some_iff.1 h
    obtain ⟨l10, h9, h⟩ := Option.bind_eq_some_iff.1 h
    obtain ⟨v12, h11, h⟩ := Option.bind_eq_some_iff.1 h
    obtain ⟨v14, h13, h⟩ := Option.bind_eq_some_iff.1 h
    obtain ⟨v16, h15, h⟩ := Option.bind_eq_some_iff.1 h
    obtain ⟨_, h17, h⟩ := Option.bind_eq_some_iff.1 h
    exact ⟨_, h, weak_ren (l := [some b2]) (sizedN_ok hz) (distO_ok h17) (LiveR.cons (RefsR.ptr (l := [some b2]) (i := 0) rfl (ptrN_eq h1)) (LiveR.cons (RefsR.plain (vtO_refs h3) rfl) (LiveR.cons (RefsR.plain (Refs.of_eq (intO_eq h5)) rfl) (LiveR.cons (RefsR.plain (Refs.of_eq (intO_eq h7)) rfl) LiveR.nil)))) (BlksR.cons (rowN_refs h9 rfl (GtRefsR.cons (RefsR.plain (Refs.of_eq (intO_eq h11)) rfl) (GtRefsR.cons (RefsR.plain (vtO_refs h13) rfl) (GtRefsR.cons (RefsR.plain (vtO_refs h15) rfl) GtRefsR.nil))) rfl) BlksR.nil)⟩

def elf_Right.q0.x0 : Head (Bool) where
  k γ s F := (sizedN 68 s).bind fun _ => (boolO (gt s.tm 2)).bind fun v2 => (distO []).bind fun _ => F (v2)
  st x := ⟨sparseT [(2, (.val (.bool x)))] 68 0, []⟩
  ok γ s F r h := by
    obtain ⟨_, hz, h⟩ := Option.bind_eq_some_iff.1 h
    obtain ⟨v2, h1, h⟩ := Option.bind_eq_some_iff.1 h
    obtain ⟨_, h3, h⟩ := Option.bind_eq_some_iff.1 h
    exact ⟨_, h, weak_ren (l := []) (sizedN_ok hz) (distO_ok h3) (LiveR.cons (RefsR.plain (Refs.of_eq (boolO_eq h1)) rfl) LiveR.nil) BlksR.nil⟩

def elf_Right.q0.x1 : Head (Int × (List (Int × Int × (Bool × Bool × Bool × Unit) × (List Int) × Unit)) × (List (ByteArray × Int × Unit))) where
  k γ s F := (sizedN 68 s).bind fun _ => (ptrN 0 (gt s.tm 1)).bind fun b2 => (rowN 26 3 s.hp b2).bind fun l4 => (intO .u32 (gt l4 0)).bind fun v6 => (vtO (.pair (.int .u32) (.pair (.int .u32) (.pair (.pair .bool (.pair .bool (.pair .bool .unit))) (.pair (.vec (.int .u8)) .unit)))) (gt l4 1)).bind fun v8 => (vtO (.pair .str (.pair (.int .u32) .unit)) (gt l4 2)).bind fun v10 => (distO [some b2]).bind fun _ => F (v6, v8, v10)
  st x := ⟨sparseT [(1, (.ptr 0 0))] 68 0, [.row [(.val (.int .u32 x.1)), (.vt (.pair (.int .u32) (.pair (.int .u32) (.pair (.pair .bool (.pair .bool (.pair .bool .unit))) (.pair (.vec (.int .u8)) .unit)))) x.2.1), (.vt (.pair .str (.pair (.int .u32) .unit)) x.2.2)] 26 true]⟩
  ok γ s F r h := by
    obtain ⟨_, hz, h⟩ := Option.bind_eq_some_iff.1 h
    obtain ⟨b2, h1, h⟩ := Option.bind_eq_some_iff.1 h
    obtain ⟨l4, h3, h⟩ := Option.bind_eq_some_iff.1 h
    obtain ⟨v6, h5, h⟩ := Option.bind_eq_some_iff.1 h
    obtain ⟨v8, h7, h⟩ := Option.bind_eq_some_iff.1 h
    obtain ⟨v10, h9, h⟩ := Option.bind_eq_some_iff.1 h
    obtain ⟨_, h11, h⟩ := Option.bind_eq_some_iff.1 h
    exact ⟨_, h, weak_ren (l := [some b2]) (sizedN_ok hz) (distO_ok h11) (LiveR.cons (RefsR.ptr (l := [some b2]) (i := 0) rfl (ptrN_eq h1)) LiveR.nil) (BlksR.cons (rowN_refs h3 rfl (GtRefsR.cons (RefsR.plain (Refs.of_eq (intO_eq h5)) rfl) (GtRefsR.cons (RefsR.plain (vtO_refs h7) rfl) (GtRefsR.cons (RefsR.plain (vtO_refs h9) rfl) GtRefsR.nil))) rfl) BlksR.nil)⟩

def elf_Right.q0.t : Tail ((Bool) ⊕ (Int × (List (Int × Int × (Bool × Bool × Bool × Unit) × (List Int) × Unit)) × (List (ByteArray × Int × Unit)))) := Tail.or .ret elf_Right.q0.x0 (Tail.one (.exit 0) elf_Right.q0.x1)
theorem elf_Right.q0.np (y : ((Bool) ⊕ (Int × (List (Int × Int × (Bool × Bool × Bool × Unit) × (List Int) × Unit)) × (List (ByteArray × Int × Unit))))) (v : AV) : (elf_Right.q0.t.out y).1 ≠ .panic v := fun h => by rcases y with _ | y <;> first | (cases h; done) | (cases h)
theorem elf_Right.q0.nn (y : ((Bool) ⊕ (Int × (List (Int × Int × (Bool × Bool × Bool × Unit) × (List Int) × Unit)) × (List (ByteArray × Int × Unit))))) : (elf_Right.q0.t.out y).1 ≠ .normal := fun h => by rcases y with _ | y <;> first | (cases h; done) | (cases h)
def elf_Right.q0.l (k : Nat) : Nat → ((List (Int × Int × (Bool × Bool × Bool × Unit) × (List Int) × Unit)) × Int × Int × Int × (List (Int × Int × (Bool × Bool × Bool × Unit) × (List Int) × Unit)) × (List (ByteArray × Int × Unit))) → Option ((Bool) ⊕ (Int × (List (Int × Int × (Bool × Bool × Bool × Unit) × (List Int) × Unit)) × (List (ByteArray × Int × Unit))))
  | 0, _ => none
  | n + 1, x => (bif (decide (x.2.2.1 < x.2.1)) then (bif (decide (0 ≤ x.2.2.1) && decide (x.2.2.1 < ((x.1.length : Nat) : Int))) then ((elf_segment.f (⟨(x.1.getD (x.2.2.1).toNat (0, 0, (false, false, false, ()), [], ())).1, (x.1.getD (x.2.2.1).toNat (0, 0, (false, false, false, ()), [], ())).2.1, (x.1.getD (x.2.2.1).toNat (0, 0, (false, false, false, ()), [], ())).2.2.1.1, (x.1.getD (x.2.2.1).toNat (0, 0, (false, false, false, ()), [], ())).2.2.1.2.1, (x.1.getD (x.2.2.1).toNat (0, 0, (false, false, false, ()), [], ())).2.2.1.2.2.1, (x.1.getD (x.2.2.1).toNat (0, 0, (false, false, false, ()), [], ())).2.2.2.1⟩ : T45)).bind fun r1 => (bif (!r1) then (some (Sum.inl false)) else (elf_Right.q0.l k n (x.1, x.2.1, (IntKind.wrap .i64 (x.2.2.1 + 1)), x.2.2.2.1, x.2.2.2.2.1, x.2.2.2.2.2)))) else none) else (some (Sum.inr (x.2.2.2.1, x.2.2.2.2.1, x.2.2.2.2.2))))
theorem elf_Right.q0.z (k : Nat) (x : ((List (Int × Int × (Bool × Bool × Bool × Unit) × (List Int) × Unit)) × Int × Int × Int × (List (Int × Int × (Bool × Bool × Bool × Unit) × (List Int) × Unit)) × (List (ByteArray × Int × Unit)))) : elf_Right.q0.l k 0 x = none := rfl
theorem elf_Right.q0.at : codeAt (bodyOf Try.f15) [false, true, false, true, true] = some (.loop (loopBody (bodyOf Try.f15) [false, true, false, true, true])) := by kernel_rfl
theorem elf_Right.q0.goes (k n : Nat) (x : ((List (Int × Int × (Bool × Bool × Bool × Unit) × (List Int) × Unit)) × Int × Int × Int × (List (Int × Int × (Bool × Bool × Bool × Unit) × (List Int) × Unit)) × (List (ByteArray × Int × Unit)))) : E Try.prog (gamOf [(23, elf_segment.g)]) (lamOf []) (loopBody (bodyOf Try.f15) [false, true, false, true, true]) (false :: [false, true, false, true, true]) (elf_Right.q0.h.st x) (contD elf_Right.q0.h elf_Right.q0.t (elf_Right.q0.l k n) some) = elf_Right.q0.l k (n + 1) x := by
  kernel_rfl
theorem elf_Right.q0.ok_ (k : Nat) : PieceOk Try.prog (bodyOf Try.f15) ⟨[false, true, false, true, true], _, _, elf_Right.q0.h, elf_Right.q0.t, elf_Right.q0.l k k⟩ :=
  piece_loop (gamOf_cons (elf_segment.ok) elf_segment.callable (gamOf_nil _)) (lamOf_nil _ _) mixed elf_Right.q0.at elf_Right.q0.np elf_Right.q0.nn (elf_Right.q0.z k) (elf_Right.q0.goes k) k
def elf_Right.q0.p (k : Nat) : Piece := ⟨[false, true, false, true, true], _, _, elf_Right.q0.h, elf_Right.q0.t, elf_Right.q0.l k k⟩
theorem elf_Right.q0.ok (k : Nat) : PieceOk Try.prog (bodyOf Try.f15) (elf_Right.q0.p k) := elf_Right.q0.ok_ k
def elf_Right.q1.h : Head ((List (ByteArray × Int × Unit)) × Int × Int × Int × (List (Int × Int × (Bool × Bool × Bool × Unit) × (List Int) × Unit)) × (List (ByteArray × Int × Unit)) × (List (ByteArray × Int))) where
  k γ s F := (sizedN 68 s).bind fun _ => (ptrN 0 (gt s.tm 1)).bind fun b2 => (mppN (gt s.tm 5)).bind fun b4 => (vtO (.pair .str (.pair (.int .u32) .unit)) (gt s.tm 37)).bind fun v6 => (intO .i64 (gt s.tm 38)).bind fun v8 => (intO .i64 (gt s.tm 39)).bind fun v10 => (rowN 26 3 s.hp b2).bind fun l12 => (intO .u32 (gt l12 0)).bind fun v14 => (vtO (.pair (.int .u32) (.pair (.int .u32) (.pair (.pair .bool (.pair .bool (.pair .bool .unit))) (.pair (.vec (.int .u8)) .unit)))) (gt l12 1)).bind fun v16 => (vtO (.pair .str (.pair (.int .u32) .unit)) (gt l12 2)).bind fun v18 => (mpN .str (.int .i64) s.hp b4).bind fun l20 => (distO [some b2, some b4]).bind fun _ => F (v6, v8, v10, v14, v16, v18, l20)
  st x := ⟨sparseT [(1, (.ptr 0 0)), (5, (.mpp 1)), (37, (.vt (.pair .str (.pair (.int .u32) .unit)) x.1)), (38, (.val (.int .i64 x.2.1))), (39, (.val (.int .i64 x.2.2.1)))] 68 0, [.row [(.val (.int .u32 x.2.2.2.1)), (.vt (.pair (.int .u32) (.pair (.int .u32) (.pair (.pair .bool (.pair .bool (.pair .bool .unit))) (.pair (.vec (.int .u8)) .unit)))) x.2.2.2.2.1), (.vt (.pair .str (.pair (.int .u32) .unit)) x.2.2.2.2.2.1)] 26 true, .ob (.mp .str (.int .i64) x.2.2.2.2.2.2)]⟩
  ok γ s F r h := by
    obtain ⟨_, hz, h⟩ := Option.bind_eq_some_iff.1 h
    obtain ⟨b2, h1, h⟩ := Option.bind_eq_some_iff.1 h
    obtain ⟨b4, h3, h⟩ := Option.bind_eq_some_iff.1 h
    obtain ⟨v6, h5, h⟩ := Option.bind_eq_some_iff.1 h
    obtain ⟨v8, h7, h⟩ := Option.bind_eq_some_iff.1 h
    obtain ⟨v10, h9, h⟩ := Option.bind_eq_some_iff.1 h
    obtain ⟨l12, h11, h⟩ := Option.bind_eq_some_iff.1 h
    obtain ⟨v14, h13, h⟩ := Option.bind_eq_some_iff.1 h
    obtain ⟨v16, h15, h⟩ := Option.bind_eq_some_iff.1 h
    obtain ⟨v18, h17, h⟩ := Option.bind_eq_some_iff.1 h
    obtain ⟨l20, h19, h⟩ := Option.bind_eq_some_iff.1 h
    obtain ⟨_, h21, h⟩ := Option.bind_eq_some_iff.1 h
    exact ⟨_, h, weak_ren (l := [some b2, some b4]) (sizedN_ok hz) (distO_ok h21) (LiveR.cons (RefsR.ptr (l := [some b2, some b4]) (i := 0) rfl (ptrN_eq h1)) (LiveR.cons (RefsR.mpp (l := [some b2, some b4]) (i := 1) rfl (mppN_eq h3)) (LiveR.cons (RefsR.plain (vtO_refs h5) rfl) (LiveR.cons (RefsR.plain (Refs.of_eq (intO_eq h7)) rfl) (LiveR.cons (RefsR.plain (Refs.of_eq (intO_eq h9)) rfl) LiveR.nil))))) (BlksR.cons (rowN_refs h11 rfl (GtRefsR.cons (RefsR.plain (Refs.of_eq (intO_eq h13)) rfl) (GtRefsR.cons (RefsR.plain (vtO_refs h15) rfl) (GtRefsR.cons (RefsR.plain (vtO_refs h17) rfl) GtRefsR.nil))) rfl) (BlksR.cons (mpN_blk h19) BlksR.nil))⟩

def elf_Right.q1.x0 : Head (Bool) where
  k γ s F := (sizedN 68 s).bind fun _ => (boolO (gt s.tm 2)).bind fun v2 => (distO []).bind fun _ => F (v2)
  st x := ⟨sparseT [(2, (.val (.bool x)))] 68 0, []⟩
  ok γ s F r h := by
    obtain ⟨_, hz, h⟩ := Option.bind_eq_some_iff.1 h
    obtain ⟨v2, h1, h⟩ := Option.bind_eq_some_iff.1 h
    obtain ⟨_, h3, h⟩ := Option.bind_eq_some_iff.1 h
    exact ⟨_, h, weak_ren (l := []) (sizedN_ok hz) (distO_ok h3) (LiveR.cons (RefsR.plain (Refs.of_eq (boolO_eq h1)) rfl) LiveR.nil) BlksR.nil⟩

def elf_Right.q1.x1 : Head (Int × (List (Int × Int × (Bool × Bool × Bool × Unit) × (List Int) × Unit)) × (List (ByteArray × Int × Unit))) where
  k γ s F := (sizedN 68 s).bind fun _ => (ptrN 0 (gt s.tm 1)).bind fun b2 => (rowN 26 3 s.hp b2).bind fun l4 => (intO .u32 (gt l4 0)).bind fun v6 => (vtO (.pair (.int .u32) (.pair (.int .u32) (.pair (.pair .bool (.pair .bool (.pair .bool .unit))) (.pair (.vec (.int .u8)) .unit)))) (gt l4 1)).bind fun v8 => (vtO (.pair .str (.pair (.int .u32) .unit)) (gt l4 2)).bind fun v10 => (distO [some b2]).bind fun _ => F (v6, v8, v10)
  st x := ⟨sparseT [(1, (.ptr 0 0))] 68 0, [.row [(.val (.int .u32 x.1)), (.vt (.pair (.int .u32) (.pair (.int .u32) (.pair (.pair .bool (.pair .bool (.pair .bool .unit))) (.pair (.vec (.int .u8)) .unit)))) x.2.1), (.vt (.pair .str (.pair (.int .u32) .unit)) x.2.2)] 26 true]⟩
  ok γ s F r h := by
    obtain ⟨_, hz, h⟩ := Option.bind_eq_some_iff.1 h
    obtain ⟨b2, h1, h⟩ := Option.bind_eq_some_iff.1 h
    obtain ⟨l4, h3, h⟩ := Option.bind_eq_some_iff.1 h
    obtain ⟨v6, h5, h⟩ := Option.bind_eq_some_iff.1 h
    obtain ⟨v8, h7, h⟩ := Option.bind_eq_some_iff.1 h
    obtain ⟨v10, h9, h⟩ := Option.bind_eq_some_iff.1 h
    obtain ⟨_, h11, h⟩ := Option.bind_eq_some_iff.1 h
    exact ⟨_, h, weak_ren (l := [some b2]) (sizedN_ok hz) (distO_ok h11) (LiveR.cons (RefsR.ptr (l := [some b2]) (i := 0) rfl (ptrN_eq h1)) LiveR.nil) (BlksR.cons (rowN_refs h3 rfl (GtRefsR.cons (RefsR.plain (Refs.of_eq (intO_eq h5)) rfl) (GtRefsR.cons (RefsR.plain (vtO_refs h7) rfl) (GtRefsR.cons (RefsR.plain (vtO_refs h9) rfl) GtRefsR.nil))) rfl) BlksR.nil)⟩

def elf_Right.q1.t : Tail ((Bool) ⊕ (Int × (List (Int × Int × (Bool × Bool × Bool × Unit) × (List Int) × Unit)) × (List (ByteArray × Int × Unit)))) := Tail.or .ret elf_Right.q1.x0 (Tail.one (.exit 2) elf_Right.q1.x1)
theorem elf_Right.q1.np (y : ((Bool) ⊕ (Int × (List (Int × Int × (Bool × Bool × Bool × Unit) × (List Int) × Unit)) × (List (ByteArray × Int × Unit))))) (v : AV) : (elf_Right.q1.t.out y).1 ≠ .panic v := fun h => by rcases y with _ | y <;> first | (cases h; done) | (cases h)
theorem elf_Right.q1.nn (y : ((Bool) ⊕ (Int × (List (Int × Int × (Bool × Bool × Bool × Unit) × (List Int) × Unit)) × (List (ByteArray × Int × Unit))))) : (elf_Right.q1.t.out y).1 ≠ .normal := fun h => by rcases y with _ | y <;> first | (cases h; done) | (cases h)
def elf_Right.q1.l (k : Nat) : Nat → ((List (ByteArray × Int × Unit)) × Int × Int × Int × (List (Int × Int × (Bool × Bool × Bool × Unit) × (List Int) × Unit)) × (List (ByteArray × Int × Unit)) × (List (ByteArray × Int))) → Option ((Bool) ⊕ (Int × (List (Int × Int × (Bool × Bool × Bool × Unit) × (List Int) × Unit)) × (List (ByteArray × Int × Unit))))
  | 0, _ => none
  | n + 1, x => (bif (decide (x.2.2.1 < x.2.1)) then (bif (decide (0 ≤ x.2.2.1) && decide (x.2.2.1 < ((x.1.length : Nat) : Int))) then (bif (decide ((optD (mpGet .str (.int .i64) x.2.2.2.2.2.2 ((x.1.getD (x.2.2.1).toNat (ByteArray.empty, 0, ())).1)) 0) > 0)) then (some (Sum.inl false)) else ((words_Name.f k ((x.1.getD (x.2.2.1).toNat (ByteArray.empty, 0, ())).1)).bind fun r5 => (bif (!r5) then (some (Sum.inl false)) else (elf_Right.q1.l k n (x.1, x.2.1, (IntKind.wrap .i64 (x.2.2.1 + 1)), x.2.2.2.1, x.2.2.2.2.1, x.2.2.2.2.2.1, (mpPut .str (.int .i64) x.2.2.2.2.2.2 ((x.1.getD (x.2.2.1).toNat (ByteArray.empty, 0, ())).1) 1)))))) else none) else (some (Sum.inr (x.2.2.2.1, x.2.2.2.2.1, x.2.2.2.2.2.1))))
theorem elf_Right.q1.z (k : Nat) (x : ((List (ByteArray × Int × Unit)) × Int × Int × Int × (List (Int × Int × (Bool × Bool × Bool × Unit) × (List Int) × Unit)) × (List (ByteArray × Int × Unit)) × (List (ByteArray × Int)))) : elf_Right.q1.l k 0 x = none := rfl
theorem elf_Right.q1.at : codeAt (bodyOf Try.f15) [false, true, false, true, true, true, true] = some (.loop (loopBody (bodyOf Try.f15) [false, true, false, true, true, true, true])) := by kernel_rfl
theorem elf_Right.q1.goes (k n : Nat) (x : ((List (ByteArray × Int × Unit)) × Int × Int × Int × (List (Int × Int × (Bool × Bool × Bool × Unit) × (List Int) × Unit)) × (List (ByteArray × Int × Unit)) × (List (ByteArray × Int)))) : E Try.prog (gamOf [(23, elf_segment.g), (24, words_Name.g k)]) (lamOf []) (loopBody (bodyOf Try.f15) [false, true, false, true, true, true, true]) (false :: [false, true, false, true, true, true, true]) (elf_Right.q1.h.st x) (contD elf_Right.q1.h elf_Right.q1.t (elf_Right.q1.l k n) some) = elf_Right.q1.l k (n + 1) x := by
  kernel_rfl
theorem elf_Right.q1.ok_ (k : Nat) : PieceOk Try.prog (bodyOf Try.f15) ⟨[false, true, false, true, true, true, true], _, _, elf_Right.q1.h, elf_Right.q1.t, elf_Right.q1.l k k⟩ :=
  piece_loop (gamOf_cons (elf_segment.ok) elf_segment.callable (gamOf_cons (words_Name.ok k) words_Name.callable (gamOf_nil _))) (lamOf_nil _ _) mixed elf_Right.q1.at elf_Right.q1.np elf_Right.q1.nn (elf_Right.q1.z k) (elf_Right.q1.goes k) k
def elf_Right.q1.p (k : Nat) : Piece := ⟨[false, true, false, true, true, true, true], _, _, elf_Right.q1.h, elf_Right.q1.t, elf_Right.q1.l k k⟩
theorem elf_Right.q1.ok (k : Nat) : PieceOk Try.prog (bodyOf Try.f15) (elf_Right.q1.p k) := elf_Right.q1.ok_ k
def elf_Right.f (k : Nat) (x0 : T25) : Option (Bool) := (bif (decide (((x0.f1_Segments.length : Nat) : Int) < 1)) then (some false) else (bif (decide (((x0.f1_Segments.length : Nat) : Int) > 16)) then (some false) else (bif (decide (((x0.f2_Symbols.length : Nat) : Int) > 1024)) then (some false) else ((elf_Right.q0.l k k (x0.f1_Segments, ((x0.f1_Segments.length : Nat) : Int), 0, x0.f0_Entry, x0.f1_Segments, x0.f2_Symbols)).bind fun r2 => (Sum.elim (fun r3 => (some r3)) (fun r4 => ((elf_Right.q1.l k k (r4.2.2, ((r4.2.2.length : Nat) : Int), 0, r4.1, r4.2.1, r4.2.2, ([] : List (ByteArray × Int)))).bind fun r6 => (Sum.elim (fun r7 => (some r7)) (fun r8 => ((elf_rising.f k r8.2.1).bind fun r9 => (bif r9 then ((elf_starts.f k r8.2.1 r8.1).bind fun r10 => (some r10)) else (some false)))) r6))) r2)))))
theorem elf_Right.run (k : Nat) (x0 : T25) : runF Try.prog (gamOf [(23, elf_segment.g), (24, words_Name.g k), (25, elf_rising.g k), (26, elf_starts.g k)]) (lamOf [elf_Right.q0.p k, elf_Right.q1.p k]) Try.f15 [(T25.av x0)] some = (elf_Right.f k x0).bind fun r => some (.ret (.val (.bool r))) := by
  unfold elf_Right.f
  try simp only [cond_bind, elim_bind, Option.bind_some, Option.bind_none, Option.bind_assoc]
  kernel_rfl
def elf_Right.g (k : Nat) : GFun := fun β args K => match args with
  | [a0] => (T25.of a0).bind fun x0 => (elf_Right.f k x0).bind fun r => K (.ret (.val (.bool r)))
  | _ => none
theorem elf_Right.callable : callable Try.prog 15 = true := callable_of Try.func15 (by kernel_rfl)
theorem elf_Right.ok (k : Nat) : GOk Try.prog 15 (elf_Right.g k) := by
  intro β args K r h
  unfold elf_Right.g at h
  split at h
  · obtain ⟨x0, e0, h⟩ := Option.bind_eq_some_iff.1 h
    obtain ⟨y, hy, hK⟩ := Option.bind_eq_some_iff.1 h
    have hrun := elf_Right.run k x0
    rw [hy] at hrun
    obtain ⟨out, e, hs⟩ := sim_of_run Try.func15 (by kernel_rfl) mixed (gamOf_cons (elf_segment.ok) elf_segment.callable (gamOf_cons (words_Name.ok k) words_Name.callable (gamOf_cons (elf_rising.ok k) elf_rising.callable (gamOf_cons (elf_starts.ok k) elf_starts.callable (gamOf_nil _))))) (lamOf_cons (elf_Right.q0.ok k) (lamOf_cons (elf_Right.q1.ok k) (lamOf_nil _ _))) (args' := [(T25.av x0)]) (RefsL.cons (T25.refs e0) RefsL.nil) hrun
    simp only [Option.some.injEq] at e
    subst e
    exact ⟨_, hK, hs⟩
  · cases h
/-! ### atlas/atlasref23.Find: function 12 -/
def atlasref23_Find.q0.h : Head (ByteArray × Int × Int × (List (Int × Int × (Bool × Bool × Bool × Unit) × (List Int) × Unit)) × (List (ByteArray × Int × Unit))) where
  k γ s F := (sizedN 28 s).bind fun _ => (strO (gt s.tm 1)).bind fun v2 => (ptrN 0 (gt s.tm 2)).bind fun b4 => (intO .i64 (gt s.tm 6)).bind fun v6 => (rowN 26 3 s.hp b4).bind fun l8 => (intO .u32 (gt l8 0)).bind fun v10 => (vtO (.pair (.int .u32) (.pair (.int .u32) (.pair (.pair .bool (.pair .bool (.pair .bool .unit))) (.pair (.vec (.int .u8)) .unit)))) (gt l8 1)).bind fun v12 => (vtO (.pair .str (.pair (.int .u32) .unit)) (gt l8 2)).bind fun v14 => (distO [some b4]).bind fun _ => F (v2, v6, v10, v12, v14)
  st x := ⟨sparseT [(1, (.val (.string x.1))), (2, (.ptr 0 0)), (6, (.val (.int .i64 x.2.1)))] 28 0, [.row [(.val (.int .u32 x.2.2.1)), (.vt (.pair (.int .u32) (.pair (.int .u32) (.pair (.pair .bool (.pair .bool (.pair .bool .unit))) (.pair (.vec (.int .u8)) .unit)))) x.2.2.2.1), (.vt (.pair .str (.pair (.int .u32) .unit)) x.2.2.2.2)] 26 true]⟩
  ok γ s F r h := by
    obtain ⟨_, hz, h⟩ := Option.bind_eq_some_iff.1 h
    obtain ⟨v2, h1, h⟩ := Option.bind_eq_some_iff.1 h
    obtain ⟨b4, h3, h⟩ := Option.bind_eq_some_iff.1 h
    obtain ⟨v6, h5, h⟩ := Option.bind_eq_some_iff.1 h
    obtain ⟨l8, h7, h⟩ := Option.bind_eq_some_iff.1 h
    obtain ⟨v10, h9, h⟩ := Option.bind_eq_some_iff.1 h
    obtain ⟨v12, h11, h⟩ := Option.bind_eq_some_iff.1 h
    obtain ⟨v14, h13, h⟩ := Option.bind_eq_some_iff.1 h
    obtain ⟨_, h15, h⟩ := Option.bind_eq_some_iff.1 h
    exact ⟨_, h, weak_ren (l := [some b4]) (sizedN_ok hz) (distO_ok h15) (LiveR.cons (RefsR.plain (Refs.of_eq (strO_eq h1)) rfl) (LiveR.cons (RefsR.ptr (l := [some b4]) (i := 0) rfl (ptrN_eq h3)) (LiveR.cons (RefsR.plain (Refs.of_eq (intO_eq h5)) rfl) LiveR.nil))) (BlksR.cons (rowN_refs h7 rfl (GtRefsR.cons (RefsR.plain (Refs.of_eq (intO_eq h9)) rfl) (GtRefsR.cons (RefsR.plain (vtO_refs h11) rfl) (GtRefsR.cons (RefsR.plain (vtO_refs h13) rfl) GtRefsR.nil))) rfl) BlksR.nil)⟩

def atlasref23_Find.q0.x0 : Head (Int × Bool) where
  k γ s F := (sizedN 28 s).bind fun _ => (intO .u32 (gt s.tm 4)).bind fun v2 => (boolO (gt s.tm 5)).bind fun v4 => (distO []).bind fun _ => F (v2, v4)
  st x := ⟨sparseT [(4, (.val (.int .u32 x.1))), (5, (.val (.bool x.2)))] 28 0, []⟩
  ok γ s F r h := by
    obtain ⟨_, hz, h⟩ := Option.bind_eq_some_iff.1 h
    obtain ⟨v2, h1, h⟩ := Option.bind_eq_some_iff.1 h
    obtain ⟨v4, h3, h⟩ := Option.bind_eq_some_iff.1 h
    obtain ⟨_, h5, h⟩ := Option.bind_eq_some_iff.1 h
    exact ⟨_, h, weak_ren (l := []) (sizedN_ok hz) (distO_ok h5) (LiveR.cons (RefsR.plain (Refs.of_eq (intO_eq h1)) rfl) (LiveR.cons (RefsR.plain (Refs.of_eq (boolO_eq h3)) rfl) LiveR.nil)) BlksR.nil⟩

def atlasref23_Find.q0.x1 : Head (Unit) where
  k γ s F := (sizedN 28 s).bind fun _ => (distO []).bind fun _ => F ()
  st x := ⟨sparseT [] 28 0, []⟩
  ok γ s F r h := by
    obtain ⟨_, hz, h⟩ := Option.bind_eq_some_iff.1 h
    obtain ⟨_, h1, h⟩ := Option.bind_eq_some_iff.1 h
    exact ⟨_, h, weak_ren (l := []) (sizedN_ok hz) (distO_ok h1) LiveR.nil BlksR.nil⟩

def atlasref23_Find.q0.t : Tail ((Int × Bool) ⊕ (Unit)) := Tail.or .ret atlasref23_Find.q0.x0 (Tail.one (.exit 0) atlasref23_Find.q0.x1)
theorem atlasref23_Find.q0.np (y : ((Int × Bool) ⊕ (Unit))) (v : AV) : (atlasref23_Find.q0.t.out y).1 ≠ .panic v := fun h => by rcases y with _ | y <;> first | (cases h; done) | (cases h)
theorem atlasref23_Find.q0.nn (y : ((Int × Bool) ⊕ (Unit))) : (atlasref23_Find.q0.t.out y).1 ≠ .normal := fun h => by rcases y with _ | y <;> first | (cases h; done) | (cases h)
def atlasref23_Find.q0.l (k : Nat) : Nat → (ByteArray × Int × Int × (List (Int × Int × (Bool × Bool × Bool × Unit) × (List Int) × Unit)) × (List (ByteArray × Int × Unit))) → Option ((Int × Bool) ⊕ (Unit))
  | 0, _ => none
  | n + 1, x => (bif (decide (x.2.1 < ((x.2.2.2.2.length : Nat) : Int))) then (bif (decide (0 ≤ x.2.1) && decide (x.2.1 < ((x.2.2.2.2.length : Nat) : Int))) then (bif (((x.2.2.2.2.getD (x.2.1).toNat (ByteArray.empty, 0, ())).1).toList == x.1.toList) then (bif (decide (0 ≤ x.2.1) && decide (x.2.1 < ((x.2.2.2.2.length : Nat) : Int))) then (some (Sum.inl ((x.2.2.2.2.getD (x.2.1).toNat (ByteArray.empty, 0, ())).2.1, true))) else none) else (atlasref23_Find.q0.l k n (x.1, (IntKind.wrap .i64 (x.2.1 + 1)), x.2.2.1, x.2.2.2.1, x.2.2.2.2))) else none) else (some (Sum.inr ())))
theorem atlasref23_Find.q0.z (k : Nat) (x : (ByteArray × Int × Int × (List (Int × Int × (Bool × Bool × Bool × Unit) × (List Int) × Unit)) × (List (ByteArray × Int × Unit)))) : atlasref23_Find.q0.l k 0 x = none := rfl
theorem atlasref23_Find.q0.at : codeAt (bodyOf Try.f12) [false, true, false, true] = some (.loop (loopBody (bodyOf Try.f12) [false, true, false, true])) := by kernel_rfl
theorem atlasref23_Find.q0.goes (k n : Nat) (x : (ByteArray × Int × Int × (List (Int × Int × (Bool × Bool × Bool × Unit) × (List Int) × Unit)) × (List (ByteArray × Int × Unit)))) : E Try.prog (gamOf []) (lamOf []) (loopBody (bodyOf Try.f12) [false, true, false, true]) (false :: [false, true, false, true]) (atlasref23_Find.q0.h.st x) (contD atlasref23_Find.q0.h atlasref23_Find.q0.t (atlasref23_Find.q0.l k n) some) = atlasref23_Find.q0.l k (n + 1) x := by
  kernel_rfl
theorem atlasref23_Find.q0.ok_ (k : Nat) : PieceOk Try.prog (bodyOf Try.f12) ⟨[false, true, false, true], _, _, atlasref23_Find.q0.h, atlasref23_Find.q0.t, atlasref23_Find.q0.l k k⟩ :=
  piece_loop (gamOf_nil _) (lamOf_nil _ _) mixed atlasref23_Find.q0.at atlasref23_Find.q0.np atlasref23_Find.q0.nn (atlasref23_Find.q0.z k) (atlasref23_Find.q0.goes k) k
def atlasref23_Find.q0.p (k : Nat) : Piece := ⟨[false, true, false, true], _, _, atlasref23_Find.q0.h, atlasref23_Find.q0.t, atlasref23_Find.q0.l k k⟩
theorem atlasref23_Find.q0.ok (k : Nat) : PieceOk Try.prog (bodyOf Try.f12) (atlasref23_Find.q0.p k) := atlasref23_Find.q0.ok_ k
def atlasref23_Find.f (k : Nat) (x0 : T25) (x1 : ByteArray) : Option (Int × Bool) := ((atlasref23_Find.q0.l k k (x1, 0, x0.f0_Entry, x0.f1_Segments, x0.f2_Symbols)).bind fun r1 => (Sum.elim (fun r2 => (some (r2.1, r2.2))) (fun r3 => (some (0, false))) r1))
theorem atlasref23_Find.run (k : Nat) (x0 : T25) (x1 : ByteArray) : runF Try.prog (gamOf []) (lamOf [atlasref23_Find.q0.p k]) Try.f12 [(T25.av x0), (.val (.string x1))] some = (atlasref23_Find.f k x0 x1).bind fun r => some (.ret (.tup [(.val (.int .u32 r.1)), (.val (.bool r.2))])) := by
  unfold atlasref23_Find.f
  try simp only [cond_bind, elim_bind, Option.bind_some, Option.bind_none, Option.bind_assoc]
  kernel_rfl
def atlasref23_Find.g (k : Nat) : GFun := fun β args K => match args with
  | [a0, a1] => (T25.of a0).bind fun x0 => (strO a1).bind fun x1 => (atlasref23_Find.f k x0 x1).bind fun r => K (.ret (.tup [(.val (.int .u32 r.1)), (.val (.bool r.2))]))
  | _ => none
theorem atlasref23_Find.callable : callable Try.prog 12 = true := callable_of Try.func12 (by kernel_rfl)
theorem atlasref23_Find.ok (k : Nat) : GOk Try.prog 12 (atlasref23_Find.g k) := by
  intro β args K r h
  unfold atlasref23_Find.g at h
  split at h
  · obtain ⟨x0, e0, h⟩ := Option.bind_eq_some_iff.1 h
    obtain ⟨x1, e1, h⟩ := Option.bind_eq_some_iff.1 h
    obtain ⟨y, hy, hK⟩ := Option.bind_eq_some_iff.1 h
    have hrun := atlasref23_Find.run k x0 x1
    rw [hy] at hrun
    obtain ⟨out, e, hs⟩ := sim_of_run Try.func12 (by kernel_rfl) mixed (gamOf_nil _) (lamOf_cons (atlasref23_Find.q0.ok k) (lamOf_nil _ _)) (args' := [(T25.av x0), (.val (.string x1))]) (RefsL.cons (T25.refs e0) (RefsL.cons (Refs.of_eq (strO_eq e1)) RefsL.nil)) hrun
    simp only [Option.some.injEq] at e
    subst e
    exact ⟨_, hK, hs⟩
  · cases h
/-! ### atlas/atlasref23.segment: function 27 -/
def atlasref23_segment.q0.h : Head (Bool × Int × Int × Bool × Bool × Bool × (List Int)) where
  k γ s F := (sizedN 44 s).bind fun _ => (ptrN 0 (gt s.tm 1)).bind fun b2 => (boolO (gt s.tm 3)).bind fun v4 => (rowN 46 6 s.hp b2).bind fun l6 => (intO .u32 (gt l6 0)).bind fun v8 => (intO .u32 (gt l6 1)).bind fun v10 => (boolO (gt l6 2)).bind fun v12 => (boolO (gt l6 3)).bind fun v14 => (boolO (gt l6 4)).bind fun v16 => (vtO (.int .u8) (gt l6 5)).bind fun v18 => (distO [some b2]).bind fun _ => F (v4, v8, v10, v12, v14, v16, v18)
  st x := ⟨sparseT [(1, (.ptr 0 0)), (3, (.val (.bool x.1)))] 44 0, [.row [(.val (.int .u32 x.2.1)), (.val (.int .u32 x.2.2.1)), (.val (.bool x.2.2.2.1)), (.val (.bool x.2.2.2.2.1)), (.val (.bool x.2.2.2.2.2.1)), (.vt (.int .u8) x.2.2.2.2.2.2)] 46 true]⟩
  ok γ s F r h := by
    obtain ⟨_, hz, h⟩ := Option.bind_eq_some_iff.1 h
    obtain ⟨b2, h1, h⟩ := Option.bind_eq_some_iff.1 h
    obtain ⟨v4, h3, h⟩ := Option.bind_eq_some_iff.1 h
    obtain ⟨l6, h5, h⟩ := Option.bind_eq_some_iff.1 h
    obtain ⟨v8, h7, h⟩ := Option.bind_eq_some_iff.1 h
    obtain ⟨v10, h9, h⟩ := Option.bind_eq_some_iff.1 h
    obtain ⟨v12, h11, h⟩ := Option.bind_eq_some_iff.1 h
    obtain ⟨v14, h13, h⟩ := Option.bind_eq_some_iff.1 h
    obtain ⟨v16, h15, h⟩ := Option.bind_eq_some_iff.1 h
    obtain ⟨v18, h17, h⟩ := Option.bind_eq_some_iff.1 h
    obtain ⟨_, h19, h⟩ := Option.bind_eq_some_iff.1 h
    exact ⟨_, h, weak_ren (l := [some b2]) (sizedN_ok hz) (distO_ok h19) (LiveR.cons (RefsR.ptr (l := [some b2]) (i := 0) rfl (ptrN_eq h1)) (LiveR.cons (RefsR.plain (Refs.of_eq (boolO_eq h3)) rfl) LiveR.nil)) (BlksR.cons (rowN_refs h5 rfl (GtRefsR.cons (RefsR.plain (Refs.of_eq (intO_eq h7)) rfl) (GtRefsR.cons (RefsR.plain (Refs.of_eq (intO_eq h9)) rfl) (GtRefsR.cons (RefsR.plain (Refs.of_eq (boolO_eq h11)) rfl) (GtRefsR.cons (RefsR.plain (Refs.of_eq (boolO_eq h13)) rfl) (GtRefsR.cons (RefsR.plain (Refs.of_eq (boolO_eq h15)) rfl) (GtRefsR.cons (RefsR.plain (vtO_refs h17) rfl) GtRefsR.nil)))))) rfl) BlksR.nil)⟩

def atlasref23_segment.q0.x0 : Head (Bool) where
  k γ s F := (sizedN 44 s).bind fun _ => (boolO (gt s.tm 2)).bind fun v2 => (distO []).bind fun _ => F (v2)
  st x := ⟨sparseT [(2, (.val (.bool x)))] 44 0, []⟩
  ok γ s F r h := by
    obtain ⟨_, hz, h⟩ := Option.bind_eq_some_iff.1 h
    obtain ⟨v2, h1, h⟩ := Option.bind_eq_some_iff.1 h
    obtain ⟨_, h3, h⟩ := Option.bind_eq_some_iff.1 h
    exact ⟨_, h, weak_ren (l := []) (sizedN_ok hz) (distO_ok h3) (LiveR.cons (RefsR.plain (Refs.of_eq (boolO_eq h1)) rfl) LiveR.nil) BlksR.nil⟩

def atlasref23_segment.q0.t : Tail (Bool) := Tail.one .ret atlasref23_segment.q0.x0
theorem atlasref23_segment.q0.np (y : (Bool)) (v : AV) : (atlasref23_segment.q0.t.out y).1 ≠ .panic v := fun h => by cases h
def atlasref23_segment.q0.l (k : Nat) (x : (Bool × Int × Int × Bool × Bool × Bool × (List Int))) : Option (Bool) := (bif x.1 then (bif (decide ((IntKind.wrap .u64 ((x.2.2.2.2.2.2.length : Nat) : Int)) ≤ (IntKind.wrap .u64 x.2.2.1))) then (some x.2.2.2.1) else (some false)) else (some false))
theorem atlasref23_segment.q0.at : codeAt (bodyOf Try.f27) [true, true] = some (codeOf (bodyOf Try.f27) [true, true]) := by kernel_rfl
theorem atlasref23_segment.q0.goes (k : Nat) (x : (Bool × Int × Int × Bool × Bool × Bool × (List Int))) : E Try.prog (gamOf []) (lamOf []) (codeOf (bodyOf Try.f27) [true, true]) [true, true] (atlasref23_segment.q0.h.st x) (fun ex t => atlasref23_segment.q0.t.d _ ex t some) = atlasref23_segment.q0.l k x := by
  kernel_rfl
theorem atlasref23_segment.q0.ok_ (k : Nat) : PieceOk Try.prog (bodyOf Try.f27) ⟨[true, true], _, _, atlasref23_segment.q0.h, atlasref23_segment.q0.t, atlasref23_segment.q0.l k⟩ :=
  piece_code (gamOf_nil _) (lamOf_nil _ _) mixed atlasref23_segment.q0.at atlasref23_segment.q0.np (atlasref23_segment.q0.goes k)
def atlasref23_segment.q0.p (k : Nat) : Piece := ⟨[true, true], _, _, atlasref23_segment.q0.h, atlasref23_segment.q0.t, atlasref23_segment.q0.l k⟩
theorem atlasref23_segment.q0.ok (k : Nat) : PieceOk Try.prog (bodyOf Try.f27) (atlasref23_segment.q0.p k) := atlasref23_segment.q0.ok_ k
def atlasref23_segment.f (k : Nat) (x0 : T45) : Option (Bool) := (bif ((Int.tmod x0.f0_VA 4096) == 0) then (bif (decide (x0.f1_Size ≥ 1)) then (bif (decide (x0.f1_Size ≤ 16777216)) then ((atlasref23_segment.q0.l k ((decide ((IntKind.wrap .u64 ((IntKind.wrap .u64 x0.f0_VA) + (IntKind.wrap .u64 x0.f1_Size))) ≤ 4294967296)), x0.f0_VA, x0.f1_Size, x0.f2_Rights_Read, x0.f3_Rights_Write, x0.f4_Rights_Exec, x0.f5_Data)).bind fun r1 => (some r1)) else ((atlasref23_segment.q0.l k (false, x0.f0_VA, x0.f1_Size, x0.f2_Rights_Read, x0.f3_Rights_Write, x0.f4_Rights_Exec, x0.f5_Data)).bind fun r2 => (some r2))) else ((atlasref23_segment.q0.l k (false, x0.f0_VA, x0.f1_Size, x0.f2_Rights_Read, x0.f3_Rights_Write, x0.f4_Rights_Exec, x0.f5_Data)).bind fun r3 => (some r3))) else ((atlasref23_segment.q0.l k (false, x0.f0_VA, x0.f1_Size, x0.f2_Rights_Read, x0.f3_Rights_Write, x0.f4_Rights_Exec, x0.f5_Data)).bind fun r4 => (some r4)))
theorem atlasref23_segment.run (k : Nat) (x0 : T45) : runF Try.prog (gamOf []) (lamOf [atlasref23_segment.q0.p k]) Try.f27 [(T45.av x0)] some = (atlasref23_segment.f k x0).bind fun r => some (.ret (.val (.bool r))) := by
  unfold atlasref23_segment.f
  try simp only [cond_bind, elim_bind, Option.bind_some, Option.bind_none, Option.bind_assoc]
  kernel_rfl
def atlasref23_segment.g (k : Nat) : GFun := fun β args K => match args with
  | [a0] => (T45.of a0).bind fun x0 => (atlasref23_segment.f k x0).bind fun r => K (.ret (.val (.bool r)))
  | _ => none
theorem atlasref23_segment.callable : callable Try.prog 27 = true := callable_of Try.func27 (by kernel_rfl)
theorem atlasref23_segment.ok (k : Nat) : GOk Try.prog 27 (atlasref23_segment.g k) := by
  intro β args K r h
  unfold atlasref23_segment.g at h
  split at h
  · obtain ⟨x0, e0, h⟩ := Option.bind_eq_some_iff.1 h
    obtain ⟨y, hy, hK⟩ := Option.bind_eq_some_iff.1 h
    have hrun := atlasref23_segment.run k x0
    rw [hy] at hrun
    obtain ⟨out, e, hs⟩ := sim_of_run Try.func27 (by kernel_rfl) mixed (gamOf_nil _) (lamOf_cons (atlasref23_segment.q0.ok k) (lamOf_nil _ _)) (args' := [(T45.av x0)]) (RefsL.cons (T45.refs e0) RefsL.nil) hrun
    simp only [Option.some.injEq] at e
    subst e
    exact ⟨_, hK, hs⟩
  · cases h
/-! ### atlas/atlasref01.tail: function 68 -/
def atlasref01_tail.f (x0 : ByteArray) (x1 : Int) : Option (Bool) := (bif (decide (x1 < ((x0).size : Int))) then (bif (decide (0 ≤ x1) && decide (x1 < ((x0).size : Int))) then (bif (decide ((byteAt x0 x1) ≥ 128)) then (bif (decide (0 ≤ x1) && decide (x1 < ((x0).size : Int))) then (some (decide ((byteAt x0 x1) ≤ 191))) else none) else (some false)) else none) else (some false))
theorem atlasref01_tail.run (x0 : ByteArray) (x1 : Int) : runF Try.prog (gamOf []) noLam Try.f68 [(.val (.string x0)), (.val (.int .i64 x1))] some = (atlasref01_tail.f x0 x1).bind fun r => some (.ret (.val (.bool r))) := by
  unfold atlasref01_tail.f
  try simp only [cond_bind, elim_bind, Option.bind_some, Option.bind_none, Option.bind_assoc]
  kernel_rfl
def atlasref01_tail.g : GFun := fun β args K => match args with
  | [a0, a1] => (strO a0).bind fun x0 => (intO .i64 a1).bind fun x1 => (atlasref01_tail.f x0 x1).bind fun r => K (.ret (.val (.bool r)))
  | _ => none
theorem atlasref01_tail.callable : callable Try.prog 68 = true := callable_of Try.func68 (by kernel_rfl)
theorem atlasref01_tail.ok : GOk Try.prog 68 (atlasref01_tail.g) := by
  intro β args K r h
  unfold atlasref01_tail.g at h
  split at h
  · obtain ⟨x0, e0, h⟩ := Option.bind_eq_some_iff.1 h
    obtain ⟨x1, e1, h⟩ := Option.bind_eq_some_iff.1 h
    obtain ⟨y, hy, hK⟩ := Option.bind_eq_some_iff.1 h
    have hrun := atlasref01_tail.run x0 x1
    rw [hy] at hrun
    obtain ⟨out, e, hs⟩ := sim_of_run Try.func68 (by kernel_rfl) mixed (gamOf_nil _) (noLam_ok _ _) (args' := [(.val (.string x0)), (.val (.int .i64 x1))]) (RefsL.cons (Refs.of_eq (strO_eq e0)) (RefsL.cons (Refs.of_eq (intO_eq e1)) RefsL.nil)) hrun
    simp only [Option.some.injEq] at e
    subst e
    exact ⟨_, hK, hs⟩
  · cases h
/-! ### atlas/atlasref01.Rune: function 59 -/
def atlasref01_Rune.f (x0 : ByteArray) (x1 : Int) : Option (Int × Int) := (bif (decide (0 ≤ x1) && decide (x1 < ((x0).size : Int))) then (bif (decide ((IntKind.wrap .i64 (byteAt x0 x1)) < 128)) then (some ((IntKind.wrap .i64 (byteAt x0 x1)), 1)) else (bif (decide ((IntKind.wrap .i64 (byteAt x0 x1)) ≥ 194)) then (bif (decide ((IntKind.wrap .i64 (byteAt x0 x1)) ≤ 223)) then ((atlasref01_tail.f x0 (IntKind.wrap .i64 (x1 + 1))).bind fun r1 => (bif r1 then (bif (decide (0 ≤ (IntKind.wrap .i64 (x1 + 1))) && decide ((IntKind.wrap .i64 (x1 + 1)) < ((x0).size : Int))) then (some ((IntKind.wrap .i64 ((IntKind.wrap .i64 ((IntKind.wrap .i64 ((IntKind.wrap .i64 ((IntKind.wrap .i64 (byteAt x0 x1)) - 192)) * 64)) + (IntKind.wrap .i64 (byteAt x0 (IntKind.wrap .i64 (x1 + 1)))))) - 128)), 2)) else none) else (some ((-1), 1)))) else (bif (decide ((IntKind.wrap .i64 (byteAt x0 x1)) ≥ 224)) then (bif (decide ((IntKind.wrap .i64 (byteAt x0 x1)) ≤ 239)) then ((atlasref01_tail.f x0 (IntKind.wrap .i64 (x1 + 1))).bind fun r2 => (bif r2 then ((atlasref01_tail.f x0 (IntKind.wrap .i64 (x1 + 2))).bind fun r3 => (bif r3 then (bif (decide (0 ≤ (IntKind.wrap .i64 (x1 + 1))) && decide ((IntKind.wrap .i64 (x1 + 1)) < ((x0).size : Int))) then (bif (decide (0 ≤ (IntKind.wrap .i64 (x1 + 2))) && decide ((IntKind.wrap .i64 (x1 + 2)) < ((x0).size : Int))) then (bif (decide ((IntKind.wrap .i64 ((IntKind.wrap .i64 ((IntKind.wrap .i64 ((IntKind.wrap .i64 ((IntKind.wrap .i64 ((IntKind.wrap .i64 (byteAt x0 x1)) - 224)) * 4096)) + (IntKind.wrap .i64 ((IntKind.wrap .i64 ((IntKind.wrap .i64 (byteAt x0 (IntKind.wrap .i64 (x1 + 1)))) - 128)) * 64)))) + (IntKind.wrap .i64 (byteAt x0 (IntKind.wrap .i64 (x1 + 2)))))) - 128)) ≥ 2048)) then (bif (decide ((IntKind.wrap .i64 ((IntKind.wrap .i64 ((IntKind.wrap .i64 ((IntKind.wrap .i64 ((IntKind.wrap .i64 ((IntKind.wrap .i64 (byteAt x0 x1)) - 224)) * 4096)) + (IntKind.wrap .i64 ((IntKind.wrap .i64 ((IntKind.wrap .i64 (byteAt x0 (IntKind.wrap .i64 (x1 + 1)))) - 128)) * 64)))) + (IntKind.wrap .i64 (byteAt x0 (IntKind.wrap .i64 (x1 + 2)))))) - 128)) < 55296)) then (some ((IntKind.wrap .i64 ((IntKind.wrap .i64 ((IntKind.wrap .i64 ((IntKind.wrap .i64 ((IntKind.wrap .i64 ((IntKind.wrap .i64 (byteAt x0 x1)) - 224)) * 4096)) + (IntKind.wrap .i64 ((IntKind.wrap .i64 ((IntKind.wrap .i64 (byteAt x0 (IntKind.wrap .i64 (x1 + 1)))) - 128)) * 64)))) + (IntKind.wrap .i64 (byteAt x0 (IntKind.wrap .i64 (x1 + 2)))))) - 128)), 3)) else (bif (decide ((IntKind.wrap .i64 ((IntKind.wrap .i64 ((IntKind.wrap .i64 ((IntKind.wrap .i64 ((IntKind.wrap .i64 ((IntKind.wrap .i64 (byteAt x0 x1)) - 224)) * 4096)) + (IntKind.wrap .i64 ((IntKind.wrap .i64 ((IntKind.wrap .i64 (byteAt x0 (IntKind.wrap .i64 (x1 + 1)))) - 128)) * 64)))) + (IntKind.wrap .i64 (byteAt x0 (IntKind.wrap .i64 (x1 + 2)))))) - 128)) > 57343)) then (some ((IntKind.wrap .i64 ((IntKind.wrap .i64 ((IntKind.wrap .i64 ((IntKind.wrap .i64 ((IntKind.wrap .i64 ((IntKind.wrap .i64 (byteAt x0 x1)) - 224)) * 4096)) + (IntKind.wrap .i64 ((IntKind.wrap .i64 ((IntKind.wrap .i64 (byteAt x0 (IntKind.wrap .i64 (x1 + 1)))) - 128)) * 64)))) + (IntKind.wrap .i64 (byteAt x0 (IntKind.wrap .i64 (x1 + 2)))))) - 128)), 3)) else (some ((-1), 1)))) else (some ((-1), 1))) else none) else none) else (some ((-1), 1)))) else (some ((-1), 1)))) else (bif (decide ((IntKind.wrap .i64 (byteAt x0 x1)) ≥ 240)) then (bif (decide ((IntKind.wrap .i64 (byteAt x0 x1)) ≤ 244)) then ((atlasref01_tail.f x0 (IntKind.wrap .i64 (x1 + 1))).bind fun r4 => (bif r4 then ((atlasref01_tail.f x0 (IntKind.wrap .i64 (x1 + 2))).bind fun r5 => (bif r5 then ((atlasref01_tail.f x0 (IntKind.wrap .i64 (x1 + 3))).bind fun r6 => (bif r6 then (bif (decide (0 ≤ (IntKind.wrap .i64 (x1 + 1))) && decide ((IntKind.wrap .i64 (x1 + 1)) < ((x0).size : Int))) then (bif (decide (0 ≤ (IntKind.wrap .i64 (x1 + 2))) && decide ((IntKind.wrap .i64 (x1 + 2)) < ((x0).size : Int))) then (bif (decide (0 ≤ (IntKind.wrap .i64 (x1 + 3))) && decide ((IntKind.wrap .i64 (x1 + 3)) < ((x0).size : Int))) then (bif (decide ((IntKind.wrap .i64 ((IntKind.wrap .i64 ((IntKind.wrap .i64 ((IntKind.wrap .i64 ((IntKind.wrap .i64 ((IntKind.wrap .i64 ((IntKind.wrap .i64 (byteAt x0 x1)) - 240)) * 262144)) + (IntKind.wrap .i64 ((IntKind.wrap .i64 ((IntKind.wrap .i64 (byteAt x0 (IntKind.wrap .i64 (x1 + 1)))) - 128)) * 4096)))) + (IntKind.wrap .i64 ((IntKind.wrap .i64 ((IntKind.wrap .i64 (byteAt x0 (IntKind.wrap .i64 (x1 + 2)))) - 128)) * 64)))) + (IntKind.wrap .i64 (byteAt x0 (IntKind.wrap .i64 (x1 + 3)))))) - 128)) ≥ 65536)) then (bif (decide ((IntKind.wrap .i64 ((IntKind.wrap .i64 ((IntKind.wrap .i64 ((IntKind.wrap .i64 ((IntKind.wrap .i64 ((IntKind.wrap .i64 ((IntKind.wrap .i64 (byteAt x0 x1)) - 240)) * 262144)) + (IntKind.wrap .i64 ((IntKind.wrap .i64 ((IntKind.wrap .i64 (byteAt x0 (IntKind.wrap .i64 (x1 + 1)))) - 128)) * 4096)))) + (IntKind.wrap .i64 ((IntKind.wrap .i64 ((IntKind.wrap .i64 (byteAt x0 (IntKind.wrap .i64 (x1 + 2)))) - 128)) * 64)))) + (IntKind.wrap .i64 (byteAt x0 (IntKind.wrap .i64 (x1 + 3)))))) - 128)) ≤ 1114111)) then (some ((IntKind.wrap .i64 ((IntKind.wrap .i64 ((IntKind.wrap .i64 ((IntKind.wrap .i64 ((IntKind.wrap .i64 ((IntKind.wrap .i64 ((IntKind.wrap .i64 (byteAt x0 x1)) - 240)) * 262144)) + (IntKind.wrap .i64 ((IntKind.wrap .i64 ((IntKind.wrap .i64 (byteAt x0 (IntKind.wrap .i64 (x1 + 1)))) - 128)) * 4096)))) + (IntKind.wrap .i64 ((IntKind.wrap .i64 ((IntKind.wrap .i64 (byteAt x0 (IntKind.wrap .i64 (x1 + 2)))) - 128)) * 64)))) + (IntKind.wrap .i64 (byteAt x0 (IntKind.wrap .i64 (x1 + 3)))))) - 128)), 4)) else (some ((-1), 1))) else (some ((-1), 1))) else none) else none) else none) else (some ((-1), 1)))) else (some ((-1), 1)))) else (some ((-1), 1)))) else (some ((-1), 1))) else (some ((-1), 1)))) else (bif (decide ((IntKind.wrap .i64 (byteAt x0 x1)) ≥ 240)) then (bif (decide ((IntKind.wrap .i64 (byteAt x0 x1)) ≤ 244)) then ((atlasref01_tail.f x0 (IntKind.wrap .i64 (x1 + 1))).bind fun r7 => (bif r7 then ((atlasref01_tail.f x0 (IntKind.wrap .i64 (x1 + 2))).bind fun r8 => (bif r8 then ((atlasref01_tail.f x0 (IntKind.wrap .i64 (x1 + 3))).bind fun r9 => (bif r9 then (bif (decide (0 ≤ (IntKind.wrap .i64 (x1 + 1))) && decide ((IntKind.wrap .i64 (x1 + 1)) < ((x0).size : Int))) then (bif (decide (0 ≤ (IntKind.wrap .i64 (x1 + 2))) && decide ((IntKind.wrap .i64 (x1 + 2)) < ((x0).size : Int))) then (bif (decide (0 ≤ (IntKind.wrap .i64 (x1 + 3))) && decide ((IntKind.wrap .i64 (x1 + 3)) < ((x0).size : Int))) then (bif (decide ((IntKind.wrap .i64 ((IntKind.wrap .i64 ((IntKind.wrap .i64 ((IntKind.wrap .i64 ((IntKind.wrap .i64 ((IntKind.wrap .i64 ((IntKind.wrap .i64 (byteAt x0 x1)) - 240)) * 262144)) + (IntKind.wrap .i64 ((IntKind.wrap .i64 ((IntKind.wrap .i64 (byteAt x0 (IntKind.wrap .i64 (x1 + 1)))) - 128)) * 4096)))) + (IntKind.wrap .i64 ((IntKind.wrap .i64 ((IntKind.wrap .i64 (byteAt x0 (IntKind.wrap .i64 (x1 + 2)))) - 128)) * 64)))) + (IntKind.wrap .i64 (byteAt x0 (IntKind.wrap .i64 (x1 + 3)))))) - 128)) ≥ 65536)) then (bif (decide ((IntKind.wrap .i64 ((IntKind.wrap .i64 ((IntKind.wrap .i64 ((IntKind.wrap .i64 ((IntKind.wrap .i64 ((IntKind.wrap .i64 ((IntKind.wrap .i64 (byteAt x0 x1)) - 240)) * 262144)) + (IntKind.wrap .i64 ((IntKind.wrap .i64 ((IntKind.wrap .i64 (byteAt x0 (IntKind.wrap .i64 (x1 + 1)))) - 128)) * 4096)))) + (IntKind.wrap .i64 ((IntKind.wrap .i64 ((IntKind.wrap .i64 (byteAt x0 (IntKind.wrap .i64 (x1 + 2)))) - 128)) * 64)))) + (IntKind.wrap .i64 (byteAt x0 (IntKind.wrap .i64 (x1 + 3)))))) - 128)) ≤ 1114111)) then (some ((IntKind.wrap .i64 ((IntKind.wrap .i64 ((IntKind.wrap .i64 ((IntKind.wrap .i64 ((IntKind.wrap .i64 ((IntKind.wrap .i64 ((IntKind.wrap .i64 (byteAt x0 x1)) - 240)) * 262144)) + (IntKind.wrap .i64 ((IntKind.wrap .i64 ((IntKind.wrap .i64 (byteAt x0 (IntKind.wrap .i64 (x1 + 1)))) - 128)) * 4096)))) + (IntKind.wrap .i64 ((IntKind.wrap .i64 ((IntKind.wrap .i64 (byteAt x0 (IntKind.wrap .i64 (x1 + 2)))) - 128)) * 64)))) + (IntKind.wrap .i64 (byteAt x0 (IntKind.wrap .i64 (x1 + 3)))))) - 128)), 4)) else (some ((-1), 1))) else (some ((-1), 1))) else none) else none) else none) else (some ((-1), 1)))) else (some ((-1), 1)))) else (some ((-1), 1)))) else (some ((-1), 1))) else (some ((-1), 1))))) else (bif (decide ((IntKind.wrap .i64 (byteAt x0 x1)) ≥ 224)) then (bif (decide ((IntKind.wrap .i64 (byteAt x0 x1)) ≤ 239)) then ((atlasref01_tail.f x0 (IntKind.wrap .i64 (x1 + 1))).bind fun r10 => (bif r10 then ((atlasref01_tail.f x0 (IntKind.wrap .i64 (x1 + 2))).bind fun r11 => (bif r11 then (bif (decide (0 ≤ (IntKind.wrap .i64 (x1 + 1))) && decide ((IntKind.wrap .i64 (x1 + 1)) < ((x0).size : Int))) then (bif (decide (0 ≤ (IntKind.wrap .i64 (x1 + 2))) && decide ((IntKind.wrap .i64 (x1 + 2)) < ((x0).size : Int))) then (bif (decide ((IntKind.wrap .i64 ((IntKind.wrap .i64 ((IntKind.wrap .i64 ((IntKind.wrap .i64 ((IntKind.wrap .i64 ((IntKind.wrap .i64 (byteAt x0 x1)) - 224)) * 4096)) + (IntKind.wrap .i64 ((IntKind.wrap .i64 ((IntKind.wrap .i64 (byteAt x0 (IntKind.wrap .i64 (x1 + 1)))) - 128)) * 64)))) + (IntKind.wrap .i64 (byteAt x0 (IntKind.wrap .i64 (x1 + 2)))))) - 128)) ≥ 2048)) then (bif (decide ((IntKind.wrap .i64 ((IntKind.wrap .i64 ((IntKind.wrap .i64 ((IntKind.wrap .i64 ((IntKind.wrap .i64 ((IntKind.wrap .i64 (byteAt x0 x1)) - 224)) * 4096)) + (IntKind.wrap .i64 ((IntKind.wrap .i64 ((IntKind.wrap .i64 (byteAt x0 (IntKind.wrap .i64 (x1 + 1)))) - 128)) * 64)))) + (IntKind.wrap .i64 (byteAt x0 (IntKind.wrap .i64 (x1 + 2)))))) - 128)) < 55296)) then (some ((IntKind.wrap .i64 ((IntKind.wrap .i64 ((IntKind.wrap .i64 ((IntKind.wrap .i64 ((IntKind.wrap .i64 ((IntKind.wrap .i64 (byteAt x0 x1)) - 224)) * 4096)) + (IntKind.wrap .i64 ((IntKind.wrap .i64 ((IntKind.wrap .i64 (byteAt x0 (IntKind.wrap .i64 (x1 + 1)))) - 128)) * 64)))) + (IntKind.wrap .i64 (byteAt x0 (IntKind.wrap .i64 (x1 + 2)))))) - 128)), 3)) else (bif (decide ((IntKind.wrap .i64 ((IntKind.wrap .i64 ((IntKind.wrap .i64 ((IntKind.wrap .i64 ((IntKind.wrap .i64 ((IntKind.wrap .i64 (byteAt x0 x1)) - 224)) * 4096)) + (IntKind.wrap .i64 ((IntKind.wrap .i64 ((IntKind.wrap .i64 (byteAt x0 (IntKind.wrap .i64 (x1 + 1)))) - 128)) * 64)))) + (IntKind.wrap .i64 (byteAt x0 (IntKind.wrap .i64 (x1 + 2)))))) - 128)) > 57343)) then (some ((IntKind.wrap .i64 ((IntKind.wrap .i64 ((IntKind.wrap .i64 ((IntKind.wrap .i64 ((IntKind.wrap .i64 ((IntKind.wrap .i64 (byteAt x0 x1)) - 224)) * 4096)) + (IntKind.wrap .i64 ((IntKind.wrap .i64 ((IntKind.wrap .i64 (byteAt x0 (IntKind.wrap .i64 (x1 + 1)))) - 128)) * 64)))) + (IntKind.wrap .i64 (byteAt x0 (IntKind.wrap .i64 (x1 + 2)))))) - 128)), 3)) else (some ((-1), 1)))) else (some ((-1), 1))) else none) else none) else (some ((-1), 1)))) else (some ((-1), 1)))) else (bif (decide ((IntKind.wrap .i64 (byteAt x0 x1)) ≥ 240)) then (bif (decide ((IntKind.wrap .i64 (byteAt x0 x1)) ≤ 244)) then ((atlasref01_tail.f x0 (IntKind.wrap .i64 (x1 + 1))).bind fun r12 => (bif r12 then ((atlasref01_tail.f x0 (IntKind.wrap .i64 (x1 + 2))).bind fun r13 => (bif r13 then ((atlasref01_tail.f x0 (IntKind.wrap .i64 (x1 + 3))).bind fun r14 => (bif r14 then (bif (decide (0 ≤ (IntKind.wrap .i64 (x1 + 1))) && decide ((IntKind.wrap .i64 (x1 + 1)) < ((x0).size : Int))) then (bif (decide (0 ≤ (IntKind.wrap .i64 (x1 + 2))) && decide ((IntKind.wrap .i64 (x1 + 2)) < ((x0).size : Int))) then (bif (decide (0 ≤ (IntKind.wrap .i64 (x1 + 3))) && decide ((IntKind.wrap .i64 (x1 + 3)) < ((x0).size : Int))) then (bif (decide ((IntKind.wrap .i64 ((IntKind.wrap .i64 ((IntKind.wrap .i64 ((IntKind.wrap .i64 ((IntKind.wrap .i64 ((IntKind.wrap .i64 ((IntKind.wrap .i64 (byteAt x0 x1)) - 240)) * 262144)) + (IntKind.wrap .i64 ((IntKind.wrap .i64 ((IntKind.wrap .i64 (byteAt x0 (IntKind.wrap .i64 (x1 + 1)))) - 128)) * 4096)))) + (IntKind.wrap .i64 ((IntKind.wrap .i64 ((IntKind.wrap .i64 (byteAt x0 (IntKind.wrap .i64 (x1 + 2)))) - 128)) * 64)))) + (IntKind.wrap .i64 (byteAt x0 (IntKind.wrap .i64 (x1 + 3)))))) - 128)) ≥ 65536)) then (bif (decide ((IntKind.wrap .i64 ((IntKind.wrap .i64 ((IntKind.wrap .i64 ((IntKind.wrap .i64 ((IntKind.wrap .i64 ((IntKind.wrap .i64 ((IntKind.wrap .i64 (byteAt x0 x1)) - 240)) * 262144)) + (IntKind.wrap .i64 ((IntKind.wrap .i64 ((IntKind.wrap .i64 (byteAt x0 (IntKind.wrap .i64 (x1 + 1)))) - 128)) * 4096)))) + (IntKind.wrap .i64 ((IntKind.wrap .i64 ((IntKind.wrap .i64 (byteAt x0 (IntKind.wrap .i64 (x1 + 2)))) - 128)) * 64)))) + (IntKind.wrap .i64 (byteAt x0 (IntKind.wrap .i64 (x1 + 3)))))) - 128)) ≤ 1114111)) then (some ((IntKind.wrap .i64 ((IntKind.wrap .i64 ((IntKind.wrap .i64 ((IntKind.wrap .i64 ((IntKind.wrap .i64 ((IntKind.wrap .i64 ((IntKind.wrap .i64 (byteAt x0 x1)) - 240)) * 262144)) + (IntKind.wrap .i64 ((IntKind.wrap .i64 ((IntKind.wrap .i64 (byteAt x0 (IntKind.wrap .i64 (x1 + 1)))) - 128)) * 4096)))) + (IntKind.wrap .i64 ((IntKind.wrap .i64 ((IntKind.wrap .i64 (byteAt x0 (IntKind.wrap .i64 (x1 + 2)))) - 128)) * 64)))) + (IntKind.wrap .i64 (byteAt x0 (IntKind.wrap .i64 (x1 + 3)))))) - 128)), 4)) else (some ((-1), 1))) else (some ((-1), 1))) else none) else none) else none) else (some ((-1), 1)))) else (some ((-1), 1)))) else (some ((-1), 1)))) else (some ((-1), 1))) else (some ((-1), 1)))) else (bif (decide ((IntKind.wrap .i64 (byteAt x0 x1)) ≥ 240)) then (bif (decide ((IntKind.wrap .i64 (byteAt x0 x1)) ≤ 244)) then ((atlasref01_tail.f x0 (IntKind.wrap .i64 (x1 + 1))).bind fun r15 => (bif r15 then ((atlasref01_tail.f x0 (IntKind.wrap .i64 (x1 + 2))).bind fun r16 => (bif r16 then ((atlasref01_tail.f x0 (IntKind.wrap .i64 (x1 + 3))).bind fun r17 => (bif r17 then (bif (decide (0 ≤ (IntKind.wrap .i64 (x1 + 1))) && decide ((IntKind.wrap .i64 (x1 + 1)) < ((x0).size : Int))) then (bif (decide (0 ≤ (IntKind.wrap .i64 (x1 + 2))) && decide ((IntKind.wrap .i64 (x1 + 2)) < ((x0).size : Int))) then (bif (decide (0 ≤ (IntKind.wrap .i64 (x1 + 3))) && decide ((IntKind.wrap .i64 (x1 + 3)) < ((x0).size : Int))) then (bif (decide ((IntKind.wrap .i64 ((IntKind.wrap .i64 ((IntKind.wrap .i64 ((IntKind.wrap .i64 ((IntKind.wrap .i64 ((IntKind.wrap .i64 ((IntKind.wrap .i64 (byteAt x0 x1)) - 240)) * 262144)) + (IntKind.wrap .i64 ((IntKind.wrap .i64 ((IntKind.wrap .i64 (byteAt x0 (IntKind.wrap .i64 (x1 + 1)))) - 128)) * 4096)))) + (IntKind.wrap .i64 ((IntKind.wrap .i64 ((IntKind.wrap .i64 (byteAt x0 (IntKind.wrap .i64 (x1 + 2)))) - 128)) * 64)))) + (IntKind.wrap .i64 (byteAt x0 (IntKind.wrap .i64 (x1 + 3)))))) - 128)) ≥ 65536)) then (bif (decide ((IntKind.wrap .i64 ((IntKind.wrap .i64 ((IntKind.wrap .i64 ((IntKind.wrap .i64 ((IntKind.wrap .i64 ((IntKind.wrap .i64 ((IntKind.wrap .i64 (byteAt x0 x1)) - 240)) * 262144)) + (IntKind.wrap .i64 ((IntKind.wrap .i64 ((IntKind.wrap .i64 (byteAt x0 (IntKind.wrap .i64 (x1 + 1)))) - 128)) * 4096)))) + (IntKind.wrap .i64 ((IntKind.wrap .i64 ((IntKind.wrap .i64 (byteAt x0 (IntKind.wrap .i64 (x1 + 2)))) - 128)) * 64)))) + (IntKind.wrap .i64 (byteAt x0 (IntKind.wrap .i64 (x1 + 3)))))) - 128)) ≤ 1114111)) then (some ((IntKind.wrap .i64 ((IntKind.wrap .i64 ((IntKind.wrap .i64 ((IntKind.wrap .i64 ((IntKind.wrap .i64 ((IntKind.wrap .i64 ((IntKind.wrap .i64 (byteAt x0 x1)) - 240)) * 262144)) + (IntKind.wrap .i64 ((IntKind.wrap .i64 ((IntKind.wrap .i64 (byteAt x0 (IntKind.wrap .i64 (x1 + 1)))) - 128)) * 4096)))) + (IntKind.wrap .i64 ((IntKind.wrap .i64 ((IntKind.wrap .i64 (byteAt x0 (IntKind.wrap .i64 (x1 + 2)))) - 128)) * 64)))) + (IntKind.wrap .i64 (byteAt x0 (IntKind.wrap .i64 (x1 + 3)))))) - 128)), 4)) else (some ((-1), 1))) else (some ((-1), 1))) else none) else none) else none) else (some ((-1), 1)))) else (some ((-1), 1)))) else (some ((-1), 1)))) else (some ((-1), 1))) else (some ((-1), 1)))))) else none)
theorem atlasref01_Rune.run (x0 : ByteArray) (x1 : Int) : runF Try.prog (gamOf [(68, atlasref01_tail.g)]) noLam Try.f59 [(.val (.string x0)), (.val (.int .i64 x1))] some = (atlasref01_Rune.f x0 x1).bind fun r => some (.ret (.tup [(.val (.int .i64 r.1)), (.val (.int .i64 r.2))])) := by
  unfold atlasref01_Rune.f
  try simp only [cond_bind, elim_bind, Option.bind_some, Option.bind_none, Option.bind_assoc]
  kernel_rfl
def atlasref01_Rune.g : GFun := fun β args K => match args with
  | [a0, a1] => (strO a0).bind fun x0 => (intO .i64 a1).bind fun x1 => (atlasref01_Rune.f x0 x1).bind fun r => K (.ret (.tup [(.val (.int .i64 r.1)), (.val (.int .i64 r.2))]))
  | _ => none
theorem atlasref01_Rune.callable : callable Try.prog 59 = true := callable_of Try.func59 (by kernel_rfl)
theorem atlasref01_Rune.ok : GOk Try.prog 59 (atlasref01_Rune.g) := by
  intro β args K r h
  unfold atlasref01_Rune.g at h
  split at h
  · obtain ⟨x0, e0, h⟩ := Option.bind_eq_some_iff.1 h
    obtain ⟨x1, e1, h⟩ := Option.bind_eq_some_iff.1 h
    obtain ⟨y, hy, hK⟩ := Option.bind_eq_some_iff.1 h
    have hrun := atlasref01_Rune.run x0 x1
    rw [hy] at hrun
    obtain ⟨out, e, hs⟩ := sim_of_run Try.func59 (by kernel_rfl) mixed (gamOf_cons (atlasref01_tail.ok) atlasref01_tail.callable (gamOf_nil _)) (noLam_ok _ _) (args' := [(.val (.string x0)), (.val (.int .i64 x1))]) (RefsL.cons (Refs.of_eq (strO_eq e0)) (RefsL.cons (Refs.of_eq (intO_eq e1)) RefsL.nil)) hrun
    simp only [Option.some.injEq] at e
    subst e
    exact ⟨_, hK, hs⟩
  · cases h
end Go.Va
