-- Written by a program of this session (wip/va/vaprint.py). Not trusted: Lean checks it.
import Derived.Test.YtmphkmoakamepaaVaTy
set_option linter.unusedVariables false
set_option linter.unusedSimpArgs false
set_option autoImplicit false
set_option maxRecDepth 100000
namespace Go.Va
open Go.Proofs
/-! ### atlas/atlaslaw23.same: function 19 -/
def atlaslaw23_same.q0.h : Head (Int × Int × (List (Int × Int × (Bool × Bool × Bool × Unit) × (List Int) × Unit)) × (List (ByteArray × Int × Unit)) × Int × (List (Int × Int × (Bool × Bool × Bool × Unit) × (List Int) × Unit)) × (List (ByteArray × Int × Unit))) where
  k γ s F := (sizedN 95 s).bind fun _ => (ptrN 0 (gt s.tm 2)).bind fun b2 => (ptrN 0 (gt s.tm 3)).bind fun b4 => (intO .i64 (gt s.tm 5)).bind fun v6 => (rowN 26 3 s.hp b2).bind fun l8 => (intO .u32 (gt l8 0)).bind fun v10 => (vtO (.pair (.int .u32) (.pair (.int .u32) (.pair (.pair .bool (.pair .bool (.pair .bool .unit))) (.pair (.vec (.int .u8)) .unit)))) (gt l8 1)).bind fun v12 => (vtO (.pair .str (.pair (.int .u32) .unit)) (gt l8 2)).bind fun v14 => (rowN 26 3 s.hp b4).bind fun l16 => (intO .u32 (gt l16 0)).bind fun v18 => (vtO (.pair (.int .u32) (.pair (.int .u32) (.pair (.pair .bool (.pair .bool (.pair .bool .unit))) (.pair (.vec (.int .u8)) .unit)))) (gt l16 1)).bind fun v20 => (vtO (.pair .str (.pair (.int .u32) .unit)) (gt l16 2)).bind fun v22 => (distO [some b2, some b4]).bind fun _ => F (v6, v10, v12, v14, v18, v20, v22)
  st x := ⟨sparseT [(2, (.ptr 0 0)), (3, (.ptr 1 0)), (5, (.val (.int .i64 x.1)))] 95 0, [.row [(.val (.int .u32 x.2.1)), (.vt (.pair (.int .u32) (.pair (.int .u32) (.pair (.pair .bool (.pair .bool (.pair .bool .unit))) (.pair (.vec (.int .u8)) .unit)))) x.2.2.1), (.vt (.pair .str (.pair (.int .u32) .unit)) x.2.2.2.1)] 26 true, .row [(.val (.int .u32 x.2.2.2.2.1)), (.vt (.pair (.int .u32) (.pair (.int .u32) (.pair (.pair .bool (.pair .bool (.pair .bool .unit))) (.pair (.vec (.int .u8)) .unit)))) x.2.2.2.2.2.1), (.vt (.pair .str (.pair (.int .u32) .unit)) x.2.2.2.2.2.2)] 26 true]⟩
  ok γ s F r h := by
    obtain ⟨_, hz, h⟩ := Option.bind_eq_some_iff.1 h
    obtain ⟨b2, h1, h⟩ := Option.bind_eq_some_iff.1 h
    obtain ⟨b4, h3, h⟩ := Option.bind_eq_some_iff.1 h
    obtain ⟨v6, h5, h⟩ := Option.bind_eq_some_iff.1 h
    obtain ⟨l8, h7, h⟩ := Option.bind_eq_some_iff.1 h
    obtain ⟨v10, h9, h⟩ := Option.bind_eq_some_iff.1 h
    obtain ⟨v12, h11, h⟩ := Option.bind_eq_some_iff.1 h
    obtain ⟨v14, h13, h⟩ := Option.bind_eq_some_iff.1 h
    obtain ⟨l16, h15, h⟩ := Option.bind_eq_some_iff.1 h
    obtain ⟨v18, h17, h⟩ := Option.bind_eq_some_iff.1 h
    obtain ⟨v20, h19, h⟩ := Option.bind_eq_some_iff.1 h
    obtain ⟨v22, h21, h⟩ := Option.bind_eq_some_iff.1 h
    obtain ⟨_, h23, h⟩ := Option.bind_eq_some_iff.1 h
    exact ⟨_, h, weak_ren (l := [some b2, some b4]) (sizedN_ok hz) (distO_ok h23) (LiveR.cons (RefsR.ptr (l := [some b2, some b4]) (i := 0) rfl (ptrN_eq h1)) (LiveR.cons (RefsR.ptr (l := [some b2, some b4]) (i := 1) rfl (ptrN_eq h3)) (LiveR.cons (RefsR.plain (Refs.of_eq (intO_eq h5)) rfl) LiveR.nil))) (BlksR.cons (rowN_refs h7 rfl (GtRefsR.cons (RefsR.plain (Refs.of_eq (intO_eq h9)) rfl) (GtRefsR.cons (RefsR.plain (vtO_refs h11) rfl) (GtRefsR.cons (RefsR.plain (vtO_refs h13) rfl) GtRefsR.nil))) rfl) (BlksR.cons (rowN_refs h15 rfl (GtRefsR.cons (RefsR.plain (Refs.of_eq (intO_eq h17)) rfl) (GtRefsR.cons (RefsR.plain (vtO_refs h19) rfl) (GtRefsR.cons (RefsR.plain (vtO_refs h21) rfl) GtRefsR.nil))) rfl) BlksR.nil))⟩

def atlaslaw23_same.q0.x0 : Head (Bool) where
  k γ s F := (sizedN 95 s).bind fun _ => (boolO (gt s.tm 4)).bind fun v2 => (distO []).bind fun _ => F (v2)
  st x := ⟨sparseT [(4, (.val (.bool x)))] 95 0, []⟩
  ok γ s F r h := by
    obtain ⟨_, hz, h⟩ := Option.bind_eq_some_iff.1 h
    obtain ⟨v2, h1, h⟩ := Option.bind_eq_some_iff.1 h
    obtain ⟨_, h3, h⟩ := Option.bind_eq_some_iff.1 h
    exact ⟨_, h, weak_ren (l := []) (sizedN_ok hz) (distO_ok h3) (LiveR.cons (RefsR.plain (Refs.of_eq (boolO_eq h1)) rfl) LiveR.nil) BlksR.nil⟩

def atlaslaw23_same.q0.x1 : Head (Int × (List (Int × Int × (Bool × Bool × Bool × Unit) × (List Int) × Unit)) × (List (ByteArray × Int × Unit)) × Int × (List (Int × Int × (Bool × Bool × Bool × Unit) × (List Int) × Unit)) × (List (ByteArray × Int × Unit))) where
  k γ s F := (sizedN 95 s).bind fun _ => (ptrN 0 (gt s.tm 2)).bind fun b2 => (ptrN 0 (gt s.tm 3)).bind fun b4 => (rowN 26 3 s.hp b2).bind fun l6 => (intO .u32 (gt l6 0)).bind fun v8 => (vtO (.pair (.int .u32) (.pair (.int .u32) (.pair (.pair .bool (.pair .bool (.pair .bool .unit))) (.pair (.vec (.int .u8)) .unit)))) (gt l6 1)).bind fun v10 => (vtO (.pair .str (.pair (.int .u32) .unit)) (gt l6 2)).bind fun v12 => (rowN 26 3 s.hp b4).bind fun l14 => (intO .u32 (gt l14 0)).bind fun v16 => (vtO (.pair (.int .u32) (.pair (.int .u32) (.pair (.pair .bool (.pair .bool (.pair .bool .unit))) (.pair (.vec (.int .u8)) .unit)))) (gt l14 1)).bind fun v18 => (vtO (.pair .str (.pair (.int .u32) .unit)) (gt l14 2)).bind fun v20 => (distO [some b2, some b4]).bind fun _ => F (v8, v10, v12, v16, v18, v20)
  st x := ⟨sparseT [(2, (.ptr 0 0)), (3, (.ptr 1 0))] 95 0, [.row [(.val (.int .u32 x.1)), (.vt (.pair (.int .u32) (.pair (.int .u32) (.pair (.pair .bool (.pair .bool (.pair .bool .unit))) (.pair (.vec (.int .u8)) .unit)))) x.2.1), (.vt (.pair .str (.pair (.int .u32) .unit)) x.2.2.1)] 26 true, .row [(.val (.int .u32 x.2.2.2.1)), (.vt (.pair (.int .u32) (.pair (.int .u32) (.pair (.pair .bool (.pair .bool (.pair .bool .unit))) (.pair (.vec (.int .u8)) .unit)))) x.2.2.2.2.1), (.vt (.pair .str (.pair (.int .u32) .unit)) x.2.2.2.2.2)] 26 true]⟩
  ok γ s F r h := by
    obtain ⟨_, hz, h⟩ := Option.bind_eq_some_iff.1 h
    obtain ⟨b2, h1, h⟩ := Option.bind_eq_some_iff.1 h
    obtain ⟨b4, h3, h⟩ := Option.bind_eq_some_iff.1 h
    obtain ⟨l6, h5, h⟩ := Option.bind_eq_some_iff.1 h
    obtain ⟨v8, h7, h⟩ := Option.bind_eq_some_iff.1 h
    obtain ⟨v10, h9, h⟩ := Option.bind_eq_some_iff.1 h
    obtain ⟨v12, h11, h⟩ := Option.bind_eq_some_iff.1 h
    obtain ⟨l14, h13, h⟩ := Option.bind_eq_some_iff.1 h
    obtain ⟨v16, h15, h⟩ := Option.bind_eq_some_iff.1 h
    obtain ⟨v18, h17, h⟩ := Option.bind_eq_some_iff.1 h
    obtain ⟨v20, h19, h⟩ := Option.bind_eq_some_iff.1 h
    obtain ⟨_, h21, h⟩ := Option.bind_eq_some_iff.1 h
    exact ⟨_, h, weak_ren (l := [some b2, some b4]) (sizedN_ok hz) (distO_ok h21) (LiveR.cons (RefsR.ptr (l := [some b2, some b4]) (i := 0) rfl (ptrN_eq h1)) (LiveR.cons (RefsR.ptr (l := [some b2, some b4]) (i := 1) rfl (ptrN_eq h3)) LiveR.nil)) (BlksR.cons (rowN_refs h5 rfl (GtRefsR.cons (RefsR.plain (Refs.of_eq (intO_eq h7)) rfl) (GtRefsR.cons (RefsR.plain (vtO_refs h9) rfl) (GtRefsR.cons (RefsR.plain (vtO_refs h11) rfl) GtRefsR.nil))) rfl) (BlksR.cons (rowN_refs h13 rfl (GtRefsR.cons (RefsR.plain (Refs.of_eq (intO_eq h15)) rfl) (GtRefsR.cons (RefsR.plain (vtO_refs h17) rfl) (GtRefsR.cons (RefsR.plain (vtO_refs h19) rfl) GtRefsR.nil))) rfl) BlksR.nil))⟩

def atlaslaw23_same.q0.t : Tail ((Bool) ⊕ (Int × (List (Int × Int × (Bool × Bool × Bool × Unit) × (List Int) × Unit)) × (List (ByteArray × Int × Unit)) × Int × (List (Int × Int × (Bool × Bool × Bool × Unit) × (List Int) × Unit)) × (List (ByteArray × Int × Unit)))) := Tail.or .ret atlaslaw23_same.q0.x0 (Tail.one (.exit 0) atlaslaw23_same.q0.x1)
theorem atlaslaw23_same.q0.np (y : ((Bool) ⊕ (Int × (List (Int × Int × (Bool × Bool × Bool × Unit) × (List Int) × Unit)) × (List (ByteArray × Int × Unit)) × Int × (List (Int × Int × (Bool × Bool × Bool × Unit) × (List Int) × Unit)) × (List (ByteArray × Int × Unit))))) (v : AV) : (atlaslaw23_same.q0.t.out y).1 = .panic v → nomem v = true := fun h => by rcases y with _ | y <;> first | (cases h; done) | (cases h; rfl) | (cases h)
theorem atlaslaw23_same.q0.nn (y : ((Bool) ⊕ (Int × (List (Int × Int × (Bool × Bool × Bool × Unit) × (List Int) × Unit)) × (List (ByteArray × Int × Unit)) × Int × (List (Int × Int × (Bool × Bool × Bool × Unit) × (List Int) × Unit)) × (List (ByteArray × Int × Unit))))) : (atlaslaw23_same.q0.t.out y).1 ≠ .normal := fun h => by rcases y with _ | y <;> first | (cases h; done) | (cases h; rfl) | (cases h)
def atlaslaw23_same.q0.l (k : Nat) : Nat → (Int × Int × (List (Int × Int × (Bool × Bool × Bool × Unit) × (List Int) × Unit)) × (List (ByteArray × Int × Unit)) × Int × (List (Int × Int × (Bool × Bool × Bool × Unit) × (List Int) × Unit)) × (List (ByteArray × Int × Unit))) → Option ((Bool) ⊕ (Int × (List (Int × Int × (Bool × Bool × Bool × Unit) × (List Int) × Unit)) × (List (ByteArray × Int × Unit)) × Int × (List (Int × Int × (Bool × Bool × Bool × Unit) × (List Int) × Unit)) × (List (ByteArray × Int × Unit))))
  | 0, _ => none
  | n + 1, x => (bif (decide (x.1 < ((x.2.2.1.length : Nat) : Int))) then (bif (decide (0 ≤ x.1) && decide (x.1 < ((x.2.2.1.length : Nat) : Int))) then (bif (decide (0 ≤ x.1) && decide (x.1 < ((x.2.2.2.2.2.1.length : Nat) : Int))) then (bif (((x.2.2.1.getD (x.1).toNat (0, 0, (false, false, false, ()), [], ())).1) != ((x.2.2.2.2.2.1.getD (x.1).toNat (0, 0, (false, false, false, ()), [], ())).1)) then (some (Sum.inl false)) else (bif (((x.2.2.1.getD (x.1).toNat (0, 0, (false, false, false, ()), [], ())).2.1) != ((x.2.2.2.2.2.1.getD (x.1).toNat (0, 0, (false, false, false, ()), [], ())).2.1)) then (some (Sum.inl false)) else (bif (!((((x.2.2.1.getD (x.1).toNat (0, 0, (false, false, false, ()), [], ())).2.2.1.1) == ((x.2.2.2.2.2.1.getD (x.1).toNat (0, 0, (false, false, false, ()), [], ())).2.2.1.1)) && ((((x.2.2.1.getD (x.1).toNat (0, 0, (false, false, false, ()), [], ())).2.2.1.2.1) == ((x.2.2.2.2.2.1.getD (x.1).toNat (0, 0, (false, false, false, ()), [], ())).2.2.1.2.1)) && ((((x.2.2.1.getD (x.1).toNat (0, 0, (false, false, false, ()), [], ())).2.2.1.2.2.1) == ((x.2.2.2.2.2.1.getD (x.1).toNat (0, 0, (false, false, false, ()), [], ())).2.2.1.2.2.1)) && true)))) then (some (Sum.inl false)) else (bif ((x.2.2.1.getD (x.1).toNat (0, 0, (false, false, false, ()), [], ())).2.2.2.1).all (fun b => decide (0 ≤ b) && decide (b < 256)) then (bif ((x.2.2.2.2.2.1.getD (x.1).toNat (0, 0, (false, false, false, ()), [], ())).2.2.2.1).all (fun b => decide (0 ≤ b) && decide (b < 256)) then (bif (!((bytesO ((x.2.2.1.getD (x.1).toNat (0, 0, (false, false, false, ()), [], ())).2.2.2.1)).toList == (bytesO ((x.2.2.2.2.2.1.getD (x.1).toNat (0, 0, (false, false, false, ()), [], ())).2.2.2.1)).toList)) then (some (Sum.inl false)) else (atlaslaw23_same.q0.l k n ((IntKind.wrap .i64 (x.1 + 1)), x.2.1, x.2.2.1, x.2.2.2.1, x.2.2.2.2.1, x.2.2.2.2.2.1, x.2.2.2.2.2.2))) else none) else none)))) else none) else none) else (some (Sum.inr (x.2.1, x.2.2.1, x.2.2.2.1, x.2.2.2.2.1, x.2.2.2.2.2.1, x.2.2.2.2.2.2))))
theorem atlaslaw23_same.q0.z (k : Nat) (x : (Int × Int × (List (Int × Int × (Bool × Bool × Bool × Unit) × (List Int) × Unit)) × (List (ByteArray × Int × Unit)) × Int × (List (Int × Int × (Bool × Bool × Bool × Unit) × (List Int) × Unit)) × (List (ByteArray × Int × Unit)))) : atlaslaw23_same.q0.l k 0 x = none := rfl
theorem atlaslaw23_same.q0.at : codeAt (bodyOf Try.f19) [false, true, false, true, true] = some (.loop (loopBody (bodyOf Try.f19) [false, true, false, true, true])) := by kernel_rfl
theorem atlaslaw23_same.q0.goes (k n : Nat) (x : (Int × Int × (List (Int × Int × (Bool × Bool × Bool × Unit) × (List Int) × Unit)) × (List (ByteArray × Int × Unit)) × Int × (List (Int × Int × (Bool × Bool × Bool × Unit) × (List Int) × Unit)) × (List (ByteArray × Int × Unit)))) : E Try.prog (gamOf []) (lamOf []) (loopBody (bodyOf Try.f19) [false, true, false, true, true]) (false :: [false, true, false, true, true]) (atlaslaw23_same.q0.h.st x) (contD atlaslaw23_same.q0.h atlaslaw23_same.q0.t (atlaslaw23_same.q0.l k n) some) = atlaslaw23_same.q0.l k (n + 1) x := by
  kernel_rfl
theorem atlaslaw23_same.q0.ok_ (k : Nat) : PieceOk Try.prog (bodyOf Try.f19) ⟨[false, true, false, true, true], _, _, atlaslaw23_same.q0.h, atlaslaw23_same.q0.t, atlaslaw23_same.q0.l k k⟩ :=
  piece_loop (gamOf_nil _) (lamOf_nil _ _) mixed atlaslaw23_same.q0.at atlaslaw23_same.q0.np atlaslaw23_same.q0.nn (atlaslaw23_same.q0.z k) (atlaslaw23_same.q0.goes k) k
def atlaslaw23_same.q0.p (k : Nat) : Piece := ⟨[false, true, false, true, true], _, _, atlaslaw23_same.q0.h, atlaslaw23_same.q0.t, atlaslaw23_same.q0.l k k⟩
theorem atlaslaw23_same.q0.ok (k : Nat) : PieceOk Try.prog (bodyOf Try.f19) (atlaslaw23_same.q0.p k) := atlaslaw23_same.q0.ok_ k
def atlaslaw23_same.q1.h : Head (Int × Int × (List (Int × Int × (Bool × Bool × Bool × Unit) × (List Int) × Unit)) × (List (ByteArray × Int × Unit)) × Int × (List (Int × Int × (Bool × Bool × Bool × Unit) × (List Int) × Unit)) × (List (ByteArray × Int × Unit))) where
  k γ s F := (sizedN 95 s).bind fun _ => (ptrN 0 (gt s.tm 2)).bind fun b2 => (ptrN 0 (gt s.tm 3)).bind fun b4 => (intO .i64 (gt s.tm 8)).bind fun v6 => (rowN 26 3 s.hp b2).bind fun l8 => (intO .u32 (gt l8 0)).bind fun v10 => (vtO (.pair (.int .u32) (.pair (.int .u32) (.pair (.pair .bool (.pair .bool (.pair .bool .unit))) (.pair (.vec (.int .u8)) .unit)))) (gt l8 1)).bind fun v12 => (vtO (.pair .str (.pair (.int .u32) .unit)) (gt l8 2)).bind fun v14 => (rowN 26 3 s.hp b4).bind fun l16 => (intO .u32 (gt l16 0)).bind fun v18 => (vtO (.pair (.int .u32) (.pair (.int .u32) (.pair (.pair .bool (.pair .bool (.pair .bool .unit))) (.pair (.vec (.int .u8)) .unit)))) (gt l16 1)).bind fun v20 => (vtO (.pair .str (.pair (.int .u32) .unit)) (gt l16 2)).bind fun v22 => (distO [some b2, some b4]).bind fun _ => F (v6, v10, v12, v14, v18, v20, v22)
  st x := ⟨sparseT [(2, (.ptr 0 0)), (3, (.ptr 1 0)), (8, (.val (.int .i64 x.1)))] 95 0, [.row [(.val (.int .u32 x.2.1)), (.vt (.pair (.int .u32) (.pair (.int .u32) (.pair (.pair .bool (.pair .bool (.pair .bool .unit))) (.pair (.vec (.int .u8)) .unit)))) x.2.2.1), (.vt (.pair .str (.pair (.int .u32) .unit)) x.2.2.2.1)] 26 true, .row [(.val (.int .u32 x.2.2.2.2.1)), (.vt (.pair (.int .u32) (.pair (.int .u32) (.pair (.pair .bool (.pair .bool (.pair .bool .unit))) (.pair (.vec (.int .u8)) .unit)))) x.2.2.2.2.2.1), (.vt (.pair .str (.pair (.int .u32) .unit)) x.2.2.2.2.2.2)] 26 true]⟩
  ok γ s F r h := by
    obtain ⟨_, hz, h⟩ := Option.bind_eq_some_iff.1 h
    obtain ⟨b2, h1, h⟩ := Option.bind_eq_some_iff.1 h
    obtain ⟨b4, h3, h⟩ := Option.bind_eq_some_iff.1 h
    obtain ⟨v6, h5, h⟩ := Option.bind_eq_some_iff.1 h
    obtain ⟨l8, h7, h⟩ := Option.bind_eq_some_iff.1 h
    obtain ⟨v10, h9, h⟩ := Option.bind_eq_some_iff.1 h
    obtain ⟨v12, h11, h⟩ := Option.bind_eq_some_iff.1 h
    obtain ⟨v14, h13, h⟩ := Option.bind_eq_some_iff.1 h
    obtain ⟨l16, h15, h⟩ := Option.bind_eq_some_iff.1 h
    obtain ⟨v18, h17, h⟩ := Option.bind_eq_some_iff.1 h
    obtain ⟨v20, h19, h⟩ := Option.bind_eq_some_iff.1 h
    obtain ⟨v22, h21, h⟩ := Option.bind_eq_some_iff.1 h
    obtain ⟨_, h23, h⟩ := Option.bind_eq_some_iff.1 h
    exact ⟨_, h, weak_ren (l := [some b2, some b4]) (sizedN_ok hz) (distO_ok h23) (LiveR.cons (RefsR.ptr (l := [some b2, some b4]) (i := 0) rfl (ptrN_eq h1)) (LiveR.cons (RefsR.ptr (l := [some b2, some b4]) (i := 1) rfl (ptrN_eq h3)) (LiveR.cons (RefsR.plain (Refs.of_eq (intO_eq h5)) rfl) LiveR.nil))) (BlksR.cons (rowN_refs h7 rfl (GtRefsR.cons (RefsR.plain (Refs.of_eq (intO_eq h9)) rfl) (GtRefsR.cons (RefsR.plain (vtO_refs h11) rfl) (GtRefsR.cons (RefsR.plain (vtO_refs h13) rfl) GtRefsR.nil))) rfl) (BlksR.cons (rowN_refs h15 rfl (GtRefsR.cons (RefsR.plain (Refs.of_eq (intO_eq h17)) rfl) (GtRefsR.cons (RefsR.plain (vtO_refs h19) rfl) (GtRefsR.cons (RefsR.plain (vtO_refs h21) rfl) GtRefsR.nil))) rfl) BlksR.nil))⟩

def atlaslaw23_same.q1.x0 : Head (Bool) where
  k γ s F := (sizedN 95 s).bind fun _ => (boolO (gt s.tm 4)).bind fun v2 => (distO []).bind fun _ => F (v2)
  st x := ⟨sparseT [(4, (.val (.bool x)))] 95 0, []⟩
  ok γ s F r h := by
    obtain ⟨_, hz, h⟩ := Option.bind_eq_some_iff.1 h
    obtain ⟨v2, h1, h⟩ := Option.bind_eq_some_iff.1 h
    obtain ⟨_, h3, h⟩ := Option.bind_eq_some_iff.1 h
    exact ⟨_, h, weak_ren (l := []) (sizedN_ok hz) (distO_ok h3) (LiveR.cons (RefsR.plain (Refs.of_eq (boolO_eq h1)) rfl) LiveR.nil) BlksR.nil⟩

def atlaslaw23_same.q1.x1 : Head (Unit) where
  k γ s F := (sizedN 95 s).bind fun _ => (distO []).bind fun _ => F ()
  st x := ⟨sparseT [] 95 0, []⟩
  ok γ s F r h := by
    obtain ⟨_, hz, h⟩ := Option.bind_eq_some_iff.1 h
    obtain ⟨_, h1, h⟩ := Option.bind_eq_some_iff.1 h
    exact ⟨_, h, weak_ren (l := []) (sizedN_ok hz) (distO_ok h1) LiveR.nil BlksR.nil⟩

def atlaslaw23_same.q1.t : Tail ((Bool) ⊕ (Unit)) := Tail.or .ret atlaslaw23_same.q1.x0 (Tail.one (.exit 2) atlaslaw23_same.q1.x1)
theorem atlaslaw23_same.q1.np (y : ((Bool) ⊕ (Unit))) (v : AV) : (atlaslaw23_same.q1.t.out y).1 = .panic v → nomem v = true := fun h => by rcases y with _ | y <;> first | (cases h; done) | (cases h; rfl) | (cases h)
theorem atlaslaw23_same.q1.nn (y : ((Bool) ⊕ (Unit))) : (atlaslaw23_same.q1.t.out y).1 ≠ .normal := fun h => by rcases y with _ | y <;> first | (cases h; done) | (cases h; rfl) | (cases h)
def atlaslaw23_same.q1.l (k : Nat) : Nat → (Int × Int × (List (Int × Int × (Bool × Bool × Bool × Unit) × (List Int) × Unit)) × (List (ByteArray × Int × Unit)) × Int × (List (Int × Int × (Bool × Bool × Bool × Unit) × (List Int) × Unit)) × (List (ByteArray × Int × Unit))) → Option ((Bool) ⊕ (Unit))
  | 0, _ => none
  | n + 1, x => (bif (decide (x.1 < ((x.2.2.2.1.length : Nat) : Int))) then (bif (decide (0 ≤ x.1) && decide (x.1 < ((x.2.2.2.1.length : Nat) : Int))) then (bif (decide (0 ≤ x.1) && decide (x.1 < ((x.2.2.2.2.2.2.length : Nat) : Int))) then (bif (!((((x.2.2.2.1.getD (x.1).toNat (ByteArray.empty, 0, ())).1).toList == ((x.2.2.2.2.2.2.getD (x.1).toNat (ByteArray.empty, 0, ())).1).toList) && ((((x.2.2.2.1.getD (x.1).toNat (ByteArray.empty, 0, ())).2.1) == ((x.2.2.2.2.2.2.getD (x.1).toNat (ByteArray.empty, 0, ())).2.1)) && true))) then (some (Sum.inl false)) else (atlaslaw23_same.q1.l k n ((IntKind.wrap .i64 (x.1 + 1)), x.2.1, x.2.2.1, x.2.2.2.1, x.2.2.2.2.1, x.2.2.2.2.2.1, x.2.2.2.2.2.2))) else none) else none) else (some (Sum.inr ())))
theorem atlaslaw23_same.q1.z (k : Nat) (x : (Int × Int × (List (Int × Int × (Bool × Bool × Bool × Unit) × (List Int) × Unit)) × (List (ByteArray × Int × Unit)) × Int × (List (Int × Int × (Bool × Bool × Bool × Unit) × (List Int) × Unit)) × (List (ByteArray × Int × Unit)))) : atlaslaw23_same.q1.l k 0 x = none := rfl
theorem atlaslaw23_same.q1.at : codeAt (bodyOf Try.f19) [false, true, false, true, true, true] = some (.loop (loopBody (bodyOf Try.f19) [false, true, false, true, true, true])) := by kernel_rfl
theorem atlaslaw23_same.q1.goes (k n : Nat) (x : (Int × Int × (List (Int × Int × (Bool × Bool × Bool × Unit) × (List Int) × Unit)) × (List (ByteArray × Int × Unit)) × Int × (List (Int × Int × (Bool × Bool × Bool × Unit) × (List Int) × Unit)) × (List (ByteArray × Int × Unit)))) : E Try.prog (gamOf []) (lamOf []) (loopBody (bodyOf Try.f19) [false, true, false, true, true, true]) (false :: [false, true, false, true, true, true]) (atlaslaw23_same.q1.h.st x) (contD atlaslaw23_same.q1.h atlaslaw23_same.q1.t (atlaslaw23_same.q1.l k n) some) = atlaslaw23_same.q1.l k (n + 1) x := by
  kernel_rfl
theorem atlaslaw23_same.q1.ok_ (k : Nat) : PieceOk Try.prog (bodyOf Try.f19) ⟨[false, true, false, true, true, true], _, _, atlaslaw23_same.q1.h, atlaslaw23_same.q1.t, atlaslaw23_same.q1.l k k⟩ :=
  piece_loop (gamOf_nil _) (lamOf_nil _ _) mixed atlaslaw23_same.q1.at atlaslaw23_same.q1.np atlaslaw23_same.q1.nn (atlaslaw23_same.q1.z k) (atlaslaw23_same.q1.goes k) k
def atlaslaw23_same.q1.p (k : Nat) : Piece := ⟨[false, true, false, true, true, true], _, _, atlaslaw23_same.q1.h, atlaslaw23_same.q1.t, atlaslaw23_same.q1.l k k⟩
theorem atlaslaw23_same.q1.ok (k : Nat) : PieceOk Try.prog (bodyOf Try.f19) (atlaslaw23_same.q1.p k) := atlaslaw23_same.q1.ok_ k
def atlaslaw23_same.f (k : Nat) (x0 : T25) (x1 : T25) : Option (Bool) := (bif (x0.f0_Entry != x1.f0_Entry) then (some false) else (bif (((x0.f1_Segments.length : Nat) : Int) != ((x1.f1_Segments.length : Nat) : Int)) then (some false) else (bif (((x0.f2_Symbols.length : Nat) : Int) != ((x1.f2_Symbols.length : Nat) : Int)) then (some false) else ((atlaslaw23_same.q0.l k k (0, x0.f0_Entry, x0.f1_Segments, x0.f2_Symbols, x1.f0_Entry, x1.f1_Segments, x1.f2_Symbols)).bind fun r1 => (Sum.elim (fun r2 => (some r2)) (fun r3 => ((atlaslaw23_same.q1.l k k (0, r3.1, r3.2.1, r3.2.2.1, r3.2.2.2.1, r3.2.2.2.2.1, r3.2.2.2.2.2)).bind fun r4 => (Sum.elim (fun r5 => (some r5)) (fun r6 => (some true)) r4))) r1)))))
theorem atlaslaw23_same.run (k : Nat) (x0 : T25) (x1 : T25) : runF Try.prog (gamOf []) (lamOf [atlaslaw23_same.q0.p k, atlaslaw23_same.q1.p k]) Try.f19 [(T25.av x0), (T25.av x1)] some = (atlaslaw23_same.f k x0 x1).bind fun r => some (.ret (.val (.bool r))) := by
  unfold atlaslaw23_same.f
  try simp only [cond_bind, elim_bind, Option.bind_some, Option.bind_none, Option.bind_assoc, Sum.elim_inl, Sum.elim_inr]
  kernel_rfl
def atlaslaw23_same.g (k : Nat) : GFun := fun β args K => match args with
  | [a0, a1] => (T25.of a0).bind fun x0 => (T25.of a1).bind fun x1 => (atlaslaw23_same.f k x0 x1).bind fun r => K (.ret (.val (.bool r)))
  | _ => none
theorem atlaslaw23_same.callable : callable Try.prog 19 = true := callable_of Try.func19 (by kernel_rfl)
theorem atlaslaw23_same.ok (k : Nat) : GOk Try.prog 19 (atlaslaw23_same.g k) := by
  intro β args K r h
  unfold atlaslaw23_same.g at h
  split at h
  · obtain ⟨x0, e0, h⟩ := Option.bind_eq_some_iff.1 h
    obtain ⟨x1, e1, h⟩ := Option.bind_eq_some_iff.1 h
    obtain ⟨y, hy, hK⟩ := Option.bind_eq_some_iff.1 h
    have hrun := atlaslaw23_same.run k x0 x1
    rw [hy] at hrun
    obtain ⟨out, e, hs⟩ := sim_of_run Try.func19 (by kernel_rfl) mixed (gamOf_nil _) (lamOf_cons (atlaslaw23_same.q0.ok k) (lamOf_cons (atlaslaw23_same.q1.ok k) (lamOf_nil _ _))) (args' := [(T25.av x0), (T25.av x1)]) (RefsL.cons (T25.refs e0) (RefsL.cons (T25.refs e1) RefsL.nil)) hrun
    simp only [Option.some.injEq] at e
    subst e
    exact ⟨_, hK, hs⟩
  · cases h
/-! ### atlas/elf.end: function 54 -/
def elf_end.f (x0 : T45) : Option (Int) := (some (IntKind.wrap .u64 ((IntKind.wrap .u64 x0.f0_VA) + (IntKind.wrap .u64 x0.f1_Size))))
theorem elf_end.run (x0 : T45) : runF Try.prog (gamOf []) noLam Try.f54 [(T45.av x0)] some = (elf_end.f x0).bind fun r => some (.ret (.val (.int .u64 r))) := by
  unfold elf_end.f
  try simp only [cond_bind, elim_bind, Option.bind_some, Option.bind_none, Option.bind_assoc, Sum.elim_inl, Sum.elim_inr]
  kernel_rfl
def elf_end.g : GFun := fun β args K => match args with
  | [a0] => (T45.of a0).bind fun x0 => (elf_end.f x0).bind fun r => K (.ret (.val (.int .u64 r)))
  | _ => none
theorem elf_end.callable : callable Try.prog 54 = true := callable_of Try.func54 (by kernel_rfl)
theorem elf_end.ok : GOk Try.prog 54 (elf_end.g) := by
  intro β args K r h
  unfold elf_end.g at h
  split at h
  · obtain ⟨x0, e0, h⟩ := Option.bind_eq_some_iff.1 h
    obtain ⟨y, hy, hK⟩ := Option.bind_eq_some_iff.1 h
    have hrun := elf_end.run x0
    rw [hy] at hrun
    obtain ⟨out, e, hs⟩ := sim_of_run Try.func54 (by kernel_rfl) mixed (gamOf_nil _) (noLam_ok _ _) (args' := [(T45.av x0)]) (RefsL.cons (T45.refs e0) RefsL.nil) hrun
    simp only [Option.some.injEq] at e
    subst e
    exact ⟨_, hK, hs⟩
  · cases h
/-! ### atlas/elf.up: function 56 -/
def elf_up.f (x0 : Int) (x1 : Int) : Option (Int) := (bif decide (x1 = 0) then none else (some (IntKind.wrap .u64 ((IntKind.wrap .u64 (Int.tdiv (IntKind.wrap .u64 ((IntKind.wrap .u64 (x0 + x1)) - 1)) x1)) * x1))))
theorem elf_up.run (x0 : Int) (x1 : Int) : runF Try.prog (gamOf []) noLam Try.f56 [(.val (.int .u64 x0)), (.val (.int .u64 x1))] some = (elf_up.f x0 x1).bind fun r => some (.ret (.val (.int .u64 r))) := by
  unfold elf_up.f
  try simp only [cond_bind, elim_bind, Option.bind_some, Option.bind_none, Option.bind_assoc, Sum.elim_inl, Sum.elim_inr]
  kernel_rfl
def elf_up.g : GFun := fun β args K => match args with
  | [a0, a1] => (intO .u64 a0).bind fun x0 => (intO .u64 a1).bind fun x1 => (elf_up.f x0 x1).bind fun r => K (.ret (.val (.int .u64 r)))
  | _ => none
theorem elf_up.callable : callable Try.prog 56 = true := callable_of Try.func56 (by kernel_rfl)
theorem elf_up.ok : GOk Try.prog 56 (elf_up.g) := by
  intro β args K r h
  unfold elf_up.g at h
  split at h
  · obtain ⟨x0, e0, h⟩ := Option.bind_eq_some_iff.1 h
    obtain ⟨x1, e1, h⟩ := Option.bind_eq_some_iff.1 h
    obtain ⟨y, hy, hK⟩ := Option.bind_eq_some_iff.1 h
    have hrun := elf_up.run x0 x1
    rw [hy] at hrun
    obtain ⟨out, e, hs⟩ := sim_of_run Try.func56 (by kernel_rfl) mixed (gamOf_nil _) (noLam_ok _ _) (args' := [(.val (.int .u64 x0)), (.val (.int .u64 x1))]) (RefsL.cons (Refs.of_eq (intO_eq e0)) (RefsL.cons (Refs.of_eq (intO_eq e1)) RefsL.nil)) hrun
    simp only [Option.some.injEq] at e
    subst e
    exact ⟨_, hK, hs⟩
  · cases h
/-! ### atlas/elf.rising: function 25 -/
def elf_rising.q0.h : Head ((List (Int × Int × (Bool × Bool × Bool × Unit) × (List Int) × Unit)) × Int) where
  k γ s F := (sizedN 24 s).bind fun _ => (vtO (.pair (.int .u32) (.pair (.int .u32) (.pair (.pair .bool (.pair .bool (.pair .bool .unit))) (.pair (.vec (.int .u8)) .unit)))) (gt s.tm 0)).bind fun v2 => (intO .i64 (gt s.tm 3)).bind fun v4 => (distO []).bind fun _ => F (v2, v4)
  st x := ⟨sparseT [(0, (.vt (.pair (.int .u32) (.pair (.int .u32) (.pair (.pair .bool (.pair .bool (.pair .bool .unit))) (.pair (.vec (.int .u8)) .unit)))) x.1)), (3, (.val (.int .i64 x.2)))] 24 0, []⟩
  ok γ s F r h := by
    obtain ⟨_, hz, h⟩ := Option.bind_eq_some_iff.1 h
    obtain ⟨v2, h1, h⟩ := Option.bind_eq_some_iff.1 h
    obtain ⟨v4, h3, h⟩ := Option.bind_eq_some_iff.1 h
    obtain ⟨_, h5, h⟩ := Option.bind_eq_some_iff.1 h
    exact ⟨_, h, weak_ren (l := []) (sizedN_ok hz) (distO_ok h5) (LiveR.cons (RefsR.plain (vtO_refs h1) rfl) (LiveR.cons (RefsR.plain (Refs.of_eq (intO_eq h3)) rfl) LiveR.nil)) BlksR.nil⟩

def elf_rising.q0.x0 : Head (Bool) where
  k γ s F := (sizedN 24 s).bind fun _ => (boolO (gt s.tm 2)).bind fun v2 => (distO []).bind fun _ => F (v2)
  st x := ⟨sparseT [(2, (.val (.bool x)))] 24 0, []⟩
  ok γ s F r h := by
    obtain ⟨_, hz, h⟩ := Option.bind_eq_some_iff.1 h
    obtain ⟨v2, h1, h⟩ := Option.bind_eq_some_iff.1 h
    obtain ⟨_, h3, h⟩ := Option.bind_eq_some_iff.1 h
    exact ⟨_, h, weak_ren (l := []) (sizedN_ok hz) (distO_ok h3) (LiveR.cons (RefsR.plain (Refs.of_eq (boolO_eq h1)) rfl) LiveR.nil) BlksR.nil⟩

def elf_rising.q0.x1 : Head (Unit) where
  k γ s F := (sizedN 24 s).bind fun _ => (distO []).bind fun _ => F ()
  st x := ⟨sparseT [] 24 0, []⟩
  ok γ s F r h := by
    obtain ⟨_, hz, h⟩ := Option.bind_eq_some_iff.1 h
    obtain ⟨_, h1, h⟩ := Option.bind_eq_some_iff.1 h
    exact ⟨_, h, weak_ren (l := []) (sizedN_ok hz) (distO_ok h1) LiveR.nil BlksR.nil⟩

def elf_rising.q0.t : Tail ((Bool) ⊕ (Unit)) := Tail.or .ret elf_rising.q0.x0 (Tail.one (.exit 0) elf_rising.q0.x1)
theorem elf_rising.q0.np (y : ((Bool) ⊕ (Unit))) (v : AV) : (elf_rising.q0.t.out y).1 = .panic v → nomem v = true := fun h => by rcases y with _ | y <;> first | (cases h; done) | (cases h; rfl) | (cases h)
theorem elf_rising.q0.nn (y : ((Bool) ⊕ (Unit))) : (elf_rising.q0.t.out y).1 ≠ .normal := fun h => by rcases y with _ | y <;> first | (cases h; done) | (cases h; rfl) | (cases h)
def elf_rising.q0.l (k : Nat) : Nat → ((List (Int × Int × (Bool × Bool × Bool × Unit) × (List Int) × Unit)) × Int) → Option ((Bool) ⊕ (Unit))
  | 0, _ => none
  | n + 1, x => (bif (decide (x.2 < ((x.1.length : Nat) : Int))) then (bif (decide (0 ≤ x.2) && decide (x.2 < ((x.1.length : Nat) : Int))) then (bif (decide (0 ≤ (IntKind.wrap .i64 (x.2 - 1))) && decide ((IntKind.wrap .i64 (x.2 - 1)) < ((x.1.length : Nat) : Int))) then ((elf_end.f (⟨(x.1.getD ((IntKind.wrap .i64 (x.2 - 1))).toNat (0, 0, (false, false, false, ()), [], ())).1, (x.1.getD ((IntKind.wrap .i64 (x.2 - 1))).toNat (0, 0, (false, false, false, ()), [], ())).2.1, (x.1.getD ((IntKind.wrap .i64 (x.2 - 1))).toNat (0, 0, (false, false, false, ()), [], ())).2.2.1.1, (x.1.getD ((IntKind.wrap .i64 (x.2 - 1))).toNat (0, 0, (false, false, false, ()), [], ())).2.2.1.2.1, (x.1.getD ((IntKind.wrap .i64 (x.2 - 1))).toNat (0, 0, (false, false, false, ()), [], ())).2.2.1.2.2.1, (x.1.getD ((IntKind.wrap .i64 (x.2 - 1))).toNat (0, 0, (false, false, false, ()), [], ())).2.2.2.1⟩ : T45)).bind fun r1 => ((elf_up.f r1 4096).bind fun r2 => (bif (decide ((IntKind.wrap .u64 ((x.1.getD (x.2).toNat (0, 0, (false, false, false, ()), [], ())).1)) < r2)) then (some (Sum.inl false)) else (elf_rising.q0.l k n (x.1, (IntKind.wrap .i64 (x.2 + 1))))))) else none) else none) else (some (Sum.inr ())))
theorem elf_rising.q0.z (k : Nat) (x : ((List (Int × Int × (Bool × Bool × Bool × Unit) × (List Int) × Unit)) × Int)) : elf_rising.q0.l k 0 x = none := rfl
theorem elf_rising.q0.at : codeAt (bodyOf Try.f25) [false, true, false, true] = some (.loop (loopBody (bodyOf Try.f25) [false, true, false, true])) := by kernel_rfl
theorem elf_rising.q0.goes (k n : Nat) (x : ((List (Int × Int × (Bool × Bool × Bool × Unit) × (List Int) × Unit)) × Int)) : E Try.prog (gamOf [(54, elf_end.g), (56, elf_up.g)]) (lamOf []) (loopBody (bodyOf Try.f25) [false, true, false, true]) (false :: [false, true, false, true]) (elf_rising.q0.h.st x) (contD elf_rising.q0.h elf_rising.q0.t (elf_rising.q0.l k n) some) = elf_rising.q0.l k (n + 1) x := by
  kernel_rfl
theorem elf_rising.q0.ok_ (k : Nat) : PieceOk Try.prog (bodyOf Try.f25) ⟨[false, true, false, true], _, _, elf_rising.q0.h, elf_rising.q0.t, elf_rising.q0.l k k⟩ :=
  piece_loop (gamOf_cons (elf_end.ok) elf_end.callable (gamOf_cons (elf_up.ok) elf_up.callable (gamOf_nil _))) (lamOf_nil _ _) mixed elf_rising.q0.at elf_rising.q0.np elf_rising.q0.nn (elf_rising.q0.z k) (elf_rising.q0.goes k) k
def elf_rising.q0.p (k : Nat) : Piece := ⟨[false, true, false, true], _, _, elf_rising.q0.h, elf_rising.q0.t, elf_rising.q0.l k k⟩
theorem elf_rising.q0.ok (k : Nat) : PieceOk Try.prog (bodyOf Try.f25) (elf_rising.q0.p k) := elf_rising.q0.ok_ k
def elf_rising.f (k : Nat) (x0 : (List (Int × Int × (Bool × Bool × Bool × Unit) × (List Int) × Unit))) : Option (Bool) := ((elf_rising.q0.l k k (x0, 1)).bind fun r3 => (Sum.elim (fun r4 => (some r4)) (fun r5 => (some true)) r3))
theorem elf_rising.run (k : Nat) (x0 : (List (Int × Int × (Bool × Bool × Bool × Unit) × (List Int) × Unit))) : runF Try.prog (gamOf [(54, elf_end.g), (56, elf_up.g)]) (lamOf [elf_rising.q0.p k]) Try.f25 [(.vt (.pair (.int .u32) (.pair (.int .u32) (.pair (.pair .bool (.pair .bool (.pair .bool .unit))) (.pair (.vec (.int .u8)) .unit)))) x0)] some = (elf_rising.f k x0).bind fun r => some (.ret (.val (.bool r))) := by
  unfold elf_rising.f
  try simp only [cond_bind, elim_bind, Option.bind_some, Option.bind_none, Option.bind_assoc, Sum.elim_inl, Sum.elim_inr]
  kernel_rfl
def elf_rising.g (k : Nat) : GFun := fun β args K => match args with
  | [a0] => (vtO (.pair (.int .u32) (.pair (.int .u32) (.pair (.pair .bool (.pair .bool (.pair .bool .unit))) (.pair (.vec (.int .u8)) .unit)))) a0).bind fun x0 => (elf_rising.f k x0).bind fun r => K (.ret (.val (.bool r)))
  | _ => none
theorem elf_rising.callable : callable Try.prog 25 = true := callable_of Try.func25 (by kernel_rfl)
theorem elf_rising.ok (k : Nat) : GOk Try.prog 25 (elf_rising.g k) := by
  intro β args K r h
  unfold elf_rising.g at h
  split at h
  · obtain ⟨x0, e0, h⟩ := Option.bind_eq_some_iff.1 h
    obtain ⟨y, hy, hK⟩ := Option.bind_eq_some_iff.1 h
    have hrun := elf_rising.run k x0
    rw [hy] at hrun
    obtain ⟨out, e, hs⟩ := sim_of_run Try.func25 (by kernel_rfl) mixed (gamOf_cons (elf_end.ok) elf_end.callable (gamOf_cons (elf_up.ok) elf_up.callable (gamOf_nil _))) (lamOf_cons (elf_rising.q0.ok k) (lamOf_nil _ _)) (args' := [(.vt (.pair (.int .u32) (.pair (.int .u32) (.pair (.pair .bool (.pair .bool (.pair .bool .unit))) (.pair (.vec (.int .u8)) .unit)))) x0)]) (RefsL.cons (vtO_refs e0) RefsL.nil) hrun
    simp only [Option.some.injEq] at e
    subst e
    exact ⟨_, hK, hs⟩
  · cases h
/-! ### atlas/elf.starts$1: function 58 -/
def elf_starts_1.f (x0 : T45) (x1 : Int) : Option (Bool) := (bif x0.f4_Rights_Exec then (bif (decide (x1 ≥ x0.f0_VA)) then ((elf_end.f (⟨x0.f0_VA, x0.f1_Size, x0.f2_Rights_Read, x0.f3_Rights_Write, x0.f4_Rights_Exec, x0.f5_Data⟩ : T45)).bind fun r1 => (some (decide ((IntKind.wrap .u64 ((IntKind.wrap .u64 x1) + 4)) ≤ r1)))) else (some false)) else (some false))
theorem elf_starts_1.run (x0 : T45) (x1 : Int) : runF Try.prog (gamOf [(54, elf_end.g)]) noLam Try.f58 [(T45.av x0), (.cell [(.val (.int .u32 x1))])] some = (elf_starts_1.f x0 x1).bind fun r => some (.ret (.val (.bool r))) := by
  unfold elf_starts_1.f
  try simp only [cond_bind, elim_bind, Option.bind_some, Option.bind_none, Option.bind_assoc, Sum.elim_inl, Sum.elim_inr]
  kernel_rfl
def elf_starts_1.g : GFun := fun β args K => match args with
  | [a0, a1] => (T45.of a0).bind fun x0 => (cellD (oneO (intO .u32)) a1).bind fun x1 => (elf_starts_1.f x0 x1).bind fun r => K (.ret (.val (.bool r)))
  | _ => none
theorem elf_starts_1.callable : callable Try.prog 58 = true := callable_of Try.func58 (by kernel_rfl)
theorem elf_starts_1.ok : GOk Try.prog 58 (elf_starts_1.g) := by
  intro β args K r h
  unfold elf_starts_1.g at h
  split at h
  · obtain ⟨x0, e0, h⟩ := Option.bind_eq_some_iff.1 h
    obtain ⟨x1, e1, h⟩ := Option.bind_eq_some_iff.1 h
    obtain ⟨y, hy, hK⟩ := Option.bind_eq_some_iff.1 h
    have hrun := elf_starts_1.run x0 x1
    rw [hy] at hrun
    obtain ⟨out, e, hs⟩ := sim_of_run Try.func58 (by kernel_rfl) mixed (gamOf_cons (elf_end.ok) elf_end.callable (gamOf_nil _)) (noLam_ok _ _) (args' := [(T45.av x0), (.cell [(.val (.int .u32 x1))])]) (RefsL.cons (T45.refs e0) (RefsL.cons (cellD_refs1 e1 (fun v h => (Refs.of_eq (intO_eq h)))) RefsL.nil)) hrun
    simp only [Option.some.injEq] at e
    subst e
    exact ⟨_, hK, hs⟩
  · cases h
/-! ### slices.IndexFunc[[]atlas/api.Segment,atlas/api.Segment]: function 67 -/
def api_Segment.q0.h : Head ((List (Int × Int × (Bool × Bool × Bool × Unit) × (List Int) × Unit)) × Int × Int × Int) where
  k γ s F := (sizedN 19 s).bind fun _ => (vtO (.pair (.int .u32) (.pair (.int .u32) (.pair (.pair .bool (.pair .bool (.pair .bool .unit))) (.pair (.vec (.int .u8)) .unit)))) (gt s.tm 0)).bind fun v2 => (fnO 58 1 (gt s.tm 1)).bind fun l4 => (cellO 1 (gt l4 0)).bind fun l6 => (intO .u32 (gt l6 0)).bind fun v8 => (intO .i64 (gt s.tm 7)).bind fun v10 => (intO .i64 (gt s.tm 8)).bind fun v12 => (distO []).bind fun _ => F (v2, v8, v10, v12)
  st x := ⟨sparseT [(0, (.vt (.pair (.int .u32) (.pair (.int .u32) (.pair (.pair .bool (.pair .bool (.pair .bool .unit))) (.pair (.vec (.int .u8)) .unit)))) x.1)), (1, (.fn 58 [(.cell [(.val (.int .u32 x.2.1))])])), (7, (.val (.int .i64 x.2.2.1))), (8, (.val (.int .i64 x.2.2.2)))] 19 0, []⟩
  ok γ s F r h := by
    obtain ⟨_, hz, h⟩ := Option.bind_eq_some_iff.1 h
    obtain ⟨v2, h1, h⟩ := Option.bind_eq_some_iff.1 h
    obtain ⟨l4, h3, h⟩ := Option.bind_eq_some_iff.1 h
    obtain ⟨l6, h5, h⟩ := Option.bind_eq_some_iff.1 h
    obtain ⟨v8, h7, h⟩ := Option.bind_eq_some_iff.1 h
    obtain ⟨v10, h9, h⟩ := Option.bind_eq_some_iff.1 h
    obtain ⟨v12, h11, h⟩ := Option.bind_eq_some_iff.1 h
    obtain ⟨_, h13, h⟩ := Option.bind_eq_some_iff.1 h
    exact ⟨_, h, weak_ren (l := []) (sizedN_ok hz) (distO_ok h13) (LiveR.cons (RefsR.plain (vtO_refs h1) rfl) (LiveR.cons (fnO_refsR h3 rfl (GtRefsR.cons (RefsR.plain (cellO_refs h5 rfl (GtRefs.cons (Refs.of_eq (intO_eq h7)) GtRefs.nil)) rfl) GtRefsR.nil)) (LiveR.cons (RefsR.plain (Refs.of_eq (intO_eq h9)) rfl) (LiveR.cons (RefsR.plain (Refs.of_eq (intO_eq h11)) rfl) LiveR.nil)))) BlksR.nil⟩

def api_Segment.q0.x0 : Head (Int) where
  k γ s F := (sizedN 19 s).bind fun _ => (intO .i64 (gt s.tm 4)).bind fun v2 => (distO []).bind fun _ => F (v2)
  st x := ⟨sparseT [(4, (.val (.int .i64 x)))] 19 0, []⟩
  ok γ s F r h := by
    obtain ⟨_, hz, h⟩ := Option.bind_eq_some_iff.1 h
    obtain ⟨v2, h1, h⟩ := Option.bind_eq_some_iff.1 h
    obtain ⟨_, h3, h⟩ := Option.bind_eq_some_iff.1 h
    exact ⟨_, h, weak_ren (l := []) (sizedN_ok hz) (distO_ok h3) (LiveR.cons (RefsR.plain (Refs.of_eq (intO_eq h1)) rfl) LiveR.nil) BlksR.nil⟩

def api_Segment.q0.x1 : Head (Unit) where
  k γ s F := (sizedN 19 s).bind fun _ => (distO []).bind fun _ => F ()
  st x := ⟨sparseT [] 19 0, []⟩
  ok γ s F r h := by
    obtain ⟨_, hz, h⟩ := Option.bind_eq_some_iff.1 h
    obtain ⟨_, h1, h⟩ := Option.bind_eq_some_iff.1 h
    exact ⟨_, h, weak_ren (l := []) (sizedN_ok hz) (distO_ok h1) LiveR.nil BlksR.nil⟩

def api_Segment.q0.t : Tail ((Int) ⊕ (Unit)) := Tail.or .ret api_Segment.q0.x0 (Tail.one (.exit 0) api_Segment.q0.x1)
theorem api_Segment.q0.np (y : ((Int) ⊕ (Unit))) (v : AV) : (api_Segment.q0.t.out y).1 = .panic v → nomem v = true := fun h => by rcases y with _ | y <;> first | (cases h; done) | (cases h; rfl) | (cases h)
theorem api_Segment.q0.nn (y : ((Int) ⊕ (Unit))) : (api_Segment.q0.t.out y).1 ≠ .normal := fun h => by rcases y with _ | y <;> first | (cases h; done) | (cases h; rfl) | (cases h)
def api_Segment.q0.l (k : Nat) : Nat → ((List (Int × Int × (Bool × Bool × Bool × Unit) × (List Int) × Unit)) × Int × Int × Int) → Option ((Int) ⊕ (Unit))
  | 0, _ => none
  | n + 1, x => (bif (decide (x.2.2.2 < x.2.2.1)) then (bif (decide (0 ≤ x.2.2.2) && decide (x.2.2.2 < ((x.1.length : Nat) : Int))) then ((elf_starts_1.f (⟨(x.1.getD (x.2.2.2).toNat (0, 0, (false, false, false, ()), [], ())).1, (x.1.getD (x.2.2.2).toNat (0, 0, (false, false, false, ()), [], ())).2.1, (x.1.getD (x.2.2.2).toNat (0, 0, (false, false, false, ()), [], ())).2.2.1.1, (x.1.getD (x.2.2.2).toNat (0, 0, (false, false, false, ()), [], ())).2.2.1.2.1, (x.1.getD (x.2.2.2).toNat (0, 0, (false, false, false, ()), [], ())).2.2.1.2.2.1, (x.1.getD (x.2.2.2).toNat (0, 0, (false, false, false, ()), [], ())).2.2.2.1⟩ : T45) x.2.1).bind fun r1 => (bif r1 then (some (Sum.inl x.2.2.2)) else (api_Segment.q0.l k n (x.1, x.2.1, x.2.2.1, (IntKind.wrap .i64 (x.2.2.2 + 1)))))) else none) else (some (Sum.inr ())))
theorem api_Segment.q0.z (k : Nat) (x : ((List (Int × Int × (Bool × Bool × Bool × Unit) × (List Int) × Unit)) × Int × Int × Int)) : api_Segment.q0.l k 0 x = none := rfl
theorem api_Segment.q0.at : codeAt (bodyOf Try.f67) [false, true, false, true] = some (.loop (loopBody (bodyOf Try.f67) [false, true, false, true])) := by kernel_rfl
theorem api_Segment.q0.goes (k n : Nat) (x : ((List (Int × Int × (Bool × Bool × Bool × Unit) × (List Int) × Unit)) × Int × Int × Int)) : E Try.prog (gamOf [(58, elf_starts_1.g)]) (lamOf []) (loopBody (bodyOf Try.f67) [false, true, false, true]) (false :: [false, true, false, true]) (api_Segment.q0.h.st x) (contD api_Segment.q0.h api_Segment.q0.t (api_Segment.q0.l k n) some) = api_Segment.q0.l k (n + 1) x := by
  kernel_rfl
theorem api_Segment.q0.ok_ (k : Nat) : PieceOk Try.prog (bodyOf Try.f67) ⟨[false, true, false, true], _, _, api_Segment.q0.h, api_Segment.q0.t, api_Segment.q0.l k k⟩ :=
  piece_loop (gamOf_cons (elf_starts_1.ok) elf_starts_1.callable (gamOf_nil _)) (lamOf_nil _ _) mixed api_Segment.q0.at api_Segment.q0.np api_Segment.q0.nn (api_Segment.q0.z k) (api_Segment.q0.goes k) k
def api_Segment.q0.p (k : Nat) : Piece := ⟨[false, true, false, true], _, _, api_Segment.q0.h, api_Segment.q0.t, api_Segment.q0.l k k⟩
theorem api_Segment.q0.ok (k : Nat) : PieceOk Try.prog (bodyOf Try.f67) (api_Segment.q0.p k) := api_Segment.q0.ok_ k
def api_Segment.f (k : Nat) (x0 : (List (Int × Int × (Bool × Bool × Bool × Unit) × (List Int) × Unit))) (x1 : F58_0) : Option (Int) := ((api_Segment.q0.l k k (x0, x1.f0, ((x0.length : Nat) : Int), 0)).bind fun r2 => (Sum.elim (fun r3 => (some r3)) (fun r4 => (some (-1))) r2))
theorem api_Segment.run (k : Nat) (x0 : (List (Int × Int × (Bool × Bool × Bool × Unit) × (List Int) × Unit))) (x1 : F58_0) : runF Try.prog (gamOf [(58, elf_starts_1.g)]) (lamOf [api_Segment.q0.p k]) Try.f67 [(.vt (.pair (.int .u32) (.pair (.int .u32) (.pair (.pair .bool (.pair .bool (.pair .bool .unit))) (.pair (.vec (.int .u8)) .unit)))) x0), (F58_0.av x1)] some = (api_Segment.f k x0 x1).bind fun r => some (.ret (.val (.int .i64 r))) := by
  unfold api_Segment.f
  try simp only [cond_bind, elim_bind, Option.bind_some, Option.bind_none, Option.bind_assoc, Sum.elim_inl, Sum.elim_inr]
  kernel_rfl
def api_Segment.g (k : Nat) : GFun := fun β args K => match args with
  | [a0, a1] => (vtO (.pair (.int .u32) (.pair (.int .u32) (.pair (.pair .bool (.pair .bool (.pair .bool .unit))) (.pair (.vec (.int .u8)) .unit)))) a0).bind fun x0 => (F58_0.of a1).bind fun x1 => (api_Segment.f k x0 x1).bind fun r => K (.ret (.val (.int .i64 r)))
  | _ => none
theorem api_Segment.callable : callable Try.prog 67 = true := callable_of Try.func67 (by kernel_rfl)
theorem api_Segment.ok (k : Nat) : GOk Try.prog 67 (api_Segment.g k) := by
  intro β args K r h
  unfold api_Segment.g at h
  split at h
  · obtain ⟨x0, e0, h⟩ := Option.bind_eq_some_iff.1 h
    obtain ⟨x1, e1, h⟩ := Option.bind_eq_some_iff.1 h
    obtain ⟨y, hy, hK⟩ := Option.bind_eq_some_iff.1 h
    have hrun := api_Segment.run k x0 x1
    rw [hy] at hrun
    obtain ⟨out, e, hs⟩ := sim_of_run Try.func67 (by kernel_rfl) mixed (gamOf_cons (elf_starts_1.ok) elf_starts_1.callable (gamOf_nil _)) (lamOf_cons (api_Segment.q0.ok k) (lamOf_nil _ _)) (args' := [(.vt (.pair (.int .u32) (.pair (.int .u32) (.pair (.pair .bool (.pair .bool (.pair .bool .unit))) (.pair (.vec (.int .u8)) .unit)))) x0), (F58_0.av x1)]) (RefsL.cons (vtO_refs e0) (RefsL.cons (F58_0.refs e1) RefsL.nil)) hrun
    simp only [Option.some.injEq] at e
    subst e
    exact ⟨_, hK, hs⟩
  · cases h
/-! ### slices.ContainsFunc[[]atlas/api.Segment,atlas/api.Segment]: function 57 -/
def api_Segment_57.f (k : Nat) (x0 : (List (Int × Int × (Bool × Bool × Bool × Unit) × (List Int) × Unit))) (x1 : F58_0) : Option (Bool) := ((api_Segment.f k x0 (⟨x1.f0⟩ : F58_0)).bind fun r1 => (some (decide (r1 ≥ 0))))
theorem api_Segment_57.run (k : Nat) (x0 : (List (Int × Int × (Bool × Bool × Bool × Unit) × (List Int) × Unit))) (x1 : F58_0) : runF Try.prog (gamOf [(67, api_Segment.g k)]) noLam Try.f57 [(.vt (.pair (.int .u32) (.pair (.int .u32) (.pair (.pair .bool (.pair .bool (.pair .bool .unit))) (.pair (.vec (.int .u8)) .unit)))) x0), (F58_0.av x1)] some = (api_Segment_57.f k x0 x1).bind fun r => some (.ret (.val (.bool r))) := by
  unfold api_Segment_57.f
  try simp only [cond_bind, elim_bind, Option.bind_some, Option.bind_none, Option.bind_assoc, Sum.elim_inl, Sum.elim_inr]
  kernel_rfl
def api_Segment_57.g (k : Nat) : GFun := fun β args K => match args with
  | [a0, a1] => (vtO (.pair (.int .u32) (.pair (.int .u32) (.pair (.pair .bool (.pair .bool (.pair .bool .unit))) (.pair (.vec (.int .u8)) .unit)))) a0).bind fun x0 => (F58_0.of a1).bind fun x1 => (api_Segment_57.f k x0 x1).bind fun r => K (.ret (.val (.bool r)))
  | _ => none
theorem api_Segment_57.callable : callable Try.prog 57 = true := callable_of Try.func57 (by kernel_rfl)
theorem api_Segment_57.ok (k : Nat) : GOk Try.prog 57 (api_Segment_57.g k) := by
  intro β args K r h
  unfold api_Segment_57.g at h
  split at h
  · obtain ⟨x0, e0, h⟩ := Option.bind_eq_some_iff.1 h
    obtain ⟨x1, e1, h⟩ := Option.bind_eq_some_iff.1 h
    obtain ⟨y, hy, hK⟩ := Option.bind_eq_some_iff.1 h
    have hrun := api_Segment_57.run k x0 x1
    rw [hy] at hrun
    obtain ⟨out, e, hs⟩ := sim_of_run Try.func57 (by kernel_rfl) mixed (gamOf_cons (api_Segment.ok k) api_Segment.callable (gamOf_nil _)) (noLam_ok _ _) (args' := [(.vt (.pair (.int .u32) (.pair (.int .u32) (.pair (.pair .bool (.pair .bool (.pair .bool .unit))) (.pair (.vec (.int .u8)) .unit)))) x0), (F58_0.av x1)]) (RefsL.cons (vtO_refs e0) (RefsL.cons (F58_0.refs e1) RefsL.nil)) hrun
    simp only [Option.some.injEq] at e
    subst e
    exact ⟨_, hK, hs⟩
  · cases h
/-! ### atlas/elf.starts: function 26 -/
def elf_starts.f (k : Nat) (x0 : (List (Int × Int × (Bool × Bool × Bool × Unit) × (List Int) × Unit))) (x1 : Int) : Option (Bool) := (bif ((Int.tmod x1 4) == 0) then ((api_Segment_57.f k x0 (⟨x1⟩ : F58_0)).bind fun r1 => (some r1)) else (some false))
theorem elf_starts.run (k : Nat) (x0 : (List (Int × Int × (Bool × Bool × Bool × Unit) × (List Int) × Unit))) (x1 : Int) : runF Try.prog (gamOf [(57, api_Segment_57.g k)]) noLam Try.f26 [(.vt (.pair (.int .u32) (.pair (.int .u32) (.pair (.pair .bool (.pair .bool (.pair .bool .unit))) (.pair (.vec (.int .u8)) .unit)))) x0), (.val (.int .u32 x1))] some = (elf_starts.f k x0 x1).bind fun r => some (.ret (.val (.bool r))) := by
  unfold elf_starts.f
  try simp only [cond_bind, elim_bind, Option.bind_some, Option.bind_none, Option.bind_assoc, Sum.elim_inl, Sum.elim_inr]
  kernel_rfl
def elf_starts.g (k : Nat) : GFun := fun β args K => match args with
  | [a0, a1] => (vtO (.pair (.int .u32) (.pair (.int .u32) (.pair (.pair .bool (.pair .bool (.pair .bool .unit))) (.pair (.vec (.int .u8)) .unit)))) a0).bind fun x0 => (intO .u32 a1).bind fun x1 => (elf_starts.f k x0 x1).bind fun r => K (.ret (.val (.bool r)))
  | _ => none
theorem elf_starts.callable : callable Try.prog 26 = true := callable_of Try.func26 (by kernel_rfl)
theorem elf_starts.ok (k : Nat) : GOk Try.prog 26 (elf_starts.g k) := by
  intro β args K r h
  unfold elf_starts.g at h
  split at h
  · obtain ⟨x0, e0, h⟩ := Option.bind_eq_some_iff.1 h
    obtain ⟨x1, e1, h⟩ := Option.bind_eq_some_iff.1 h
    obtain ⟨y, hy, hK⟩ := Option.bind_eq_some_iff.1 h
    have hrun := elf_starts.run k x0 x1
    rw [hy] at hrun
    obtain ⟨out, e, hs⟩ := sim_of_run Try.func26 (by kernel_rfl) mixed (gamOf_cons (api_Segment_57.ok k) api_Segment_57.callable (gamOf_nil _)) (noLam_ok _ _) (args' := [(.vt (.pair (.int .u32) (.pair (.int .u32) (.pair (.pair .bool (.pair .bool (.pair .bool .unit))) (.pair (.vec (.int .u8)) .unit)))) x0), (.val (.int .u32 x1))]) (RefsL.cons (vtO_refs e0) (RefsL.cons (Refs.of_eq (intO_eq e1)) RefsL.nil)) hrun
    simp only [Option.some.injEq] at e
    subst e
    exact ⟨_, hK, hs⟩
  · cases h
/-! ### atlas/elf.must: function 43 -/
def elf_must.f (x0 : Bool) (x1 : Int) : Option (T77 ⊕ (Unit)) := (bif (!x0) then (some (Sum.inl (⟨x1⟩ : T77))) else (some (Sum.inr ())))
theorem elf_must.run (x0 : Bool) (x1 : Int) : runF Try.prog (gamOf []) noLam Try.f43 [(.val (.bool x0)), (.val (.int .i64 x1))] some = (elf_must.f x0 x1).bind fun r => Sum.elim (fun e => some (.pan (.iface 78 (T77.av e)))) (fun r => some (.ret (.tup []))) r := by
  unfold elf_must.f
  try simp only [cond_bind, elim_bind, Option.bind_some, Option.bind_none, Option.bind_assoc, Sum.elim_inl, Sum.elim_inr]
  kernel_rfl
def elf_must.g : GFun := fun β args K => match args with
  | [a0, a1] => (boolO a0).bind fun x0 => (intO .i64 a1).bind fun x1 => (elf_must.f x0 x1).bind fun r => Sum.elim (fun e => K (.pan (.iface 78 (T77.av e)))) (fun r => K (.ret (.tup []))) r
  | _ => none
theorem elf_must.callable : callable Try.prog 43 = true := callable_of Try.func43 (by kernel_rfl)
theorem elf_must.ok : GOk Try.prog 43 (elf_must.g) := by
  intro β args K r h
  unfold elf_must.g at h
  split at h
  · obtain ⟨x0, e0, h⟩ := Option.bind_eq_some_iff.1 h
    obtain ⟨x1, e1, h⟩ := Option.bind_eq_some_iff.1 h
    obtain ⟨y, hy, hK⟩ := Option.bind_eq_some_iff.1 h
    have hrun := elf_must.run x0 x1
    rw [hy] at hrun
    cases y with
    | inl z =>
      obtain ⟨out, e, hs⟩ := sim_of_run Try.func43 (by kernel_rfl) mixed (gamOf_nil _) (noLam_ok _ _) (args' := [(.val (.bool x0)), (.val (.int .i64 x1))]) (RefsL.cons (Refs.of_eq (boolO_eq e0)) (RefsL.cons (Refs.of_eq (intO_eq e1)) RefsL.nil)) hrun
      simp only [Option.some.injEq] at e
      subst e
      exact ⟨_, hK, hs⟩
    | inr z =>
      obtain ⟨out, e, hs⟩ := sim_of_run Try.func43 (by kernel_rfl) mixed (gamOf_nil _) (noLam_ok _ _) (args' := [(.val (.bool x0)), (.val (.int .i64 x1))]) (RefsL.cons (Refs.of_eq (boolO_eq e0)) (RefsL.cons (Refs.of_eq (intO_eq e1)) RefsL.nil)) hrun
      simp only [Option.some.injEq] at e
      subst e
      exact ⟨_, hK, hs⟩
  · cases h
/-! ### (atlas/elf.reader).num: function 63 -/
def elf_reader_num.q0.h : Head (Int × Int × Int × (List Int)) where
  k γ s F := (sizedN 28 s).bind fun _ => (intO .u64 (gt s.tm 1)).bind fun v2 => (ptrN 0 (gt s.tm 3)).bind fun b4 => (intO .u32 (gt s.tm 7)).bind fun v6 => (intO .i64 (gt s.tm 8)).bind fun v8 => (rowN 80 1 s.hp b4).bind fun l10 => (vtO (.int .u8) (gt l10 0)).bind fun v12 => (distO [some b4]).bind fun _ => F (v2, v6, v8, v12)
  st x := ⟨sparseT [(1, (.val (.int .u64 x.1))), (3, (.ptr 0 0)), (7, (.val (.int .u32 x.2.1))), (8, (.val (.int .i64 x.2.2.1)))] 28 0, [.row [(.vt (.int .u8) x.2.2.2)] 80 true]⟩
  ok γ s F r h := by
    obtain ⟨_, hz, h⟩ := Option.bind_eq_some_iff.1 h
    obtain ⟨v2, h1, h⟩ := Option.bind_eq_some_iff.1 h
    obtain ⟨b4, h3, h⟩ := Option.bind_eq_some_iff.1 h
    obtain ⟨v6, h5, h⟩ := Option.bind_eq_some_iff.1 h
    obtain ⟨v8, h7, h⟩ := Option.bind_eq_some_iff.1 h
    obtain ⟨l10, h9, h⟩ := Option.bind_eq_some_iff.1 h
    obtain ⟨v12, h11, h⟩ := Option.bind_eq_some_iff.1 h
    obtain ⟨_, h13, h⟩ := Option.bind_eq_some_iff.1 h
    exact ⟨_, h, weak_ren (l := [some b4]) (sizedN_ok hz) (distO_ok h13) (LiveR.cons (RefsR.plain (Refs.of_eq (intO_eq h1)) rfl) (LiveR.cons (RefsR.ptr (l := [some b4]) (i := 0) rfl (ptrN_eq h3)) (LiveR.cons (RefsR.plain (Refs.of_eq (intO_eq h5)) rfl) (LiveR.cons (RefsR.plain (Refs.of_eq (intO_eq h7)) rfl) LiveR.nil)))) (BlksR.cons (rowN_refs h9 rfl (GtRefsR.cons (RefsR.plain (vtO_refs h11) rfl) GtRefsR.nil) rfl) BlksR.nil)⟩

def elf_reader_num.q0.x0 : Head (Int) where
  k γ s F := (sizedN 28 s).bind fun _ => (intO .u32 (gt s.tm 7)).bind fun v2 => (distO []).bind fun _ => F (v2)
  st x := ⟨sparseT [(7, (.val (.int .u32 x)))] 28 0, []⟩
  ok γ s F r h := by
    obtain ⟨_, hz, h⟩ := Option.bind_eq_some_iff.1 h
    obtain ⟨v2, h1, h⟩ := Option.bind_eq_some_iff.1 h
    obtain ⟨_, h3, h⟩ := Option.bind_eq_some_iff.1 h
    exact ⟨_, h, weak_ren (l := []) (sizedN_ok hz) (distO_ok h3) (LiveR.cons (RefsR.plain (Refs.of_eq (intO_eq h1)) rfl) LiveR.nil) BlksR.nil⟩

def elf_reader_num.q0.t : Tail (Int) := Tail.one (.exit 0) elf_reader_num.q0.x0
theorem elf_reader_num.q0.np (y : (Int)) (v : AV) : (elf_reader_num.q0.t.out y).1 = .panic v → nomem v = true := fun h => by cases h
theorem elf_reader_num.q0.nn (y : (Int)) : (elf_reader_num.q0.t.out y).1 ≠ .normal := fun h => by cases h
def elf_reader_num.q0.l (k : Nat) : Nat → (Int × Int × Int × (List Int)) → Option (Int)
  | 0, _ => none
  | n + 1, x => (bif (decide (x.2.2.1 ≥ 0)) then (bif (decide (0 ≤ (IntKind.wrap .u64 (x.1 + (IntKind.wrap .u64 x.2.2.1)))) && decide ((IntKind.wrap .u64 (x.1 + (IntKind.wrap .u64 x.2.2.1))) < ((x.2.2.2.length : Nat) : Int))) then (elf_reader_num.q0.l k n (x.1, (orI .u32 (shlI .u32 x.2.1 8) (IntKind.wrap .u32 (x.2.2.2.getD ((IntKind.wrap .u64 (x.1 + (IntKind.wrap .u64 x.2.2.1)))).toNat 0))), (IntKind.wrap .i64 (x.2.2.1 - 1)), x.2.2.2)) else none) else (some x.2.1))
theorem elf_reader_num.q0.z (k : Nat) (x : (Int × Int × Int × (List Int))) : elf_reader_num.q0.l k 0 x = none := rfl
theorem elf_reader_num.q0.at : codeAt (bodyOf Try.f63) [false, true, false, true, true] = some (.loop (loopBody (bodyOf Try.f63) [false, true, false, true, true])) := by kernel_rfl
theorem elf_reader_num.q0.goes (k n : Nat) (x : (Int × Int × Int × (List Int))) : E Try.prog (gamOf []) (lamOf []) (loopBody (bodyOf Try.f63) [false, true, false, true, true]) (false :: [false, true, false, true, true]) (elf_reader_num.q0.h.st x) (contD elf_reader_num.q0.h elf_reader_num.q0.t (elf_reader_num.q0.l k n) some) = elf_reader_num.q0.l k (n + 1) x := by
  kernel_rfl
theorem elf_reader_num.q0.ok_ (k : Nat) : PieceOk Try.prog (bodyOf Try.f63) ⟨[false, true, false, true, true], _, _, elf_reader_num.q0.h, elf_reader_num.q0.t, elf_reader_num.q0.l k k⟩ :=
  piece_loop (gamOf_nil _) (lamOf_nil _ _) mixed elf_reader_num.q0.at elf_reader_num.q0.np elf_reader_num.q0.nn (elf_reader_num.q0.z k) (elf_reader_num.q0.goes k) k
def elf_reader_num.q0.p (k : Nat) : Piece := ⟨[false, true, false, true, true], _, _, elf_reader_num.q0.h, elf_reader_num.q0.t, elf_reader_num.q0.l k k⟩
theorem elf_reader_num.q0.ok (k : Nat) : PieceOk Try.prog (bodyOf Try.f63) (elf_reader_num.q0.p k) := elf_reader_num.q0.ok_ k
def elf_reader_num.f (k : Nat) (x0 : T62) (x1 : Int) (x2 : Int) : Option (Int) := ((elf_reader_num.q0.l k k (x1, 0, (IntKind.wrap .i64 (x2 - 1)), x0.f0_b)).bind fun r1 => (some r1))
theorem elf_reader_num.run (k : Nat) (x0 : T62) (x1 : Int) (x2 : Int) : runF Try.prog (gamOf []) (lamOf [elf_reader_num.q0.p k]) Try.f63 [(T62.av x0), (.val (.int .u64 x1)), (.val (.int .i64 x2))] some = (elf_reader_num.f k x0 x1 x2).bind fun r => some (.ret (.val (.int .u32 r))) := by
  unfold elf_reader_num.f
  try simp only [cond_bind, elim_bind, Option.bind_some, Option.bind_none, Option.bind_assoc, Sum.elim_inl, Sum.elim_inr]
  kernel_rfl
def elf_reader_num.g (k : Nat) : GFun := fun β args K => match args with
  | [a0, a1, a2] => (T62.of a0).bind fun x0 => (intO .u64 a1).bind fun x1 => (intO .i64 a2).bind fun x2 => (elf_reader_num.f k x0 x1 x2).bind fun r => K (.ret (.val (.int .u32 r)))
  | _ => none
theorem elf_reader_num.callable : callable Try.prog 63 = true := callable_of Try.func63 (by kernel_rfl)
theorem elf_reader_num.ok (k : Nat) : GOk Try.prog 63 (elf_reader_num.g k) := by
  intro β args K r h
  unfold elf_reader_num.g at h
  split at h
  · obtain ⟨x0, e0, h⟩ := Option.bind_eq_some_iff.1 h
    obtain ⟨x1, e1, h⟩ := Option.bind_eq_some_iff.1 h
    obtain ⟨x2, e2, h⟩ := Option.bind_eq_some_iff.1 h
    obtain ⟨y, hy, hK⟩ := Option.bind_eq_some_iff.1 h
    have hrun := elf_reader_num.run k x0 x1 x2
    rw [hy] at hrun
    obtain ⟨out, e, hs⟩ := sim_of_run Try.func63 (by kernel_rfl) mixed (gamOf_nil _) (lamOf_cons (elf_reader_num.q0.ok k) (lamOf_nil _ _)) (args' := [(T62.av x0), (.val (.int .u64 x1)), (.val (.int .i64 x2))]) (RefsL.cons (T62.refs e0) (RefsL.cons (Refs.of_eq (intO_eq e1)) (RefsL.cons (Refs.of_eq (intO_eq e2)) RefsL.nil))) hrun
    simp only [Option.some.injEq] at e
    subst e
    exact ⟨_, hK, hs⟩
  · cases h
/-! ### (atlas/elf.reader).half: function 44 -/
def elf_reader_half.f (k : Nat) (x0 : T62) (x1 : Int) : Option (Int) := ((elf_reader_num.f k (⟨x0.f0_b⟩ : T62) x1 2).bind fun r1 => (some r1))
theorem elf_reader_half.run (k : Nat) (x0 : T62) (x1 : Int) : runF Try.prog (gamOf [(63, elf_reader_num.g k)]) noLam Try.f44 [(T62.av x0), (.val (.int .u64 x1))] some = (elf_reader_half.f k x0 x1).bind fun r => some (.ret (.val (.int .u32 r))) := by
  unfold elf_reader_half.f
  try simp only [cond_bind, elim_bind, Option.bind_some, Option.bind_none, Option.bind_assoc, Sum.elim_inl, Sum.elim_inr]
  kernel_rfl
def elf_reader_half.g (k : Nat) : GFun := fun β args K => match args with
  | [a0, a1] => (T62.of a0).bind fun x0 => (intO .u64 a1).bind fun x1 => (elf_reader_half.f k x0 x1).bind fun r => K (.ret (.val (.int .u32 r)))
  | _ => none
theorem elf_reader_half.callable : callable Try.prog 44 = true := callable_of Try.func44 (by kernel_rfl)
theorem elf_reader_half.ok (k : Nat) : GOk Try.prog 44 (elf_reader_half.g k) := by
  intro β args K r h
  unfold elf_reader_half.g at h
  split at h
  · obtain ⟨x0, e0, h⟩ := Option.bind_eq_some_iff.1 h
    obtain ⟨x1, e1, h⟩ := Option.bind_eq_some_iff.1 h
    obtain ⟨y, hy, hK⟩ := Option.bind_eq_some_iff.1 h
    have hrun := elf_reader_half.run k x0 x1
    rw [hy] at hrun
    obtain ⟨out, e, hs⟩ := sim_of_run Try.func44 (by kernel_rfl) mixed (gamOf_cons (elf_reader_num.ok k) elf_reader_num.callable (gamOf_nil _)) (noLam_ok _ _) (args' := [(T62.av x0), (.val (.int .u64 x1))]) (RefsL.cons (T62.refs e0) (RefsL.cons (Refs.of_eq (intO_eq e1)) RefsL.nil)) hrun
    simp only [Option.some.injEq] at e
    subst e
    exact ⟨_, hK, hs⟩
  · cases h
/-! ### (atlas/elf.reader).word: function 45 -/
def elf_reader_word.f (k : Nat) (x0 : T62) (x1 : Int) : Option (Int) := ((elf_reader_num.f k (⟨x0.f0_b⟩ : T62) x1 4).bind fun r1 => (some r1))
theorem elf_reader_word.run (k : Nat) (x0 : T62) (x1 : Int) : runF Try.prog (gamOf [(63, elf_reader_num.g k)]) noLam Try.f45 [(T62.av x0), (.val (.int .u64 x1))] some = (elf_reader_word.f k x0 x1).bind fun r => some (.ret (.val (.int .u32 r))) := by
  unfold elf_reader_word.f
  try simp only [cond_bind, elim_bind, Option.bind_some, Option.bind_none, Option.bind_assoc, Sum.elim_inl, Sum.elim_inr]
  kernel_rfl
def elf_reader_word.g (k : Nat) : GFun := fun β args K => match args with
  | [a0, a1] => (T62.of a0).bind fun x0 => (intO .u64 a1).bind fun x1 => (elf_reader_word.f k x0 x1).bind fun r => K (.ret (.val (.int .u32 r)))
  | _ => none
theorem elf_reader_word.callable : callable Try.prog 45 = true := callable_of Try.func45 (by kernel_rfl)
theorem elf_reader_word.ok (k : Nat) : GOk Try.prog 45 (elf_reader_word.g k) := by
  intro β args K r h
  unfold elf_reader_word.g at h
  split at h
  · obtain ⟨x0, e0, h⟩ := Option.bind_eq_some_iff.1 h
    obtain ⟨x1, e1, h⟩ := Option.bind_eq_some_iff.1 h
    obtain ⟨y, hy, hK⟩ := Option.bind_eq_some_iff.1 h
    have hrun := elf_reader_word.run k x0 x1
    rw [hy] at hrun
    obtain ⟨out, e, hs⟩ := sim_of_run Try.func45 (by kernel_rfl) mixed (gamOf_cons (elf_reader_num.ok k) elf_reader_num.callable (gamOf_nil _)) (noLam_ok _ _) (args' := [(T62.av x0), (.val (.int .u64 x1))]) (RefsL.cons (T62.refs e0) (RefsL.cons (Refs.of_eq (intO_eq e1)) RefsL.nil)) hrun
    simp only [Option.some.injEq] at e
    subst e
    exact ⟨_, hK, hs⟩
  · cases h
/-! ### (atlas/elf.reader).holds: function 46 -/
def elf_reader_holds.f (x0 : T62) (x1 : Int) (x2 : Int) : Option (Bool) := (some (decide ((IntKind.wrap .u64 (x1 + x2)) ≤ (IntKind.wrap .u64 ((x0.f0_b.length : Nat) : Int)))))
theorem elf_reader_holds.run (x0 : T62) (x1 : Int) (x2 : Int) : runF Try.prog (gamOf []) noLam Try.f46 [(T62.av x0), (.val (.int .u64 x1)), (.val (.int .u64 x2))] some = (elf_reader_holds.f x0 x1 x2).bind fun r => some (.ret (.val (.bool r))) := by
  unfold elf_reader_holds.f
  try simp only [cond_bind, elim_bind, Option.bind_some, Option.bind_none, Option.bind_assoc, Sum.elim_inl, Sum.elim_inr]
  kernel_rfl
def elf_reader_holds.g : GFun := fun β args K => match args with
  | [a0, a1, a2] => (T62.of a0).bind fun x0 => (intO .u64 a1).bind fun x1 => (intO .u64 a2).bind fun x2 => (elf_reader_holds.f x0 x1 x2).bind fun r => K (.ret (.val (.bool r)))
  | _ => none
theorem elf_reader_holds.callable : callable Try.prog 46 = true := callable_of Try.func46 (by kernel_rfl)
theorem elf_reader_holds.ok : GOk Try.prog 46 (elf_reader_holds.g) := by
  intro β args K r h
  unfold elf_reader_holds.g at h
  split at h
  · obtain ⟨x0, e0, h⟩ := Option.bind_eq_some_iff.1 h
    obtain ⟨x1, e1, h⟩ := Option.bind_eq_some_iff.1 h
    obtain ⟨x2, e2, h⟩ := Option.bind_eq_some_iff.1 h
    obtain ⟨y, hy, hK⟩ := Option.bind_eq_some_iff.1 h
    have hrun := elf_reader_holds.run x0 x1 x2
    rw [hy] at hrun
    obtain ⟨out, e, hs⟩ := sim_of_run Try.func46 (by kernel_rfl) mixed (gamOf_nil _) (noLam_ok _ _) (args' := [(T62.av x0), (.val (.int .u64 x1)), (.val (.int .u64 x2))]) (RefsL.cons (T62.refs e0) (RefsL.cons (Refs.of_eq (intO_eq e1)) (RefsL.cons (Refs.of_eq (intO_eq e2)) RefsL.nil))) hrun
    simp only [Option.some.injEq] at e
    subst e
    exact ⟨_, hK, hs⟩
  · cases h
end Go.Va
