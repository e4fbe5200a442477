-- Written by a program of this session (wip/va/vaprint.py). Not trusted: Lean checks it.
import Derived.Test.YtmphkmoakamepaaVaTy
import Derived.Test.YtmphkmoakamepaaVf0
import Derived.Test.YtmphkmoakamepaaVf3
import Derived.Test.YtmphkmoakamepaaVf6
set_option linter.unusedVariables false
set_option linter.unusedSimpArgs false
set_option autoImplicit false
set_option maxRecDepth 100000
namespace Go.Va
open Go.Proofs
/-! ### atlas/atlaslaw23.same: function 19 -/
def atlaslaw23_same.q0.h : Head (Int × Int × (List (Int × Int × (Bool × Bool × Bool × Unit) × (List Int) × Unit)) × (List (ByteArray × Int × Unit)) × Int × (List (Int × Int × (Bool × Bool × Bool × Unit) × (List Int) × Unit)) × (List (ByteArray × Int × Unit))) where
  k γ s F := (sizedN 95 s).bind fun _ => (ptrN 0 (gt s.tm 2)).bind fun b2 => (ptrN 0 (gt s.tm 3)).bind fun b4 => (intO .i64 (gt s.tm 5)).bind fun v6 => (rowN 26 3 s.hp b2).bind fun l8 => (intO .u32 (gt l8 0)).bind fun v10 => (vtO (.pair (.int .u32) (.pair (.int .u32) (.pair (.pair .bool (.pair .bool (.pair .bool .unit))) (.pair (.vec (.int .u8)) .unit)))) (gt l8 1)).bind fun v12 => (vtO (.pair .str (.pair (.int .u32) .unit)) (gt l8 2)).bind fun v14 => (rowN 26 3 s.hp b4).bind fun l16 => (intO .u32 (gt l16 0)).bind fun v18 => (vtO (.pair (.int .u32) (.pair (.int .u32) (.pair (.pair .bool (.pair .bool (.pair .bool .unit))) (.pair (.vec (.int .u8)) .unit)))) (gt l16 1)).bind fun v20 => (vtO (.pair .str (.pair (.int .u32) .unit)) (gt l16 2)).bind fun v22 => (distO [some b2, some b4]).bind fun _ => F (v6, v10, v12, v14, v18, v20, v22)
  st x := ⟨sparseT [(2, (.ptr 0 0)), (3, (.ptr 1 0)), (5, (.val (.int .i64 x.1)))] 95 0, [.row [(.val (.int .u32 x.2.1)), (.vt (.pair (.int .u32) (.pair (.int .u32) (.pair (.pair .bool (.pair .bool (.pair .bool .unit))) (.pair (.vec (.int .u8)) .unit)))) x.2.2.1), (.vt (.pair .str (.pair (.int .u32) .unit)) x.2.2.2.1)] 26 true, .row [(.val (.int .u32 x.2.2.2.2.1)), (.vt (.pair (.int .u32) (.pair (.int .u32) (.pair (.pair .bool (.pair .bool (.pair .bool .unit))) (.pair (.vec (.int .u8)) .unit)))) x.2.2.2.2.2.1), (.vt (.pair .str (.pair (.int .u32) .unit)) x.2.2.2.2.2.2)] 26 true]⟩
  ok γ s F r h := by
    obtain ⟨_, hz, h⟩ := Option.bind_eq_some_iff.1 h
    obtain ⟨b2, h1, h⟩ := Option.bind_eq_some_iff.1 h
    obtain ⟨b4, h3, h⟩ := Option.bind_eq_some_iff.1 h
    obtain ⟨v6, h5, h⟩ := Option.bind_eq_some_iff.1 h
    obtain ⟨l8, h7, h⟩ := Option.bind_eq_some_iff.1 h
    obtain ⟨v10, h9, h⟩ := Option.bind_eq_some_iff.1 h
    obtain ⟨v12, h11, h⟩ := Option.bind_eq_some_iff.1 h
    obtain ⟨v14, h13, h⟩ := Option.bind_eq_some_iff.1 h
    obtain ⟨l16, h15, h⟩ := Option.bind_eq_some_iff.1 h
    obtain ⟨v18, h17, h⟩ := Option.bind_eq_some_iff.1 h
    obtain ⟨v20, h19, h⟩ := Option.bind_eq_some_iff.1 h
    obtain ⟨v22, h21, h⟩ := Option.bind_eq_some_iff.1 h
    obtain ⟨_, h23, h⟩ := Option.bind_eq_some_iff.1 h
    exact ⟨_, h, weak_ren (l := [some b2, some b4]) (sizedN_ok hz) (distO_ok h23) (LiveR.cons (RefsR.ptr (l := [some b2, some b4]) (i := 0) rfl (ptrN_eq h1)) (LiveR.cons (RefsR.ptr (l := [some b2, some b4]) (i := 1) rfl (ptrN_eq h3)) (LiveR.cons (RefsR.plain (Refs.of_eq (intO_eq h5)) rfl) LiveR.nil))) (BlksR.cons (rowN_refs h7 rfl (GtRefsR.cons (RefsR.plain (Refs.of_eq (intO_eq h9)) rfl) (GtRefsR.cons (RefsR.plain (vtO_refs h11) rfl) (GtRefsR.cons (RefsR.plain (vtO_refs h13) rfl) GtRefsR.nil))) rfl) (BlksR.cons (rowN_refs h15 rfl (GtRefsR.cons (RefsR.plain (Refs.of_eq (intO_eq h17)) rfl) (GtRefsR.cons (RefsR.plain (vtO_refs h19) rfl) (GtRefsR.cons (RefsR.plain (vtO_refs h21) rfl) GtRefsR.nil))) rfl) BlksR.nil))⟩

def atlaslaw23_same.q0.x0 : Head (Bool) where
  k γ s F := (sizedN 95 s).bind fun _ => (boolO (gt s.tm 4)).bind fun v2 => (distO []).bind fun _ => F (v2)
  st x := ⟨sparseT [(4, (.val (.bool x)))] 95 0, []⟩
  ok γ s F r h := by
    obtain ⟨_, hz, h⟩ := Option.bind_eq_some_iff.1 h
    obtain ⟨v2, h1, h⟩ := Option.bind_eq_some_iff.1 h
    obtain ⟨_, h3, h⟩ := Option.bind_eq_some_iff.1 h
    exact ⟨_, h, weak_ren (l := []) (sizedN_ok hz) (distO_ok h3) (LiveR.cons (RefsR.plain (Refs.of_eq (boolO_eq h1)) rfl) LiveR.nil) BlksR.nil⟩

def atlaslaw23_same.q0.x1 : Head (Int × (List (Int × Int × (Bool × Bool × Bool × Unit) × (List Int) × Unit)) × (List (ByteArray × Int × Unit)) × Int × (List (Int × Int × (Bool × Bool × Bool × Unit) × (List Int) × Unit)) × (List (ByteArray × Int × Unit))) where
  k γ s F := (sizedN 95 s).bind fun _ => (ptrN 0 (gt s.tm 2)).bind fun b2 => (ptrN 0 (gt s.tm 3)).bind fun b4 => (rowN 26 3 s.hp b2).bind fun l6 => (intO .u32 (gt l6 0)).bind fun v8 => (vtO (.pair (.int .u32) (.pair (.int .u32) (.pair (.pair .bool (.pair .bool (.pair .bool .unit))) (.pair (.vec (.int .u8)) .unit)))) (gt l6 1)).bind fun v10 => (vtO (.pair .str (.pair (.int .u32) .unit)) (gt l6 2)).bind fun v12 => (rowN 26 3 s.hp b4).bind fun l14 => (intO .u32 (gt l14 0)).bind fun v16 => (vtO (.pair (.int .u32) (.pair (.int .u32) (.pair (.pair .bool (.pair .bool (.pair .bool .unit))) (.pair (.vec (.int .u8)) .unit)))) (gt l14 1)).bind fun v18 => (vtO (.pair .str (.pair (.int .u32) .unit)) (gt l14 2)).bind fun v20 => (distO [some b2, some b4]).bind fun _ => F (v8, v10, v12, v16, v18, v20)
  st x := ⟨sparseT [(2, (.ptr 0 0)), (3, (.ptr 1 0))] 95 0, [.row [(.val (.int .u32 x.1)), (.vt (.pair (.int .u32) (.pair (.int .u32) (.pair (.pair .bool (.pair .bool (.pair .bool .unit))) (.pair (.vec (.int .u8)) .unit)))) x.2.1), (.vt (.pair .str (.pair (.int .u32) .unit)) x.2.2.1)] 26 true, .row [(.val (.int .u32 x.2.2.2.1)), (.vt (.pair (.int .u32) (.pair (.int .u32) (.pair (.pair .bool (.pair .bool (.pair .bool .unit))) (.pair (.vec (.int .u8)) .unit)))) x.2.2.2.2.1), (.vt (.pair .str (.pair (.int .u32) .unit)) x.2.2.2.2.2)] 26 true]⟩
  ok γ s F r h := by
    obtain ⟨_, hz, h⟩ := Option.bind_eq_some_iff.1 h
    obtain ⟨b2, h1, h⟩ := Option.bind_eq_some_iff.1 h
    obtain ⟨b4, h3, h⟩ := Option.bind_eq_some_iff.1 h
    obtain ⟨l6, h5, h⟩ := Option.bind_eq_some_iff.1 h
    obtain ⟨v8, h7, h⟩ := Option.bind_eq_some_iff.1 h
    obtain ⟨v10, h9, h⟩ := Option.bind_eq_some_iff.1 h
    obtain ⟨v12, h11, h⟩ := Option.bind_eq_some_iff.1 h
    obtain ⟨l14, h13, h⟩ := Option.bind_eq_some_iff.1 h
    obtain ⟨v16, h15, h⟩ := Option.bind_eq_some_iff.1 h
    obtain ⟨v18, h17, h⟩ := Option.bind_eq_some_iff.1 h
    obtain ⟨v20, h19, h⟩ := Option.bind_eq_some_iff.1 h
    obtain ⟨_, h21, h⟩ := Option.bind_eq_some_iff.1 h
    exact ⟨_, h, weak_ren (l := [some b2, some b4]) (sizedN_ok hz) (distO_ok h21) (LiveR.cons (RefsR.ptr (l := [some b2, some b4]) (i := 0) rfl (ptrN_eq h1)) (LiveR.cons (RefsR.ptr (l := [some b2, some b4]) (i := 1) rfl (ptrN_eq h3)) LiveR.nil)) (BlksR.cons (rowN_refs h5 rfl (GtRefsR.cons (RefsR.plain (Refs.of_eq (intO_eq h7)) rfl) (GtRefsR.cons (RefsR.plain (vtO_refs h9) rfl) (GtRefsR.cons (RefsR.plain (vtO_refs h11) rfl) GtRefsR.nil))) rfl) (BlksR.cons (rowN_refs h13 rfl (GtRefsR.cons (RefsR.plain (Refs.of_eq (intO_eq h15)) rfl) (GtRefsR.cons (RefsR.plain (vtO_refs h17) rfl) (GtRefsR.cons (RefsR.plain (vtO_refs h19) rfl) GtRefsR.nil))) rfl) BlksR.nil))⟩

def atlaslaw23_same.q0.t : Tail ((Bool) ⊕ (Int × (List (Int × Int × (Bool × Bool × Bool × Unit) × (List Int) × Unit)) × (List (ByteArray × Int × Unit)) × Int × (List (Int × Int × (Bool × Bool × Bool × Unit) × (List Int) × Unit)) × (List (ByteArray × Int × Unit)))) := Tail.or .ret atlaslaw23_same.q0.x0 (Tail.one (.exit 0) atlaslaw23_same.q0.x1)
theorem atlaslaw23_same.q0.np (y : ((Bool) ⊕ (Int × (List (Int × Int × (Bool × Bool × Bool × Unit) × (List Int) × Unit)) × (List (ByteArray × Int × Unit)) × Int × (List (Int × Int × (Bool × Bool × Bool × Unit) × (List Int) × Unit)) × (List (ByteArray × Int × Unit))))) (v : AV) : (atlaslaw23_same.q0.t.out y).1 ≠ .panic v := fun h => by rcases y with _ | y <;> first | (cases h; done) | (cases h)
theorem atlaslaw23_same.q0.nn (y : ((Bool) ⊕ (Int × (List (Int × Int × (Bool × Bool × Bool × Unit) × (List Int) × Unit)) × (List (ByteArray × Int × Unit)) × Int × (List (Int × Int × (Bool × Bool × Bool × Unit) × (List Int) × Unit)) × (List (ByteArray × Int × Unit))))) : (atlaslaw23_same.q0.t.out y).1 ≠ .normal := fun h => by rcases y with _ | y <;> first | (cases h; done) | (cases h)
def atlaslaw23_same.q0.l (k : Nat) : Nat → (Int × Int × (List (Int × Int × (Bool × Bool × Bool × Unit) × (List Int) × Unit)) × (List (ByteArray × Int × Unit)) × Int × (List (Int × Int × (Bool × Bool × Bool × Unit) × (List Int) × Unit)) × (List (ByteArray × Int × Unit))) → Option ((Bool) ⊕ (Int × (List (Int × Int × (Bool × Bool × Bool × Unit) × (List Int) × Unit)) × (List (ByteArray × Int × Unit)) × Int × (List (Int × Int × (Bool × Bool × Bool × Unit) × (List Int) × Unit)) × (List (ByteArray × Int × Unit))))
  | 0, _ => none
  | n + 1, x => (bif (decide (x.1 < ((x.2.2.1.length : Nat) : Int))) then (bif (decide (0 ≤ x.1) && decide (x.1 < ((x.2.2.1.length : Nat) : Int))) then (bif (decide (0 ≤ x.1) && decide (x.1 < ((x.2.2.2.2.2.1.length : Nat) : Int))) then (bif (((x.2.2.1.getD (x.1).toNat (0, 0, (false, false, false, ()), [], ())).1) != ((x.2.2.2.2.2.1.getD (x.1).toNat (0, 0, (false, false, false, ()), [], ())).1)) then (some (Sum.inl false)) else (bif (((x.2.2.1.getD (x.1).toNat (0, 0, (false, false, false, ()), [], ())).2.1) != ((x.2.2.2.2.2.1.getD (x.1).toNat (0, 0, (false, false, false, ()), [], ())).2.1)) then (some (Sum.inl false)) else (bif (!((((x.2.2.1.getD (x.1).toNat (0, 0, (false, false, false, ()), [], ())).2.2.1.1) == ((x.2.2.2.2.2.1.getD (x.1).toNat (0, 0, (false, false, false, ()), [], ())).2.2.1.1)) && ((((x.2.2.1.getD (x.1).toNat (0, 0, (false, false, false, ()), [], ())).2.2.1.2.1) == ((x.2.2.2.2.2.1.getD (x.1).toNat (0, 0, (false, false, false, ()), [], ())).2.2.1.2.1)) && ((((x.2.2.1.getD (x.1).toNat (0, 0, (false, false, false, ()), [], ())).2.2.1.2.2.1) == ((x.2.2.2.2.2.1.getD (x.1).toNat (0, 0, (false, false, false, ()), [], ())).2.2.1.2.2.1)) && true)))) then (some (Sum.inl false)) else (bif ((x.2.2.1.getD (x.1).toNat (0, 0, (false, false, false, ()), [], ())).2.2.2.1).all (fun b => decide (0 ≤ b) && decide (b < 256)) then (bif ((x.2.2.2.2.2.1.getD (x.1).toNat (0, 0, (false, false, false, ()), [], ())).2.2.2.1).all (fun b => decide (0 ≤ b) && decide (b < 256)) then (bif (!((bytesO ((x.2.2.1.getD (x.1).toNat (0, 0, (false, false, false, ()), [], ())).2.2.2.1)).toList == (bytesO ((x.2.2.2.2.2.1.getD (x.1).toNat (0, 0, (false, false, false, ()), [], ())).2.2.2.1)).toList)) then (some (Sum.inl false)) else (atlaslaw23_same.q0.l k n ((IntKind.wrap .i64 (x.1 + 1)), x.2.1, x.2.2.1, x.2.2.2.1, x.2.2.2.2.1, x.2.2.2.2.2.1, x.2.2.2.2.2.2))) else none) else none)))) else none) else none) else (some (Sum.inr (x.2.1, x.2.2.1, x.2.2.2.1, x.2.2.2.2.1, x.2.2.2.2.2.1, x.2.2.2.2.2.2))))
theorem atlaslaw23_same.q0.z (k : Nat) (x : (Int × Int × (List (Int × Int × (Bool × Bool × Bool × Unit) × (List Int) × Unit)) × (List (ByteArray × Int × Unit)) × Int × (List (Int × Int × (Bool × Bool × Bool × Unit) × (List Int) × Unit)) × (List (ByteArray × Int × Unit)))) : atlaslaw23_same.q0.l k 0 x = none := rfl
theorem atlaslaw23_same.q0.at : codeAt (bodyOf Try.f19) [false, true, false, true, true] = some (.loop (loopBody (bodyOf Try.f19) [false, true, false, true, true])) := by kernel_rfl
theorem atlaslaw23_same.q0.goes (k n : Nat) (x : (Int × Int × (List (Int × Int × (Bool × Bool × Bool × Unit) × (List Int) × Unit)) × (List (ByteArray × Int × Unit)) × Int × (List (Int × Int × (Bool × Bool × Bool × Unit) × (List Int) × Unit)) × (List (ByteArray × Int × Unit)))) : E Try.prog (gamOf []) (lamOf []) (loopBody (bodyOf Try.f19) [false, true, false, true, true]) (false :: [false, true, false, true, true]) (atlaslaw23_same.q0.h.st x) (contD atlaslaw23_same.q0.h atlaslaw23_same.q0.t (atlaslaw23_same.q0.l k n) some) = atlaslaw23_same.q0.l k (n + 1) x := by
  kernel_rfl
theorem atlaslaw23_same.q0.ok_ (k : Nat) : PieceOk Try.prog (bodyOf Try.f19) ⟨[false, true, false, true, true], _, _, atlaslaw23_same.q0.h, atlaslaw23_same.q0.t, atlaslaw23_same.q0.l k k⟩ :=
  piece_loop (gamOf_nil _) (lamOf_nil _ _) mixed atlaslaw23_same.q0.at atlaslaw23_same.q0.np atlaslaw23_same.q0.nn (atlaslaw23_same.q0.z k) (atlaslaw23_same.q0.goes k) k
def atlaslaw23_same.q0.p (k : Nat) : Piece := ⟨[false, true, false, true, true], _, _, atlaslaw23_same.q0.h, atlaslaw23_same.q0.t, atlaslaw23_same.q0.l k k⟩
theorem atlaslaw23_same.q0.ok (k : Nat) : PieceOk Try.prog (bodyOf Try.f19) (atlaslaw23_same.q0.p k) := atlaslaw23_same.q0.ok_ k
def atlaslaw23_same.q1.h : Head (Int × Int × (List (Int × Int × (Bool × Bool × Bool × Unit) × (List Int) × Unit)) × (List (ByteArray × Int × Unit)) × Int × (List (Int × Int × (Bool × Bool × Bool × Unit) × (List Int) × Unit)) × (List (ByteArray × Int × Unit))) where
  k γ s F := (sizedN 95 s).bind fun _ => (ptrN 0 (gt s.tm 2)).bind fun b2 => (ptrN 0 (gt s.tm 3)).bind fun b4 => (intO .i64 (gt s.tm 8)).bind fun v6 => (rowN 26 3 s.hp b2).bind fun l8 => (intO .u32 (gt l8 0)).bind fun v10 => (vtO (.pair (.int .u32) (.pair (.int .u32) (.pair (.pair .bool (.pair .bool (.pair .bool .unit))) (.pair (.vec (.int .u8)) .unit)))) (gt l8 1)).bind fun v12 => (vtO (.pair .str (.pair (.int .u32) .unit)) (gt l8 2)).bind fun v14 => (rowN 26 3 s.hp b4).bind fun l16 => (intO .u32 (gt l16 0)).bind fun v18 => (vtO (.pair (.int .u32) (.pair (.int .u32) (.pair (.pair .bool (.pair .bool (.pair .bool .unit))) (.pair (.vec (.int .u8)) .unit)))) (gt l16 1)).bind fun v20 => (vtO (.pair .str (.pair (.int .u32) .unit)) (gt l16 2)).bind fun v22 => (distO [some b2, some b4]).bind fun _ => F (v6, v10, v12, v14, v18, v20, v22)
  st x := ⟨sparseT [(2, (.ptr 0 0)), (3, (.ptr 1 0)), (8, (.val (.int .i64 x.1)))] 95 0, [.row [(.val (.int .u32 x.2.1)), (.vt (.pair (.int .u32) (.pair (.int .u32) (.pair (.pair .bool (.pair .bool (.pair .bool .unit))) (.pair (.vec (.int .u8)) .unit)))) x.2.2.1), (.vt (.pair .str (.pair (.int .u32) .unit)) x.2.2.2.1)] 26 true, .row [(.val (.int .u32 x.2.2.2.2.1)), (.vt (.pair (.int .u32) (.pair (.int .u32) (.pair (.pair .bool (.pair .bool (.pair .bool .unit))) (.pair (.vec (.int .u8)) .unit)))) x.2.2.2.2.2.1), (.vt (.pair .str (.pair (.int .u32) .unit)) x.2.2.2.2.2.2)] 26 true]⟩
  ok γ s F r h := by
    obtain ⟨_, hz, h⟩ := Option.bind_eq_some_iff.1 h
    obtain ⟨b2, h1, h⟩ := Option.bind_eq_some_iff.1 h
    obtain ⟨b4, h3, h⟩ := Option.bind_eq_some_iff.1 h
    obtain ⟨v6, h5, h⟩ := Option.bind_eq_some_iff.1 h
    obtain ⟨l8, h7, h⟩ := Option.bind_eq_some_iff.1 h
    obtain ⟨v10, h9, h⟩ := Option.bind_eq_some_iff.1 h
    obtain ⟨v12, h11, h⟩ := Option.bind_eq_some_iff.1 h
    obtain ⟨v14, h13, h⟩ := Option.bind_eq_some_iff.1 h
    obtain ⟨l16, h15, h⟩ := Option.bind_eq_some_iff.1 h
    obtain ⟨v18, h17, h⟩ := Option.bind_eq_some_iff.1 h
    obtain ⟨v20, h19, h⟩ := Option.bind_eq_some_iff.1 h
    obtain ⟨v22, h21, h⟩ := Option.bind_eq_some_iff.1 h
    obtain ⟨_, h23, h⟩ := Option.bind_eq_some_iff.1 h
    exact ⟨_, h, weak_ren (l := [some b2, some b4]) (sizedN_ok hz) (distO_ok h23) (LiveR.cons (RefsR.ptr (l := [some b2, some b4]) (i := 0) rfl (ptrN_eq h1)) (LiveR.cons (RefsR.ptr (l := [some b2, some b4]) (i := 1) rfl (ptrN_eq h3)) (LiveR.cons (RefsR.plain (Refs.of_eq (intO_eq h5)) rfl) LiveR.nil))) (BlksR.cons (rowN_refs h7 rfl (GtRefsR.cons (RefsR.plain (Refs.of_eq (intO_eq h9)) rfl) (GtRefsR.cons (RefsR.plain (vtO_refs h11) rfl) (GtRefsR.cons (RefsR.plain (vtO_refs h13) rfl) GtRefsR.nil))) rfl) (BlksR.cons (rowN_refs h15 rfl (GtRefsR.cons (RefsR.plain (Refs.of_eq (intO_eq h17)) rfl) (GtRefsR.cons (RefsR.plain (vtO_refs h19) rfl) (GtRefsR.cons (RefsR.plain (vtO_refs h21) rfl) GtRefsR.nil))) rfl) BlksR.nil))⟩

def atlaslaw23_same.q1.x0 : Head (Bool) where
  k γ s F := (sizedN 95 s).bind fun _ => (boolO (gt s.tm 4)).bind fun v2 => (distO []).bind fun _ => F (v2)
  st x := ⟨sparseT [(4, (.val (.bool x)))] 95 0, []⟩
  ok γ s F r h := by
    obtain ⟨_, hz, h⟩ := Option.bind_eq_some_iff.1 h
    obtain ⟨v2, h1, h⟩ := Option.bind_eq_some_iff.1 h
    obtain ⟨_, h3, h⟩ := Option.bind_eq_some_iff.1 h
    exact ⟨_, h, weak_ren (l := []) (sizedN_ok hz) (distO_ok h3) (LiveR.cons (RefsR.plain (Refs.of_eq (boolO_eq h1)) rfl) LiveR.nil) BlksR.nil⟩

def atlaslaw23_same.q1.x1 : Head (Unit) where
  k γ s F := (sizedN 95 s).bind fun _ => (distO []).bind fun _ => F ()
  st x := ⟨sparseT [] 95 0, []⟩
  ok γ s F r h := by
    obtain ⟨_, hz, h⟩ := Option.bind_eq_some_iff.1 h
    obtain ⟨_, h1, h⟩ := Option.bind_eq_some_iff.1 h
    exact ⟨_, h, weak_ren (l := []) (sizedN_ok hz) (distO_ok h1) LiveR.nil BlksR.nil⟩

def atlaslaw23_same.q1.t : Tail ((Bool) ⊕ (Unit)) := Tail.or .ret atlaslaw23_same.q1.x0 (Tail.one (.exit 2) atlaslaw23_same.q1.x1)
theorem atlaslaw23_same.q1.np (y : ((Bool) ⊕ (Unit))) (v : AV) : (atlaslaw23_same.q1.t.out y).1 ≠ .panic v := fun h => by rcases y with _ | y <;> first | (cases h; done) | (cases h)
theorem atlaslaw23_same.q1.nn (y : ((Bool) ⊕ (Unit))) : (atlaslaw23_same.q1.t.out y).1 ≠ .normal := fun h => by rcases y with _ | y <;> first | (cases h; done) | (cases h)
def atlaslaw23_same.q1.l (k : Nat) : Nat → (Int × Int × (List (Int × Int × (Bool × Bool × Bool × Unit) × (List Int) × Unit)) × (List (ByteArray × Int × Unit)) × Int × (List (Int × Int × (Bool × Bool × Bool × Unit) × (List Int) × Unit)) × (List (ByteArray × Int × Unit))) → Option ((Bool) ⊕ (Unit))
  | 0, _ => none
  | n + 1, x => (bif (decide (x.1 < ((x.2.2.2.1.length : Nat) : Int))) then (bif (decide (0 ≤ x.1) && decide (x.1 < ((x.2.2.2.1.length : Nat) : Int))) then (bif (decide (0 ≤ x.1) && decide (x.1 < ((x.2.2.2.2.2.2.length : Nat) : Int))) then (bif (!((((x.2.2.2.1.getD (x.1).toNat (ByteArray.empty, 0, ())).1).toList == ((x.2.2.2.2.2.2.getD (x.1).toNat (ByteArray.empty, 0, ())).1).toList) && ((((x.2.2.2.1.getD (x.1).toNat (ByteArray.empty, 0, ())).2.1) == ((x.2.2.2.2.2.2.getD (x.1).toNat (ByteArray.empty, 0, ())).2.1)) && true))) then (some (Sum.inl false)) else (atlaslaw23_same.q1.l k n ((IntKind.wrap .i64 (x.1 + 1)), x.2.1, x.2.2.1, x.2.2.2.1, x.2.2.2.2.1, x.2.2.2.2.2.1, x.2.2.2.2.2.2))) else none) else none) else (some (Sum.inr ())))
theorem atlaslaw23_same.q1.z (k : Nat) (x : (Int × Int × (List (Int × Int × (Bool × Bool × Bool × Unit) × (List Int) × Unit)) × (List (ByteArray × Int × Unit)) × Int × (List (Int × Int × (Bool × Bool × Bool × Unit) × (List Int) × Unit)) × (List (ByteArray × Int × Unit)))) : atlaslaw23_same.q1.l k 0 x = none := rfl
theorem atlaslaw23_same.q1.at : codeAt (bodyOf Try.f19) [false, true, false, true, true, true] = some (.loop (loopBody (bodyOf Try.f19) [false, true, false, true, true, true])) := by kernel_rfl
theorem atlaslaw23_same.q1.goes (k n : Nat) (x : (Int × Int × (List (Int × Int × (Bool × Bool × Bool × Unit) × (List Int) × Unit)) × (List (ByteArray × Int × Unit)) × Int × (List (Int × Int × (Bool × Bool × Bool × Unit) × (List Int) × Unit)) × (List (ByteArray × Int × Unit)))) : E Try.prog (gamOf []) (lamOf []) (loopBody (bodyOf Try.f19) [false, true, false, true, true, true]) (false :: [false, true, false, true, true, true]) (atlaslaw23_same.q1.h.st x) (contD atlaslaw23_same.q1.h atlaslaw23_same.q1.t (atlaslaw23_same.q1.l k n) some) = atlaslaw23_same.q1.l k (n + 1) x := by
  kernel_rfl
theorem atlaslaw23_same.q1.ok_ (k : Nat) : PieceOk Try.prog (bodyOf Try.f19) ⟨[false, true, false, true, true, true], _, _, atlaslaw23_same.q1.h, atlaslaw23_same.q1.t, atlaslaw23_same.q1.l k k⟩ :=
  piece_loop (gamOf_nil _) (lamOf_nil _ _) mixed atlaslaw23_same.q1.at atlaslaw23_same.q1.np atlaslaw23_same.q1.nn (atlaslaw23_same.q1.z k) (atlaslaw23_same.q1.goes k) k
def atlaslaw23_same.q1.p (k : Nat) : Piece := ⟨[false, true, false, true, true, true], _, _, atlaslaw23_same.q1.h, atlaslaw23_same.q1.t, atlaslaw23_same.q1.l k k⟩
theorem atlaslaw23_same.q1.ok (k : Nat) : PieceOk Try.prog (bodyOf Try.f19) (atlaslaw23_same.q1.p k) := atlaslaw23_same.q1.ok_ k
def atlaslaw23_same.f (k : Nat) (x0 : T25) (x1 : T25) : Option (Bool) := (bif (x0.f0_Entry != x1.f0_Entry) then (some false) else (bif (((x0.f1_Segments.length : Nat) : Int) != ((x1.f1_Segments.length : Nat) : Int)) then (some false) else (bif (((x0.f2_Symbols.length : Nat) : Int) != ((x1.f2_Symbols.length : Nat) : Int)) then (some false) else ((atlaslaw23_same.q0.l k k (0, x0.f0_Entry, x0.f1_Segments, x0.f2_Symbols, x1.f0_Entry, x1.f1_Segments, x1.f2_Symbols)).bind fun r1 => (Sum.elim (fun r2 => (some r2)) (fun r3 => ((atlaslaw23_same.q1.l k k (0, r3.1, r3.2.1, r3.2.2.1, r3.2.2.2.1, r3.2.2.2.2.1, r3.2.2.2.2.2)).bind fun r4 => (Sum.elim (fun r5 => (some r5)) (fun r6 => (some true)) r4))) r1)))))
theorem atlaslaw23_same.run (k : Nat) (x0 : T25) (x1 : T25) : runF Try.prog (gamOf []) (lamOf [atlaslaw23_same.q0.p k, atlaslaw23_same.q1.p k]) Try.f19 [(T25.av x0), (T25.av x1)] some = (atlaslaw23_same.f k x0 x1).bind fun r => some (.ret (.val (.bool r))) := by
  unfold atlaslaw23_same.f
  try simp only [cond_bind, elim_bind, Option.bind_some, Option.bind_none, Option.bind_assoc]
  kernel_rfl
def atlaslaw23_same.g (k : Nat) : GFun := fun β args K => match args with
  | [a0, a1] => (T25.of a0).bind fun x0 => (T25.of a1).bind fun x1 => (atlaslaw23_same.f k x0 x1).bind fun r => K (.ret (.val (.bool r)))
  | _ => none
theorem atlaslaw23_same.callable : callable Try.prog 19 = true := callable_of Try.func19 (by kernel_rfl)
theorem atlaslaw23_same.ok (k : Nat) : GOk Try.prog 19 (atlaslaw23_same.g k) := by
  intro β args K r h
  unfold atlaslaw23_same.g at h
  split at h
  · obtain ⟨x0, e0, h⟩ := Option.bind_eq_some_iff.1 h
    obtain ⟨x1, e1, h⟩ := Option.bind_eq_some_iff.1 h
    obtain ⟨y, hy, hK⟩ := Option.bind_eq_some_iff.1 h
    have hrun := atlaslaw23_same.run k x0 x1
    rw [hy] at hrun
    obtain ⟨out, e, hs⟩ := sim_of_run Try.func19 (by kernel_rfl) mixed (gamOf_nil _) (lamOf_cons (atlaslaw23_same.q0.ok k) (lamOf_cons (atlaslaw23_same.q1.ok k) (lamOf_nil _ _))) (args' := [(T25.av x0), (T25.av x1)]) (RefsL.cons (T25.refs e0) (RefsL.cons (T25.refs e1) RefsL.nil)) hrun
    simp only [Option.some.injEq] at e
    subst e
    exact ⟨_, hK, hs⟩
  · cases h
/-! ### atlas/atlaslaw23.ElfWrites: function 5 -/
def atlaslaw23_ElfWrites.f (k : Nat) (x0 : T25) : Option (Bool) := ((atlaslaw23_own.f k (⟨x0.f0_Entry, x0.f1_Segments, x0.f2_Symbols⟩ : T25)).bind fun r1 => ((elf_Write.f k (⟨r1.f0_Entry, r1.f1_Segments, r1.f2_Symbols⟩ : T25)).bind fun r2 => ((atlasref23_Write.f k (⟨x0.f0_Entry, x0.f1_Segments, x0.f2_Symbols⟩ : T25)).bind fun r3 => (bif r2.1.all (fun b => decide (0 ≤ b) && decide (b < 256)) then (bif r3.1.all (fun b => decide (0 ≤ b) && decide (b < 256)) then (bif ((bytesO r2.1).toList == (bytesO r3.1).toList) then (bif (r2.2 == r3.2) then ((atlaslaw23_same.f k (⟨r1.f0_Entry, r1.f1_Segments, r1.f2_Symbols⟩ : T25) (⟨x0.f0_Entry, x0.f1_Segments, x0.f2_Symbols⟩ : T25)).bind fun r4 => (some r4)) else (some false)) else (some false)) else none) else none))))
theorem atlaslaw23_ElfWrites.run (k : Nat) (x0 : T25) : runF Try.prog (gamOf [(11, atlaslaw23_own.g k), (17, elf_Write.g k), (18, atlasref23_Write.g k), (19, atlaslaw23_same.g k)]) noLam Try.f5 [(T25.av x0)] some = (atlaslaw23_ElfWrites.f k x0).bind fun r => some (.ret (.val (.bool r))) := by
  unfold atlaslaw23_ElfWrites.f
  try simp only [cond_bind, elim_bind, Option.bind_some, Option.bind_none, Option.bind_assoc]
  kernel_rfl
def atlaslaw23_ElfWrites.g (k : Nat) : GFun := fun β args K => match args with
  | [a0] => (T25.of a0).bind fun x0 => (atlaslaw23_ElfWrites.f k x0).bind fun r => K (.ret (.val (.bool r)))
  | _ => none
theorem atlaslaw23_ElfWrites.callable : callable Try.prog 5 = true := callable_of Try.func5 (by kernel_rfl)
theorem atlaslaw23_ElfWrites.ok (k : Nat) : GOk Try.prog 5 (atlaslaw23_ElfWrites.g k) := by
  intro β args K r h
  unfold atlaslaw23_ElfWrites.g at h
  split at h
  · obtain ⟨x0, e0, h⟩ := Option.bind_eq_some_iff.1 h
    obtain ⟨y, hy, hK⟩ := Option.bind_eq_some_iff.1 h
    have hrun := atlaslaw23_ElfWrites.run k x0
    rw [hy] at hrun
    obtain ⟨out, e, hs⟩ := sim_of_run Try.func5 (by kernel_rfl) mixed (gamOf_cons (atlaslaw23_own.ok k) atlaslaw23_own.callable (gamOf_cons (elf_Write.ok k) elf_Write.callable (gamOf_cons (atlasref23_Write.ok k) atlasref23_Write.callable (gamOf_cons (atlaslaw23_same.ok k) atlaslaw23_same.callable (gamOf_nil _))))) (noLam_ok _ _) (args' := [(T25.av x0)]) (RefsL.cons (T25.refs e0) RefsL.nil) hrun
    simp only [Option.some.injEq] at e
    subst e
    exact ⟨_, hK, hs⟩
  · cases h
end Go.Va
