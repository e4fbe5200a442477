-- Written by a program of this session (wip/va/vaprint.py). Not trusted: Lean checks it.
import Derived.Test.YtjlbmdcljikojaaVaTy
import Derived.Test.YtjlbmdcljikojaaVf4
set_option linter.unusedVariables false
set_option linter.unusedSimpArgs false
set_option autoImplicit false
set_option maxRecDepth 100000
namespace Go.Va
open Go.Proofs
/-! ### atlas/atlasref19.fits: function 41 -/
def atlasref19_fits.q0.h : Head (ByteArray × Int × Int × Int) where
  k γ s F := (sizedN 43 s).bind fun _ => (strO (gt s.tm 0)).bind fun v2 => (intO .u32 (gt s.tm 1)).bind fun v4 => (intO .i64 (gt s.tm 5)).bind fun v6 => (intO .i64 (gt s.tm 6)).bind fun v8 => (distO []).bind fun _ => F (v2, v4, v6, v8)
  st x := ⟨sparseT [(0, (.val (.string x.1))), (1, (.val (.int .u32 x.2.1))), (5, (.val (.int .i64 x.2.2.1))), (6, (.val (.int .i64 x.2.2.2)))] 43 0, []⟩
  ok γ s F r h := by
    obtain ⟨_, hz, h⟩ := Option.bind_eq_some_iff.1 h
    obtain ⟨v2, h1, h⟩ := Option.bind_eq_some_iff.1 h
    obtain ⟨v4, h3, h⟩ := Option.bind_eq_some_iff.1 h
    obtain ⟨v6, h5, h⟩ := Option.bind_eq_some_iff.1 h
    obtain ⟨v8, h7, h⟩ := Option.bind_eq_some_iff.1 h
    obtain ⟨_, h9, h⟩ := Option.bind_eq_some_iff.1 h
    exact ⟨_, h, weak_ren (l := []) (sizedN_ok hz) (distO_ok h9) (LiveR.cons (RefsR.plain (Refs.of_eq (strO_eq h1)) rfl) (LiveR.cons (RefsR.plain (Refs.of_eq (intO_eq h3)) rfl) (LiveR.cons (RefsR.plain (Refs.of_eq (intO_eq h5)) rfl) (LiveR.cons (RefsR.plain (Refs.of_eq (intO_eq h7)) rfl) LiveR.nil)))) BlksR.nil⟩

def atlasref19_fits.q0.x0 : Head (Bool) where
  k γ s F := (sizedN 43 s).bind fun _ => (boolO (gt s.tm 4)).bind fun v2 => (distO []).bind fun _ => F (v2)
  st x := ⟨sparseT [(4, (.val (.bool x)))] 43 0, []⟩
  ok γ s F r h := by
    obtain ⟨_, hz, h⟩ := Option.bind_eq_some_iff.1 h
    obtain ⟨v2, h1, h⟩ := Option.bind_eq_some_iff.1 h
    obtain ⟨_, h3, h⟩ := Option.bind_eq_some_iff.1 h
    exact ⟨_, h, weak_ren (l := []) (sizedN_ok hz) (distO_ok h3) (LiveR.cons (RefsR.plain (Refs.of_eq (boolO_eq h1)) rfl) LiveR.nil) BlksR.nil⟩

def atlasref19_fits.q0.x1 : Head (Unit) where
  k γ s F := (sizedN 43 s).bind fun _ => (distO []).bind fun _ => F ()
  st x := ⟨sparseT [] 43 0, []⟩
  ok γ s F r h := by
    obtain ⟨_, hz, h⟩ := Option.bind_eq_some_iff.1 h
    obtain ⟨_, h1, h⟩ := Option.bind_eq_some_iff.1 h
    exact ⟨_, h, weak_ren (l := []) (sizedN_ok hz) (distO_ok h1) LiveR.nil BlksR.nil⟩

def atlasref19_fits.q0.t : Tail ((Bool) ⊕ (Unit)) := Tail.or .ret atlasref19_fits.q0.x0 (Tail.one (.exit 0) atlasref19_fits.q0.x1)
theorem atlasref19_fits.q0.np (y : ((Bool) ⊕ (Unit))) (v : AV) : (atlasref19_fits.q0.t.out y).1 ≠ .panic v := fun h => by rcases y with _ | y <;> first | (cases h; done) | (cases h)
theorem atlasref19_fits.q0.nn (y : ((Bool) ⊕ (Unit))) : (atlasref19_fits.q0.t.out y).1 ≠ .normal := fun h => by rcases y with _ | y <;> first | (cases h; done) | (cases h)
def atlasref19_fits.q0.l (k : Nat) : Nat → (ByteArray × Int × Int × Int) → Option ((Bool) ⊕ (Unit))
  | 0, _ => none
  | n + 1, x => (bif (decide (x.2.2.2 < ((x.1).size : Int))) then (bif (decide (0 ≤ x.2.2.2) && decide (x.2.2.2 < ((x.1).size : Int))) then (bif ((byteAt x.1 x.2.2.2) == 32) then (atlasref19_fits.q0.l k n (x.1, x.2.1, x.2.2.1, (IntKind.wrap .i64 (x.2.2.2 + 1)))) else (bif decide ((IntKind.wrap .u64 (IntKind.wrap .i64 (x.2.2.1 - 1))) < 0) then none else (bif (decide (0 ≤ x.2.2.2) && decide (x.2.2.2 < ((x.1).size : Int))) then (bif ((byteAt x.1 x.2.2.2) == 48) then (bif ((Int.tmod (shrI .u32 x.2.1 (IntKind.wrap .u64 (IntKind.wrap .i64 (x.2.2.1 - 1)))) 2) != 0) then (some (Sum.inl false)) else (bif (decide (0 ≤ x.2.2.2) && decide (x.2.2.2 < ((x.1).size : Int))) then (bif ((byteAt x.1 x.2.2.2) == 49) then (bif ((Int.tmod (shrI .u32 x.2.1 (IntKind.wrap .u64 (IntKind.wrap .i64 (x.2.2.1 - 1)))) 2) != 1) then (some (Sum.inl false)) else (atlasref19_fits.q0.l k n (x.1, x.2.1, (IntKind.wrap .i64 (x.2.2.1 - 1)), (IntKind.wrap .i64 (x.2.2.2 + 1))))) else (atlasref19_fits.q0.l k n (x.1, x.2.1, (IntKind.wrap .i64 (x.2.2.1 - 1)), (IntKind.wrap .i64 (x.2.2.2 + 1))))) else none)) else (bif (decide (0 ≤ x.2.2.2) && decide (x.2.2.2 < ((x.1).size : Int))) then (bif ((byteAt x.1 x.2.2.2) == 49) then (bif ((Int.tmod (shrI .u32 x.2.1 (IntKind.wrap .u64 (IntKind.wrap .i64 (x.2.2.1 - 1)))) 2) != 1) then (some (Sum.inl false)) else (atlasref19_fits.q0.l k n (x.1, x.2.1, (IntKind.wrap .i64 (x.2.2.1 - 1)), (IntKind.wrap .i64 (x.2.2.2 + 1))))) else (atlasref19_fits.q0.l k n (x.1, x.2.1, (IntKind.wrap .i64 (x.2.2.1 - 1)), (IntKind.wrap .i64 (x.2.2.2 + 1))))) else none)) else none))) else none) else (some (Sum.inr ())))
theorem atlasref19_fits.q0.z (k : Nat) (x : (ByteArray × Int × Int × Int)) : atlasref19_fits.q0.l k 0 x = none := rfl
theorem atlasref19_fits.q0.at : codeAt (bodyOf Try.f41) [false, true, false, true, true] = some (.loop (loopBody (bodyOf Try.f41) [false, true, false, true, true])) := by kernel_rfl
theorem atlasref19_fits.q0.goes (k n : Nat) (x : (ByteArray × Int × Int × Int)) : E Try.prog (gamOf []) (lamOf []) (loopBody (bodyOf Try.f41) [false, true, false, true, true]) (false :: [false, true, false, true, true]) (atlasref19_fits.q0.h.st x) (contD atlasref19_fits.q0.h atlasref19_fits.q0.t (atlasref19_fits.q0.l k n) some) = atlasref19_fits.q0.l k (n + 1) x := by
  kernel_rfl
theorem atlasref19_fits.q0.ok_ (k : Nat) : PieceOk Try.prog (bodyOf Try.f41) ⟨[false, true, false, true, true], _, _, atlasref19_fits.q0.h, atlasref19_fits.q0.t, atlasref19_fits.q0.l k k⟩ :=
  piece_loop (gamOf_nil _) (lamOf_nil _ _) mixed atlasref19_fits.q0.at atlasref19_fits.q0.np atlasref19_fits.q0.nn (atlasref19_fits.q0.z k) (atlasref19_fits.q0.goes k) k
def atlasref19_fits.q0.p (k : Nat) : Piece := ⟨[false, true, false, true, true], _, _, atlasref19_fits.q0.h, atlasref19_fits.q0.t, atlasref19_fits.q0.l k k⟩
theorem atlasref19_fits.q0.ok (k : Nat) : PieceOk Try.prog (bodyOf Try.f41) (atlasref19_fits.q0.p k) := atlasref19_fits.q0.ok_ k
def atlasref19_fits.f (k : Nat) (x0 : ByteArray) (x1 : Int) : Option (Bool) := ((atlasref19_fits.q0.l k k (x0, x1, 32, 0)).bind fun r1 => (Sum.elim (fun r2 => (some r2)) (fun r3 => (some true)) r1))
theorem atlasref19_fits.run (k : Nat) (x0 : ByteArray) (x1 : Int) : runF Try.prog (gamOf []) (lamOf [atlasref19_fits.q0.p k]) Try.f41 [(.val (.string x0)), (.val (.int .u32 x1))] some = (atlasref19_fits.f k x0 x1).bind fun r => some (.ret (.val (.bool r))) := by
  unfold atlasref19_fits.f
  try simp only [cond_bind, elim_bind, Option.bind_some, Option.bind_none, Option.bind_assoc]
  kernel_rfl
def atlasref19_fits.g (k : Nat) : GFun := fun β args K => match args with
  | [a0, a1] => (strO a0).bind fun x0 => (intO .u32 a1).bind fun x1 => (atlasref19_fits.f k x0 x1).bind fun r => K (.ret (.val (.bool r)))
  | _ => none
theorem atlasref19_fits.callable : callable Try.prog 41 = true := callable_of Try.func41 (by kernel_rfl)
theorem atlasref19_fits.ok (k : Nat) : GOk Try.prog 41 (atlasref19_fits.g k) := by
  intro β args K r h
  unfold atlasref19_fits.g at h
  split at h
  · obtain ⟨x0, e0, h⟩ := Option.bind_eq_some_iff.1 h
    obtain ⟨x1, e1, h⟩ := Option.bind_eq_some_iff.1 h
    obtain ⟨y, hy, hK⟩ := Option.bind_eq_some_iff.1 h
    have hrun := atlasref19_fits.run k x0 x1
    rw [hy] at hrun
    obtain ⟨out, e, hs⟩ := sim_of_run Try.func41 (by kernel_rfl) mixed (gamOf_nil _) (lamOf_cons (atlasref19_fits.q0.ok k) (lamOf_nil _ _)) (args' := [(.val (.string x0)), (.val (.int .u32 x1))]) (RefsL.cons (Refs.of_eq (strO_eq e0)) (RefsL.cons (Refs.of_eq (intO_eq e1)) RefsL.nil)) hrun
    simp only [Option.some.injEq] at e
    subst e
    exact ⟨_, hK, hs⟩
  · cases h
/-! ### atlas/atlasref19.field: function 54 -/
def atlasref19_field.q0.h : Head (ByteArray × Int × Int × Int × Int × Int × Int) where
  k γ s F := (sizedN 41 s).bind fun _ => (strO (gt s.tm 0)).bind fun v2 => (intO .u8 (gt s.tm 1)).bind fun v4 => (intO .u32 (gt s.tm 2)).bind fun v6 => (intO .u32 (gt s.tm 8)).bind fun v8 => (intO .i64 (gt s.tm 9)).bind fun v10 => (intO .i64 (gt s.tm 10)).bind fun v12 => (intO .i64 (gt s.tm 11)).bind fun v14 => (distO []).bind fun _ => F (v2, v4, v6, v8, v10, v12, v14)
  st x := ⟨sparseT [(0, (.val (.string x.1))), (1, (.val (.int .u8 x.2.1))), (2, (.val (.int .u32 x.2.2.1))), (8, (.val (.int .u32 x.2.2.2.1))), (9, (.val (.int .i64 x.2.2.2.2.1))), (10, (.val (.int .i64 x.2.2.2.2.2.1))), (11, (.val (.int .i64 x.2.2.2.2.2.2)))] 41 0, []⟩
  ok γ s F r h := by
    obtain ⟨_, hz, h⟩ := Option.bind_eq_some_iff.1 h
    obtain ⟨v2, h1, h⟩ := Option.bind_eq_some_iff.1 h
    obtain ⟨v4, h3, h⟩ := Option.bind_eq_some_iff.1 h
    obtain ⟨v6, h5, h⟩ := Option.bind_eq_some_iff.1 h
    obtain ⟨v8, h7, h⟩ := Option.bind_eq_some_iff.1 h
    obtain ⟨v10, h9, h⟩ := Option.bind_eq_some_iff.1 h
    obtain ⟨v12, h11, h⟩ := Option.bind_eq_some_iff.1 h
    obtain ⟨v14, h13, h⟩ := Option.bind_eq_some_iff.1 h
    obtain ⟨_, h15, h⟩ := Option.bind_eq_some_iff.1 h
    exact ⟨_, h, weak_ren (l := []) (sizedN_ok hz) (distO_ok h15) (LiveR.cons (RefsR.plain (Refs.of_eq (strO_eq h1)) rfl) (LiveR.cons (RefsR.plain (Refs.of_eq (intO_eq h3)) rfl) (LiveR.cons (RefsR.plain (Refs.of_eq (intO_eq h5)) rfl) (LiveR.cons (RefsR.plain (Refs.of_eq (intO_eq h7)) rfl) (LiveR.cons (RefsR.plain (Refs.of_eq (intO_eq h9)) rfl) (LiveR.cons (RefsR.plain (Refs.of_eq (intO_eq h11)) rfl) (LiveR.cons (RefsR.plain (Refs.of_eq (intO_eq h13)) rfl) LiveR.nil))))))) BlksR.nil⟩

def atlasref19_field.q0.x0 : Head (Int × Int) where
  k γ s F := (sizedN 41 s).bind fun _ => (intO .u32 (gt s.tm 8)).bind fun v2 => (intO .i64 (gt s.tm 9)).bind fun v4 => (distO []).bind fun _ => F (v2, v4)
  st x := ⟨sparseT [(8, (.val (.int .u32 x.1))), (9, (.val (.int .i64 x.2)))] 41 0, []⟩
  ok γ s F r h := by
    obtain ⟨_, hz, h⟩ := Option.bind_eq_some_iff.1 h
    obtain ⟨v2, h1, h⟩ := Option.bind_eq_some_iff.1 h
    obtain ⟨v4, h3, h⟩ := Option.bind_eq_some_iff.1 h
    obtain ⟨_, h5, h⟩ := Option.bind_eq_some_iff.1 h
    exact ⟨_, h, weak_ren (l := []) (sizedN_ok hz) (distO_ok h5) (LiveR.cons (RefsR.plain (Refs.of_eq (intO_eq h1)) rfl) (LiveR.cons (RefsR.plain (Refs.of_eq (intO_eq h3)) rfl) LiveR.nil)) BlksR.nil⟩

def atlasref19_field.q0.t : Tail (Int × Int) := Tail.one (.exit 0) atlasref19_field.q0.x0
theorem atlasref19_field.q0.np (y : (Int × Int)) (v : AV) : (atlasref19_field.q0.t.out y).1 ≠ .panic v := fun h => by cases h
theorem atlasref19_field.q0.nn (y : (Int × Int)) : (atlasref19_field.q0.t.out y).1 ≠ .normal := fun h => by cases h
def atlasref19_field.q0.l (k : Nat) : Nat → (ByteArray × Int × Int × Int × Int × Int × Int) → Option (Int × Int)
  | 0, _ => none
  | n + 1, x => (bif (decide (x.2.2.2.2.2.2 < ((x.1).size : Int))) then (bif (decide (0 ≤ x.2.2.2.2.2.2) && decide (x.2.2.2.2.2.2 < ((x.1).size : Int))) then (bif ((byteAt x.1 x.2.2.2.2.2.2) == 32) then (atlasref19_field.q0.l k n (x.1, x.2.1, x.2.2.1, x.2.2.2.1, x.2.2.2.2.1, x.2.2.2.2.2.1, (IntKind.wrap .i64 (x.2.2.2.2.2.2 + 1)))) else (bif (decide (0 ≤ x.2.2.2.2.2.2) && decide (x.2.2.2.2.2.2 < ((x.1).size : Int))) then (bif ((byteAt x.1 x.2.2.2.2.2.2) == x.2.1) then (bif decide ((IntKind.wrap .u64 (IntKind.wrap .i64 (x.2.2.2.2.2.1 - 1))) < 0) then none else (atlasref19_field.q0.l k n (x.1, x.2.1, x.2.2.1, (IntKind.wrap .u32 ((IntKind.wrap .u32 (2 * x.2.2.2.1)) + (Int.tmod (shrI .u32 x.2.2.1 (IntKind.wrap .u64 (IntKind.wrap .i64 (x.2.2.2.2.2.1 - 1)))) 2))), (IntKind.wrap .i64 (x.2.2.2.2.1 + 1)), (IntKind.wrap .i64 (x.2.2.2.2.2.1 - 1)), (IntKind.wrap .i64 (x.2.2.2.2.2.2 + 1))))) else (atlasref19_field.q0.l k n (x.1, x.2.1, x.2.2.1, x.2.2.2.1, x.2.2.2.2.1, (IntKind.wrap .i64 (x.2.2.2.2.2.1 - 1)), (IntKind.wrap .i64 (x.2.2.2.2.2.2 + 1))))) else none)) else none) else (some (x.2.2.2.1, x.2.2.2.2.1)))
theorem atlasref19_field.q0.z (k : Nat) (x : (ByteArray × Int × Int × Int × Int × Int × Int)) : atlasref19_field.q0.l k 0 x = none := rfl
theorem atlasref19_field.q0.at : codeAt (bodyOf Try.f54) [false, true, false, true, true, true, true] = some (.loop (loopBody (bodyOf Try.f54) [false, true, false, true, true, true, true])) := by kernel_rfl
theorem atlasref19_field.q0.goes (k n : Nat) (x : (ByteArray × Int × Int × Int × Int × Int × Int)) : E Try.prog (gamOf []) (lamOf []) (loopBody (bodyOf Try.f54) [false, true, false, true, true, true, true]) (false :: [false, true, false, true, true, true, true]) (atlasref19_field.q0.h.st x) (contD atlasref19_field.q0.h atlasref19_field.q0.t (atlasref19_field.q0.l k n) some) = atlasref19_field.q0.l k (n + 1) x := by
  kernel_rfl
theorem atlasref19_field.q0.ok_ (k : Nat) : PieceOk Try.prog (bodyOf Try.f54) ⟨[false, true, false, true, true, true, true], _, _, atlasref19_field.q0.h, atlasref19_field.q0.t, atlasref19_field.q0.l k k⟩ :=
  piece_loop (gamOf_nil _) (lamOf_nil _ _) mixed atlasref19_field.q0.at atlasref19_field.q0.np atlasref19_field.q0.nn (atlasref19_field.q0.z k) (atlasref19_field.q0.goes k) k
def atlasref19_field.q0.p (k : Nat) : Piece := ⟨[false, true, false, true, true, true, true], _, _, atlasref19_field.q0.h, atlasref19_field.q0.t, atlasref19_field.q0.l k k⟩
theorem atlasref19_field.q0.ok (k : Nat) : PieceOk Try.prog (bodyOf Try.f54) (atlasref19_field.q0.p k) := atlasref19_field.q0.ok_ k
def atlasref19_field.f (k : Nat) (x0 : ByteArray) (x1 : Int) (x2 : Int) : Option (Int × Int) := ((atlasref19_field.q0.l k k (x0, x1, x2, 0, 0, 32, 0)).bind fun r1 => (some (r1.1, r1.2)))
theorem atlasref19_field.run (k : Nat) (x0 : ByteArray) (x1 : Int) (x2 : Int) : runF Try.prog (gamOf []) (lamOf [atlasref19_field.q0.p k]) Try.f54 [(.val (.string x0)), (.val (.int .u8 x1)), (.val (.int .u32 x2))] some = (atlasref19_field.f k x0 x1 x2).bind fun r => some (.ret (.tup [(.val (.int .u32 r.1)), (.val (.int .i64 r.2))])) := by
  unfold atlasref19_field.f
  try simp only [cond_bind, elim_bind, Option.bind_some, Option.bind_none, Option.bind_assoc]
  kernel_rfl
def atlasref19_field.g (k : Nat) : GFun := fun β args K => match args with
  | [a0, a1, a2] => (strO a0).bind fun x0 => (intO .u8 a1).bind fun x1 => (intO .u32 a2).bind fun x2 => (atlasref19_field.f k x0 x1 x2).bind fun r => K (.ret (.tup [(.val (.int .u32 r.1)), (.val (.int .i64 r.2))]))
  | _ => none
theorem atlasref19_field.callable : callable Try.prog 54 = true := callable_of Try.func54 (by kernel_rfl)
theorem atlasref19_field.ok (k : Nat) : GOk Try.prog 54 (atlasref19_field.g k) := by
  intro β args K r h
  unfold atlasref19_field.g at h
  split at h
  · obtain ⟨x0, e0, h⟩ := Option.bind_eq_some_iff.1 h
    obtain ⟨x1, e1, h⟩ := Option.bind_eq_some_iff.1 h
    obtain ⟨x2, e2, h⟩ := Option.bind_eq_some_iff.1 h
    obtain ⟨y, hy, hK⟩ := Option.bind_eq_some_iff.1 h
    have hrun := atlasref19_field.run k x0 x1 x2
    rw [hy] at hrun
    obtain ⟨out, e, hs⟩ := sim_of_run Try.func54 (by kernel_rfl) mixed (gamOf_nil _) (lamOf_cons (atlasref19_field.q0.ok k) (lamOf_nil _ _)) (args' := [(.val (.string x0)), (.val (.int .u8 x1)), (.val (.int .u32 x2))]) (RefsL.cons (Refs.of_eq (strO_eq e0)) (RefsL.cons (Refs.of_eq (intO_eq e1)) (RefsL.cons (Refs.of_eq (intO_eq e2)) RefsL.nil))) hrun
    simp only [Option.some.injEq] at e
    subst e
    exact ⟨_, hK, hs⟩
  · cases h
/-! ### atlas/atlasref19.num: function 60 -/
def atlasref19_num.f (k : Nat) (x0 : ByteArray) (x1 : Int) (x2 : Int) : Option (Int) := ((atlasref19_field.f k x0 x1 x2).bind fun r1 => (some (IntKind.wrap .i64 r1.1)))
theorem atlasref19_num.run (k : Nat) (x0 : ByteArray) (x1 : Int) (x2 : Int) : runF Try.prog (gamOf [(54, atlasref19_field.g k)]) noLam Try.f60 [(.val (.string x0)), (.val (.int .u8 x1)), (.val (.int .u32 x2))] some = (atlasref19_num.f k x0 x1 x2).bind fun r => some (.ret (.val (.int .i64 r))) := by
  unfold atlasref19_num.f
  try simp only [cond_bind, elim_bind, Option.bind_some, Option.bind_none, Option.bind_assoc]
  kernel_rfl
def atlasref19_num.g (k : Nat) : GFun := fun β args K => match args with
  | [a0, a1, a2] => (strO a0).bind fun x0 => (intO .u8 a1).bind fun x1 => (intO .u32 a2).bind fun x2 => (atlasref19_num.f k x0 x1 x2).bind fun r => K (.ret (.val (.int .i64 r)))
  | _ => none
theorem atlasref19_num.callable : callable Try.prog 60 = true := callable_of Try.func60 (by kernel_rfl)
theorem atlasref19_num.ok (k : Nat) : GOk Try.prog 60 (atlasref19_num.g k) := by
  intro β args K r h
  unfold atlasref19_num.g at h
  split at h
  · obtain ⟨x0, e0, h⟩ := Option.bind_eq_some_iff.1 h
    obtain ⟨x1, e1, h⟩ := Option.bind_eq_some_iff.1 h
    obtain ⟨x2, e2, h⟩ := Option.bind_eq_some_iff.1 h
    obtain ⟨y, hy, hK⟩ := Option.bind_eq_some_iff.1 h
    have hrun := atlasref19_num.run k x0 x1 x2
    rw [hy] at hrun
    obtain ⟨out, e, hs⟩ := sim_of_run Try.func60 (by kernel_rfl) mixed (gamOf_cons (atlasref19_field.ok k) atlasref19_field.callable (gamOf_nil _)) (noLam_ok _ _) (args' := [(.val (.string x0)), (.val (.int .u8 x1)), (.val (.int .u32 x2))]) (RefsL.cons (Refs.of_eq (strO_eq e0)) (RefsL.cons (Refs.of_eq (intO_eq e1)) (RefsL.cons (Refs.of_eq (intO_eq e2)) RefsL.nil))) hrun
    simp only [Option.some.injEq] at e
    subst e
    exact ⟨_, hK, hs⟩
  · cases h
/-! ### atlas/atlasref19.say: function 42 -/
def atlasref19_say.q0.h : Head (Int × ByteArray × Int × Int × Bool × Int × Int × Int × Int × Int × Int × Int × Int × Int × Bool × Bool × Bool × Int × Int × Int × Int × Int × Int × Int × Bool × Int × Int × Int × Int × Int × Int × Int × Int × Int × Bool × Bool × Bool × Int × Int × Int × Int × Int) where
  k γ s F := (sizedN 134 s).bind fun _ => (intO .u32 (gt s.tm 1)).bind fun v2 => (ptrN 0 (gt s.tm 4)).bind fun b4 => (strO (gt s.tm 5)).bind fun v6 => (ptrN 0 (gt s.tm 6)).bind fun b8 => (rowN 27 20 s.hp b4).bind fun l10 => (intO .i64 (gt l10 0)).bind fun v12 => (intO .i64 (gt l10 1)).bind fun v14 => (boolO (gt l10 2)).bind fun v16 => (intO .i64 (gt l10 3)).bind fun v18 => (intO .i64 (gt l10 4)).bind fun v20 => (intO .i64 (gt l10 5)).bind fun v22 => (intO .i64 (gt l10 6)).bind fun v24 => (intO .i64 (gt l10 7)).bind fun v26 => (intO .i64 (gt l10 8)).bind fun v28 => (intO .u32 (gt l10 9)).bind fun v30 => (intO .i64 (gt l10 10)).bind fun v32 => (intO .i64 (gt l10 11)).bind fun v34 => (boolO (gt l10 12)).bind fun v36 => (boolO (gt l10 13)).bind fun v38 => (boolO (gt l10 14)).bind fun v40 => (intO .u16 (gt l10 15)).bind fun v42 => (intO .i64 (gt l10 16)).bind fun v44 => (intO .i64 (gt l10 17)).bind fun v46 => (intO .i64 (gt l10 18)).bind fun v48 => (intO .i64 (gt l10 19)).bind fun v50 => (rowN 27 20 s.hp b8).bind fun l52 => (intO .i64 (gt l52 0)).bind fun v54 => (intO .i64 (gt l52 1)).bind fun v56 => (boolO (gt l52 2)).bind fun v58 => (intO .i64 (gt l52 3)).bind fun v60 => (intO .i64 (gt l52 4)).bind fun v62 => (intO .i64 (gt l52 5)).bind fun v64 => (intO .i64 (gt l52 6)).bind fun v66 => (intO .i64 (gt l52 7)).bind fun v68 => (intO .i64 (gt l52 8)).bind fun v70 => (intO .u32 (gt l52 9)).bind fun v72 => (intO .i64 (gt l52 10)).bind fun v74 => (intO .i64 (gt l52 11)).bind fun v76 => (boolO (gt l52 12)).bind fun v78 => (boolO (gt l52 13)).bind fun v80 => (boolO (gt l52 14)).bind fun v82 => (intO .u16 (gt l52 15)).bind fun v84 => (intO .i64 (gt l52 16)).bind fun v86 => (intO .i64 (gt l52 17)).bind fun v88 => (intO .i64 (gt l52 18)).bind fun v90 => (intO .i64 (gt l52 19)).bind fun v92 => (distO [some b4, some b8]).bind fun _ => F (v2, v6, v12, v14, v16, v18, v20, v22, v24, v26, v28, v30, v32, v34, v36, v38, v40, v42, v44, v46, v48, v50, v54, v56, v58, v60, v62, v64, v66, v68, v70, v72, v74, v76, v78, v80, v82, v84, v86, v88, v90, v92)
  st x := ⟨sparseT [(1, (.val (.int .u32 x.1))), (4, (.ptr 0 0)), (5, (.val (.string x.2.1))), (6, (.ptr 1 0))] 134 0, [.row [(.val (.int .i64 x.2.2.1)), (.val (.int .i64 x.2.2.2.1)), (.val (.bool x.2.2.2.2.1)), (.val (.int .i64 x.2.2.2.2.2.1)), (.val (.int .i64 x.2.2.2.2.2.2.1)), (.val (.int .i64 x.2.2.2.2.2.2.2.1)), (.val (.int .i64 x.2.2.2.2.2.2.2.2.1)), (.val (.int .i64 x.2.2.2.2.2.2.2.2.2.1)), (.val (.int .i64 x.2.2.2.2.2.2.2.2.2.2.1)), (.val (.int .u32 x.2.2.2.2.2.2.2.2.2.2.2.1)), (.val (.int .i64 x.2.2.2.2.2.2.2.2.2.2.2.2.1)), (.val (.int .i64 x.2.2.2.2.2.2.2.2.2.2.2.2.2.1)), (.val (.bool x.2.2.2.2.2.2.2.2.2.2.2.2.2.2.1)), (.val (.bool x.2.2.2.2.2.2.2.2.2.2.2.2.2.2.2.1)), (.val (.bool x.2.2.2.2.2.2.2.2.2.2.2.2.2.2.2.2.1)), (.val (.int .u16 x.2.2.2.2.2.2.2.2.2.2.2.2.2.2.2.2.2.1)), (.val (.int .i64 x.2.2.2.2.2.2.2.2.2.2.2.2.2.2.2.2.2.2.1)), (.val (.int .i64 x.2.2.2.2.2.2.2.2.2.2.2.2.2.2.2.2.2.2.2.1)), (.val (.int .i64 x.2.2.2.2.2.2.2.2.2.2.2.2.2.2.2.2.2.2.2.2.1)), (.val (.int .i64 x.2.2.2.2.2.2.2.2.2.2.2.2.2.2.2.2.2.2.2.2.2.1))] 27 true, .row [(.val (.int .i64 x.2.2.2.2.2.2.2.2.2.2.2.2.2.2.2.2.2.2.2.2.2.2.1)), (.val (.int .i64 x.2.2.2.2.2.2.2.2.2.2.2.2.2.2.2.2.2.2.2.2.2.2.2.1)), (.val (.bool x.2.2.2.2.2.2.2.2.2.2.2.2.2.2.2.2.2.2.2.2.2.2.2.2.1)), (.val (.int .i64 x.2.2.2.2.2.2.2.2.2.2.2.2.2.2.2.2.2.2.2.2.2.2.2.2.2.1)), (.val (.int .i64 x.2.2.2.2.2.2.2.2.2.2.2.2.2.2.2.2.2.2.2.2.2.2.2.2.2.2.1)), (.val (.int .i64 x.2.2.2.2.2.2.2.2.2.2.2.2.2.2.2.2.2.2.2.2.2.2.2.2.2.2.2.1)), (.val (.int .i64 x.2.2.2.2.2.2.2.2.2.2.2.2.2.2.2.2.2.2.2.2.2.2.2.2.2.2.2.2.1)), (.val (.int .i64 x.2.2.2.2.2.2.2.2.2.2.2.2.2.2.2.2.2.2.2.2.2.2.2.2.2.2.2.2.2.1)), (.val (.int .i64 x.2.2.2.2.2.2.2.2.2.2.2.2.2.2.2.2.2.2.2.2.2.2.2.2.2.2.2.2.2.2.1)), (.val (.int .u32 x.2.2.2.2.2.2.2.2.2.2.2.2.2.2.2.2.2.2.2.2.2.2.2.2.2.2.2.2.2.2.2.1)), (.val (.int .i64 x.2.2.2.2.2.2.2.2.2.2.2.2.2.2.2.2.2.2.2.2.2.2.2.2.2.2.2.2.2.2.2.2.1)), (.val (.int .i64 x.2.2.2.2.2.2.2.2.2.2.2.2.2.2.2.2.2.2.2.2.2.2.2.2.2.2.2.2.2.2.2.2.2.1)), (.val (.bool x.2.2.2.2.2.2.2.2.2.2.2.2.2.2.2.2.2.2.2.2.2.2.2.2.2.2.2.2.2.2.2.2.2.2.1)), (.val (.bool x.2.2.2.2.2.2.2.2.2.2.2.2.2.2.2.2.2.2.2.2.2.2.2.2.2.2.2.2.2.2.2.2.2.2.2.1)), (.val (.bool x.2.2.2.2.2.2.2.2.2.2.2.2.2.2.2.2.2.2.2.2.2.2.2.2.2.2.2.2.2.2.2.2.2.2.2.2.1)), (.val (.int .u16 x.2.2.2.2.2.2.2.2.2.2.2.2.2.2.2.2.2.2.2.2.2.2.2.2.2.2.2.2.2.2.2.2.2.2.2.2.2.1)), (.val (.int .i64 x.2.2.2.2.2.2.2.2.2.2.2.2.2.2.2.2.2.2.2.2.2.2.2.2.2.2.2.2.2.2.2.2.2.2.2.2.2.2.1)), (.val (.int .i64 x.2.2.2.2.2.2.2.2.2.2.2.2.2.2.2.2.2.2.2.2.2.2.2.2.2.2.2.2.2.2.2.2.2.2.2.2.2.2.2.1)), (.val (.int .i64 x.2.2.2.2.2.2.2.2.2.2.2.2.2.2.2.2.2.2.2.2.2.2.2.2.2.2.2.2.2.2.2.2.2.2.2.2.2.2.2.2.1)), (.val (.int .i64 x.2.2.2.2.2.2.2.2.2.2.2.2.2.2.2.2.2.2.2.2.2.2.2.2.2.2.2.2.2.2.2.2.2.2.2.2.2.2.2.2.2))] 27 true]⟩
  ok γ s F r h := by
    obtain ⟨_, hz, h⟩ := Option.bind_eq_some_iff.1 h
    obtain ⟨v2, h1, h⟩ := Option.bind_eq_some_iff.1 h
    obtain ⟨b4, h3, h⟩ := Option.bind_eq_some_iff.1 h
    obtain ⟨v6, h5, h⟩ := Option.bind_eq_some_iff.1 h
    obtain ⟨b8, h7, h⟩ := Option.bind_eq_some_iff.1 h
    obtain ⟨l10, h9, h⟩ := Option.bind_eq_some_iff.1 h
    obtain ⟨v12, h11, h⟩ := Option.bind_eq_some_iff.1 h
    obtain ⟨v14, h13, h⟩ := Option.bind_eq_some_iff.1 h
    obtain ⟨v16, h15, h⟩ := Option.bind_eq_some_iff.1 h
    obtain ⟨v18, h17, h⟩ := Option.bind_eq_some_iff.1 h
    obtain ⟨v20, h19, h⟩ := Option.bind_eq_some_iff.1 h
    obtain ⟨v22, h21, h⟩ := Option.bind_eq_some_iff.1 h
    obtain ⟨v24, h23, h⟩ := Option.bind_eq_some_iff.1 h
    obtain ⟨v26, h25, h⟩ := Option.bind_eq_some_iff.1 h
    obtain ⟨v28, h27, h⟩ := Option.bind_eq_some_iff.1 h
    obtain ⟨v30, h29, h⟩ := Option.bind_eq_some_iff.1 h
    obtain ⟨v32, h31, h⟩ := Option.bind_eq_some_iff.1 h
    obtain ⟨v34, h33, h⟩ := Option.bind_eq_some_iff.1 h
    obtain ⟨v36, h35, h⟩ := Option.bind_eq_some_iff.1 h
    obtain ⟨v38, h37, h⟩ := Option.bind_eq_some_iff.1 h
    obtain ⟨v40, h39, h⟩ := Option.bind_eq_some_iff.1 h
    obtain ⟨v42, h41, h⟩ := Option.bind_eq_some_iff.1 h
    obtain ⟨v44, h43, h⟩ := Option.bind_eq_some_iff.1 h
    obtain ⟨v46, h45, h⟩ := Option.bind_eq_some_iff.1 h
    obtain ⟨v48, h47, h⟩ := Option.bind_eq_some_iff.1 h
    obtain ⟨v50, h49, h⟩ := Option.bind_eq_some_iff.1 h
    obtain ⟨l52, h51, h⟩ := Option.bind_eq_some_iff.1 h
    obtain ⟨v54, h53, h⟩ := Option.bind_eq_some_iff.1 h
    obtain ⟨v56, h55, h⟩ := Option.bind_eq_some_iff.1 h
    obtain ⟨v58, h57, h⟩ := Option.bind_eq_some_iff.1 h
    obtain ⟨v60, h59, h⟩ := Option.bind_eq_some_iff.1 h
    obtain ⟨v62, h61, h⟩ := Option.bind_eq_some_iff.1 h
    obtain ⟨v64, h63, h⟩ := Option.bind_eq_some_iff.1 h
    obtain ⟨v66, h65, h⟩ := Option.bind_eq_some_iff.1 h
    obtain ⟨v68, h67, h⟩ := Option.bind_eq_some_iff.1 h
    obtain ⟨v70, h69, h⟩ := Option.bind_eq_some_iff.1 h
    obtain ⟨v72, h71, h⟩ := Option.bind_eq_some_iff.1 h
    obtain ⟨v74, h73, h⟩ := Option.bind_eq_some_iff.1 h
    obtain ⟨v76, h75, h⟩ := Option.bind_eq_some_iff.1 h
    obtain ⟨v78, h77, h⟩ := Option.bind_eq_some_iff.1 h
    obtain ⟨v80, h79, h⟩ := Option.bind_eq_some_iff.1 h
    obtain ⟨v82, h81, h⟩ := Option.bind_eq_some_iff.1 h
    obtain ⟨v84, h83, h⟩ := Option.bind_eq_some_iff.1 h
    obtain ⟨v86, h85, h⟩ := Option.bind_eq_some_iff.1 h
    obtain ⟨v88, h87, h⟩ := Option.bind_eq_some_iff.1 h
    obtain ⟨v90, h89, h⟩ := Option.bind_eq_some_iff.1 h
    obtain ⟨v92, h91, h⟩ := Option.bind_eq_some_iff.1 h
    obtain ⟨_, h93, h⟩ := Option.bind_eq_some_iff.1 h
    exact ⟨_, h, weak_ren (l := [some b4, some b8]) (sizedN_ok hz) (distO_ok h93) (LiveR.cons (RefsR.plain (Refs.of_eq (intO_eq h1)) rfl) (LiveR.cons (RefsR.ptr (l := [some b4, some b8]) (i := 0) rfl (ptrN_eq h3)) (LiveR.cons (RefsR.plain (Refs.of_eq (strO_eq h5)) rfl) (LiveR.cons (RefsR.ptr (l := [some b4, some b8]) (i := 1) rfl (ptrN_eq h7)) LiveR.nil)))) (BlksR.cons (rowN_refs h9 rfl (GtRefsR.cons (RefsR.plain (Refs.of_eq (intO_eq h11)) rfl) (GtRefsR.cons (RefsR.plain (Refs.of_eq (intO_eq h13)) rfl) (GtRefsR.cons (RefsR.plain (Refs.of_eq (boolO_eq h15)) rfl) (GtRefsR.cons (RefsR.plain (Refs.of_eq (intO_eq h17)) rfl) (GtRefsR.cons (RefsR.plain (Refs.of_eq (intO_eq h19)) rfl) (GtRefsR.cons (RefsR.plain (Refs.of_eq (intO_eq h21)) rfl) (GtRefsR.cons (RefsR.plain (Refs.of_eq (intO_eq h23)) rfl) (GtRefsR.cons (RefsR.plain (Refs.of_eq (intO_eq h25)) rfl) (GtRefsR.cons (RefsR.plain (Refs.of_eq (intO_eq h27)) rfl) (GtRefsR.cons (RefsR.plain (Refs.of_eq (intO_eq h29)) rfl) (GtRefsR.cons (RefsR.plain (Refs.of_eq (intO_eq h31)) rfl) (GtRefsR.cons (RefsR.plain (Refs.of_eq (intO_eq h33)) rfl) (GtRefsR.cons (RefsR.plain (Refs.of_eq (boolO_eq h35)) rfl) (GtRefsR.cons (RefsR.plain (Refs.of_eq (boolO_eq h37)) rfl) (GtRefsR.cons (RefsR.plain (Refs.of_eq (boolO_eq h39)) rfl) (GtRefsR.cons (RefsR.plain (Refs.of_eq (intO_eq h41)) rfl) (GtRefsR.cons (RefsR.plain (Refs.of_eq (intO_eq h43)) rfl) (GtRefsR.cons (RefsR.plain (Refs.of_eq (intO_eq h45)) rfl) (GtRefsR.cons (RefsR.plain (Refs.of_eq (intO_eq h47)) rfl) (GtRefsR.cons (RefsR.plain (Refs.of_eq (intO_eq h49)) rfl) GtRefsR.nil)))))))))))))))))))) rfl) (BlksR.cons (rowN_refs h51 rfl (GtRefsR.cons (RefsR.plain (Refs.of_eq (intO_eq h53)) rfl) (GtRefsR.cons (RefsR.plain (Refs.of_eq (intO_eq h55)) rfl) (GtRefsR.cons (RefsR.plain (Refs.of_eq (boolO_eq h57)) rfl) (GtRefsR.cons (RefsR.plain (Refs.of_eq (intO_eq h59)) rfl) (GtRefsR.cons (RefsR.plain (Refs.of_eq (intO_eq h61)) rfl) (GtRefsR.cons (RefsR.plain (Refs.of_eq (intO_eq h63)) rfl) (GtRefsR.cons (RefsR.plain (Refs.of_eq (intO_eq h65)) rfl) (GtRefsR.cons (RefsR.plain (Refs.of_eq (intO_eq h67)) rfl) (GtRefsR.cons (RefsR.plain (Refs.of_eq (intO_eq h69)) rfl) (GtRefsR.cons (RefsR.plain (Refs.of_eq (intO_eq h71)) rfl) (GtRefsR.cons (RefsR.plain (Refs.of_eq (intO_eq h73)) rfl) (GtRefsR.cons (RefsR.plain (Refs.of_eq (intO_eq h75)) rfl) (GtRefsR.cons (RefsR.plain (Refs.of_eq (boolO_eq h77)) rfl) (GtRefsR.cons (RefsR.plain (Refs.of_eq (boolO_eq h79)) rfl) (GtRefsR.cons (RefsR.plain (Refs.of_eq (boolO_eq h81)) rfl) (GtRefsR.cons (RefsR.plain (Refs.of_eq (intO_eq h83)) rfl) (GtRefsR.cons (RefsR.plain (Refs.of_eq (intO_eq h85)) rfl) (GtRefsR.cons (RefsR.plain (Refs.of_eq (intO_eq h87)) rfl) (GtRefsR.cons (RefsR.plain (Refs.of_eq (intO_eq h89)) rfl) (GtRefsR.cons (RefsR.plain (Refs.of_eq (intO_eq h91)) rfl) GtRefsR.nil)))))))))))))))))))) rfl) BlksR.nil))⟩

def atlasref19_say.q0.x0 : Head (Int × Int × Bool × Int × Int × Int × Int × Int × Int × Int × Int × Int × Bool × Bool × Bool × Int × Int × Int × Int × Int) where
  k γ s F := (sizedN 134 s).bind fun _ => (ptrN 0 (gt s.tm 4)).bind fun b2 => (rowN 27 20 s.hp b2).bind fun l4 => (intO .i64 (gt l4 0)).bind fun v6 => (intO .i64 (gt l4 1)).bind fun v8 => (boolO (gt l4 2)).bind fun v10 => (intO .i64 (gt l4 3)).bind fun v12 => (intO .i64 (gt l4 4)).bind fun v14 => (intO .i64 (gt l4 5)).bind fun v16 => (intO .i64 (gt l4 6)).bind fun v18 => (intO .i64 (gt l4 7)).bind fun v20 => (intO .i64 (gt l4 8)).bind fun v22 => (intO .u32 (gt l4 9)).bind fun v24 => (intO .i64 (gt l4 10)).bind fun v26 => (intO .i64 (gt l4 11)).bind fun v28 => (boolO (gt l4 12)).bind fun v30 => (boolO (gt l4 13)).bind fun v32 => (boolO (gt l4 14)).bind fun v34 => (intO .u16 (gt l4 15)).bind fun v36 => (intO .i64 (gt l4 16)).bind fun v38 => (intO .i64 (gt l4 17)).bind fun v40 => (intO .i64 (gt l4 18)).bind fun v42 => (intO .i64 (gt l4 19)).bind fun v44 => (distO [some b2]).bind fun _ => F (v6, v8, v10, v12, v14, v16, v18, v20, v22, v24, v26, v28, v30, v32, v34, v36, v38, v40, v42, v44)
  st x := ⟨sparseT [(4, (.ptr 0 0))] 134 0, [.row [(.val (.int .i64 x.1)), (.val (.int .i64 x.2.1)), (.val (.bool x.2.2.1)), (.val (.int .i64 x.2.2.2.1)), (.val (.int .i64 x.2.2.2.2.1)), (.val (.int .i64 x.2.2.2.2.2.1)), (.val (.int .i64 x.2.2.2.2.2.2.1)), (.val (.int .i64 x.2.2.2.2.2.2.2.1)), (.val (.int .i64 x.2.2.2.2.2.2.2.2.1)), (.val (.int .u32 x.2.2.2.2.2.2.2.2.2.1)), (.val (.int .i64 x.2.2.2.2.2.2.2.2.2.2.1)), (.val (.int .i64 x.2.2.2.2.2.2.2.2.2.2.2.1)), (.val (.bool x.2.2.2.2.2.2.2.2.2.2.2.2.1)), (.val (.bool x.2.2.2.2.2.2.2.2.2.2.2.2.2.1)), (.val (.bool x.2.2.2.2.2.2.2.2.2.2.2.2.2.2.1)), (.val (.int .u16 x.2.2.2.2.2.2.2.2.2.2.2.2.2.2.2.1)), (.val (.int .i64 x.2.2.2.2.2.2.2.2.2.2.2.2.2.2.2.2.1)), (.val (.int .i64 x.2.2.2.2.2.2.2.2.2.2.2.2.2.2.2.2.2.1)), (.val (.int .i64 x.2.2.2.2.2.2.2.2.2.2.2.2.2.2.2.2.2.2.1)), (.val (.int .i64 x.2.2.2.2.2.2.2.2.2.2.2.2.2.2.2.2.2.2.2))] 27 true]⟩
  ok γ s F r h := by
    obtain ⟨_, hz, h⟩ := Option.bind_eq_some_iff.1 h
    obtain ⟨b2, h1, h⟩ := Option.bind_eq_some_iff.1 h
    obtain ⟨l4, h3, h⟩ := Option.bind_eq_some_iff.1 h
    obtain ⟨v6, h5, h⟩ := Option.bind_eq_some_iff.1 h
    obtain ⟨v8, h7, h⟩ := Option.bind_eq_some_iff.1 h
    obtain ⟨v10, h9, h⟩ := Option.bind_eq_some_iff.1 h
    obtain ⟨v12, h11, h⟩ := Option.bind_eq_some_iff.1 h
    obtain ⟨v14, h13, h⟩ := Option.bind_eq_some_iff.1 h
    obtain ⟨v16, h15, h⟩ := Option.bind_eq_some_iff.1 h
    obtain ⟨v18, h17, h⟩ := Option.bind_eq_some_iff.1 h
    obtain ⟨v20, h19, h⟩ := Option.bind_eq_some_iff.1 h
    obtain ⟨v22, h21, h⟩ := Option.bind_eq_some_iff.1 h
    obtain ⟨v24, h23, h⟩ := Option.bind_eq_some_iff.1 h
    obtain ⟨v26, h25, h⟩ := Option.bind_eq_some_iff.1 h
    obtain ⟨v28, h27, h⟩ := Option.bind_eq_some_iff.1 h
    obtain ⟨v30, h29, h⟩ := Option.bind_eq_some_iff.1 h
    obtain ⟨v32, h31, h⟩ := Option.bind_eq_some_iff.1 h
    obtain ⟨v34, h33, h⟩ := Option.bind_eq_some_iff.1 h
    obtain ⟨v36, h35, h⟩ := Option.bind_eq_some_iff.1 h
    obtain ⟨v38, h37, h⟩ := Option.bind_eq_some_iff.1 h
    obtain ⟨v40, h39, h⟩ := Option.bind_eq_some_iff.1 h
    obtain ⟨v42, h41, h⟩ := Option.bind_eq_some_iff.1 h
    obtain ⟨v44, h43, h⟩ := Option.bind_eq_some_iff.1 h
    obtain ⟨_, h45, h⟩ := Option.bind_eq_some_iff.1 h
    exact ⟨_, h, weak_ren (l := [some b2]) (sizedN_ok hz) (distO_ok h45) (LiveR.cons (RefsR.ptr (l := [some b2]) (i := 0) rfl (ptrN_eq h1)) LiveR.nil) (BlksR.cons (rowN_refs h3 rfl (GtRefsR.cons (RefsR.plain (Refs.of_eq (intO_eq h5)) rfl) (GtRefsR.cons (RefsR.plain (Refs.of_eq (intO_eq h7)) rfl) (GtRefsR.cons (RefsR.plain (Refs.of_eq (boolO_eq h9)) rfl) (GtRefsR.cons (RefsR.plain (Refs.of_eq (intO_eq h11)) rfl) (GtRefsR.cons (RefsR.plain (Refs.of_eq (intO_eq h13)) rfl) (GtRefsR.cons (RefsR.plain (Refs.of_eq (intO_eq h15)) rfl) (GtRefsR.cons (RefsR.plain (Refs.of_eq (intO_eq h17)) rfl) (GtRefsR.cons (RefsR.plain (Refs.of_eq (intO_eq h19)) rfl) (GtRefsR.cons (RefsR.plain (Refs.of_eq (intO_eq h21)) rfl) (GtRefsR.cons (RefsR.plain (Refs.of_eq (intO_eq h23)) rfl) (GtRefsR.cons (RefsR.plain (Refs.of_eq (intO_eq h25)) rfl) (GtRefsR.cons (RefsR.plain (Refs.of_eq (intO_eq h27)) rfl) (GtRefsR.cons (RefsR.plain (Refs.of_eq (boolO_eq h29)) rfl) (GtRefsR.cons (RefsR.plain (Refs.of_eq (boolO_eq h31)) rfl) (GtRefsR.cons (RefsR.plain (Refs.of_eq (boolO_eq h33)) rfl) (GtRefsR.cons (RefsR.plain (Refs.of_eq (intO_eq h35)) rfl) (GtRefsR.cons (RefsR.plain (Refs.of_eq (intO_eq h37)) rfl) (GtRefsR.cons (RefsR.plain (Refs.of_eq (intO_eq h39)) rfl) (GtRefsR.cons (RefsR.plain (Refs.of_eq (intO_eq h41)) rfl) (GtRefsR.cons (RefsR.plain (Refs.of_eq (intO_eq h43)) rfl) GtRefsR.nil)))))))))))))))))))) rfl) BlksR.nil)⟩

def atlasref19_say.q0.t : Tail (Int × Int × Bool × Int × Int × Int × Int × Int × Int × Int × Int × Int × Bool × Bool × Bool × Int × Int × Int × Int × Int) := Tail.one .ret atlasref19_say.q0.x0
theorem atlasref19_say.q0.np (y : (Int × Int × Bool × Int × Int × Int × Int × Int × Int × Int × Int × Int × Bool × Bool × Bool × Int × Int × Int × Int × Int)) (v : AV) : (atlasref19_say.q0.t.out y).1 ≠ .panic v := fun h => by cases h
def atlasref19_say.q0.l (k : Nat) (x : (Int × ByteArray × Int × Int × Bool × Int × Int × Int × Int × Int × Int × Int × Int × Int × Bool × Bool × Bool × Int × Int × Int × Int × Int × Int × Int × Bool × Int × Int × Int × Int × Int × Int × Int × Int × Int × Bool × Bool × Bool × Int × Int × Int × Int × Int)) : Option (Int × Int × Bool × Int × Int × Int × Int × Int × Int × Int × Int × Int × Bool × Bool × Bool × Int × Int × Int × Int × Int) := ((atlasref19_num.f k x.2.1 116 x.1).bind fun r11 => ((atlasref19_num.f k x.2.1 107 x.1).bind fun r12 => ((atlasref19_num.f k x.2.1 112 x.1).bind fun r13 => ((atlasref19_num.f k x.2.1 117 x.1).bind fun r14 => ((atlasref19_num.f k x.2.1 119 x.1).bind fun r15 => ((atlasref19_num.f k x.2.1 108 x.1).bind fun r16 => ((atlasref19_num.f k x.2.1 120 x.1).bind fun r17 => ((atlasref19_num.f k x.2.1 121 x.1).bind fun r18 => ((atlasref19_num.f k x.2.1 122 x.1).bind fun r19 => ((atlasref19_num.f k x.2.1 118 x.1).bind fun r20 => (some (x.2.2.2.2.2.2.2.2.2.2.2.2.2.2.2.2.2.2.2.2.2.2.1, x.2.2.2.2.2.2.2.2.2.2.2.2.2.2.2.2.2.2.2.2.2.2.2.1, x.2.2.2.2.2.2.2.2.2.2.2.2.2.2.2.2.2.2.2.2.2.2.2.2.1, x.2.2.2.2.2.2.2.2.2.2.2.2.2.2.2.2.2.2.2.2.2.2.2.2.2.1, x.2.2.2.2.2.2.2.2.2.2.2.2.2.2.2.2.2.2.2.2.2.2.2.2.2.2.1, x.2.2.2.2.2.2.2.2.2.2.2.2.2.2.2.2.2.2.2.2.2.2.2.2.2.2.2.1, x.2.2.2.2.2.2.2.2.2.2.2.2.2.2.2.2.2.2.2.2.2.2.2.2.2.2.2.2.1, x.2.2.2.2.2.2.2.2.2.2.2.2.2.2.2.2.2.2.2.2.2.2.2.2.2.2.2.2.2.1, x.2.2.2.2.2.2.2.2.2.2.2.2.2.2.2.2.2.2.2.2.2.2.2.2.2.2.2.2.2.2.1, x.2.2.2.2.2.2.2.2.2.2.2.2.2.2.2.2.2.2.2.2.2.2.2.2.2.2.2.2.2.2.2.1, r11, r12, (r13 == 1), (r14 == 1), (r15 == 1), (IntKind.wrap .u16 r16), r17, r18, r19, r20))))))))))))
theorem atlasref19_say.q0.at : codeAt (bodyOf Try.f42) [true, true, true, true, true, true, true, true, true, true, true, true, true] = some (codeOf (bodyOf Try.f42) [true, true, true, true, true, true, true, true, true, true, true, true, true]) := by kernel_rfl
theorem atlasref19_say.q0.goes (k : Nat) (x : (Int × ByteArray × Int × Int × Bool × Int × Int × Int × Int × Int × Int × Int × Int × Int × Bool × Bool × Bool × Int × Int × Int × Int × Int × Int × Int × Bool × Int × Int × Int × Int × Int × Int × Int × Int × Int × Bool × Bool × Bool × Int × Int × Int × Int × Int)) : E Try.prog (gamOf [(60, atlasref19_num.g k), (54, atlasref19_field.g k)]) (lamOf []) (codeOf (bodyOf Try.f42) [true, true, true, true, true, true, true, true, true, true, true, true, true]) [true, true, true, true, true, true, true, true, true, true, true, true, true] (atlasref19_say.q0.h.st x) (fun ex t => atlasref19_say.q0.t.d _ ex t some) = atlasref19_say.q0.l k x := by
  kernel_rfl
theorem atlasref19_say.q0.ok_ (k : Nat) : PieceOk Try.prog (bodyOf Try.f42) ⟨[true, true, true, true, true, true, true, true, true, true, true, true, true], _, _, atlasref19_say.q0.h, atlasref19_say.q0.t, atlasref19_say.q0.l k⟩ :=
  piece_code (gamOf_cons (atlasref19_num.ok k) atlasref19_num.callable (gamOf_cons (atlasref19_field.ok k) atlasref19_field.callable (gamOf_nil _))) (lamOf_nil _ _) mixed atlasref19_say.q0.at atlasref19_say.q0.np (atlasref19_say.q0.goes k)
def atlasref19_say.q0.p (k : Nat) : Piece := ⟨[true, true, true, true, true, true, true, true, true, true, true, true, true], _, _, atlasref19_say.q0.h, atlasref19_say.q0.t, atlasref19_say.q0.l k⟩
theorem atlasref19_say.q0.ok (k : Nat) : PieceOk Try.prog (bodyOf Try.f42) (atlasref19_say.q0.p k) := atlasref19_say.q0.ok_ k
def atlasref19_say.f (k : Nat) (x0 : T42) (x1 : Int) : Option (T26) := ((atlasref19_num.f k x0.f2_Pattern 99 x1).bind fun r1 => (bif (decide (0 ≤ 0) && decide (0 < ((x0.f0_Ops.length : Nat) : Int))) then ((atlasref19_field.f k x0.f2_Pattern 111 x1).bind fun r2 => (bif (decide (r2.2 > 0)) then ((atlasref19_num.f k x0.f2_Pattern 111 x1).bind fun r3 => ((atlasref19_num.f k x0.f2_Pattern 115 x1).bind fun r4 => (bif (r4 == 1) then ((atlasref19_num.f k x0.f2_Pattern 100 x1).bind fun r5 => ((atlasref19_num.f k x0.f2_Pattern 110 x1).bind fun r6 => ((atlasref19_num.f k x0.f2_Pattern 109 x1).bind fun r7 => ((atlasref19_num.f k x0.f2_Pattern 114 x1).bind fun r8 => ((atlasref19_num.f k x0.f2_Pattern 97 x1).bind fun r9 => ((atlasref19_field.f k x0.f2_Pattern 105 x1).bind fun r10 => (bif ((IntKind.wrap .i64 (r3 + 1)) == 41) then (bif (decide ((IntKind.wrap .u32 (r10.1 * 4)) ≥ 33554432)) then ((atlasref19_say.q0.l k (x1, x0.f2_Pattern, 0, 0, false, 0, 0, 0, 0, 0, 0, 0, 0, 0, false, false, false, 0, 0, 0, 0, 0, r1, (IntKind.wrap .i64 (r3 + 1)), true, x0.f1_Form, r5, r6, r7, r8, r9, (IntKind.wrap .u32 ((IntKind.wrap .u32 (r10.1 * 4)) - 67108864)), 0, 0, false, false, false, 0, 0, 0, 0, 0)).bind fun r21 => (some (⟨r21.1, r21.2.1, r21.2.2.1, r21.2.2.2.1, r21.2.2.2.2.1, r21.2.2.2.2.2.1, r21.2.2.2.2.2.2.1, r21.2.2.2.2.2.2.2.1, r21.2.2.2.2.2.2.2.2.1, r21.2.2.2.2.2.2.2.2.2.1, r21.2.2.2.2.2.2.2.2.2.2.1, r21.2.2.2.2.2.2.2.2.2.2.2.1, r21.2.2.2.2.2.2.2.2.2.2.2.2.1, r21.2.2.2.2.2.2.2.2.2.2.2.2.2.1, r21.2.2.2.2.2.2.2.2.2.2.2.2.2.2.1, r21.2.2.2.2.2.2.2.2.2.2.2.2.2.2.2.1, r21.2.2.2.2.2.2.2.2.2.2.2.2.2.2.2.2.1, r21.2.2.2.2.2.2.2.2.2.2.2.2.2.2.2.2.2.1, r21.2.2.2.2.2.2.2.2.2.2.2.2.2.2.2.2.2.2.1, r21.2.2.2.2.2.2.2.2.2.2.2.2.2.2.2.2.2.2.2⟩ : T26))) else ((atlasref19_say.q0.l k (x1, x0.f2_Pattern, 0, 0, false, 0, 0, 0, 0, 0, 0, 0, 0, 0, false, false, false, 0, 0, 0, 0, 0, r1, (IntKind.wrap .i64 (r3 + 1)), true, x0.f1_Form, r5, r6, r7, r8, r9, (IntKind.wrap .u32 (r10.1 * 4)), 0, 0, false, false, false, 0, 0, 0, 0, 0)).bind fun r22 => (some (⟨r22.1, r22.2.1, r22.2.2.1, r22.2.2.2.1, r22.2.2.2.2.1, r22.2.2.2.2.2.1, r22.2.2.2.2.2.2.1, r22.2.2.2.2.2.2.2.1, r22.2.2.2.2.2.2.2.2.1, r22.2.2.2.2.2.2.2.2.2.1, r22.2.2.2.2.2.2.2.2.2.2.1, r22.2.2.2.2.2.2.2.2.2.2.2.1, r22.2.2.2.2.2.2.2.2.2.2.2.2.1, r22.2.2.2.2.2.2.2.2.2.2.2.2.2.1, r22.2.2.2.2.2.2.2.2.2.2.2.2.2.2.1, r22.2.2.2.2.2.2.2.2.2.2.2.2.2.2.2.1, r22.2.2.2.2.2.2.2.2.2.2.2.2.2.2.2.2.1, r22.2.2.2.2.2.2.2.2.2.2.2.2.2.2.2.2.2.1, r22.2.2.2.2.2.2.2.2.2.2.2.2.2.2.2.2.2.2.1, r22.2.2.2.2.2.2.2.2.2.2.2.2.2.2.2.2.2.2.2⟩ : T26)))) else (bif ((IntKind.wrap .i64 (r3 + 1)) == 42) then (bif (decide ((IntKind.wrap .u32 (r10.1 * 4)) ≥ 33554432)) then ((atlasref19_say.q0.l k (x1, x0.f2_Pattern, 0, 0, false, 0, 0, 0, 0, 0, 0, 0, 0, 0, false, false, false, 0, 0, 0, 0, 0, r1, (IntKind.wrap .i64 (r3 + 1)), true, x0.f1_Form, r5, r6, r7, r8, r9, (IntKind.wrap .u32 ((IntKind.wrap .u32 (r10.1 * 4)) - 67108864)), 0, 0, false, false, false, 0, 0, 0, 0, 0)).bind fun r23 => (some (⟨r23.1, r23.2.1, r23.2.2.1, r23.2.2.2.1, r23.2.2.2.2.1, r23.2.2.2.2.2.1, r23.2.2.2.2.2.2.1, r23.2.2.2.2.2.2.2.1, r23.2.2.2.2.2.2.2.2.1, r23.2.2.2.2.2.2.2.2.2.1, r23.2.2.2.2.2.2.2.2.2.2.1, r23.2.2.2.2.2.2.2.2.2.2.2.1, r23.2.2.2.2.2.2.2.2.2.2.2.2.1, r23.2.2.2.2.2.2.2.2.2.2.2.2.2.1, r23.2.2.2.2.2.2.2.2.2.2.2.2.2.2.1, r23.2.2.2.2.2.2.2.2.2.2.2.2.2.2.2.1, r23.2.2.2.2.2.2.2.2.2.2.2.2.2.2.2.2.1, r23.2.2.2.2.2.2.2.2.2.2.2.2.2.2.2.2.2.1, r23.2.2.2.2.2.2.2.2.2.2.2.2.2.2.2.2.2.2.1, r23.2.2.2.2.2.2.2.2.2.2.2.2.2.2.2.2.2.2.2⟩ : T26))) else ((atlasref19_say.q0.l k (x1, x0.f2_Pattern, 0, 0, false, 0, 0, 0, 0, 0, 0, 0, 0, 0, false, false, false, 0, 0, 0, 0, 0, r1, (IntKind.wrap .i64 (r3 + 1)), true, x0.f1_Form, r5, r6, r7, r8, r9, (IntKind.wrap .u32 (r10.1 * 4)), 0, 0, false, false, false, 0, 0, 0, 0, 0)).bind fun r24 => (some (⟨r24.1, r24.2.1, r24.2.2.1, r24.2.2.2.1, r24.2.2.2.2.1, r24.2.2.2.2.2.1, r24.2.2.2.2.2.2.1, r24.2.2.2.2.2.2.2.1, r24.2.2.2.2.2.2.2.2.1, r24.2.2.2.2.2.2.2.2.2.1, r24.2.2.2.2.2.2.2.2.2.2.1, r24.2.2.2.2.2.2.2.2.2.2.2.1, r24.2.2.2.2.2.2.2.2.2.2.2.2.1, r24.2.2.2.2.2.2.2.2.2.2.2.2.2.1, r24.2.2.2.2.2.2.2.2.2.2.2.2.2.2.1, r24.2.2.2.2.2.2.2.2.2.2.2.2.2.2.2.1, r24.2.2.2.2.2.2.2.2.2.2.2.2.2.2.2.2.1, r24.2.2.2.2.2.2.2.2.2.2.2.2.2.2.2.2.2.1, r24.2.2.2.2.2.2.2.2.2.2.2.2.2.2.2.2.2.2.1, r24.2.2.2.2.2.2.2.2.2.2.2.2.2.2.2.2.2.2.2⟩ : T26)))) else ((atlasref19_say.q0.l k (x1, x0.f2_Pattern, 0, 0, false, 0, 0, 0, 0, 0, 0, 0, 0, 0, false, false, false, 0, 0, 0, 0, 0, r1, (IntKind.wrap .i64 (r3 + 1)), true, x0.f1_Form, r5, r6, r7, r8, r9, r10.1, 0, 0, false, false, false, 0, 0, 0, 0, 0)).bind fun r25 => (some (⟨r25.1, r25.2.1, r25.2.2.1, r25.2.2.2.1, r25.2.2.2.2.1, r25.2.2.2.2.2.1, r25.2.2.2.2.2.2.1, r25.2.2.2.2.2.2.2.1, r25.2.2.2.2.2.2.2.2.1, r25.2.2.2.2.2.2.2.2.2.1, r25.2.2.2.2.2.2.2.2.2.2.1, r25.2.2.2.2.2.2.2.2.2.2.2.1, r25.2.2.2.2.2.2.2.2.2.2.2.2.1, r25.2.2.2.2.2.2.2.2.2.2.2.2.2.1, r25.2.2.2.2.2.2.2.2.2.2.2.2.2.2.1, r25.2.2.2.2.2.2.2.2.2.2.2.2.2.2.2.1, r25.2.2.2.2.2.2.2.2.2.2.2.2.2.2.2.2.1, r25.2.2.2.2.2.2.2.2.2.2.2.2.2.2.2.2.2.1, r25.2.2.2.2.2.2.2.2.2.2.2.2.2.2.2.2.2.2.1, r25.2.2.2.2.2.2.2.2.2.2.2.2.2.2.2.2.2.2.2⟩ : T26))))))))))) else ((atlasref19_in.f k ([9, 10, 11, 12] : List Int) (IntKind.wrap .i64 (r3 + 1))).bind fun r26 => ((atlasref19_num.f k x0.f2_Pattern 100 x1).bind fun r27 => ((atlasref19_num.f k x0.f2_Pattern 110 x1).bind fun r28 => ((atlasref19_num.f k x0.f2_Pattern 109 x1).bind fun r29 => ((atlasref19_num.f k x0.f2_Pattern 114 x1).bind fun r30 => ((atlasref19_num.f k x0.f2_Pattern 97 x1).bind fun r31 => ((atlasref19_field.f k x0.f2_Pattern 105 x1).bind fun r32 => (bif ((IntKind.wrap .i64 (r3 + 1)) == 41) then (bif (decide ((IntKind.wrap .u32 (r32.1 * 4)) ≥ 33554432)) then ((atlasref19_say.q0.l k (x1, x0.f2_Pattern, 0, 0, false, 0, 0, 0, 0, 0, 0, 0, 0, 0, false, false, false, 0, 0, 0, 0, 0, r1, (IntKind.wrap .i64 (r3 + 1)), r26, x0.f1_Form, r27, r28, r29, r30, r31, (IntKind.wrap .u32 ((IntKind.wrap .u32 (r32.1 * 4)) - 67108864)), 0, 0, false, false, false, 0, 0, 0, 0, 0)).bind fun r33 => (some (⟨r33.1, r33.2.1, r33.2.2.1, r33.2.2.2.1, r33.2.2.2.2.1, r33.2.2.2.2.2.1, r33.2.2.2.2.2.2.1, r33.2.2.2.2.2.2.2.1, r33.2.2.2.2.2.2.2.2.1, r33.2.2.2.2.2.2.2.2.2.1, r33.2.2.2.2.2.2.2.2.2.2.1, r33.2.2.2.2.2.2.2.2.2.2.2.1, r33.2.2.2.2.2.2.2.2.2.2.2.2.1, r33.2.2.2.2.2.2.2.2.2.2.2.2.2.1, r33.2.2.2.2.2.2.2.2.2.2.2.2.2.2.1, r33.2.2.2.2.2.2.2.2.2.2.2.2.2.2.2.1, r33.2.2.2.2.2.2.2.2.2.2.2.2.2.2.2.2.1, r33.2.2.2.2.2.2.2.2.2.2.2.2.2.2.2.2.2.1, r33.2.2.2.2.2.2.2.2.2.2.2.2.2.2.2.2.2.2.1, r33.2.2.2.2.2.2.2.2.2.2.2.2.2.2.2.2.2.2.2⟩ : T26))) else ((atlasref19_say.q0.l k (x1, x0.f2_Pattern, 0, 0, false, 0, 0, 0, 0, 0, 0, 0, 0, 0, false, false, false, 0, 0, 0, 0, 0, r1, (IntKind.wrap .i64 (r3 + 1)), r26, x0.f1_Form, r27, r28, r29, r30, r31, (IntKind.wrap .u32 (r32.1 * 4)), 0, 0, false, false, false, 0, 0, 0, 0, 0)).bind fun r34 => (some (⟨r34.1, r34.2.1, r34.2.2.1, r34.2.2.2.1, r34.2.2.2.2.1, r34.2.2.2.2.2.1, r34.2.2.2.2.2.2.1, r34.2.2.2.2.2.2.2.1, r34.2.2.2.2.2.2.2.2.1, r34.2.2.2.2.2.2.2.2.2.1, r34.2.2.2.2.2.2.2.2.2.2.1, r34.2.2.2.2.2.2.2.2.2.2.2.1, r34.2.2.2.2.2.2.2.2.2.2.2.2.1, r34.2.2.2.2.2.2.2.2.2.2.2.2.2.1, r34.2.2.2.2.2.2.2.2.2.2.2.2.2.2.1, r34.2.2.2.2.2.2.2.2.2.2.2.2.2.2.2.1, r34.2.2.2.2.2.2.2.2.2.2.2.2.2.2.2.2.1, r34.2.2.2.2.2.2.2.2.2.2.2.2.2.2.2.2.2.1, r34.2.2.2.2.2.2.2.2.2.2.2.2.2.2.2.2.2.2.1, r34.2.2.2.2.2.2.2.2.2.2.2.2.2.2.2.2.2.2.2⟩ : T26)))) else (bif ((IntKind.wrap .i64 (r3 + 1)) == 42) then (bif (decide ((IntKind.wrap .u32 (r32.1 * 4)) ≥ 33554432)) then ((atlasref19_say.q0.l k (x1, x0.f2_Pattern, 0, 0, false, 0, 0, 0, 0, 0, 0, 0, 0, 0, false, false, false, 0, 0, 0, 0, 0, r1, (IntKind.wrap .i64 (r3 + 1)), r26, x0.f1_Form, r27, r28, r29, r30, r31, (IntKind.wrap .u32 ((IntKind.wrap .u32 (r32.1 * 4)) - 67108864)), 0, 0, false, false, false, 0, 0, 0, 0, 0)).bind fun r35 => (some (⟨r35.1, r35.2.1, r35.2.2.1, r35.2.2.2.1, r35.2.2.2.2.1, r35.2.2.2.2.2.1, r35.2.2.2.2.2.2.1, r35.2.2.2.2.2.2.2.1, r35.2.2.2.2.2.2.2.2.1, r35.2.2.2.2.2.2.2.2.2.1, r35.2.2.2.2.2.2.2.2.2.2.1, r35.2.2.2.2.2.2.2.2.2.2.2.1, r35.2.2.2.2.2.2.2.2.2.2.2.2.1, r35.2.2.2.2.2.2.2.2.2.2.2.2.2.1, r35.2.2.2.2.2.2.2.2.2.2.2.2.2.2.1, r35.2.2.2.2.2.2.2.2.2.2.2.2.2.2.2.1, r35.2.2.2.2.2.2.2.2.2.2.2.2.2.2.2.2.1, r35.2.2.2.2.2.2.2.2.2.2.2.2.2.2.2.2.2.1, r35.2.2.2.2.2.2.2.2.2.2.2.2.2.2.2.2.2.2.1, r35.2.2.2.2.2.2.2.2.2.2.2.2.2.2.2.2.2.2.2⟩ : T26))) else ((atlasref19_say.q0.l k (x1, x0.f2_Pattern, 0, 0, false, 0, 0, 0, 0, 0, 0, 0, 0, 0, false, false, false, 0, 0, 0, 0, 0, r1, (IntKind.wrap .i64 (r3 + 1)), r26, x0.f1_Form, r27, r28, r29, r30, r31, (IntKind.wrap .u32 (r32.1 * 4)), 0, 0, false, false, false, 0, 0, 0, 0, 0)).bind fun r36 => (some (⟨r36.1, r36.2.1, r36.2.2.1, r36.2.2.2.1, r36.2.2.2.2.1, r36.2.2.2.2.2.1, r36.2.2.2.2.2.2.1, r36.2.2.2.2.2.2.2.1, r36.2.2.2.2.2.2.2.2.1, r36.2.2.2.2.2.2.2.2.2.1, r36.2.2.2.2.2.2.2.2.2.2.1, r36.2.2.2.2.2.2.2.2.2.2.2.1, r36.2.2.2.2.2.2.2.2.2.2.2.2.1, r36.2.2.2.2.2.2.2.2.2.2.2.2.2.1, r36.2.2.2.2.2.2.2.2.2.2.2.2.2.2.1, r36.2.2.2.2.2.2.2.2.2.2.2.2.2.2.2.1, r36.2.2.2.2.2.2.2.2.2.2.2.2.2.2.2.2.1, r36.2.2.2.2.2.2.2.2.2.2.2.2.2.2.2.2.2.1, r36.2.2.2.2.2.2.2.2.2.2.2.2.2.2.2.2.2.2.1, r36.2.2.2.2.2.2.2.2.2.2.2.2.2.2.2.2.2.2.2⟩ : T26)))) else ((atlasref19_say.q0.l k (x1, x0.f2_Pattern, 0, 0, false, 0, 0, 0, 0, 0, 0, 0, 0, 0, false, false, false, 0, 0, 0, 0, 0, r1, (IntKind.wrap .i64 (r3 + 1)), r26, x0.f1_Form, r27, r28, r29, r30, r31, r32.1, 0, 0, false, false, false, 0, 0, 0, 0, 0)).bind fun r37 => (some (⟨r37.1, r37.2.1, r37.2.2.1, r37.2.2.2.1, r37.2.2.2.2.1, r37.2.2.2.2.2.1, r37.2.2.2.2.2.2.1, r37.2.2.2.2.2.2.2.1, r37.2.2.2.2.2.2.2.2.1, r37.2.2.2.2.2.2.2.2.2.1, r37.2.2.2.2.2.2.2.2.2.2.1, r37.2.2.2.2.2.2.2.2.2.2.2.1, r37.2.2.2.2.2.2.2.2.2.2.2.2.1, r37.2.2.2.2.2.2.2.2.2.2.2.2.2.1, r37.2.2.2.2.2.2.2.2.2.2.2.2.2.2.1, r37.2.2.2.2.2.2.2.2.2.2.2.2.2.2.2.1, r37.2.2.2.2.2.2.2.2.2.2.2.2.2.2.2.2.1, r37.2.2.2.2.2.2.2.2.2.2.2.2.2.2.2.2.2.1, r37.2.2.2.2.2.2.2.2.2.2.2.2.2.2.2.2.2.2.1, r37.2.2.2.2.2.2.2.2.2.2.2.2.2.2.2.2.2.2.2⟩ : T26))))))))))))))) else ((atlasref19_num.f k x0.f2_Pattern 115 x1).bind fun r38 => (bif (r38 == 1) then ((atlasref19_num.f k x0.f2_Pattern 100 x1).bind fun r39 => ((atlasref19_num.f k x0.f2_Pattern 110 x1).bind fun r40 => ((atlasref19_num.f k x0.f2_Pattern 109 x1).bind fun r41 => ((atlasref19_num.f k x0.f2_Pattern 114 x1).bind fun r42 => ((atlasref19_num.f k x0.f2_Pattern 97 x1).bind fun r43 => ((atlasref19_field.f k x0.f2_Pattern 105 x1).bind fun r44 => (bif ((x0.f0_Ops.getD 0 0) == 41) then (bif (decide ((IntKind.wrap .u32 (r44.1 * 4)) ≥ 33554432)) then ((atlasref19_say.q0.l k (x1, x0.f2_Pattern, 0, 0, false, 0, 0, 0, 0, 0, 0, 0, 0, 0, false, false, false, 0, 0, 0, 0, 0, r1, (x0.f0_Ops.getD 0 0), true, x0.f1_Form, r39, r40, r41, r42, r43, (IntKind.wrap .u32 ((IntKind.wrap .u32 (r44.1 * 4)) - 67108864)), 0, 0, false, false, false, 0, 0, 0, 0, 0)).bind fun r45 => (some (⟨r45.1, r45.2.1, r45.2.2.1, r45.2.2.2.1, r45.2.2.2.2.1, r45.2.2.2.2.2.1, r45.2.2.2.2.2.2.1, r45.2.2.2.2.2.2.2.1, r45.2.2.2.2.2.2.2.2.1, r45.2.2.2.2.2.2.2.2.2.1, r45.2.2.2.2.2.2.2.2.2.2.1, r45.2.2.2.2.2.2.2.2.2.2.2.1, r45.2.2.2.2.2.2.2.2.2.2.2.2.1, r45.2.2.2.2.2.2.2.2.2.2.2.2.2.1, r45.2.2.2.2.2.2.2.2.2.2.2.2.2.2.1, r45.2.2.2.2.2.2.2.2.2.2.2.2.2.2.2.1, r45.2.2.2.2.2.2.2.2.2.2.2.2.2.2.2.2.1, r45.2.2.2.2.2.2.2.2.2.2.2.2.2.2.2.2.2.1, r45.2.2.2.2.2.2.2.2.2.2.2.2.2.2.2.2.2.2.1, r45.2.2.2.2.2.2.2.2.2.2.2.2.2.2.2.2.2.2.2⟩ : T26))) else ((atlasref19_say.q0.l k (x1, x0.f2_Pattern, 0, 0, false, 0, 0, 0, 0, 0, 0, 0, 0, 0, false, false, false, 0, 0, 0, 0, 0, r1, (x0.f0_Ops.getD 0 0), true, x0.f1_Form, r39, r40, r41, r42, r43, (IntKind.wrap .u32 (r44.1 * 4)), 0, 0, false, false, false, 0, 0, 0, 0, 0)).bind fun r46 => (some (⟨r46.1, r46.2.1, r46.2.2.1, r46.2.2.2.1, r46.2.2.2.2.1, r46.2.2.2.2.2.1, r46.2.2.2.2.2.2.1, r46.2.2.2.2.2.2.2.1, r46.2.2.2.2.2.2.2.2.1, r46.2.2.2.2.2.2.2.2.2.1, r46.2.2.2.2.2.2.2.2.2.2.1, r46.2.2.2.2.2.2.2.2.2.2.2.1, r46.2.2.2.2.2.2.2.2.2.2.2.2.1, r46.2.2.2.2.2.2.2.2.2.2.2.2.2.1, r46.2.2.2.2.2.2.2.2.2.2.2.2.2.2.1, r46.2.2.2.2.2.2.2.2.2.2.2.2.2.2.2.1, r46.2.2.2.2.2.2.2.2.2.2.2.2.2.2.2.2.1, r46.2.2.2.2.2.2.2.2.2.2.2.2.2.2.2.2.2.1, r46.2.2.2.2.2.2.2.2.2.2.2.2.2.2.2.2.2.2.1, r46.2.2.2.2.2.2.2.2.2.2.2.2.2.2.2.2.2.2.2⟩ : T26)))) else (bif ((x0.f0_Ops.getD 0 0) == 42) then (bif (decide ((IntKind.wrap .u32 (r44.1 * 4)) ≥ 33554432)) then ((atlasref19_say.q0.l k (x1, x0.f2_Pattern, 0, 0, false, 0, 0, 0, 0, 0, 0, 0, 0, 0, false, false, false, 0, 0, 0, 0, 0, r1, (x0.f0_Ops.getD 0 0), true, x0.f1_Form, r39, r40, r41, r42, r43, (IntKind.wrap .u32 ((IntKind.wrap .u32 (r44.1 * 4)) - 67108864)), 0, 0, false, false, false, 0, 0, 0, 0, 0)).bind fun r47 => (some (⟨r47.1, r47.2.1, r47.2.2.1, r47.2.2.2.1, r47.2.2.2.2.1, r47.2.2.2.2.2.1, r47.2.2.2.2.2.2.1, r47.2.2.2.2.2.2.2.1, r47.2.2.2.2.2.2.2.2.1, r47.2.2.2.2.2.2.2.2.2.1, r47.2.2.2.2.2.2.2.2.2.2.1, r47.2.2.2.2.2.2.2.2.2.2.2.1, r47.2.2.2.2.2.2.2.2.2.2.2.2.1, r47.2.2.2.2.2.2.2.2.2.2.2.2.2.1, r47.2.2.2.2.2.2.2.2.2.2.2.2.2.2.1, r47.2.2.2.2.2.2.2.2.2.2.2.2.2.2.2.1, r47.2.2.2.2.2.2.2.2.2.2.2.2.2.2.2.2.1, r47.2.2.2.2.2.2.2.2.2.2.2.2.2.2.2.2.2.1, r47.2.2.2.2.2.2.2.2.2.2.2.2.2.2.2.2.2.2.1, r47.2.2.2.2.2.2.2.2.2.2.2.2.2.2.2.2.2.2.2⟩ : T26))) else ((atlasref19_say.q0.l k (x1, x0.f2_Pattern, 0, 0, false, 0, 0, 0, 0, 0, 0, 0, 0, 0, false, false, false, 0, 0, 0, 0, 0, r1, (x0.f0_Ops.getD 0 0), true, x0.f1_Form, r39, r40, r41, r42, r43, (IntKind.wrap .u32 (r44.1 * 4)), 0, 0, false, false, false, 0, 0, 0, 0, 0)).bind fun r48 => (some (⟨r48.1, r48.2.1, r48.2.2.1, r48.2.2.2.1, r48.2.2.2.2.1, r48.2.2.2.2.2.1, r48.2.2.2.2.2.2.1, r48.2.2.2.2.2.2.2.1, r48.2.2.2.2.2.2.2.2.1, r48.2.2.2.2.2.2.2.2.2.1, r48.2.2.2.2.2.2.2.2.2.2.1, r48.2.2.2.2.2.2.2.2.2.2.2.1, r48.2.2.2.2.2.2.2.2.2.2.2.2.1, r48.2.2.2.2.2.2.2.2.2.2.2.2.2.1, r48.2.2.2.2.2.2.2.2.2.2.2.2.2.2.1, r48.2.2.2.2.2.2.2.2.2.2.2.2.2.2.2.1, r48.2.2.2.2.2.2.2.2.2.2.2.2.2.2.2.2.1, r48.2.2.2.2.2.2.2.2.2.2.2.2.2.2.2.2.2.1, r48.2.2.2.2.2.2.2.2.2.2.2.2.2.2.2.2.2.2.1, r48.2.2.2.2.2.2.2.2.2.2.2.2.2.2.2.2.2.2.2⟩ : T26)))) else ((atlasref19_say.q0.l k (x1, x0.f2_Pattern, 0, 0, false, 0, 0, 0, 0, 0, 0, 0, 0, 0, false, false, false, 0, 0, 0, 0, 0, r1, (x0.f0_Ops.getD 0 0), true, x0.f1_Form, r39, r40, r41, r42, r43, r44.1, 0, 0, false, false, false, 0, 0, 0, 0, 0)).bind fun r49 => (some (⟨r49.1, r49.2.1, r49.2.2.1, r49.2.2.2.1, r49.2.2.2.2.1, r49.2.2.2.2.2.1, r49.2.2.2.2.2.2.1, r49.2.2.2.2.2.2.2.1, r49.2.2.2.2.2.2.2.2.1, r49.2.2.2.2.2.2.2.2.2.1, r49.2.2.2.2.2.2.2.2.2.2.1, r49.2.2.2.2.2.2.2.2.2.2.2.1, r49.2.2.2.2.2.2.2.2.2.2.2.2.1, r49.2.2.2.2.2.2.2.2.2.2.2.2.2.1, r49.2.2.2.2.2.2.2.2.2.2.2.2.2.2.1, r49.2.2.2.2.2.2.2.2.2.2.2.2.2.2.2.1, r49.2.2.2.2.2.2.2.2.2.2.2.2.2.2.2.2.1, r49.2.2.2.2.2.2.2.2.2.2.2.2.2.2.2.2.2.1, r49.2.2.2.2.2.2.2.2.2.2.2.2.2.2.2.2.2.2.1, r49.2.2.2.2.2.2.2.2.2.2.2.2.2.2.2.2.2.2.2⟩ : T26))))))))))) else ((atlasref19_in.f k ([9, 10, 11, 12] : List Int) (x0.f0_Ops.getD 0 0)).bind fun r50 => ((atlasref19_num.f k x0.f2_Pattern 100 x1).bind fun r51 => ((atlasref19_num.f k x0.f2_Pattern 110 x1).bind fun r52 => ((atlasref19_num.f k x0.f2_Pattern 109 x1).bind fun r53 => ((atlasref19_num.f k x0.f2_Pattern 114 x1).bind fun r54 => ((atlasref19_num.f k x0.f2_Pattern 97 x1).bind fun r55 => ((atlasref19_field.f k x0.f2_Pattern 105 x1).bind fun r56 => (bif ((x0.f0_Ops.getD 0 0) == 41) then (bif (decide ((IntKind.wrap .u32 (r56.1 * 4)) ≥ 33554432)) then ((atlasref19_say.q0.l k (x1, x0.f2_Pattern, 0, 0, false, 0, 0, 0, 0, 0, 0, 0, 0, 0, false, false, false, 0, 0, 0, 0, 0, r1, (x0.f0_Ops.getD 0 0), r50, x0.f1_Form, r51, r52, r53, r54, r55, (IntKind.wrap .u32 ((IntKind.wrap .u32 (r56.1 * 4)) - 67108864)), 0, 0, false, false, false, 0, 0, 0, 0, 0)).bind fun r57 => (some (⟨r57.1, r57.2.1, r57.2.2.1, r57.2.2.2.1, r57.2.2.2.2.1, r57.2.2.2.2.2.1, r57.2.2.2.2.2.2.1, r57.2.2.2.2.2.2.2.1, r57.2.2.2.2.2.2.2.2.1, r57.2.2.2.2.2.2.2.2.2.1, r57.2.2.2.2.2.2.2.2.2.2.1, r57.2.2.2.2.2.2.2.2.2.2.2.1, r57.2.2.2.2.2.2.2.2.2.2.2.2.1, r57.2.2.2.2.2.2.2.2.2.2.2.2.2.1, r57.2.2.2.2.2.2.2.2.2.2.2.2.2.2.1, r57.2.2.2.2.2.2.2.2.2.2.2.2.2.2.2.1, r57.2.2.2.2.2.2.2.2.2.2.2.2.2.2.2.2.1, r57.2.2.2.2.2.2.2.2.2.2.2.2.2.2.2.2.2.1, r57.2.2.2.2.2.2.2.2.2.2.2.2.2.2.2.2.2.2.1, r57.2.2.2.2.2.2.2.2.2.2.2.2.2.2.2.2.2.2.2⟩ : T26))) else ((atlasref19_say.q0.l k (x1, x0.f2_Pattern, 0, 0, false, 0, 0, 0, 0, 0, 0, 0, 0, 0, false, false, false, 0, 0, 0, 0, 0, r1, (x0.f0_Ops.getD 0 0), r50, x0.f1_Form, r51, r52, r53, r54, r55, (IntKind.wrap .u32 (r56.1 * 4)), 0, 0, false, false, false, 0, 0, 0, 0, 0)).bind fun r58 => (some (⟨r58.1, r58.2.1, r58.2.2.1, r58.2.2.2.1, r58.2.2.2.2.1, r58.2.2.2.2.2.1, r58.2.2.2.2.2.2.1, r58.2.2.2.2.2.2.2.1, r58.2.2.2.2.2.2.2.2.1, r58.2.2.2.2.2.2.2.2.2.1, r58.2.2.2.2.2.2.2.2.2.2.1, r58.2.2.2.2.2.2.2.2.2.2.2.1, r58.2.2.2.2.2.2.2.2.2.2.2.2.1, r58.2.2.2.2.2.2.2.2.2.2.2.2.2.1, r58.2.2.2.2.2.2.2.2.2.2.2.2.2.2.1, r58.2.2.2.2.2.2.2.2.2.2.2.2.2.2.2.1, r58.2.2.2.2.2.2.2.2.2.2.2.2.2.2.2.2.1, r58.2.2.2.2.2.2.2.2.2.2.2.2.2.2.2.2.2.1, r58.2.2.2.2.2.2.2.2.2.2.2.2.2.2.2.2.2.2.1, r58.2.2.2.2.2.2.2.2.2.2.2.2.2.2.2.2.2.2.2⟩ : T26)))) else (bif ((x0.f0_Ops.getD 0 0) == 42) then (bif (decide ((IntKind.wrap .u32 (r56.1 * 4)) ≥ 33554432)) then ((atlasref19_say.q0.l k (x1, x0.f2_Pattern, 0, 0, false, 0, 0, 0, 0, 0, 0, 0, 0, 0, false, false, false, 0, 0, 0, 0, 0, r1, (x0.f0_Ops.getD 0 0), r50, x0.f1_Form, r51, r52, r53, r54, r55, (IntKind.wrap .u32 ((IntKind.wrap .u32 (r56.1 * 4)) - 67108864)), 0, 0, false, false, false, 0, 0, 0, 0, 0)).bind fun r59 => (some (⟨r59.1, r59.2.1, r59.2.2.1, r59.2.2.2.1, r59.2.2.2.2.1, r59.2.2.2.2.2.1, r59.2.2.2.2.2.2.1, r59.2.2.2.2.2.2.2.1, r59.2.2.2.2.2.2.2.2.1, r59.2.2.2.2.2.2.2.2.2.1, r59.2.2.2.2.2.2.2.2.2.2.1, r59.2.2.2.2.2.2.2.2.2.2.2.1, r59.2.2.2.2.2.2.2.2.2.2.2.2.1, r59.2.2.2.2.2.2.2.2.2.2.2.2.2.1, r59.2.2.2.2.2.2.2.2.2.2.2.2.2.2.1, r59.2.2.2.2.2.2.2.2.2.2.2.2.2.2.2.1, r59.2.2.2.2.2.2.2.2.2.2.2.2.2.2.2.2.1, r59.2.2.2.2.2.2.2.2.2.2.2.2.2.2.2.2.2.1, r59.2.2.2.2.2.2.2.2.2.2.2.2.2.2.2.2.2.2.1, r59.2.2.2.2.2.2.2.2.2.2.2.2.2.2.2.2.2.2.2⟩ : T26))) else ((atlasref19_say.q0.l k (x1, x0.f2_Pattern, 0, 0, false, 0, 0, 0, 0, 0, 0, 0, 0, 0, false, false, false, 0, 0, 0, 0, 0, r1, (x0.f0_Ops.getD 0 0), r50, x0.f1_Form, r51, r52, r53, r54, r55, (IntKind.wrap .u32 (r56.1 * 4)), 0, 0, false, false, false, 0, 0, 0, 0, 0)).bind fun r60 => (some (⟨r60.1, r60.2.1, r60.2.2.1, r60.2.2.2.1, r60.2.2.2.2.1, r60.2.2.2.2.2.1, r60.2.2.2.2.2.2.1, r60.2.2.2.2.2.2.2.1, r60.2.2.2.2.2.2.2.2.1, r60.2.2.2.2.2.2.2.2.2.1, r60.2.2.2.2.2.2.2.2.2.2.1, r60.2.2.2.2.2.2.2.2.2.2.2.1, r60.2.2.2.2.2.2.2.2.2.2.2.2.1, r60.2.2.2.2.2.2.2.2.2.2.2.2.2.1, r60.2.2.2.2.2.2.2.2.2.2.2.2.2.2.1, r60.2.2.2.2.2.2.2.2.2.2.2.2.2.2.2.1, r60.2.2.2.2.2.2.2.2.2.2.2.2.2.2.2.2.1, r60.2.2.2.2.2.2.2.2.2.2.2.2.2.2.2.2.2.1, r60.2.2.2.2.2.2.2.2.2.2.2.2.2.2.2.2.2.2.1, r60.2.2.2.2.2.2.2.2.2.2.2.2.2.2.2.2.2.2.2⟩ : T26)))) else ((atlasref19_say.q0.l k (x1, x0.f2_Pattern, 0, 0, false, 0, 0, 0, 0, 0, 0, 0, 0, 0, false, false, false, 0, 0, 0, 0, 0, r1, (x0.f0_Ops.getD 0 0), r50, x0.f1_Form, r51, r52, r53, r54, r55, r56.1, 0, 0, false, false, false, 0, 0, 0, 0, 0)).bind fun r61 => (some (⟨r61.1, r61.2.1, r61.2.2.1, r61.2.2.2.1, r61.2.2.2.2.1, r61.2.2.2.2.2.1, r61.2.2.2.2.2.2.1, r61.2.2.2.2.2.2.2.1, r61.2.2.2.2.2.2.2.2.1, r61.2.2.2.2.2.2.2.2.2.1, r61.2.2.2.2.2.2.2.2.2.2.1, r61.2.2.2.2.2.2.2.2.2.2.2.1, r61.2.2.2.2.2.2.2.2.2.2.2.2.1, r61.2.2.2.2.2.2.2.2.2.2.2.2.2.1, r61.2.2.2.2.2.2.2.2.2.2.2.2.2.2.1, r61.2.2.2.2.2.2.2.2.2.2.2.2.2.2.2.1, r61.2.2.2.2.2.2.2.2.2.2.2.2.2.2.2.2.1, r61.2.2.2.2.2.2.2.2.2.2.2.2.2.2.2.2.2.1, r61.2.2.2.2.2.2.2.2.2.2.2.2.2.2.2.2.2.2.1, r61.2.2.2.2.2.2.2.2.2.2.2.2.2.2.2.2.2.2.2⟩ : T26)))))))))))))))) else none))
theorem atlasref19_say.run (k : Nat) (x0 : T42) (x1 : Int) : runF Try.prog (gamOf [(60, atlasref19_num.g k), (54, atlasref19_field.g k), (25, atlasref19_in.g k)]) (lamOf [atlasref19_say.q0.p k]) Try.f42 [(T42.av x0), (.val (.int .u32 x1))] some = (atlasref19_say.f k x0 x1).bind fun r => some (.ret (T26.av r)) := by
  unfold atlasref19_say.f
  try simp only [cond_bind, elim_bind, Option.bind_some, Option.bind_none, Option.bind_assoc]
  kernel_rfl
def atlasref19_say.g (k : Nat) : GFun := fun β args K => match args with
  | [a0, a1] => (T42.of a0).bind fun x0 => (intO .u32 a1).bind fun x1 => (atlasref19_say.f k x0 x1).bind fun r => K (.ret (T26.av r))
  | _ => none
theorem atlasref19_say.callable : callable Try.prog 42 = true := callable_of Try.func42 (by kernel_rfl)
theorem atlasref19_say.ok (k : Nat) : GOk Try.prog 42 (atlasref19_say.g k) := by
  intro β args K r h
  unfold atlasref19_say.g at h
  split at h
  · obtain ⟨x0, e0, h⟩ := Option.bind_eq_some_iff.1 h
    obtain ⟨x1, e1, h⟩ := Option.bind_eq_some_iff.1 h
    obtain ⟨y, hy, hK⟩ := Option.bind_eq_some_iff.1 h
    have hrun := atlasref19_say.run k x0 x1
    rw [hy] at hrun
    obtain ⟨out, e, hs⟩ := sim_of_run Try.func42 (by kernel_rfl) mixed (gamOf_cons (atlasref19_num.ok k) atlasref19_num.callable (gamOf_cons (atlasref19_field.ok k) atlasref19_field.callable (gamOf_cons (atlasref19_in.ok k) atlasref19_in.callable (gamOf_nil _)))) (lamOf_cons (atlasref19_say.q0.ok k) (lamOf_nil _ _)) (args' := [(T42.av x0), (.val (.int .u32 x1))]) (RefsL.cons (T42.refs e0) (RefsL.cons (Refs.of_eq (intO_eq e1)) RefsL.nil)) hrun
    simp only [Option.some.injEq] at e
    subst e
    exact ⟨_, hK, hs⟩
  · cases h
/-! ### atlas/atlasref19.Has: function 30 -/
def atlasref19_Has.f (k : Nat) (x0 : T42) (x1 : Int) : Option (Bool) := ((atlasref19_field.f k x0.f2_Pattern x1 0).bind fun r1 => (some (decide (r1.2 > 0))))
theorem atlasref19_Has.run (k : Nat) (x0 : T42) (x1 : Int) : runF Try.prog (gamOf [(54, atlasref19_field.g k)]) noLam Try.f30 [(T42.av x0), (.val (.int .u8 x1))] some = (atlasref19_Has.f k x0 x1).bind fun r => some (.ret (.val (.bool r))) := by
  unfold atlasref19_Has.f
  try simp only [cond_bind, elim_bind, Option.bind_some, Option.bind_none, Option.bind_assoc]
  kernel_rfl
def atlasref19_Has.g (k : Nat) : GFun := fun β args K => match args with
  | [a0, a1] => (T42.of a0).bind fun x0 => (intO .u8 a1).bind fun x1 => (atlasref19_Has.f k x0 x1).bind fun r => K (.ret (.val (.bool r)))
  | _ => none
theorem atlasref19_Has.callable : callable Try.prog 30 = true := callable_of Try.func30 (by kernel_rfl)
theorem atlasref19_Has.ok (k : Nat) : GOk Try.prog 30 (atlasref19_Has.g k) := by
  intro β args K r h
  unfold atlasref19_Has.g at h
  split at h
  · obtain ⟨x0, e0, h⟩ := Option.bind_eq_some_iff.1 h
    obtain ⟨x1, e1, h⟩ := Option.bind_eq_some_iff.1 h
    obtain ⟨y, hy, hK⟩ := Option.bind_eq_some_iff.1 h
    have hrun := atlasref19_Has.run k x0 x1
    rw [hy] at hrun
    obtain ⟨out, e, hs⟩ := sim_of_run Try.func30 (by kernel_rfl) mixed (gamOf_cons (atlasref19_field.ok k) atlasref19_field.callable (gamOf_nil _)) (noLam_ok _ _) (args' := [(T42.av x0), (.val (.int .u8 x1))]) (RefsL.cons (T42.refs e0) (RefsL.cons (Refs.of_eq (intO_eq e1)) RefsL.nil)) hrun
    simp only [Option.some.injEq] at e
    subst e
    exact ⟨_, hK, hs⟩
  · cases h
end Go.Va
