-- Written by a program of this session (wip/va/vaprint.py). Not trusted: Lean checks it.
import Derived.Test.YtmphkmoakamepaaVaTy
import Derived.Test.YtmphkmoakamepaaVf7
set_option linter.unusedVariables false
set_option linter.unusedSimpArgs false
set_option autoImplicit false
set_option maxRecDepth 100000
namespace Go.Va
open Go.Proofs
/-! ### atlas/atlasref23.rise: function 29 -/
def atlasref23_rise.q0.h : Head ((List (Int × Int × (Bool × Bool × Bool × Unit) × (List Int) × Unit)) × Int) where
  k γ s F := (sizedN 23 s).bind fun _ => (vtO (.pair (.int .u32) (.pair (.int .u32) (.pair (.pair .bool (.pair .bool (.pair .bool .unit))) (.pair (.vec (.int .u8)) .unit)))) (gt s.tm 0)).bind fun v2 => (intO .i64 (gt s.tm 3)).bind fun v4 => (distO []).bind fun _ => F (v2, v4)
  st x := ⟨sparseT [(0, (.vt (.pair (.int .u32) (.pair (.int .u32) (.pair (.pair .bool (.pair .bool (.pair .bool .unit))) (.pair (.vec (.int .u8)) .unit)))) x.1)), (3, (.val (.int .i64 x.2)))] 23 0, []⟩
  ok γ s F r h := by
    have ⟨_, hz, h⟩ := bs h
    have ⟨v2, h1, h⟩ := bs h
    have ⟨v4, h3, h⟩ := bs h
    have ⟨_, h5, h⟩ := bs h
    exact ⟨_, h, weak_ren (l := []) (sizedN_ok hz) (distO_ok h5) (LiveR.cons (pV h1) (LiveR.cons (pI h3) LiveR.nil)) BlksR.nil⟩

def atlasref23_rise.q0.x0 : Head (Bool) where
  k γ s F := (sizedN 23 s).bind fun _ => (boolO (gt s.tm 2)).bind fun v2 => (distO []).bind fun _ => F (v2)
  st x := ⟨sparseT [(2, (.val (.bool x)))] 23 0, []⟩
  ok γ s F r h := by
    have ⟨_, hz, h⟩ := bs h
    have ⟨v2, h1, h⟩ := bs h
    have ⟨_, h3, h⟩ := bs h
    exact ⟨_, h, weak_ren (l := []) (sizedN_ok hz) (distO_ok h3) (LiveR.cons (pB h1) LiveR.nil) BlksR.nil⟩

def atlasref23_rise.q0.x1 : Head (Unit) where
  k γ s F := (sizedN 23 s).bind fun _ => (distO []).bind fun _ => F ()
  st x := ⟨sparseT [] 23 0, []⟩
  ok γ s F r h := by
    have ⟨_, hz, h⟩ := bs h
    have ⟨_, h1, h⟩ := bs h
    exact ⟨_, h, weak_ren (l := []) (sizedN_ok hz) (distO_ok h1) LiveR.nil BlksR.nil⟩

def atlasref23_rise.q0.t : Tail ((Bool) ⊕ (Unit)) := Tail.or .ret atlasref23_rise.q0.x0 (Tail.one (.exit 0) atlasref23_rise.q0.x1)
theorem atlasref23_rise.q0.np (y : ((Bool) ⊕ (Unit))) (v : AV) : (atlasref23_rise.q0.t.out y).1 = .panic v → nomem v = true := fun h => by rcases y with _ | y <;> first | (cases h; done) | (cases h; rfl) | (cases h)
theorem atlasref23_rise.q0.nn (y : ((Bool) ⊕ (Unit))) : (atlasref23_rise.q0.t.out y).1 ≠ .normal := fun h => by rcases y with _ | y <;> first | (cases h; done) | (cases h; rfl) | (cases h)
def atlasref23_rise.q0.l (k : Nat) : Nat → ((List (Int × Int × (Bool × Bool × Bool × Unit) × (List Int) × Unit)) × Int) → Option ((Bool) ⊕ (Unit))
  | 0, _ => none
  | n + 1, x => (bif (decide (x.2 < ((x.1.length : Nat) : Int))) then (bif (decide (0 ≤ x.2) && decide (x.2 < ((x.1.length : Nat) : Int))) then (bif (decide (0 ≤ (IntKind.wrap .i64 (x.2 - 1))) && decide ((IntKind.wrap .i64 (x.2 - 1)) < ((x.1.length : Nat) : Int))) then ((atlasref23_end.f (⟨(x.1.getD ((IntKind.wrap .i64 (x.2 - 1))).toNat (0, 0, (false, false, false, ()), [], ())).1, (x.1.getD ((IntKind.wrap .i64 (x.2 - 1))).toNat (0, 0, (false, false, false, ()), [], ())).2.1, (x.1.getD ((IntKind.wrap .i64 (x.2 - 1))).toNat (0, 0, (false, false, false, ()), [], ())).2.2.1.1, (x.1.getD ((IntKind.wrap .i64 (x.2 - 1))).toNat (0, 0, (false, false, false, ()), [], ())).2.2.1.2.1, (x.1.getD ((IntKind.wrap .i64 (x.2 - 1))).toNat (0, 0, (false, false, false, ()), [], ())).2.2.1.2.2.1, (x.1.getD ((IntKind.wrap .i64 (x.2 - 1))).toNat (0, 0, (false, false, false, ()), [], ())).2.2.2.1⟩ : T45)).bind fun r1 => (bif (decide ((IntKind.wrap .u64 ((x.1.getD (x.2).toNat (0, 0, (false, false, false, ()), [], ())).1)) < r1)) then (some (Sum.inl false)) else (atlasref23_rise.q0.l k n (x.1, (IntKind.wrap .i64 (x.2 + 1)))))) else none) else none) else (some (Sum.inr ())))
theorem atlasref23_rise.q0.z (k : Nat) (x : ((List (Int × Int × (Bool × Bool × Bool × Unit) × (List Int) × Unit)) × Int)) : atlasref23_rise.q0.l k 0 x = none := rfl
theorem atlasref23_rise.q0.at : codeAt (bodyOf Try.f29) [false, true, false, true] = some (.loop (loopBody (bodyOf Try.f29) [false, true, false, true])) := by kernel_rfl
theorem atlasref23_rise.q0.goes (k n : Nat) (x : ((List (Int × Int × (Bool × Bool × Bool × Unit) × (List Int) × Unit)) × Int)) : E Try.prog (gamOf [(62, atlasref23_end.g)]) (lamOf []) (loopBody (bodyOf Try.f29) [false, true, false, true]) (false :: [false, true, false, true]) (atlasref23_rise.q0.h.st x) (contD atlasref23_rise.q0.h atlasref23_rise.q0.t (atlasref23_rise.q0.l k n) some) = atlasref23_rise.q0.l k (n + 1) x := by
  kernel_rfl
theorem atlasref23_rise.q0.ok_ (k : Nat) : PieceOk Try.prog (bodyOf Try.f29) ⟨[false, true, false, true], _, _, atlasref23_rise.q0.h, atlasref23_rise.q0.t, atlasref23_rise.q0.l k k⟩ :=
  piece_loop (gamOf_cons (atlasref23_end.ok) atlasref23_end.callable (gamOf_nil _)) (lamOf_nil _ _) mixed atlasref23_rise.q0.at atlasref23_rise.q0.np atlasref23_rise.q0.nn (atlasref23_rise.q0.z k) (atlasref23_rise.q0.goes k) k
def atlasref23_rise.q0.p (k : Nat) : Piece := ⟨[false, true, false, true], _, _, atlasref23_rise.q0.h, atlasref23_rise.q0.t, atlasref23_rise.q0.l k k⟩
theorem atlasref23_rise.q0.ok (k : Nat) : PieceOk Try.prog (bodyOf Try.f29) (atlasref23_rise.q0.p k) := atlasref23_rise.q0.ok_ k
def atlasref23_rise.f (k : Nat) (x0 : (List (Int × Int × (Bool × Bool × Bool × Unit) × (List Int) × Unit))) : Option (Bool) := ((atlasref23_rise.q0.l k k (x0, 1)).bind fun r2 => (Sum.elim (fun r3 => (some r3)) (fun r4 => (some true)) r2))
theorem atlasref23_rise.run (k : Nat) (x0 : (List (Int × Int × (Bool × Bool × Bool × Unit) × (List Int) × Unit))) : runF Try.prog (gamOf [(62, atlasref23_end.g)]) (lamOf [atlasref23_rise.q0.p k]) Try.f29 [(.vt (.pair (.int .u32) (.pair (.int .u32) (.pair (.pair .bool (.pair .bool (.pair .bool .unit))) (.pair (.vec (.int .u8)) .unit)))) x0)] some = (atlasref23_rise.f k x0).bind fun r => some (.ret (.val (.bool r))) := by
  unfold atlasref23_rise.f
  try simp only [cond_bind, elim_bind, Option.bind_some, Option.bind_none, Option.bind_assoc, Sum.elim_inl, Sum.elim_inr]
  kernel_rfl
def atlasref23_rise.g (k : Nat) : GFun := fun β args K => match args with
  | [a0] => (vtO (.pair (.int .u32) (.pair (.int .u32) (.pair (.pair .bool (.pair .bool (.pair .bool .unit))) (.pair (.vec (.int .u8)) .unit)))) a0).bind fun x0 => (atlasref23_rise.f k x0).bind fun r => K (.ret (.val (.bool r)))
  | _ => none
theorem atlasref23_rise.callable : callable Try.prog 29 = true := callable_of Try.func29 (by kernel_rfl)
theorem atlasref23_rise.ok (k : Nat) : GOk Try.prog 29 (atlasref23_rise.g k) := by
  intro β args K r h
  unfold atlasref23_rise.g at h
  split at h
  · obtain ⟨x0, e0, h⟩ := bs h
    obtain ⟨y, hy, hK⟩ := bs h
    have hrun := atlasref23_rise.run k x0
    rw [hy] at hrun
    obtain ⟨out, e, hs⟩ := sim_of_run Try.func29 (by kernel_rfl) mixed (gamOf_cons (atlasref23_end.ok) atlasref23_end.callable (gamOf_nil _)) (lamOf_cons (atlasref23_rise.q0.ok k) (lamOf_nil _ _)) (args' := [(.vt (.pair (.int .u32) (.pair (.int .u32) (.pair (.pair .bool (.pair .bool (.pair .bool .unit))) (.pair (.vec (.int .u8)) .unit)))) x0)]) (RefsL.cons (vtO_refs e0) RefsL.nil) hrun
    simp only [Option.some.injEq] at e
    subst e
    exact ⟨_, hK, hs⟩
  · cases h
/-! ### atlas/atlasref23.start: function 30 -/
def atlasref23_start.q0.h : Head ((List (Int × Int × (Bool × Bool × Bool × Unit) × (List Int) × Unit)) × Int × Int) where
  k γ s F := (sizedN 52 s).bind fun _ => (vtO (.pair (.int .u32) (.pair (.int .u32) (.pair (.pair .bool (.pair .bool (.pair .bool .unit))) (.pair (.vec (.int .u8)) .unit)))) (gt s.tm 0)).bind fun v2 => (intO .u32 (gt s.tm 1)).bind fun v4 => (intO .i64 (gt s.tm 5)).bind fun v6 => (distO []).bind fun _ => F (v2, v4, v6)
  st x := ⟨sparseT [(0, (.vt (.pair (.int .u32) (.pair (.int .u32) (.pair (.pair .bool (.pair .bool (.pair .bool .unit))) (.pair (.vec (.int .u8)) .unit)))) x.1)), (1, (.val (.int .u32 x.2.1))), (5, (.val (.int .i64 x.2.2)))] 52 0, []⟩
  ok γ s F r h := by
    have ⟨_, hz, h⟩ := bs h
    have ⟨v2, h1, h⟩ := bs h
    have ⟨v4, h3, h⟩ := bs h
    have ⟨v6, h5, h⟩ := bs h
    have ⟨_, h7, h⟩ := bs h
    exact ⟨_, h, weak_ren (l := []) (sizedN_ok hz) (distO_ok h7) (LiveR.cons (pV h1) (LiveR.cons (pI h3) (LiveR.cons (pI h5) LiveR.nil))) BlksR.nil⟩

def atlasref23_start.q0.x0 : Head (Bool) where
  k γ s F := (sizedN 52 s).bind fun _ => (boolO (gt s.tm 4)).bind fun v2 => (distO []).bind fun _ => F (v2)
  st x := ⟨sparseT [(4, (.val (.bool x)))] 52 0, []⟩
  ok γ s F r h := by
    have ⟨_, hz, h⟩ := bs h
    have ⟨v2, h1, h⟩ := bs h
    have ⟨_, h3, h⟩ := bs h
    exact ⟨_, h, weak_ren (l := []) (sizedN_ok hz) (distO_ok h3) (LiveR.cons (pB h1) LiveR.nil) BlksR.nil⟩

def atlasref23_start.q0.x1 : Head (Unit) where
  k γ s F := (sizedN 52 s).bind fun _ => (distO []).bind fun _ => F ()
  st x := ⟨sparseT [] 52 0, []⟩
  ok γ s F r h := by
    have ⟨_, hz, h⟩ := bs h
    have ⟨_, h1, h⟩ := bs h
    exact ⟨_, h, weak_ren (l := []) (sizedN_ok hz) (distO_ok h1) LiveR.nil BlksR.nil⟩

def atlasref23_start.q0.t : Tail ((Bool) ⊕ (Unit)) := Tail.or .ret atlasref23_start.q0.x0 (Tail.one (.exit 0) atlasref23_start.q0.x1)
theorem atlasref23_start.q0.np (y : ((Bool) ⊕ (Unit))) (v : AV) : (atlasref23_start.q0.t.out y).1 = .panic v → nomem v = true := fun h => by rcases y with _ | y <;> first | (cases h; done) | (cases h; rfl) | (cases h)
theorem atlasref23_start.q0.nn (y : ((Bool) ⊕ (Unit))) : (atlasref23_start.q0.t.out y).1 ≠ .normal := fun h => by rcases y with _ | y <;> first | (cases h; done) | (cases h; rfl) | (cases h)
def atlasref23_start.q0.l (k : Nat) : Nat → ((List (Int × Int × (Bool × Bool × Bool × Unit) × (List Int) × Unit)) × Int × Int) → Option ((Bool) ⊕ (Unit))
  | 0, _ => none
  | n + 1, x => (bif (decide (x.2.2 < ((x.1.length : Nat) : Int))) then (bif (decide (0 ≤ x.2.2) && decide (x.2.2 < ((x.1.length : Nat) : Int))) then (bif (x.1.getD (x.2.2).toNat (0, 0, (false, false, false, ()), [], ())).2.2.1.2.2.1 then (bif (decide (0 ≤ x.2.2) && decide (x.2.2 < ((x.1.length : Nat) : Int))) then (bif (decide ((IntKind.wrap .u64 x.2.1) ≥ (IntKind.wrap .u64 ((x.1.getD (x.2.2).toNat (0, 0, (false, false, false, ()), [], ())).1)))) then (bif (decide (0 ≤ x.2.2) && decide (x.2.2 < ((x.1.length : Nat) : Int))) then (bif (decide (0 ≤ x.2.2) && decide (x.2.2 < ((x.1.length : Nat) : Int))) then (bif (decide ((IntKind.wrap .u64 ((IntKind.wrap .u64 x.2.1) + 4)) ≤ (IntKind.wrap .u64 ((IntKind.wrap .u64 ((x.1.getD (x.2.2).toNat (0, 0, (false, false, false, ()), [], ())).1)) + (IntKind.wrap .u64 ((x.1.getD (x.2.2).toNat (0, 0, (false, false, false, ()), [], ())).2.1)))))) then (some (Sum.inl true)) else (atlasref23_start.q0.l k n (x.1, x.2.1, (IntKind.wrap .i64 (x.2.2 + 1))))) else none) else none) else (atlasref23_start.q0.l k n (x.1, x.2.1, (IntKind.wrap .i64 (x.2.2 + 1))))) else none) else (atlasref23_start.q0.l k n (x.1, x.2.1, (IntKind.wrap .i64 (x.2.2 + 1))))) else none) else (some (Sum.inr ())))
theorem atlasref23_start.q0.z (k : Nat) (x : ((List (Int × Int × (Bool × Bool × Bool × Unit) × (List Int) × Unit)) × Int × Int)) : atlasref23_start.q0.l k 0 x = none := rfl
theorem atlasref23_start.q0.at : codeAt (bodyOf Try.f30) [false, true, false, true, true] = some (.loop (loopBody (bodyOf Try.f30) [false, true, false, true, true])) := by kernel_rfl
theorem atlasref23_start.q0.goes (k n : Nat) (x : ((List (Int × Int × (Bool × Bool × Bool × Unit) × (List Int) × Unit)) × Int × Int)) : E Try.prog (gamOf []) (lamOf []) (loopBody (bodyOf Try.f30) [false, true, false, true, true]) (false :: [false, true, false, true, true]) (atlasref23_start.q0.h.st x) (contD atlasref23_start.q0.h atlasref23_start.q0.t (atlasref23_start.q0.l k n) some) = atlasref23_start.q0.l k (n + 1) x := by
  kernel_rfl
theorem atlasref23_start.q0.ok_ (k : Nat) : PieceOk Try.prog (bodyOf Try.f30) ⟨[false, true, false, true, true], _, _, atlasref23_start.q0.h, atlasref23_start.q0.t, atlasref23_start.q0.l k k⟩ :=
  piece_loop (gamOf_nil _) (lamOf_nil _ _) mixed atlasref23_start.q0.at atlasref23_start.q0.np atlasref23_start.q0.nn (atlasref23_start.q0.z k) (atlasref23_start.q0.goes k) k
def atlasref23_start.q0.p (k : Nat) : Piece := ⟨[false, true, false, true, true], _, _, atlasref23_start.q0.h, atlasref23_start.q0.t, atlasref23_start.q0.l k k⟩
theorem atlasref23_start.q0.ok (k : Nat) : PieceOk Try.prog (bodyOf Try.f30) (atlasref23_start.q0.p k) := atlasref23_start.q0.ok_ k
def atlasref23_start.f (k : Nat) (x0 : (List (Int × Int × (Bool × Bool × Bool × Unit) × (List Int) × Unit))) (x1 : Int) : Option (Bool) := (bif ((Int.tmod x1 4) != 0) then (some false) else ((atlasref23_start.q0.l k k (x0, x1, 0)).bind fun r1 => (Sum.elim (fun r2 => (some r2)) (fun r3 => (some false)) r1)))
theorem atlasref23_start.run (k : Nat) (x0 : (List (Int × Int × (Bool × Bool × Bool × Unit) × (List Int) × Unit))) (x1 : Int) : runF Try.prog (gamOf []) (lamOf [atlasref23_start.q0.p k]) Try.f30 [(.vt (.pair (.int .u32) (.pair (.int .u32) (.pair (.pair .bool (.pair .bool (.pair .bool .unit))) (.pair (.vec (.int .u8)) .unit)))) x0), (.val (.int .u32 x1))] some = (atlasref23_start.f k x0 x1).bind fun r => some (.ret (.val (.bool r))) := by
  unfold atlasref23_start.f
  try simp only [cond_bind, elim_bind, Option.bind_some, Option.bind_none, Option.bind_assoc, Sum.elim_inl, Sum.elim_inr]
  kernel_rfl
def atlasref23_start.g (k : Nat) : GFun := fun β args K => match args with
  | [a0, a1] => (vtO (.pair (.int .u32) (.pair (.int .u32) (.pair (.pair .bool (.pair .bool (.pair .bool .unit))) (.pair (.vec (.int .u8)) .unit)))) a0).bind fun x0 => (intO .u32 a1).bind fun x1 => (atlasref23_start.f k x0 x1).bind fun r => K (.ret (.val (.bool r)))
  | _ => none
theorem atlasref23_start.callable : callable Try.prog 30 = true := callable_of Try.func30 (by kernel_rfl)
theorem atlasref23_start.ok (k : Nat) : GOk Try.prog 30 (atlasref23_start.g k) := by
  intro β args K r h
  unfold atlasref23_start.g at h
  split at h
  · obtain ⟨x0, e0, h⟩ := bs h
    have ⟨x1, e1, h⟩ := bs h
    obtain ⟨y, hy, hK⟩ := bs h
    have hrun := atlasref23_start.run k x0 x1
    rw [hy] at hrun
    obtain ⟨out, e, hs⟩ := sim_of_run Try.func30 (by kernel_rfl) mixed (gamOf_nil _) (lamOf_cons (atlasref23_start.q0.ok k) (lamOf_nil _ _)) (args' := [(.vt (.pair (.int .u32) (.pair (.int .u32) (.pair (.pair .bool (.pair .bool (.pair .bool .unit))) (.pair (.vec (.int .u8)) .unit)))) x0), (.val (.int .u32 x1))]) (RefsL.cons (vtO_refs e0) (RefsL.cons (Refs.of_eq (intO_eq e1)) RefsL.nil)) hrun
    simp only [Option.some.injEq] at e
    subst e
    exact ⟨_, hK, hs⟩
  · cases h
/-! ### atlas/atlasref23.Right: function 16 -/
def atlasref23_Right.q0.h : Head (Int × Int × (List (Int × Int × (Bool × Bool × Bool × Unit) × (List Int) × Unit)) × (List (ByteArray × Int × Unit))) where
  k γ s F := (sizedN 80 s).bind fun _ => (ptrN 0 (gt s.tm 1)).bind fun b2 => (intO .i64 (gt s.tm 3)).bind fun v4 => (rowN 26 3 s.hp b2).bind fun l6 => (intO .u32 (gt l6 0)).bind fun v8 => (vtO (.pair (.int .u32) (.pair (.int .u32) (.pair (.pair .bool (.pair .bool (.pair .bool .unit))) (.pair (.vec (.int .u8)) .unit)))) (gt l6 1)).bind fun v10 => (vtO (.pair .str (.pair (.int .u32) .unit)) (gt l6 2)).bind fun v12 => (distO [some b2]).bind fun _ => F (v4, v8, v10, v12)
  st x := ⟨sparseT [(1, (.ptr 0 0)), (3, (.val (.int .i64 x.1)))] 80 0, [.row [(.val (.int .u32 x.2.1)), (.vt (.pair (.int .u32) (.pair (.int .u32) (.pair (.pair .bool (.pair .bool (.pair .bool .unit))) (.pair (.vec (.int .u8)) .unit)))) x.2.2.1), (.vt (.pair .str (.pair (.int .u32) .unit)) x.2.2.2)] 26 true]⟩
  ok γ s F r h := by
    have ⟨_, hz, h⟩ := bs h
    have ⟨b2, h1, h⟩ := bs h
    have ⟨v4, h3, h⟩ := bs h
    have ⟨l6, h5, h⟩ := bs h
    have ⟨v8, h7, h⟩ := bs h
    have ⟨v10, h9, h⟩ := bs h
    have ⟨v12, h11, h⟩ := bs h
    have ⟨_, h13, h⟩ := bs h
    exact ⟨_, h, weak_ren (l := [some b2]) (sizedN_ok hz) (distO_ok h13) (LiveR.cons (RefsR.ptr (l := [some b2]) (i := 0) rfl (ptrN_eq h1)) (LiveR.cons (pI h3) LiveR.nil)) (BlksR.cons (rowN_refs h5 rfl (GtRefsR.cons (pI h7) (GtRefsR.cons (pV h9) (GtRefsR.cons (pV h11) GtRefsR.nil))) rfl) BlksR.nil)⟩

def atlasref23_Right.q0.x0 : Head (Bool) where
  k γ s F := (sizedN 80 s).bind fun _ => (boolO (gt s.tm 2)).bind fun v2 => (distO []).bind fun _ => F (v2)
  st x := ⟨sparseT [(2, (.val (.bool x)))] 80 0, []⟩
  ok γ s F r h := by
    have ⟨_, hz, h⟩ := bs h
    have ⟨v2, h1, h⟩ := bs h
    have ⟨_, h3, h⟩ := bs h
    exact ⟨_, h, weak_ren (l := []) (sizedN_ok hz) (distO_ok h3) (LiveR.cons (pB h1) LiveR.nil) BlksR.nil⟩

def atlasref23_Right.q0.x1 : Head (Int × (List (Int × Int × (Bool × Bool × Bool × Unit) × (List Int) × Unit)) × (List (ByteArray × Int × Unit))) where
  k γ s F := (sizedN 80 s).bind fun _ => (ptrN 0 (gt s.tm 1)).bind fun b2 => (rowN 26 3 s.hp b2).bind fun l4 => (intO .u32 (gt l4 0)).bind fun v6 => (vtO (.pair (.int .u32) (.pair (.int .u32) (.pair (.pair .bool (.pair .bool (.pair .bool .unit))) (.pair (.vec (.int .u8)) .unit)))) (gt l4 1)).bind fun v8 => (vtO (.pair .str (.pair (.int .u32) .unit)) (gt l4 2)).bind fun v10 => (distO [some b2]).bind fun _ => F (v6, v8, v10)
  st x := ⟨sparseT [(1, (.ptr 0 0))] 80 0, [.row [(.val (.int .u32 x.1)), (.vt (.pair (.int .u32) (.pair (.int .u32) (.pair (.pair .bool (.pair .bool (.pair .bool .unit))) (.pair (.vec (.int .u8)) .unit)))) x.2.1), (.vt (.pair .str (.pair (.int .u32) .unit)) x.2.2)] 26 true]⟩
  ok γ s F r h := by
    have ⟨_, hz, h⟩ := bs h
    have ⟨b2, h1, h⟩ := bs h
    have ⟨l4, h3, h⟩ := bs h
    have ⟨v6, h5, h⟩ := bs h
    have ⟨v8, h7, h⟩ := bs h
    have ⟨v10, h9, h⟩ := bs h
    have ⟨_, h11, h⟩ := bs h
    exact ⟨_, h, weak_ren (l := [some b2]) (sizedN_ok hz) (distO_ok h11) (LiveR.cons (RefsR.ptr (l := [some b2]) (i := 0) rfl (ptrN_eq h1)) LiveR.nil) (BlksR.cons (rowN_refs h3 rfl (GtRefsR.cons (pI h5) (GtRefsR.cons (pV h7) (GtRefsR.cons (pV h9) GtRefsR.nil))) rfl) BlksR.nil)⟩

def atlasref23_Right.q0.t : Tail ((Bool) ⊕ (Int × (List (Int × Int × (Bool × Bool × Bool × Unit) × (List Int) × Unit)) × (List (ByteArray × Int × Unit)))) := Tail.or .ret atlasref23_Right.q0.x0 (Tail.one (.exit 0) atlasref23_Right.q0.x1)
theorem atlasref23_Right.q0.np (y : ((Bool) ⊕ (Int × (List (Int × Int × (Bool × Bool × Bool × Unit) × (List Int) × Unit)) × (List (ByteArray × Int × Unit))))) (v : AV) : (atlasref23_Right.q0.t.out y).1 = .panic v → nomem v = true := fun h => by rcases y with _ | y <;> first | (cases h; done) | (cases h; rfl) | (cases h)
theorem atlasref23_Right.q0.nn (y : ((Bool) ⊕ (Int × (List (Int × Int × (Bool × Bool × Bool × Unit) × (List Int) × Unit)) × (List (ByteArray × Int × Unit))))) : (atlasref23_Right.q0.t.out y).1 ≠ .normal := fun h => by rcases y with _ | y <;> first | (cases h; done) | (cases h; rfl) | (cases h)
def atlasref23_Right.q0.l (k : Nat) : Nat → (Int × Int × (List (Int × Int × (Bool × Bool × Bool × Unit) × (List Int) × Unit)) × (List (ByteArray × Int × Unit))) → Option ((Bool) ⊕ (Int × (List (Int × Int × (Bool × Bool × Bool × Unit) × (List Int) × Unit)) × (List (ByteArray × Int × Unit))))
  | 0, _ => none
  | n + 1, x => (bif (decide (x.1 < ((x.2.2.1.length : Nat) : Int))) then (bif (decide (0 ≤ x.1) && decide (x.1 < ((x.2.2.1.length : Nat) : Int))) then ((atlasref23_segment.f k (⟨(x.2.2.1.getD (x.1).toNat (0, 0, (false, false, false, ()), [], ())).1, (x.2.2.1.getD (x.1).toNat (0, 0, (false, false, false, ()), [], ())).2.1, (x.2.2.1.getD (x.1).toNat (0, 0, (false, false, false, ()), [], ())).2.2.1.1, (x.2.2.1.getD (x.1).toNat (0, 0, (false, false, false, ()), [], ())).2.2.1.2.1, (x.2.2.1.getD (x.1).toNat (0, 0, (false, false, false, ()), [], ())).2.2.1.2.2.1, (x.2.2.1.getD (x.1).toNat (0, 0, (false, false, false, ()), [], ())).2.2.2.1⟩ : T45)).bind fun r1 => (bif (!r1) then (some (Sum.inl false)) else (atlasref23_Right.q0.l k n ((IntKind.wrap .i64 (x.1 + 1)), x.2.1, x.2.2.1, x.2.2.2)))) else none) else (some (Sum.inr (x.2.1, x.2.2.1, x.2.2.2))))
theorem atlasref23_Right.q0.z (k : Nat) (x : (Int × Int × (List (Int × Int × (Bool × Bool × Bool × Unit) × (List Int) × Unit)) × (List (ByteArray × Int × Unit)))) : atlasref23_Right.q0.l k 0 x = none := rfl
theorem atlasref23_Right.q0.at : codeAt (bodyOf Try.f16) [false, true, false, true, true] = some (.loop (loopBody (bodyOf Try.f16) [false, true, false, true, true])) := by kernel_rfl
theorem atlasref23_Right.q0.goes (k n : Nat) (x : (Int × Int × (List (Int × Int × (Bool × Bool × Bool × Unit) × (List Int) × Unit)) × (List (ByteArray × Int × Unit)))) : E Try.prog (gamOf [(27, atlasref23_segment.g k)]) (lamOf []) (loopBody (bodyOf Try.f16) [false, true, false, true, true]) (false :: [false, true, false, true, true]) (atlasref23_Right.q0.h.st x) (contD atlasref23_Right.q0.h atlasref23_Right.q0.t (atlasref23_Right.q0.l k n) some) = atlasref23_Right.q0.l k (n + 1) x := by
  kernel_rfl
theorem atlasref23_Right.q0.ok_ (k : Nat) : PieceOk Try.prog (bodyOf Try.f16) ⟨[false, true, false, true, true], _, _, atlasref23_Right.q0.h, atlasref23_Right.q0.t, atlasref23_Right.q0.l k k⟩ :=
  piece_loop (gamOf_cons (atlasref23_segment.ok k) atlasref23_segment.callable (gamOf_nil _)) (lamOf_nil _ _) mixed atlasref23_Right.q0.at atlasref23_Right.q0.np atlasref23_Right.q0.nn (atlasref23_Right.q0.z k) (atlasref23_Right.q0.goes k) k
def atlasref23_Right.q0.p (k : Nat) : Piece := ⟨[false, true, false, true, true], _, _, atlasref23_Right.q0.h, atlasref23_Right.q0.t, atlasref23_Right.q0.l k k⟩
theorem atlasref23_Right.q0.ok (k : Nat) : PieceOk Try.prog (bodyOf Try.f16) (atlasref23_Right.q0.p k) := atlasref23_Right.q0.ok_ k
def atlasref23_Right.q1.h : Head (Int × Int × (List (Int × Int × (Bool × Bool × Bool × Unit) × (List Int) × Unit)) × (List (ByteArray × Int × Unit))) where
  k γ s F := (sizedN 80 s).bind fun _ => (ptrN 0 (gt s.tm 1)).bind fun b2 => (intO .i64 (gt s.tm 4)).bind fun v4 => (rowN 26 3 s.hp b2).bind fun l6 => (intO .u32 (gt l6 0)).bind fun v8 => (vtO (.pair (.int .u32) (.pair (.int .u32) (.pair (.pair .bool (.pair .bool (.pair .bool .unit))) (.pair (.vec (.int .u8)) .unit)))) (gt l6 1)).bind fun v10 => (vtO (.pair .str (.pair (.int .u32) .unit)) (gt l6 2)).bind fun v12 => (distO [some b2]).bind fun _ => F (v4, v8, v10, v12)
  st x := ⟨sparseT [(1, (.ptr 0 0)), (4, (.val (.int .i64 x.1)))] 80 0, [.row [(.val (.int .u32 x.2.1)), (.vt (.pair (.int .u32) (.pair (.int .u32) (.pair (.pair .bool (.pair .bool (.pair .bool .unit))) (.pair (.vec (.int .u8)) .unit)))) x.2.2.1), (.vt (.pair .str (.pair (.int .u32) .unit)) x.2.2.2)] 26 true]⟩
  ok γ s F r h := by
    have ⟨_, hz, h⟩ := bs h
    have ⟨b2, h1, h⟩ := bs h
    have ⟨v4, h3, h⟩ := bs h
    have ⟨l6, h5, h⟩ := bs h
    have ⟨v8, h7, h⟩ := bs h
    have ⟨v10, h9, h⟩ := bs h
    have ⟨v12, h11, h⟩ := bs h
    have ⟨_, h13, h⟩ := bs h
    exact ⟨_, h, weak_ren (l := [some b2]) (sizedN_ok hz) (distO_ok h13) (LiveR.cons (RefsR.ptr (l := [some b2]) (i := 0) rfl (ptrN_eq h1)) (LiveR.cons (pI h3) LiveR.nil)) (BlksR.cons (rowN_refs h5 rfl (GtRefsR.cons (pI h7) (GtRefsR.cons (pV h9) (GtRefsR.cons (pV h11) GtRefsR.nil))) rfl) BlksR.nil)⟩

def atlasref23_Right.q1.x0 : Head (Bool) where
  k γ s F := (sizedN 80 s).bind fun _ => (boolO (gt s.tm 2)).bind fun v2 => (distO []).bind fun _ => F (v2)
  st x := ⟨sparseT [(2, (.val (.bool x)))] 80 0, []⟩
  ok γ s F r h := by
    have ⟨_, hz, h⟩ := bs h
    have ⟨v2, h1, h⟩ := bs h
    have ⟨_, h3, h⟩ := bs h
    exact ⟨_, h, weak_ren (l := []) (sizedN_ok hz) (distO_ok h3) (LiveR.cons (pB h1) LiveR.nil) BlksR.nil⟩

def atlasref23_Right.q1.x1 : Head (Int × (List (Int × Int × (Bool × Bool × Bool × Unit) × (List Int) × Unit)) × (List (ByteArray × Int × Unit))) where
  k γ s F := (sizedN 80 s).bind fun _ => (ptrN 0 (gt s.tm 1)).bind fun b2 => (rowN 26 3 s.hp b2).bind fun l4 => (intO .u32 (gt l4 0)).bind fun v6 => (vtO (.pair (.int .u32) (.pair (.int .u32) (.pair (.pair .bool (.pair .bool (.pair .bool .unit))) (.pair (.vec (.int .u8)) .unit)))) (gt l4 1)).bind fun v8 => (vtO (.pair .str (.pair (.int .u32) .unit)) (gt l4 2)).bind fun v10 => (distO [some b2]).bind fun _ => F (v6, v8, v10)
  st x := ⟨sparseT [(1, (.ptr 0 0))] 80 0, [.row [(.val (.int .u32 x.1)), (.vt (.pair (.int .u32) (.pair (.int .u32) (.pair (.pair .bool (.pair .bool (.pair .bool .unit))) (.pair (.vec (.int .u8)) .unit)))) x.2.1), (.vt (.pair .str (.pair (.int .u32) .unit)) x.2.2)] 26 true]⟩
  ok γ s F r h := by
    have ⟨_, hz, h⟩ := bs h
    have ⟨b2, h1, h⟩ := bs h
    have ⟨l4, h3, h⟩ := bs h
    have ⟨v6, h5, h⟩ := bs h
    have ⟨v8, h7, h⟩ := bs h
    have ⟨v10, h9, h⟩ := bs h
    have ⟨_, h11, h⟩ := bs h
    exact ⟨_, h, weak_ren (l := [some b2]) (sizedN_ok hz) (distO_ok h11) (LiveR.cons (RefsR.ptr (l := [some b2]) (i := 0) rfl (ptrN_eq h1)) LiveR.nil) (BlksR.cons (rowN_refs h3 rfl (GtRefsR.cons (pI h5) (GtRefsR.cons (pV h7) (GtRefsR.cons (pV h9) GtRefsR.nil))) rfl) BlksR.nil)⟩

def atlasref23_Right.q1.t : Tail ((Bool) ⊕ (Int × (List (Int × Int × (Bool × Bool × Bool × Unit) × (List Int) × Unit)) × (List (ByteArray × Int × Unit)))) := Tail.or .ret atlasref23_Right.q1.x0 (Tail.one (.exit 2) atlasref23_Right.q1.x1)
theorem atlasref23_Right.q1.np (y : ((Bool) ⊕ (Int × (List (Int × Int × (Bool × Bool × Bool × Unit) × (List Int) × Unit)) × (List (ByteArray × Int × Unit))))) (v : AV) : (atlasref23_Right.q1.t.out y).1 = .panic v → nomem v = true := fun h => by rcases y with _ | y <;> first | (cases h; done) | (cases h; rfl) | (cases h)
theorem atlasref23_Right.q1.nn (y : ((Bool) ⊕ (Int × (List (Int × Int × (Bool × Bool × Bool × Unit) × (List Int) × Unit)) × (List (ByteArray × Int × Unit))))) : (atlasref23_Right.q1.t.out y).1 ≠ .normal := fun h => by rcases y with _ | y <;> first | (cases h; done) | (cases h; rfl) | (cases h)
def atlasref23_Right.q1.l (k : Nat) : Nat → (Int × Int × (List (Int × Int × (Bool × Bool × Bool × Unit) × (List Int) × Unit)) × (List (ByteArray × Int × Unit))) → Option ((Bool) ⊕ (Int × (List (Int × Int × (Bool × Bool × Bool × Unit) × (List Int) × Unit)) × (List (ByteArray × Int × Unit))))
  | 0, _ => none
  | n + 1, x => (bif (decide (x.1 < ((x.2.2.2.length : Nat) : Int))) then (bif (decide (0 ≤ x.1) && decide (x.1 ≤ ((x.2.2.2.length : Nat) : Int))) then (bif (decide (0 ≤ x.1) && decide (x.1 < ((x.2.2.2.length : Nat) : Int))) then ((atlasref23_Find.f k (⟨0, ([] : List (Int × Int × (Bool × Bool × Bool × Unit) × (List Int) × Unit)), ((x.2.2.2.drop 0).take ((x.1).toNat - 0))⟩ : T25) ((x.2.2.2.getD (x.1).toNat (ByteArray.empty, 0, ())).1)).bind fun r5 => (bif r5.2 then (some (Sum.inl false)) else (bif (decide (0 ≤ x.1) && decide (x.1 < ((x.2.2.2.length : Nat) : Int))) then ((atlasref01_Name.f k ((x.2.2.2.getD (x.1).toNat (ByteArray.empty, 0, ())).1)).bind fun r6 => (bif (!r6) then (some (Sum.inl false)) else (atlasref23_Right.q1.l k n ((IntKind.wrap .i64 (x.1 + 1)), x.2.1, x.2.2.1, x.2.2.2)))) else none))) else none) else none) else (some (Sum.inr (x.2.1, x.2.2.1, x.2.2.2))))
theorem atlasref23_Right.q1.z (k : Nat) (x : (Int × Int × (List (Int × Int × (Bool × Bool × Bool × Unit) × (List Int) × Unit)) × (List (ByteArray × Int × Unit)))) : atlasref23_Right.q1.l k 0 x = none := rfl
theorem atlasref23_Right.q1.at : codeAt (bodyOf Try.f16) [false, true, false, true, true, true] = some (.loop (loopBody (bodyOf Try.f16) [false, true, false, true, true, true])) := by kernel_rfl
theorem atlasref23_Right.q1.goes (k n : Nat) (x : (Int × Int × (List (Int × Int × (Bool × Bool × Bool × Unit) × (List Int) × Unit)) × (List (ByteArray × Int × Unit)))) : E Try.prog (gamOf [(27, atlasref23_segment.g k), (12, atlasref23_Find.g k), (28, atlasref01_Name.g k)]) (lamOf []) (loopBody (bodyOf Try.f16) [false, true, false, true, true, true]) (false :: [false, true, false, true, true, true]) (atlasref23_Right.q1.h.st x) (contD atlasref23_Right.q1.h atlasref23_Right.q1.t (atlasref23_Right.q1.l k n) some) = atlasref23_Right.q1.l k (n + 1) x := by
  kernel_rfl
theorem atlasref23_Right.q1.ok_ (k : Nat) : PieceOk Try.prog (bodyOf Try.f16) ⟨[false, true, false, true, true, true], _, _, atlasref23_Right.q1.h, atlasref23_Right.q1.t, atlasref23_Right.q1.l k k⟩ :=
  piece_loop (gamOf_cons (atlasref23_segment.ok k) atlasref23_segment.callable (gamOf_cons (atlasref23_Find.ok k) atlasref23_Find.callable (gamOf_cons (atlasref01_Name.ok k) atlasref01_Name.callable (gamOf_nil _)))) (lamOf_nil _ _) mixed atlasref23_Right.q1.at atlasref23_Right.q1.np atlasref23_Right.q1.nn (atlasref23_Right.q1.z k) (atlasref23_Right.q1.goes k) k
def atlasref23_Right.q1.p (k : Nat) : Piece := ⟨[false, true, false, true, true, true], _, _, atlasref23_Right.q1.h, atlasref23_Right.q1.t, atlasref23_Right.q1.l k k⟩
theorem atlasref23_Right.q1.ok (k : Nat) : PieceOk Try.prog (bodyOf Try.f16) (atlasref23_Right.q1.p k) := atlasref23_Right.q1.ok_ k
def atlasref23_Right.f (k : Nat) (x0 : T25) : Option (Bool) := (bif (decide (((x0.f1_Segments.length : Nat) : Int) < 1)) then (some false) else (bif (decide (((x0.f1_Segments.length : Nat) : Int) > 16)) then (some false) else (bif (decide (((x0.f2_Symbols.length : Nat) : Int) > 1024)) then (some false) else ((atlasref23_Right.q0.l k k (0, x0.f0_Entry, x0.f1_Segments, x0.f2_Symbols)).bind fun r2 => (Sum.elim (fun r3 => (some r3)) (fun r4 => ((atlasref23_Right.q1.l k k (0, r4.1, r4.2.1, r4.2.2)).bind fun r7 => (Sum.elim (fun r8 => (some r8)) (fun r9 => ((atlasref23_rise.f k r9.2.1).bind fun r10 => (bif r10 then ((atlasref23_start.f k r9.2.1 r9.1).bind fun r11 => (some r11)) else (some false)))) r7))) r2)))))
theorem atlasref23_Right.run (k : Nat) (x0 : T25) : runF Try.prog (gamOf [(27, atlasref23_segment.g k), (12, atlasref23_Find.g k), (28, atlasref01_Name.g k), (29, atlasref23_rise.g k), (30, atlasref23_start.g k)]) (lamOf [atlasref23_Right.q0.p k, atlasref23_Right.q1.p k]) Try.f16 [(T25.av x0)] some = (atlasref23_Right.f k x0).bind fun r => some (.ret (.val (.bool r))) := by
  unfold atlasref23_Right.f
  try simp only [cond_bind, elim_bind, Option.bind_some, Option.bind_none, Option.bind_assoc, Sum.elim_inl, Sum.elim_inr]
  kernel_rfl
def atlasref23_Right.g (k : Nat) : GFun := fun β args K => match args with
  | [a0] => (T25.of a0).bind fun x0 => (atlasref23_Right.f k x0).bind fun r => K (.ret (.val (.bool r)))
  | _ => none
theorem atlasref23_Right.callable : callable Try.prog 16 = true := callable_of Try.func16 (by kernel_rfl)
theorem atlasref23_Right.ok (k : Nat) : GOk Try.prog 16 (atlasref23_Right.g k) := by
  intro β args K r h
  unfold atlasref23_Right.g at h
  split at h
  · obtain ⟨x0, e0, h⟩ := bs h
    obtain ⟨y, hy, hK⟩ := bs h
    have hrun := atlasref23_Right.run k x0
    rw [hy] at hrun
    obtain ⟨out, e, hs⟩ := sim_of_run Try.func16 (by kernel_rfl) mixed (gamOf_cons (atlasref23_segment.ok k) atlasref23_segment.callable (gamOf_cons (atlasref23_Find.ok k) atlasref23_Find.callable (gamOf_cons (atlasref01_Name.ok k) atlasref01_Name.callable (gamOf_cons (atlasref23_rise.ok k) atlasref23_rise.callable (gamOf_cons (atlasref23_start.ok k) atlasref23_start.callable (gamOf_nil _)))))) (lamOf_cons (atlasref23_Right.q0.ok k) (lamOf_cons (atlasref23_Right.q1.ok k) (lamOf_nil _ _))) (args' := [(T25.av x0)]) (RefsL.cons (T25.refs e0) RefsL.nil) hrun
    simp only [Option.some.injEq] at e
    subst e
    exact ⟨_, hK, hs⟩
  · cases h
/-! ### atlas/atlasref23.places: function 37 -/
def atlasref23_places.q0.h : Head (Int × Int × Int × (List (Int × Int × (Bool × Bool × Bool × Unit) × (List Int) × Unit)) × (List (ByteArray × Int × Unit)) × (List Int)) where
  k γ s F := (sizedN 46 s).bind fun _ => (ptrN 0 (gt s.tm 1)).bind fun b2 => (soN 1 s.hp (gt s.tm 4)).bind fun b4 => (intO .u64 (gt s.tm 5)).bind fun v6 => (intO .i64 (gt s.tm 6)).bind fun v8 => (rowN 26 3 s.hp b2).bind fun l10 => (intO .u32 (gt l10 0)).bind fun v12 => (vtO (.pair (.int .u32) (.pair (.int .u32) (.pair (.pair .bool (.pair .bool (.pair .bool .unit))) (.pair (.vec (.int .u8)) .unit)))) (gt l10 1)).bind fun v14 => (vtO (.pair .str (.pair (.int .u32) .unit)) (gt l10 2)).bind fun v16 => (rtN (.int .u64) 57 s.hp b4).bind fun v18 => (distO [some b2, b4]).bind fun _ => F (v6, v8, v12, v14, v16, v18)
  st x := ⟨sparseT [(1, (.ptr 0 0)), (4, (.so 1 1)), (5, (.val (.int .u64 x.1))), (6, (.val (.int .i64 x.2.1)))] 46 0, [.row [(.val (.int .u32 x.2.2.1)), (.vt (.pair (.int .u32) (.pair (.int .u32) (.pair (.pair .bool (.pair .bool (.pair .bool .unit))) (.pair (.vec (.int .u8)) .unit)))) x.2.2.2.1), (.vt (.pair .str (.pair (.int .u32) .unit)) x.2.2.2.2.1)] 26 true, .rt (.int .u64) x.2.2.2.2.2 57]⟩
  ok γ s F r h := by
    have ⟨_, hz, h⟩ := bs h
    have ⟨b2, h1, h⟩ := bs h
    have ⟨b4, h3, h⟩ := bs h
    have ⟨v6, h5, h⟩ := bs h
    have ⟨v8, h7, h⟩ := bs h
    have ⟨l10, h9, h⟩ := bs h
    have ⟨v12, h11, h⟩ := bs h
    have ⟨v14, h13, h⟩ := bs h
    have ⟨v16, h15, h⟩ := bs h
    have ⟨v18, h17, h⟩ := bs h
    have ⟨_, h19, h⟩ := bs h
    exact ⟨_, h, weak_ren (l := [some b2, b4]) (sizedN_ok hz) (distO_ok h19) (LiveR.cons (RefsR.ptr (l := [some b2, b4]) (i := 0) rfl (ptrN_eq h1)) (LiveR.cons (RefsR.so (l := [some b2, b4]) (i := 1) rfl (Nat.le_of_ble_eq_true rfl) h3) (LiveR.cons (pI h5) (LiveR.cons (pI h7) LiveR.nil)))) (BlksR.cons (rowN_refs h9 rfl (GtRefsR.cons (pI h11) (GtRefsR.cons (pV h13) (GtRefsR.cons (pV h15) GtRefsR.nil))) rfl) (BlksR.cons (rtN_blk h17) BlksR.nil))⟩

def atlasref23_places.q0.x0 : Head (Int × (List Int)) where
  k γ s F := (sizedN 46 s).bind fun _ => (soN 1 s.hp (gt s.tm 4)).bind fun b2 => (intO .u64 (gt s.tm 5)).bind fun v4 => (rtN (.int .u64) 57 s.hp b2).bind fun v6 => (distO [b2]).bind fun _ => F (v4, v6)
  st x := ⟨sparseT [(4, (.so 0 1)), (5, (.val (.int .u64 x.1)))] 46 0, [.rt (.int .u64) x.2 57]⟩
  ok γ s F r h := by
    have ⟨_, hz, h⟩ := bs h
    have ⟨b2, h1, h⟩ := bs h
    have ⟨v4, h3, h⟩ := bs h
    have ⟨v6, h5, h⟩ := bs h
    have ⟨_, h7, h⟩ := bs h
    exact ⟨_, h, weak_ren (l := [b2]) (sizedN_ok hz) (distO_ok h7) (LiveR.cons (RefsR.so (l := [b2]) (i := 0) rfl (Nat.le_of_ble_eq_true rfl) h1) (LiveR.cons (pI h3) LiveR.nil)) (BlksR.cons (rtN_blk h5) BlksR.nil)⟩

def atlasref23_places.q0.t : Tail (Int × (List Int)) := Tail.one (.exit 0) atlasref23_places.q0.x0
theorem atlasref23_places.q0.np (y : (Int × (List Int))) (v : AV) : (atlasref23_places.q0.t.out y).1 = .panic v → nomem v = true := fun h => by cases h
theorem atlasref23_places.q0.nn (y : (Int × (List Int))) : (atlasref23_places.q0.t.out y).1 ≠ .normal := fun h => by cases h
def atlasref23_places.q0.l (k : Nat) : Nat → (Int × Int × Int × (List (Int × Int × (Bool × Bool × Bool × Unit) × (List Int) × Unit)) × (List (ByteArray × Int × Unit)) × (List Int)) → Option (Int × (List Int))
  | 0, _ => none
  | n + 1, x => (bif (decide (x.2.1 < ((x.2.2.2.1.length : Nat) : Int))) then (bif (decide ((x.2.2.2.2.2 ++ ([(IntKind.wrap .u64 ((IntKind.wrap .u64 (Int.tdiv (IntKind.wrap .u64 ((IntKind.wrap .u64 (x.1 + 4096)) - 1)) 4096)) * 4096))] : List Int)).length ≤ maxLen) && decide ((x.2.2.2.2.2 ++ ([(IntKind.wrap .u64 ((IntKind.wrap .u64 (Int.tdiv (IntKind.wrap .u64 ((IntKind.wrap .u64 (x.1 + 4096)) - 1)) 4096)) * 4096))] : List Int)).length * 8 ≤ 211106232532992)) then (bif (decide (0 ≤ x.2.1) && decide (x.2.1 < ((x.2.2.2.1.length : Nat) : Int))) then (bif (decide ((IntKind.wrap .u64 ((((x.2.2.2.1.getD (x.2.1).toNat (0, 0, (false, false, false, ()), [], ())).2.2.2.1).length : Nat) : Int)) > 0)) then (atlasref23_places.q0.l k n ((IntKind.wrap .u64 ((IntKind.wrap .u64 ((IntKind.wrap .u64 (Int.tdiv (IntKind.wrap .u64 ((IntKind.wrap .u64 (x.1 + 4096)) - 1)) 4096)) * 4096)) + (IntKind.wrap .u64 ((((x.2.2.2.1.getD (x.2.1).toNat (0, 0, (false, false, false, ()), [], ())).2.2.2.1).length : Nat) : Int)))), (IntKind.wrap .i64 (x.2.1 + 1)), x.2.2.1, x.2.2.2.1, x.2.2.2.2.1, (x.2.2.2.2.2 ++ ([(IntKind.wrap .u64 ((IntKind.wrap .u64 (Int.tdiv (IntKind.wrap .u64 ((IntKind.wrap .u64 (x.1 + 4096)) - 1)) 4096)) * 4096))] : List Int)))) else (atlasref23_places.q0.l k n (x.1, (IntKind.wrap .i64 (x.2.1 + 1)), x.2.2.1, x.2.2.2.1, x.2.2.2.2.1, (x.2.2.2.2.2 ++ ([(IntKind.wrap .u64 ((IntKind.wrap .u64 (Int.tdiv (IntKind.wrap .u64 ((IntKind.wrap .u64 (x.1 + 4096)) - 1)) 4096)) * 4096))] : List Int))))) else none) else none) else (some (x.1, x.2.2.2.2.2)))
theorem atlasref23_places.q0.z (k : Nat) (x : (Int × Int × Int × (List (Int × Int × (Bool × Bool × Bool × Unit) × (List Int) × Unit)) × (List (ByteArray × Int × Unit)) × (List Int))) : atlasref23_places.q0.l k 0 x = none := rfl
theorem atlasref23_places.q0.at : codeAt (bodyOf Try.f37) [false, true, false, true, true, true] = some (.loop (loopBody (bodyOf Try.f37) [false, true, false, true, true, true])) := by kernel_rfl
theorem atlasref23_places.q0.goes (k n : Nat) (x : (Int × Int × Int × (List (Int × Int × (Bool × Bool × Bool × Unit) × (List Int) × Unit)) × (List (ByteArray × Int × Unit)) × (List Int))) : E Try.prog (gamOf []) (lamOf []) (loopBody (bodyOf Try.f37) [false, true, false, true, true, true]) (false :: [false, true, false, true, true, true]) (atlasref23_places.q0.h.st x) (contD atlasref23_places.q0.h atlasref23_places.q0.t (atlasref23_places.q0.l k n) some) = atlasref23_places.q0.l k (n + 1) x := by
  kernel_rfl
theorem atlasref23_places.q0.ok_ (k : Nat) : PieceOk Try.prog (bodyOf Try.f37) ⟨[false, true, false, true, true, true], _, _, atlasref23_places.q0.h, atlasref23_places.q0.t, atlasref23_places.q0.l k k⟩ :=
  piece_loop (gamOf_nil _) (lamOf_nil _ _) mixed atlasref23_places.q0.at atlasref23_places.q0.np atlasref23_places.q0.nn (atlasref23_places.q0.z k) (atlasref23_places.q0.goes k) k
def atlasref23_places.q0.p (k : Nat) : Piece := ⟨[false, true, false, true, true, true], _, _, atlasref23_places.q0.h, atlasref23_places.q0.t, atlasref23_places.q0.l k k⟩
theorem atlasref23_places.q0.ok (k : Nat) : PieceOk Try.prog (bodyOf Try.f37) (atlasref23_places.q0.p k) := atlasref23_places.q0.ok_ k
def atlasref23_places.f (k : Nat) (x0 : T25) : Option ((List Int) × Int) := ((atlasref23_places.q0.l k k ((IntKind.wrap .u64 (IntKind.wrap .i64 (52 + (IntKind.wrap .i64 (32 * ((x0.f1_Segments.length : Nat) : Int)))))), 0, x0.f0_Entry, x0.f1_Segments, x0.f2_Symbols, ([] : List Int))).bind fun r1 => (some (r1.2, r1.1)))
theorem atlasref23_places.run (k : Nat) (x0 : T25) : runF Try.prog (gamOf []) (lamOf [atlasref23_places.q0.p k]) Try.f37 [(T25.av x0)] some = (atlasref23_places.f k x0).bind fun r => some (.ret (.tup [(.vt (.int .u64) r.1), (.val (.int .u64 r.2))])) := by
  unfold atlasref23_places.f
  try simp only [cond_bind, elim_bind, Option.bind_some, Option.bind_none, Option.bind_assoc, Sum.elim_inl, Sum.elim_inr]
  kernel_rfl
def atlasref23_places.g (k : Nat) : GFun := fun β args K => match args with
  | [a0] => (T25.of a0).bind fun x0 => (atlasref23_places.f k x0).bind fun r => K (.ret (.tup [(.vt (.int .u64) r.1), (.val (.int .u64 r.2))]))
  | _ => none
theorem atlasref23_places.callable : callable Try.prog 37 = true := callable_of Try.func37 (by kernel_rfl)
theorem atlasref23_places.ok (k : Nat) : GOk Try.prog 37 (atlasref23_places.g k) := by
  intro β args K r h
  unfold atlasref23_places.g at h
  split at h
  · obtain ⟨x0, e0, h⟩ := bs h
    obtain ⟨y, hy, hK⟩ := bs h
    have hrun := atlasref23_places.run k x0
    rw [hy] at hrun
    obtain ⟨out, e, hs⟩ := sim_of_run Try.func37 (by kernel_rfl) mixed (gamOf_nil _) (lamOf_cons (atlasref23_places.q0.ok k) (lamOf_nil _ _)) (args' := [(T25.av x0)]) (RefsL.cons (T25.refs e0) RefsL.nil) hrun
    simp only [Option.some.injEq] at e
    subst e
    exact ⟨_, hK, hs⟩
  · cases h
/-! ### (*atlas/atlasref23.File).lay: function 38, which writes through its first argument -/
def atlasref23_File_lay.q0.h : Head (Int × Int × Int × (List Int)) where
  k γ s F := (sizedN 25 s).bind fun _ => (ppN 0 (gt s.tm 0)).bind fun b2 => (intO .i64 (gt s.tm 1)).bind fun v4 => (intO .u64 (gt s.tm 2)).bind fun v6 => (intO .i64 (gt s.tm 6)).bind fun v8 => (rowN 71 1 s.hp b2).bind fun l10 => (soN 1 s.hp (gt l10 0)).bind fun b12 => (rtN (.int .u8) 5 s.hp b12).bind fun v14 => (distO [some b2, b12]).bind fun _ => F (v4, v6, v8, v14)
  st x := ⟨sparseT [(0, (.pp 0 0)), (1, (.val (.int .i64 x.1))), (2, (.val (.int .u64 x.2.1))), (6, (.val (.int .i64 x.2.2.1)))] 25 0, [.row [(.so 1 1)] 71 false, .rt (.int .u8) x.2.2.2 5]⟩
  ok γ s F r h := by
    have ⟨_, hz, h⟩ := bs h
    have ⟨b2, h1, h⟩ := bs h
    have ⟨v4, h3, h⟩ := bs h
    have ⟨v6, h5, h⟩ := bs h
    have ⟨v8, h7, h⟩ := bs h
    have ⟨l10, h9, h⟩ := bs h
    have ⟨b12, h11, h⟩ := bs h
    have ⟨v14, h13, h⟩ := bs h
    have ⟨_, h15, h⟩ := bs h
    exact ⟨_, h, weak_ren (l := [some b2, b12]) (sizedN_ok hz) (distO_ok h15) (LiveR.cons (RefsR.pp (l := [some b2, b12]) (i := 0) rfl (ppN_eq h1)) (LiveR.cons (pI h3) (LiveR.cons (pI h5) (LiveR.cons (pI h7) LiveR.nil)))) (BlksR.cons (rowN_refs h9 rfl (GtRefsR.cons (RefsR.so (l := [some b2, b12]) (i := 1) rfl (Nat.le_of_ble_eq_true rfl) h11) GtRefsR.nil) rfl) (BlksR.cons (rtN_blk h13) BlksR.nil))⟩

def atlasref23_File_lay.q0.x0 : Head ((List Int)) where
  k γ s F := (sizedN 25 s).bind fun _ => (ppN 0 (gt s.tm 0)).bind fun b2 => (rowN 71 1 s.hp b2).bind fun l4 => (soN 1 s.hp (gt l4 0)).bind fun b6 => (rtN (.int .u8) 5 s.hp b6).bind fun v8 => (distO [some b2, b6]).bind fun _ => F (v8)
  st x := ⟨sparseT [(0, (.pp 0 0))] 25 0, [.row [(.so 1 1)] 71 false, .rt (.int .u8) x 5]⟩
  ok γ s F r h := by
    have ⟨_, hz, h⟩ := bs h
    have ⟨b2, h1, h⟩ := bs h
    have ⟨l4, h3, h⟩ := bs h
    have ⟨b6, h5, h⟩ := bs h
    have ⟨v8, h7, h⟩ := bs h
    have ⟨_, h9, h⟩ := bs h
    exact ⟨_, h, weak_ren (l := [some b2, b6]) (sizedN_ok hz) (distO_ok h9) (LiveR.cons (RefsR.pp (l := [some b2, b6]) (i := 0) rfl (ppN_eq h1)) LiveR.nil) (BlksR.cons (rowN_refs h3 rfl (GtRefsR.cons (RefsR.so (l := [some b2, b6]) (i := 1) rfl (Nat.le_of_ble_eq_true rfl) h5) GtRefsR.nil) rfl) (BlksR.cons (rtN_blk h7) BlksR.nil))⟩

def atlasref23_File_lay.q0.t : Tail ((List Int)) := Tail.one (.exit 0) atlasref23_File_lay.q0.x0
theorem atlasref23_File_lay.q0.np (y : ((List Int))) (v : AV) : (atlasref23_File_lay.q0.t.out y).1 = .panic v → nomem v = true := fun h => by cases h
theorem atlasref23_File_lay.q0.nn (y : ((List Int))) : (atlasref23_File_lay.q0.t.out y).1 ≠ .normal := fun h => by cases h
def atlasref23_File_lay.q0.l (k : Nat) : Nat → (Int × Int × Int × (List Int)) → Option ((List Int))
  | 0, _ => none
  | n + 1, x => (bif (decide (x.2.2.1 < x.1)) then (bif (decide ((x.2.2.2 ++ ([(IntKind.wrap .u8 x.2.1)] : List Int)).length ≤ maxLen) && decide ((x.2.2.2 ++ ([(IntKind.wrap .u8 x.2.1)] : List Int)).length * 1 ≤ 211106232532992)) then (atlasref23_File_lay.q0.l k n (x.1, (IntKind.wrap .u64 (Int.tdiv x.2.1 256)), (IntKind.wrap .i64 (x.2.2.1 + 1)), (x.2.2.2 ++ ([(IntKind.wrap .u8 x.2.1)] : List Int)))) else none) else (some x.2.2.2))
theorem atlasref23_File_lay.q0.z (k : Nat) (x : (Int × Int × Int × (List Int))) : atlasref23_File_lay.q0.l k 0 x = none := rfl
theorem atlasref23_File_lay.q0.at : codeAt (bodyOf Try.f38) [false, true] = some (.loop (loopBody (bodyOf Try.f38) [false, true])) := by kernel_rfl
theorem atlasref23_File_lay.q0.goes (k n : Nat) (x : (Int × Int × Int × (List Int))) : E Try.prog (gamOf []) (lamOf []) (loopBody (bodyOf Try.f38) [false, true]) (false :: [false, true]) (atlasref23_File_lay.q0.h.st x) (contD atlasref23_File_lay.q0.h atlasref23_File_lay.q0.t (atlasref23_File_lay.q0.l k n) some) = atlasref23_File_lay.q0.l k (n + 1) x := by
  kernel_rfl
theorem atlasref23_File_lay.q0.ok_ (k : Nat) : PieceOk Try.prog (bodyOf Try.f38) ⟨[false, true], _, _, atlasref23_File_lay.q0.h, atlasref23_File_lay.q0.t, atlasref23_File_lay.q0.l k k⟩ :=
  piece_loop (gamOf_nil _) (lamOf_nil _ _) mixed atlasref23_File_lay.q0.at atlasref23_File_lay.q0.np atlasref23_File_lay.q0.nn (atlasref23_File_lay.q0.z k) (atlasref23_File_lay.q0.goes k) k
def atlasref23_File_lay.q0.p (k : Nat) : Piece := ⟨[false, true], _, _, atlasref23_File_lay.q0.h, atlasref23_File_lay.q0.t, atlasref23_File_lay.q0.l k k⟩
theorem atlasref23_File_lay.q0.ok (k : Nat) : PieceOk Try.prog (bodyOf Try.f38) (atlasref23_File_lay.q0.p k) := atlasref23_File_lay.q0.ok_ k
def atlasref23_File_lay.f (k : Nat) (x0 : List Int) (x1 : Int) (x2 : Int) : Option (List Int) := ((atlasref23_File_lay.q0.l k k (x1, x2, 0, x0)).bind fun r1 => (some r1))
def atlasref23_File_lay.x : Head ((List Int)) where
  k γ s F := (sizedN 25 s).bind fun _ => (ppN 0 (gt s.tm 0)).bind fun b2 => (rowN 71 1 s.hp b2).bind fun l4 => (soN 1 s.hp (gt l4 0)).bind fun b6 => (rtN (.int .u8) 5 s.hp b6).bind fun v8 => (distO [some b2, b6]).bind fun _ => F (v8)
  st x := ⟨sparseT [(0, (.pp 0 0))] 25 0, [.row [(.so 1 1)] 71 false, .rt (.int .u8) x 5]⟩
  ok γ s F r h := by
    have ⟨_, hz, h⟩ := bs h
    have ⟨b2, h1, h⟩ := bs h
    have ⟨l4, h3, h⟩ := bs h
    have ⟨b6, h5, h⟩ := bs h
    have ⟨v8, h7, h⟩ := bs h
    have ⟨_, h9, h⟩ := bs h
    exact ⟨_, h, weak_ren (l := [some b2, b6]) (sizedN_ok hz) (distO_ok h9) (LiveR.cons (RefsR.pp (l := [some b2, b6]) (i := 0) rfl (ppN_eq h1)) LiveR.nil) (BlksR.cons (rowN_refs h3 rfl (GtRefsR.cons (RefsR.so (l := [some b2, b6]) (i := 1) rfl (Nat.le_of_ble_eq_true rfl) h5) GtRefsR.nil) rfl) (BlksR.cons (rtN_blk h7) BlksR.nil))⟩

def atlasref23_File_lay.w (k : Nat) : WFun where
  T := 71
  t := 5
  c := (.int .u8)
  α := Int × Int
  rd l := match l with
    | [a0, a1] => (intO .i64 a0).bind fun c0 => (intO .u64 a1).bind fun c1 => some (c0, c1)
    | _ => none
  st a := [(.val (.int .i64 a.1)), (.val (.int .u64 a.2))]
  ok := by
    intro l a h C m vs hc
    split at h
    · obtain ⟨c0, e0, h⟩ := bs h
      obtain ⟨c1, e1, h⟩ := bs h
      simp only [Option.some.injEq] at h
      subst h
      exact RefsL.cells (RefsL.cons (Refs.of_eq (intO_eq e0)) (RefsL.cons (Refs.of_eq (intO_eq e1)) RefsL.nil)) hc
    · cases h
  l x a := atlasref23_File_lay.f k x a.1 a.2
theorem atlasref23_File_lay.run (k : Nat) (x : List Int) (a : (atlasref23_File_lay.w k).α) : E Try.prog (gamOf []) (lamOf [atlasref23_File_lay.q0.p k]) (bodyOf Try.f38) [] (wSt (atlasref23_File_lay.w k) Try.f38 x a) (wK atlasref23_File_lay.x) = atlasref23_File_lay.f k x a.1 a.2 := by
  unfold atlasref23_File_lay.f
  try simp only [cond_bind, elim_bind, Option.bind_some, Option.bind_none, Option.bind_assoc]
  kernel_rfl
theorem atlasref23_File_lay.callable : callable Try.prog 38 = true := callable_of Try.func38 (by kernel_rfl)
theorem atlasref23_File_lay.wok (k : Nat) : WOk Try.prog 38 (atlasref23_File_lay.w k) := wok_of_run Try.func38 (by kernel_rfl) (by kernel_rfl) mixed (gamOf_nil _) (lamOf_cons (atlasref23_File_lay.q0.ok k) (lamOf_nil _ _)) (atlasref23_File_lay.w k) rfl atlasref23_File_lay.x (fun y => ⟨rfl, rfl⟩) (fun x a => atlasref23_File_lay.run k x a)
/-! ### (*atlas/atlasref23.File).words: function 39, which writes through its first argument -/
def atlasref23_File_words.q0.h : Head ((List Int) × Int × (List Int)) where
  k γ s F := (sizedN 17 s).bind fun _ => (ppN 0 (gt s.tm 0)).bind fun b2 => (vtO (.int .u64) (gt s.tm 1)).bind fun v4 => (intO .i64 (gt s.tm 4)).bind fun v6 => (rowN 71 1 s.hp b2).bind fun l8 => (soN 1 s.hp (gt l8 0)).bind fun b10 => (rtN (.int .u8) 5 s.hp b10).bind fun v12 => (distO [some b2, b10]).bind fun _ => F (v4, v6, v12)
  st x := ⟨sparseT [(0, (.pp 0 0)), (1, (.vt (.int .u64) x.1)), (4, (.val (.int .i64 x.2.1)))] 17 0, [.row [(.so 1 1)] 71 false, .rt (.int .u8) x.2.2 5]⟩
  ok γ s F r h := by
    have ⟨_, hz, h⟩ := bs h
    have ⟨b2, h1, h⟩ := bs h
    have ⟨v4, h3, h⟩ := bs h
    have ⟨v6, h5, h⟩ := bs h
    have ⟨l8, h7, h⟩ := bs h
    have ⟨b10, h9, h⟩ := bs h
    have ⟨v12, h11, h⟩ := bs h
    have ⟨_, h13, h⟩ := bs h
    exact ⟨_, h, weak_ren (l := [some b2, b10]) (sizedN_ok hz) (distO_ok h13) (LiveR.cons (RefsR.pp (l := [some b2, b10]) (i := 0) rfl (ppN_eq h1)) (LiveR.cons (pV h3) (LiveR.cons (pI h5) LiveR.nil))) (BlksR.cons (rowN_refs h7 rfl (GtRefsR.cons (RefsR.so (l := [some b2, b10]) (i := 1) rfl (Nat.le_of_ble_eq_true rfl) h9) GtRefsR.nil) rfl) (BlksR.cons (rtN_blk h11) BlksR.nil))⟩

def atlasref23_File_words.q0.x0 : Head ((List Int)) where
  k γ s F := (sizedN 17 s).bind fun _ => (ppN 0 (gt s.tm 0)).bind fun b2 => (rowN 71 1 s.hp b2).bind fun l4 => (soN 1 s.hp (gt l4 0)).bind fun b6 => (rtN (.int .u8) 5 s.hp b6).bind fun v8 => (distO [some b2, b6]).bind fun _ => F (v8)
  st x := ⟨sparseT [(0, (.pp 0 0))] 17 0, [.row [(.so 1 1)] 71 false, .rt (.int .u8) x 5]⟩
  ok γ s F r h := by
    have ⟨_, hz, h⟩ := bs h
    have ⟨b2, h1, h⟩ := bs h
    have ⟨l4, h3, h⟩ := bs h
    have ⟨b6, h5, h⟩ := bs h
    have ⟨v8, h7, h⟩ := bs h
    have ⟨_, h9, h⟩ := bs h
    exact ⟨_, h, weak_ren (l := [some b2, b6]) (sizedN_ok hz) (distO_ok h9) (LiveR.cons (RefsR.pp (l := [some b2, b6]) (i := 0) rfl (ppN_eq h1)) LiveR.nil) (BlksR.cons (rowN_refs h3 rfl (GtRefsR.cons (RefsR.so (l := [some b2, b6]) (i := 1) rfl (Nat.le_of_ble_eq_true rfl) h5) GtRefsR.nil) rfl) (BlksR.cons (rtN_blk h7) BlksR.nil))⟩

def atlasref23_File_words.q0.t : Tail ((List Int)) := Tail.one (.exit 0) atlasref23_File_words.q0.x0
theorem atlasref23_File_words.q0.np (y : ((List Int))) (v : AV) : (atlasref23_File_words.q0.t.out y).1 = .panic v → nomem v = true := fun h => by cases h
theorem atlasref23_File_words.q0.nn (y : ((List Int))) : (atlasref23_File_words.q0.t.out y).1 ≠ .normal := fun h => by cases h
def atlasref23_File_words.q0.l (k : Nat) : Nat → ((List Int) × Int × (List Int)) → Option ((List Int))
  | 0, _ => none
  | n + 1, x => (bif (decide (x.2.1 < ((x.1.length : Nat) : Int))) then (bif (decide (0 ≤ x.2.1) && decide (x.2.1 < ((x.1.length : Nat) : Int))) then ((atlasref23_File_lay.f k x.2.2 4 (x.1.getD (x.2.1).toNat 0)).bind fun r1 => (atlasref23_File_words.q0.l k n (x.1, (IntKind.wrap .i64 (x.2.1 + 1)), r1))) else none) else (some x.2.2))
theorem atlasref23_File_words.q0.z (k : Nat) (x : ((List Int) × Int × (List Int))) : atlasref23_File_words.q0.l k 0 x = none := rfl
theorem atlasref23_File_words.q0.at : codeAt (bodyOf Try.f39) [false, true] = some (.loop (loopBody (bodyOf Try.f39) [false, true])) := by kernel_rfl
theorem atlasref23_File_words.q0.goes (k n : Nat) (x : ((List Int) × Int × (List Int))) : E Try.prog (gamW (gamOf []) [(38, atlasref23_File_lay.w k)]) (lamOf []) (loopBody (bodyOf Try.f39) [false, true]) (false :: [false, true]) (atlasref23_File_words.q0.h.st x) (contD atlasref23_File_words.q0.h atlasref23_File_words.q0.t (atlasref23_File_words.q0.l k n) some) = atlasref23_File_words.q0.l k (n + 1) x := by
  kernel_rfl
theorem atlasref23_File_words.q0.ok_ (k : Nat) : PieceOk Try.prog (bodyOf Try.f39) ⟨[false, true], _, _, atlasref23_File_words.q0.h, atlasref23_File_words.q0.t, atlasref23_File_words.q0.l k k⟩ :=
  piece_loop (gamW_ok (gamOf_nil _) (wsOk_cons (atlasref23_File_lay.wok k) atlasref23_File_lay.callable (wsOk_nil _))) (lamOf_nil _ _) mixed atlasref23_File_words.q0.at atlasref23_File_words.q0.np atlasref23_File_words.q0.nn (atlasref23_File_words.q0.z k) (atlasref23_File_words.q0.goes k) k
def atlasref23_File_words.q0.p (k : Nat) : Piece := ⟨[false, true], _, _, atlasref23_File_words.q0.h, atlasref23_File_words.q0.t, atlasref23_File_words.q0.l k k⟩
theorem atlasref23_File_words.q0.ok (k : Nat) : PieceOk Try.prog (bodyOf Try.f39) (atlasref23_File_words.q0.p k) := atlasref23_File_words.q0.ok_ k
def atlasref23_File_words.f (k : Nat) (x0 : List Int) (x1 : (List Int)) : Option (List Int) := ((atlasref23_File_words.q0.l k k (x1, 0, x0)).bind fun r2 => (some r2))
def atlasref23_File_words.x : Head ((List Int)) where
  k γ s F := (sizedN 17 s).bind fun _ => (ppN 0 (gt s.tm 0)).bind fun b2 => (rowN 71 1 s.hp b2).bind fun l4 => (soN 1 s.hp (gt l4 0)).bind fun b6 => (rtN (.int .u8) 5 s.hp b6).bind fun v8 => (distO [some b2, b6]).bind fun _ => F (v8)
  st x := ⟨sparseT [(0, (.pp 0 0))] 17 0, [.row [(.so 1 1)] 71 false, .rt (.int .u8) x 5]⟩
  ok γ s F r h := by
    have ⟨_, hz, h⟩ := bs h
    have ⟨b2, h1, h⟩ := bs h
    have ⟨l4, h3, h⟩ := bs h
    have ⟨b6, h5, h⟩ := bs h
    have ⟨v8, h7, h⟩ := bs h
    have ⟨_, h9, h⟩ := bs h
    exact ⟨_, h, weak_ren (l := [some b2, b6]) (sizedN_ok hz) (distO_ok h9) (LiveR.cons (RefsR.pp (l := [some b2, b6]) (i := 0) rfl (ppN_eq h1)) LiveR.nil) (BlksR.cons (rowN_refs h3 rfl (GtRefsR.cons (RefsR.so (l := [some b2, b6]) (i := 1) rfl (Nat.le_of_ble_eq_true rfl) h5) GtRefsR.nil) rfl) (BlksR.cons (rtN_blk h7) BlksR.nil))⟩

def atlasref23_File_words.w (k : Nat) : WFun where
  T := 71
  t := 5
  c := (.int .u8)
  α := (List Int)
  rd l := match l with
    | [a0] => (vtO (.int .u64) a0).bind fun c0 => some (c0)
    | _ => none
  st a := [(.vt (.int .u64) a)]
  ok := by
    intro l a h C m vs hc
    split at h
    · obtain ⟨c0, e0, h⟩ := bs h
      simp only [Option.some.injEq] at h
      subst h
      exact RefsL.cells (RefsL.cons (vtO_refs e0) RefsL.nil) hc
    · cases h
  l x a := atlasref23_File_words.f k x a
theorem atlasref23_File_words.run (k : Nat) (x : List Int) (a : (atlasref23_File_words.w k).α) : E Try.prog (gamW (gamOf []) [(38, atlasref23_File_lay.w k)]) (lamOf [atlasref23_File_words.q0.p k]) (bodyOf Try.f39) [] (wSt (atlasref23_File_words.w k) Try.f39 x a) (wK atlasref23_File_words.x) = atlasref23_File_words.f k x a := by
  unfold atlasref23_File_words.f
  try simp only [cond_bind, elim_bind, Option.bind_some, Option.bind_none, Option.bind_assoc]
  kernel_rfl
theorem atlasref23_File_words.callable : callable Try.prog 39 = true := callable_of Try.func39 (by kernel_rfl)
theorem atlasref23_File_words.wok (k : Nat) : WOk Try.prog 39 (atlasref23_File_words.w k) := wok_of_run Try.func39 (by kernel_rfl) (by kernel_rfl) mixed (gamW_ok (gamOf_nil _) (wsOk_cons (atlasref23_File_lay.wok k) atlasref23_File_lay.callable (wsOk_nil _))) (lamOf_cons (atlasref23_File_words.q0.ok k) (lamOf_nil _ _)) (atlasref23_File_words.w k) rfl atlasref23_File_words.x (fun y => ⟨rfl, rfl⟩) (fun x a => atlasref23_File_words.run k x a)
/-! ### atlas/atlasref23.bits: function 40 -/
def atlasref23_bits.f (x0 : T43) : Option (Int) := (bif x0.f0_Read then (bif x0.f1_Write then (bif x0.f2_Exec then (some 7) else (some 6)) else (bif x0.f2_Exec then (some 5) else (some 4))) else (bif x0.f1_Write then (bif x0.f2_Exec then (some 3) else (some 2)) else (bif x0.f2_Exec then (some 1) else (some 0))))
theorem atlasref23_bits.run (x0 : T43) : runF Try.prog (gamOf []) noLam Try.f40 [(T43.av x0)] some = (atlasref23_bits.f x0).bind fun r => some (.ret (.val (.int .u64 r))) := by
  unfold atlasref23_bits.f
  try simp only [cond_bind, elim_bind, Option.bind_some, Option.bind_none, Option.bind_assoc, Sum.elim_inl, Sum.elim_inr]
  kernel_rfl
def atlasref23_bits.g : GFun := fun β args K => match args with
  | [a0] => (T43.of a0).bind fun x0 => (atlasref23_bits.f x0).bind fun r => K (.ret (.val (.int .u64 r)))
  | _ => none
theorem atlasref23_bits.callable : callable Try.prog 40 = true := callable_of Try.func40 (by kernel_rfl)
theorem atlasref23_bits.ok : GOk Try.prog 40 (atlasref23_bits.g) := by
  intro β args K r h
  unfold atlasref23_bits.g at h
  split at h
  · obtain ⟨x0, e0, h⟩ := bs h
    obtain ⟨y, hy, hK⟩ := bs h
    have hrun := atlasref23_bits.run x0
    rw [hy] at hrun
    obtain ⟨out, e, hs⟩ := sim_of_run Try.func40 (by kernel_rfl) mixed (gamOf_nil _) (noLam_ok _ _) (args' := [(T43.av x0)]) (RefsL.cons (T43.refs e0) RefsL.nil) hrun
    simp only [Option.some.injEq] at e
    subst e
    exact ⟨_, hK, hs⟩
  · cases h
end Go.Va
