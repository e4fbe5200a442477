-- Written by a program of this session (wip/va/vaprint.py). Not trusted: Lean checks it.
import Derived.Test.YtmphkmoakamepaaVaTy
set_option linter.unusedVariables false
set_option linter.unusedSimpArgs false
set_option autoImplicit false
set_option maxRecDepth 100000
namespace Go.Va
open Go.Proofs
/-! ### atlas/atlasref23.end: function 62 -/
def atlasref23_end.f (x0 : T45) : Option (Int) := (some (IntKind.wrap .u64 ((IntKind.wrap .u64 (Int.tdiv (IntKind.wrap .u64 ((IntKind.wrap .u64 ((IntKind.wrap .u64 ((IntKind.wrap .u64 x0.f0_VA) + (IntKind.wrap .u64 x0.f1_Size))) + 4096)) - 1)) 4096)) * 4096)))
theorem atlasref23_end.run (x0 : T45) : runF Try.prog (gamOf []) noLam Try.f62 [(T45.av x0)] some = (atlasref23_end.f x0).bind fun r => some (.ret (.val (.int .u64 r))) := by
  unfold atlasref23_end.f
  try simp only [cond_bind, elim_bind, Option.bind_some, Option.bind_none, Option.bind_assoc, Sum.elim_inl, Sum.elim_inr]
  kernel_rfl
def atlasref23_end.g : GFun := fun β args K => match args with
  | [a0] => (T45.of a0).bind fun x0 => (atlasref23_end.f x0).bind fun r => K (.ret (.val (.int .u64 r)))
  | _ => none
theorem atlasref23_end.callable : callable Try.prog 62 = true := callable_of Try.func62 (by kernel_rfl)
theorem atlasref23_end.ok : GOk Try.prog 62 (atlasref23_end.g) := by
  intro β args K r h
  unfold atlasref23_end.g at h
  split at h
  · obtain ⟨x0, e0, h⟩ := Option.bind_eq_some_iff.1 h
    obtain ⟨y, hy, hK⟩ := Option.bind_eq_some_iff.1 h
    have hrun := atlasref23_end.run x0
    rw [hy] at hrun
    obtain ⟨out, e, hs⟩ := sim_of_run Try.func62 (by kernel_rfl) mixed (gamOf_nil _) (noLam_ok _ _) (args' := [(T45.av x0)]) (RefsL.cons (T45.refs e0) RefsL.nil) hrun
    simp only [Option.some.injEq] at e
    subst e
    exact ⟨_, hK, hs⟩
  · cases h
/-! ### atlas/atlasref23.rise: function 29 -/
def atlasref23_rise.q0.h : Head ((List (Int × Int × (Bool × Bool × Bool × Unit) × (List Int) × Unit)) × Int) where
  k γ s F := (sizedN 23 s).bind fun _ => (vtO (.pair (.int .u32) (.pair (.int .u32) (.pair (.pair .bool (.pair .bool (.pair .bool .unit))) (.pair (.vec (.int .u8)) .unit)))) (gt s.tm 0)).bind fun v2 => (intO .i64 (gt s.tm 3)).bind fun v4 => (distO []).bind fun _ => F (v2, v4)
  st x := ⟨sparseT [(0, (.vt (.pair (.int .u32) (.pair (.int .u32) (.pair (.pair .bool (.pair .bool (.pair .bool .unit))) (.pair (.vec (.int .u8)) .unit)))) x.1)), (3, (.val (.int .i64 x.2)))] 23 0, []⟩
  ok γ s F r h := by
    obtain ⟨_, hz, h⟩ := Option.bind_eq_some_iff.1 h
    obtain ⟨v2, h1, h⟩ := Option.bind_eq_some_iff.1 h
    obtain ⟨v4, h3, h⟩ := Option.bind_eq_some_iff.1 h
    obtain ⟨_, h5, h⟩ := Option.bind_eq_some_iff.1 h
    exact ⟨_, h, weak_ren (l := []) (sizedN_ok hz) (distO_ok h5) (LiveR.cons (RefsR.plain (vtO_refs h1) rfl) (LiveR.cons (RefsR.plain (Refs.of_eq (intO_eq h3)) rfl) LiveR.nil)) BlksR.nil⟩

def atlasref23_rise.q0.x0 : Head (Bool) where
  k γ s F := (sizedN 23 s).bind fun _ => (boolO (gt s.tm 2)).bind fun v2 => (distO []).bind fun _ => F (v2)
  st x := ⟨sparseT [(2, (.val (.bool x)))] 23 0, []⟩
  ok γ s F r h := by
    obtain ⟨_, hz, h⟩ := Option.bind_eq_some_iff.1 h
    obtain ⟨v2, h1, h⟩ := Option.bind_eq_some_iff.1 h
    obtain ⟨_, h3, h⟩ := Option.bind_eq_some_iff.1 h
    exact ⟨_, h, weak_ren (l := []) (sizedN_ok hz) (distO_ok h3) (LiveR.cons (RefsR.plain (Refs.of_eq (boolO_eq h1)) rfl) LiveR.nil) BlksR.nil⟩

def atlasref23_rise.q0.x1 : Head (Unit) where
  k γ s F := (sizedN 23 s).bind fun _ => (distO []).bind fun _ => F ()
  st x := ⟨sparseT [] 23 0, []⟩
  ok γ s F r h := by
    obtain ⟨_, hz, h⟩ := Option.bind_eq_some_iff.1 h
    obtain ⟨_, h1, h⟩ := Option.bind_eq_some_iff.1 h
    exact ⟨_, h, weak_ren (l := []) (sizedN_ok hz) (distO_ok h1) LiveR.nil BlksR.nil⟩

def atlasref23_rise.q0.t : Tail ((Bool) ⊕ (Unit)) := Tail.or .ret atlasref23_rise.q0.x0 (Tail.one (.exit 0) atlasref23_rise.q0.x1)
theorem atlasref23_rise.q0.np (y : ((Bool) ⊕ (Unit))) (v : AV) : (atlasref23_rise.q0.t.out y).1 = .panic v → nomem v = true := fun h => by rcases y with _ | y <;> first | (cases h; done) | (cases h; rfl) | (cases h)
theorem atlasref23_rise.q0.nn (y : ((Bool) ⊕ (Unit))) : (atlasref23_rise.q0.t.out y).1 ≠ .normal := fun h => by rcases y with _ | y <;> first | (cases h; done) | (cases h; rfl) | (cases h)
def atlasref23_rise.q0.l (k : Nat) : Nat → ((List (Int × Int × (Bool × Bool × Bool × Unit) × (List Int) × Unit)) × Int) → Option ((Bool) ⊕ (Unit))
  | 0, _ => none
  | n + 1, x => (bif (decide (x.2 < ((x.1.length : Nat) : Int))) then (bif (decide (0 ≤ x.2) && decide (x.2 < ((x.1.length : Nat) : Int))) then (bif (decide (0 ≤ (IntKind.wrap .i64 (x.2 - 1))) && decide ((IntKind.wrap .i64 (x.2 - 1)) < ((x.1.length : Nat) : Int))) then ((atlasref23_end.f (⟨(x.1.getD ((IntKind.wrap .i64 (x.2 - 1))).toNat (0, 0, (false, false, false, ()), [], ())).1, (x.1.getD ((IntKind.wrap .i64 (x.2 - 1))).toNat (0, 0, (false, false, false, ()), [], ())).2.1, (x.1.getD ((IntKind.wrap .i64 (x.2 - 1))).toNat (0, 0, (false, false, false, ()), [], ())).2.2.1.1, (x.1.getD ((IntKind.wrap .i64 (x.2 - 1))).toNat (0, 0, (false, false, false, ()), [], ())).2.2.1.2.1, (x.1.getD ((IntKind.wrap .i64 (x.2 - 1))).toNat (0, 0, (false, false, false, ()), [], ())).2.2.1.2.2.1, (x.1.getD ((IntKind.wrap .i64 (x.2 - 1))).toNat (0, 0, (false, false, false, ()), [], ())).2.2.2.1⟩ : T45)).bind fun r1 => (bif (decide ((IntKind.wrap .u64 ((x.1.getD (x.2).toNat (0, 0, (false, false, false, ()), [], ())).1)) < r1)) then (some (Sum.inl false)) else (atlasref23_rise.q0.l k n (x.1, (IntKind.wrap .i64 (x.2 + 1)))))) else none) else none) else (some (Sum.inr ())))
theorem atlasref23_rise.q0.z (k : Nat) (x : ((List (Int × Int × (Bool × Bool × Bool × Unit) × (List Int) × Unit)) × Int)) : atlasref23_rise.q0.l k 0 x = none := rfl
theorem atlasref23_rise.q0.at : codeAt (bodyOf Try.f29) [false, true, false, true] = some (.loop (loopBody (bodyOf Try.f29) [false, true, false, true])) := by kernel_rfl
theorem atlasref23_rise.q0.goes (k n : Nat) (x : ((List (Int × Int × (Bool × Bool × Bool × Unit) × (List Int) × Unit)) × Int)) : E Try.prog (gamOf [(62, atlasref23_end.g)]) (lamOf []) (loopBody (bodyOf Try.f29) [false, true, false, true]) (false :: [false, true, false, true]) (atlasref23_rise.q0.h.st x) (contD atlasref23_rise.q0.h atlasref23_rise.q0.t (atlasref23_rise.q0.l k n) some) = atlasref23_rise.q0.l k (n + 1) x := by
  kernel_rfl
theorem atlasref23_rise.q0.ok_ (k : Nat) : PieceOk Try.prog (bodyOf Try.f29) ⟨[false, true, false, true], _, _, atlasref23_rise.q0.h, atlasref23_rise.q0.t, atlasref23_rise.q0.l k k⟩ :=
  piece_loop (gamOf_cons (atlasref23_end.ok) atlasref23_end.callable (gamOf_nil _)) (lamOf_nil _ _) mixed atlasref23_rise.q0.at atlasref23_rise.q0.np atlasref23_rise.q0.nn (atlasref23_rise.q0.z k) (atlasref23_rise.q0.goes k) k
def atlasref23_rise.q0.p (k : Nat) : Piece := ⟨[false, true, false, true], _, _, atlasref23_rise.q0.h, atlasref23_rise.q0.t, atlasref23_rise.q0.l k k⟩
theorem atlasref23_rise.q0.ok (k : Nat) : PieceOk Try.prog (bodyOf Try.f29) (atlasref23_rise.q0.p k) := atlasref23_rise.q0.ok_ k
def atlasref23_rise.f (k : Nat) (x0 : (List (Int × Int × (Bool × Bool × Bool × Unit) × (List Int) × Unit))) : Option (Bool) := ((atlasref23_rise.q0.l k k (x0, 1)).bind fun r2 => (Sum.elim (fun r3 => (some r3)) (fun r4 => (some true)) r2))
theorem atlasref23_rise.run (k : Nat) (x0 : (List (Int × Int × (Bool × Bool × Bool × Unit) × (List Int) × Unit))) : runF Try.prog (gamOf [(62, atlasref23_end.g)]) (lamOf [atlasref23_rise.q0.p k]) Try.f29 [(.vt (.pair (.int .u32) (.pair (.int .u32) (.pair (.pair .bool (.pair .bool (.pair .bool .unit))) (.pair (.vec (.int .u8)) .unit)))) x0)] some = (atlasref23_rise.f k x0).bind fun r => some (.ret (.val (.bool r))) := by
  unfold atlasref23_rise.f
  try simp only [cond_bind, elim_bind, Option.bind_some, Option.bind_none, Option.bind_assoc, Sum.elim_inl, Sum.elim_inr]
  kernel_rfl
def atlasref23_rise.g (k : Nat) : GFun := fun β args K => match args with
  | [a0] => (vtO (.pair (.int .u32) (.pair (.int .u32) (.pair (.pair .bool (.pair .bool (.pair .bool .unit))) (.pair (.vec (.int .u8)) .unit)))) a0).bind fun x0 => (atlasref23_rise.f k x0).bind fun r => K (.ret (.val (.bool r)))
  | _ => none
theorem atlasref23_rise.callable : callable Try.prog 29 = true := callable_of Try.func29 (by kernel_rfl)
theorem atlasref23_rise.ok (k : Nat) : GOk Try.prog 29 (atlasref23_rise.g k) := by
  intro β args K r h
  unfold atlasref23_rise.g at h
  split at h
  · obtain ⟨x0, e0, h⟩ := Option.bind_eq_some_iff.1 h
    obtain ⟨y, hy, hK⟩ := Option.bind_eq_some_iff.1 h
    have hrun := atlasref23_rise.run k x0
    rw [hy] at hrun
    obtain ⟨out, e, hs⟩ := sim_of_run Try.func29 (by kernel_rfl) mixed (gamOf_cons (atlasref23_end.ok) atlasref23_end.callable (gamOf_nil _)) (lamOf_cons (atlasref23_rise.q0.ok k) (lamOf_nil _ _)) (args' := [(.vt (.pair (.int .u32) (.pair (.int .u32) (.pair (.pair .bool (.pair .bool (.pair .bool .unit))) (.pair (.vec (.int .u8)) .unit)))) x0)]) (RefsL.cons (vtO_refs e0) RefsL.nil) hrun
    simp only [Option.some.injEq] at e
    subst e
    exact ⟨_, hK, hs⟩
  · cases h
/-! ### atlas/atlasref23.start: function 30 -/
def atlasref23_start.q0.h : Head ((List (Int × Int × (Bool × Bool × Bool × Unit) × (List Int) × Unit)) × Int × Int) where
  k γ s F := (sizedN 52 s).bind fun _ => (vtO (.pair (.int .u32) (.pair (.int .u32) (.pair (.pair .bool (.pair .bool (.pair .bool .unit))) (.pair (.vec (.int .u8)) .unit)))) (gt s.tm 0)).bind fun v2 => (intO .u32 (gt s.tm 1)).bind fun v4 => (intO .i64 (gt s.tm 5)).bind fun v6 => (distO []).bind fun _ => F (v2, v4, v6)
  st x := ⟨sparseT [(0, (.vt (.pair (.int .u32) (.pair (.int .u32) (.pair (.pair .bool (.pair .bool (.pair .bool .unit))) (.pair (.vec (.int .u8)) .unit)))) x.1)), (1, (.val (.int .u32 x.2.1))), (5, (.val (.int .i64 x.2.2)))] 52 0, []⟩
  ok γ s F r h := by
    obtain ⟨_, hz, h⟩ := Option.bind_eq_some_iff.1 h
    obtain ⟨v2, h1, h⟩ := Option.bind_eq_some_iff.1 h
    obtain ⟨v4, h3, h⟩ := Option.bind_eq_some_iff.1 h
    obtain ⟨v6, h5, h⟩ := Option.bind_eq_some_iff.1 h
    obtain ⟨_, h7, h⟩ := Option.bind_eq_some_iff.1 h
    exact ⟨_, h, weak_ren (l := []) (sizedN_ok hz) (distO_ok h7) (LiveR.cons (RefsR.plain (vtO_refs h1) rfl) (LiveR.cons (RefsR.plain (Refs.of_eq (intO_eq h3)) rfl) (LiveR.cons (RefsR.plain (Refs.of_eq (intO_eq h5)) rfl) LiveR.nil))) BlksR.nil⟩

def atlasref23_start.q0.x0 : Head (Bool) where
  k γ s F := (sizedN 52 s).bind fun _ => (boolO (gt s.tm 4)).bind fun v2 => (distO []).bind fun _ => F (v2)
  st x := ⟨sparseT [(4, (.val (.bool x)))] 52 0, []⟩
  ok γ s F r h := by
    obtain ⟨_, hz, h⟩ := Option.bind_eq_some_iff.1 h
    obtain ⟨v2, h1, h⟩ := Option.bind_eq_some_iff.1 h
    obtain ⟨_, h3, h⟩ := Option.bind_eq_some_iff.1 h
    exact ⟨_, h, weak_ren (l := []) (sizedN_ok hz) (distO_ok h3) (LiveR.cons (RefsR.plain (Refs.of_eq (boolO_eq h1)) rfl) LiveR.nil) BlksR.nil⟩

def atlasref23_start.q0.x1 : Head (Unit) where
  k γ s F := (sizedN 52 s).bind fun _ => (distO []).bind fun _ => F ()
  st x := ⟨sparseT [] 52 0, []⟩
  ok γ s F r h := by
    obtain ⟨_, hz, h⟩ := Option.bind_eq_some_iff.1 h
    obtain ⟨_, h1, h⟩ := Option.bind_eq_some_iff.1 h
    exact ⟨_, h, weak_ren (l := []) (sizedN_ok hz) (distO_ok h1) LiveR.nil BlksR.nil⟩

def atlasref23_start.q0.t : Tail ((Bool) ⊕ (Unit)) := Tail.or .ret atlasref23_start.q0.x0 (Tail.one (.exit 0) atlasref23_start.q0.x1)
theorem atlasref23_start.q0.np (y : ((Bool) ⊕ (Unit))) (v : AV) : (atlasref23_start.q0.t.out y).1 = .panic v → nomem v = true := fun h => by rcases y with _ | y <;> first | (cases h; done) | (cases h; rfl) | (cases h)
theorem atlasref23_start.q0.nn (y : ((Bool) ⊕ (Unit))) : (atlasref23_start.q0.t.out y).1 ≠ .normal := fun h => by rcases y with _ | y <;> first | (cases h; done) | (cases h; rfl) | (cases h)
def atlasref23_start.q0.l (k : Nat) : Nat → ((List (Int × Int × (Bool × Bool × Bool × Unit) × (List Int) × Unit)) × Int × Int) → Option ((Bool) ⊕ (Unit))
  | 0, _ => none
  | n + 1, x => (bif (decide (x.2.2 < ((x.1.length : Nat) : Int))) then (bif (decide (0 ≤ x.2.2) && decide (x.2.2 < ((x.1.length : Nat) : Int))) then (bif (x.1.getD (x.2.2).toNat (0, 0, (false, false, false, ()), [], ())).2.2.1.2.2.1 then (bif (decide (0 ≤ x.2.2) && decide (x.2.2 < ((x.1.length : Nat) : Int))) then (bif (decide ((IntKind.wrap .u64 x.2.1) ≥ (IntKind.wrap .u64 ((x.1.getD (x.2.2).toNat (0, 0, (false, false, false, ()), [], ())).1)))) then (bif (decide (0 ≤ x.2.2) && decide (x.2.2 < ((x.1.length : Nat) : Int))) then (bif (decide (0 ≤ x.2.2) && decide (x.2.2 < ((x.1.length : Nat) : Int))) then (bif (decide ((IntKind.wrap .u64 ((IntKind.wrap .u64 x.2.1) + 4)) ≤ (IntKind.wrap .u64 ((IntKind.wrap .u64 ((x.1.getD (x.2.2).toNat (0, 0, (false, false, false, ()), [], ())).1)) + (IntKind.wrap .u64 ((x.1.getD (x.2.2).toNat (0, 0, (false, false, false, ()), [], ())).2.1)))))) then (some (Sum.inl true)) else (atlasref23_start.q0.l k n (x.1, x.2.1, (IntKind.wrap .i64 (x.2.2 + 1))))) else none) else none) else (atlasref23_start.q0.l k n (x.1, x.2.1, (IntKind.wrap .i64 (x.2.2 + 1))))) else none) else (atlasref23_start.q0.l k n (x.1, x.2.1, (IntKind.wrap .i64 (x.2.2 + 1))))) else none) else (some (Sum.inr ())))
theorem atlasref23_start.q0.z (k : Nat) (x : ((List (Int × Int × (Bool × Bool × Bool × Unit) × (List Int) × Unit)) × Int × Int)) : atlasref23_start.q0.l k 0 x = none := rfl
theorem atlasref23_start.q0.at : codeAt (bodyOf Try.f30) [false, true, false, true, true] = some (.loop (loopBody (bodyOf Try.f30) [false, true, false, true, true])) := by kernel_rfl
theorem atlasref23_start.q0.goes (k n : Nat) (x : ((List (Int × Int × (Bool × Bool × Bool × Unit) × (List Int) × Unit)) × Int × Int)) : E Try.prog (gamOf []) (lamOf []) (loopBody (bodyOf Try.f30) [false, true, false, true, true]) (false :: [false, true, false, true, true]) (atlasref23_start.q0.h.st x) (contD atlasref23_start.q0.h atlasref23_start.q0.t (atlasref23_start.q0.l k n) some) = atlasref23_start.q0.l k (n + 1) x := by
  kernel_rfl
theorem atlasref23_start.q0.ok_ (k : Nat) : PieceOk Try.prog (bodyOf Try.f30) ⟨[false, true, false, true, true], _, _, atlasref23_start.q0.h, atlasref23_start.q0.t, atlasref23_start.q0.l k k⟩ :=
  piece_loop (gamOf_nil _) (lamOf_nil _ _) mixed atlasref23_start.q0.at atlasref23_start.q0.np atlasref23_start.q0.nn (atlasref23_start.q0.z k) (atlasref23_start.q0.goes k) k
def atlasref23_start.q0.p (k : Nat) : Piece := ⟨[false, true, false, true, true], _, _, atlasref23_start.q0.h, atlasref23_start.q0.t, atlasref23_start.q0.l k k⟩
theorem atlasref23_start.q0.ok (k : Nat) : PieceOk Try.prog (bodyOf Try.f30) (atlasref23_start.q0.p k) := atlasref23_start.q0.ok_ k
def atlasref23_start.f (k : Nat) (x0 : (List (Int × Int × (Bool × Bool × Bool × Unit) × (List Int) × Unit))) (x1 : Int) : Option (Bool) := (bif ((Int.tmod x1 4) != 0) then (some false) else ((atlasref23_start.q0.l k k (x0, x1, 0)).bind fun r1 => (Sum.elim (fun r2 => (some r2)) (fun r3 => (some false)) r1)))
theorem atlasref23_start.run (k : Nat) (x0 : (List (Int × Int × (Bool × Bool × Bool × Unit) × (List Int) × Unit))) (x1 : Int) : runF Try.prog (gamOf []) (lamOf [atlasref23_start.q0.p k]) Try.f30 [(.vt (.pair (.int .u32) (.pair (.int .u32) (.pair (.pair .bool (.pair .bool (.pair .bool .unit))) (.pair (.vec (.int .u8)) .unit)))) x0), (.val (.int .u32 x1))] some = (atlasref23_start.f k x0 x1).bind fun r => some (.ret (.val (.bool r))) := by
  unfold atlasref23_start.f
  try simp only [cond_bind, elim_bind, Option.bind_some, Option.bind_none, Option.bind_assoc, Sum.elim_inl, Sum.elim_inr]
  kernel_rfl
def atlasref23_start.g (k : Nat) : GFun := fun β args K => match args with
  | [a0, a1] => (vtO (.pair (.int .u32) (.pair (.int .u32) (.pair (.pair .bool (.pair .bool (.pair .bool .unit))) (.pair (.vec (.int .u8)) .unit)))) a0).bind fun x0 => (intO .u32 a1).bind fun x1 => (atlasref23_start.f k x0 x1).bind fun r => K (.ret (.val (.bool r)))
  | _ => none
theorem atlasref23_start.callable : callable Try.prog 30 = true := callable_of Try.func30 (by kernel_rfl)
theorem atlasref23_start.ok (k : Nat) : GOk Try.prog 30 (atlasref23_start.g k) := by
  intro β args K r h
  unfold atlasref23_start.g at h
  split at h
  · obtain ⟨x0, e0, h⟩ := Option.bind_eq_some_iff.1 h
    obtain ⟨x1, e1, h⟩ := Option.bind_eq_some_iff.1 h
    obtain ⟨y, hy, hK⟩ := Option.bind_eq_some_iff.1 h
    have hrun := atlasref23_start.run k x0 x1
    rw [hy] at hrun
    obtain ⟨out, e, hs⟩ := sim_of_run Try.func30 (by kernel_rfl) mixed (gamOf_nil _) (lamOf_cons (atlasref23_start.q0.ok k) (lamOf_nil _ _)) (args' := [(.vt (.pair (.int .u32) (.pair (.int .u32) (.pair (.pair .bool (.pair .bool (.pair .bool .unit))) (.pair (.vec (.int .u8)) .unit)))) x0), (.val (.int .u32 x1))]) (RefsL.cons (vtO_refs e0) (RefsL.cons (Refs.of_eq (intO_eq e1)) RefsL.nil)) hrun
    simp only [Option.some.injEq] at e
    subst e
    exact ⟨_, hK, hs⟩
  · cases h
/-! ### atlas/atlasref23.num: function 50 -/
def atlasref23_num.q0.h : Head ((List Int) × Int × Int × Int) where
  k γ s F := (sizedN 27 s).bind fun _ => (vtO (.int .u8) (gt s.tm 0)).bind fun v2 => (intO .u64 (gt s.tm 1)).bind fun v4 => (intO .u64 (gt s.tm 7)).bind fun v6 => (intO .i64 (gt s.tm 8)).bind fun v8 => (distO []).bind fun _ => F (v2, v4, v6, v8)
  st x := ⟨sparseT [(0, (.vt (.int .u8) x.1)), (1, (.val (.int .u64 x.2.1))), (7, (.val (.int .u64 x.2.2.1))), (8, (.val (.int .i64 x.2.2.2)))] 27 0, []⟩
  ok γ s F r h := by
    obtain ⟨_, hz, h⟩ := Option.bind_eq_some_iff.1 h
    obtain ⟨v2, h1, h⟩ := Option.bind_eq_some_iff.1 h
    obtain ⟨v4, h3, h⟩ := Option.bind_eq_some_iff.1 h
    obtain ⟨v6, h5, h⟩ := Option.bind_eq_some_iff.1 h
    obtain ⟨v8, h7, h⟩ := Option.bind_eq_some_iff.1 h
    obtain ⟨_, h9, h⟩ := Option.bind_eq_some_iff.1 h
    exact ⟨_, h, weak_ren (l := []) (sizedN_ok hz) (distO_ok h9) (LiveR.cons (RefsR.plain (vtO_refs h1) rfl) (LiveR.cons (RefsR.plain (Refs.of_eq (intO_eq h3)) rfl) (LiveR.cons (RefsR.plain (Refs.of_eq (intO_eq h5)) rfl) (LiveR.cons (RefsR.plain (Refs.of_eq (intO_eq h7)) rfl) LiveR.nil)))) BlksR.nil⟩

def atlasref23_num.q0.x0 : Head (Int) where
  k γ s F := (sizedN 27 s).bind fun _ => (intO .u64 (gt s.tm 7)).bind fun v2 => (distO []).bind fun _ => F (v2)
  st x := ⟨sparseT [(7, (.val (.int .u64 x)))] 27 0, []⟩
  ok γ s F r h := by
    obtain ⟨_, hz, h⟩ := Option.bind_eq_some_iff.1 h
    obtain ⟨v2, h1, h⟩ := Option.bind_eq_some_iff.1 h
    obtain ⟨_, h3, h⟩ := Option.bind_eq_some_iff.1 h
    exact ⟨_, h, weak_ren (l := []) (sizedN_ok hz) (distO_ok h3) (LiveR.cons (RefsR.plain (Refs.of_eq (intO_eq h1)) rfl) LiveR.nil) BlksR.nil⟩

def atlasref23_num.q0.t : Tail (Int) := Tail.one (.exit 0) atlasref23_num.q0.x0
theorem atlasref23_num.q0.np (y : (Int)) (v : AV) : (atlasref23_num.q0.t.out y).1 = .panic v → nomem v = true := fun h => by cases h
theorem atlasref23_num.q0.nn (y : (Int)) : (atlasref23_num.q0.t.out y).1 ≠ .normal := fun h => by cases h
def atlasref23_num.q0.l (k : Nat) : Nat → ((List Int) × Int × Int × Int) → Option (Int)
  | 0, _ => none
  | n + 1, x => (bif (decide (x.2.2.2 ≥ 0)) then (bif (decide (0 ≤ (IntKind.wrap .u64 (x.2.1 + (IntKind.wrap .u64 x.2.2.2)))) && decide ((IntKind.wrap .u64 (x.2.1 + (IntKind.wrap .u64 x.2.2.2))) < ((x.1.length : Nat) : Int))) then (atlasref23_num.q0.l k n (x.1, x.2.1, (IntKind.wrap .u64 ((IntKind.wrap .u64 (x.2.2.1 * 256)) + (IntKind.wrap .u64 (x.1.getD ((IntKind.wrap .u64 (x.2.1 + (IntKind.wrap .u64 x.2.2.2)))).toNat 0)))), (IntKind.wrap .i64 (x.2.2.2 - 1)))) else none) else (some x.2.2.1))
theorem atlasref23_num.q0.z (k : Nat) (x : ((List Int) × Int × Int × Int)) : atlasref23_num.q0.l k 0 x = none := rfl
theorem atlasref23_num.q0.at : codeAt (bodyOf Try.f50) [false, true, false, true, true] = some (.loop (loopBody (bodyOf Try.f50) [false, true, false, true, true])) := by kernel_rfl
theorem atlasref23_num.q0.goes (k n : Nat) (x : ((List Int) × Int × Int × Int)) : E Try.prog (gamOf []) (lamOf []) (loopBody (bodyOf Try.f50) [false, true, false, true, true]) (false :: [false, true, false, true, true]) (atlasref23_num.q0.h.st x) (contD atlasref23_num.q0.h atlasref23_num.q0.t (atlasref23_num.q0.l k n) some) = atlasref23_num.q0.l k (n + 1) x := by
  kernel_rfl
theorem atlasref23_num.q0.ok_ (k : Nat) : PieceOk Try.prog (bodyOf Try.f50) ⟨[false, true, false, true, true], _, _, atlasref23_num.q0.h, atlasref23_num.q0.t, atlasref23_num.q0.l k k⟩ :=
  piece_loop (gamOf_nil _) (lamOf_nil _ _) mixed atlasref23_num.q0.at atlasref23_num.q0.np atlasref23_num.q0.nn (atlasref23_num.q0.z k) (atlasref23_num.q0.goes k) k
def atlasref23_num.q0.p (k : Nat) : Piece := ⟨[false, true, false, true, true], _, _, atlasref23_num.q0.h, atlasref23_num.q0.t, atlasref23_num.q0.l k k⟩
theorem atlasref23_num.q0.ok (k : Nat) : PieceOk Try.prog (bodyOf Try.f50) (atlasref23_num.q0.p k) := atlasref23_num.q0.ok_ k
def atlasref23_num.f (k : Nat) (x0 : (List Int)) (x1 : Int) (x2 : Int) : Option (Int) := ((atlasref23_num.q0.l k k (x0, x1, 0, (IntKind.wrap .i64 (x2 - 1)))).bind fun r1 => (some r1))
theorem atlasref23_num.run (k : Nat) (x0 : (List Int)) (x1 : Int) (x2 : Int) : runF Try.prog (gamOf []) (lamOf [atlasref23_num.q0.p k]) Try.f50 [(.vt (.int .u8) x0), (.val (.int .u64 x1)), (.val (.int .i64 x2))] some = (atlasref23_num.f k x0 x1 x2).bind fun r => some (.ret (.val (.int .u64 r))) := by
  unfold atlasref23_num.f
  try simp only [cond_bind, elim_bind, Option.bind_some, Option.bind_none, Option.bind_assoc, Sum.elim_inl, Sum.elim_inr]
  kernel_rfl
def atlasref23_num.g (k : Nat) : GFun := fun β args K => match args with
  | [a0, a1, a2] => (vtO (.int .u8) a0).bind fun x0 => (intO .u64 a1).bind fun x1 => (intO .i64 a2).bind fun x2 => (atlasref23_num.f k x0 x1 x2).bind fun r => K (.ret (.val (.int .u64 r)))
  | _ => none
theorem atlasref23_num.callable : callable Try.prog 50 = true := callable_of Try.func50 (by kernel_rfl)
theorem atlasref23_num.ok (k : Nat) : GOk Try.prog 50 (atlasref23_num.g k) := by
  intro β args K r h
  unfold atlasref23_num.g at h
  split at h
  · obtain ⟨x0, e0, h⟩ := Option.bind_eq_some_iff.1 h
    obtain ⟨x1, e1, h⟩ := Option.bind_eq_some_iff.1 h
    obtain ⟨x2, e2, h⟩ := Option.bind_eq_some_iff.1 h
    obtain ⟨y, hy, hK⟩ := Option.bind_eq_some_iff.1 h
    have hrun := atlasref23_num.run k x0 x1 x2
    rw [hy] at hrun
    obtain ⟨out, e, hs⟩ := sim_of_run Try.func50 (by kernel_rfl) mixed (gamOf_nil _) (lamOf_cons (atlasref23_num.q0.ok k) (lamOf_nil _ _)) (args' := [(.vt (.int .u8) x0), (.val (.int .u64 x1)), (.val (.int .i64 x2))]) (RefsL.cons (vtO_refs e0) (RefsL.cons (Refs.of_eq (intO_eq e1)) (RefsL.cons (Refs.of_eq (intO_eq e2)) RefsL.nil))) hrun
    simp only [Option.some.injEq] at e
    subst e
    exact ⟨_, hK, hs⟩
  · cases h
/-! ### atlas/atlasref23.head: function 49 -/
def atlasref23_head.f (k : Nat) (x0 : (List Int)) : Option (Int) := (bif (decide (((x0.length : Nat) : Int) < 52)) then (some 230) else (bif (decide (((x0.length : Nat) : Int) > 33554432)) then (some 239) else (bif (decide (0 ≤ 4) && decide (4 ≤ ((x0.length : Nat) : Int))) then (bif ((x0.drop 0).take (4 - 0)).all (fun b => decide (0 ≤ b) && decide (b < 256)) then (bif (!((bytesO ((x0.drop 0).take (4 - 0))).toList == (⟨#[127, 69, 76, 70]⟩ : ByteArray).toList)) then (some 231) else (bif (decide (0 ≤ 4) && decide (4 < ((x0.length : Nat) : Int))) then (bif ((x0.getD 4 0) != 1) then (some 232) else (bif (decide (0 ≤ 5) && decide (5 < ((x0.length : Nat) : Int))) then (bif ((x0.getD 5 0) != 1) then (some 232) else (bif (decide (0 ≤ 6) && decide (6 < ((x0.length : Nat) : Int))) then (bif ((x0.getD 6 0) != 1) then (some 232) else ((atlasref23_num.f k x0 16 2).bind fun r1 => (bif (r1 != 2) then (some 233) else ((atlasref23_num.f k x0 18 2).bind fun r2 => (bif (r2 != 40) then (some 233) else ((atlasref23_num.f k x0 20 4).bind fun r3 => (bif (r3 != 1) then (some 233) else ((atlasref23_num.f k x0 32 4).bind fun r4 => ((atlasref23_num.f k x0 40 2).bind fun r5 => (bif (r5 != 52) then (some 234) else ((atlasref23_num.f k x0 42 2).bind fun r6 => (bif (r6 != 32) then (some 234) else (bif (r4 != 0) then ((atlasref23_num.f k x0 46 2).bind fun r7 => (bif (r7 != 40) then (some 234) else ((atlasref23_num.f k x0 44 2).bind fun r8 => (bif (decide (r8 > 0)) then ((atlasref23_num.f k x0 28 4).bind fun r9 => ((atlasref23_num.f k x0 44 2).bind fun r10 => (bif (decide ((IntKind.wrap .u64 (r9 + (IntKind.wrap .u64 (32 * r10)))) > (IntKind.wrap .u64 ((x0.length : Nat) : Int)))) then (some 230) else (bif (r4 != 0) then ((atlasref23_num.f k x0 48 2).bind fun r11 => (bif (decide (r11 > 0)) then ((atlasref23_num.f k x0 48 2).bind fun r12 => (bif (decide ((IntKind.wrap .u64 (r4 + (IntKind.wrap .u64 (40 * r12)))) > (IntKind.wrap .u64 ((x0.length : Nat) : Int)))) then (some 230) else (some 0))) else (some 0))) else (some 0))))) else (bif (r4 != 0) then ((atlasref23_num.f k x0 48 2).bind fun r13 => (bif (decide (r13 > 0)) then ((atlasref23_num.f k x0 48 2).bind fun r14 => (bif (decide ((IntKind.wrap .u64 (r4 + (IntKind.wrap .u64 (40 * r14)))) > (IntKind.wrap .u64 ((x0.length : Nat) : Int)))) then (some 230) else (some 0))) else (some 0))) else (some 0)))))) else ((atlasref23_num.f k x0 44 2).bind fun r15 => (bif (decide (r15 > 0)) then ((atlasref23_num.f k x0 28 4).bind fun r16 => ((atlasref23_num.f k x0 44 2).bind fun r17 => (bif (decide ((IntKind.wrap .u64 (r16 + (IntKind.wrap .u64 (32 * r17)))) > (IntKind.wrap .u64 ((x0.length : Nat) : Int)))) then (some 230) else (bif (r4 != 0) then ((atlasref23_num.f k x0 48 2).bind fun r18 => (bif (decide (r18 > 0)) then ((atlasref23_num.f k x0 48 2).bind fun r19 => (bif (decide ((IntKind.wrap .u64 (r4 + (IntKind.wrap .u64 (40 * r19)))) > (IntKind.wrap .u64 ((x0.length : Nat) : Int)))) then (some 230) else (some 0))) else (some 0))) else (some 0))))) else (bif (r4 != 0) then ((atlasref23_num.f k x0 48 2).bind fun r20 => (bif (decide (r20 > 0)) then ((atlasref23_num.f k x0 48 2).bind fun r21 => (bif (decide ((IntKind.wrap .u64 (r4 + (IntKind.wrap .u64 (40 * r21)))) > (IntKind.wrap .u64 ((x0.length : Nat) : Int)))) then (some 230) else (some 0))) else (some 0))) else (some 0))))))))))))))))) else none)) else none)) else none)) else none) else none)))
theorem atlasref23_head.run (k : Nat) (x0 : (List Int)) : runF Try.prog (gamOf [(50, atlasref23_num.g k)]) noLam Try.f49 [(.vt (.int .u8) x0)] some = (atlasref23_head.f k x0).bind fun r => some (.ret (.val (.int .i64 r))) := by
  unfold atlasref23_head.f
  try simp only [cond_bind, elim_bind, Option.bind_some, Option.bind_none, Option.bind_assoc, Sum.elim_inl, Sum.elim_inr]
  kernel_rfl
def atlasref23_head.g (k : Nat) : GFun := fun β args K => match args with
  | [a0] => (vtO (.int .u8) a0).bind fun x0 => (atlasref23_head.f k x0).bind fun r => K (.ret (.val (.int .i64 r)))
  | _ => none
theorem atlasref23_head.callable : callable Try.prog 49 = true := callable_of Try.func49 (by kernel_rfl)
theorem atlasref23_head.ok (k : Nat) : GOk Try.prog 49 (atlasref23_head.g k) := by
  intro β args K r h
  unfold atlasref23_head.g at h
  split at h
  · obtain ⟨x0, e0, h⟩ := Option.bind_eq_some_iff.1 h
    obtain ⟨y, hy, hK⟩ := Option.bind_eq_some_iff.1 h
    have hrun := atlasref23_head.run k x0
    rw [hy] at hrun
    obtain ⟨out, e, hs⟩ := sim_of_run Try.func49 (by kernel_rfl) mixed (gamOf_cons (atlasref23_num.ok k) atlasref23_num.callable (gamOf_nil _)) (noLam_ok _ _) (args' := [(.vt (.int .u8) x0)]) (RefsL.cons (vtO_refs e0) RefsL.nil) hrun
    simp only [Option.some.injEq] at e
    subst e
    exact ⟨_, hK, hs⟩
  · cases h
/-! ### atlas/atlasref23.word: function 51 -/
def atlasref23_word.f (k : Nat) (x0 : (List Int)) (x1 : Int) (x2 : Int) : Option (Int) := ((atlasref23_num.f k x0 (IntKind.wrap .u64 (x1 + (IntKind.wrap .u64 (4 * (IntKind.wrap .u64 x2))))) 4).bind fun r1 => (some r1))
theorem atlasref23_word.run (k : Nat) (x0 : (List Int)) (x1 : Int) (x2 : Int) : runF Try.prog (gamOf [(50, atlasref23_num.g k)]) noLam Try.f51 [(.vt (.int .u8) x0), (.val (.int .u64 x1)), (.val (.int .i64 x2))] some = (atlasref23_word.f k x0 x1 x2).bind fun r => some (.ret (.val (.int .u64 r))) := by
  unfold atlasref23_word.f
  try simp only [cond_bind, elim_bind, Option.bind_some, Option.bind_none, Option.bind_assoc, Sum.elim_inl, Sum.elim_inr]
  kernel_rfl
def atlasref23_word.g (k : Nat) : GFun := fun β args K => match args with
  | [a0, a1, a2] => (vtO (.int .u8) a0).bind fun x0 => (intO .u64 a1).bind fun x1 => (intO .i64 a2).bind fun x2 => (atlasref23_word.f k x0 x1 x2).bind fun r => K (.ret (.val (.int .u64 r)))
  | _ => none
theorem atlasref23_word.callable : callable Try.prog 51 = true := callable_of Try.func51 (by kernel_rfl)
theorem atlasref23_word.ok (k : Nat) : GOk Try.prog 51 (atlasref23_word.g k) := by
  intro β args K r h
  unfold atlasref23_word.g at h
  split at h
  · obtain ⟨x0, e0, h⟩ := Option.bind_eq_some_iff.1 h
    obtain ⟨x1, e1, h⟩ := Option.bind_eq_some_iff.1 h
    obtain ⟨x2, e2, h⟩ := Option.bind_eq_some_iff.1 h
    obtain ⟨y, hy, hK⟩ := Option.bind_eq_some_iff.1 h
    have hrun := atlasref23_word.run k x0 x1 x2
    rw [hy] at hrun
    obtain ⟨out, e, hs⟩ := sim_of_run Try.func51 (by kernel_rfl) mixed (gamOf_cons (atlasref23_num.ok k) atlasref23_num.callable (gamOf_nil _)) (noLam_ok _ _) (args' := [(.vt (.int .u8) x0), (.val (.int .u64 x1)), (.val (.int .i64 x2))]) (RefsL.cons (vtO_refs e0) (RefsL.cons (Refs.of_eq (intO_eq e1)) (RefsL.cons (Refs.of_eq (intO_eq e2)) RefsL.nil))) hrun
    simp only [Option.some.injEq] at e
    subst e
    exact ⟨_, hK, hs⟩
  · cases h
/-! ### atlas/atlasref23.segment: function 27 -/
def atlasref23_segment.q0.h : Head (Bool × Int × Int × Bool × Bool × Bool × (List Int)) where
  k γ s F := (sizedN 44 s).bind fun _ => (ptrN 0 (gt s.tm 1)).bind fun b2 => (boolO (gt s.tm 3)).bind fun v4 => (rowN 46 6 s.hp b2).bind fun l6 => (intO .u32 (gt l6 0)).bind fun v8 => (intO .u32 (gt l6 1)).bind fun v10 => (boolO (gt l6 2)).bind fun v12 => (boolO (gt l6 3)).bind fun v14 => (boolO (gt l6 4)).bind fun v16 => (vtO (.int .u8) (gt l6 5)).bind fun v18 => (distO [some b2]).bind fun _ => F (v4, v8, v10, v12, v14, v16, v18)
  st x := ⟨sparseT [(1, (.ptr 0 0)), (3, (.val (.bool x.1)))] 44 0, [.row [(.val (.int .u32 x.2.1)), (.val (.int .u32 x.2.2.1)), (.val (.bool x.2.2.2.1)), (.val (.bool x.2.2.2.2.1)), (.val (.bool x.2.2.2.2.2.1)), (.vt (.int .u8) x.2.2.2.2.2.2)] 46 true]⟩
  ok γ s F r h := by
    obtain ⟨_, hz, h⟩ := Option.bind_eq_some_iff.1 h
    obtain ⟨b2, h1, h⟩ := Option.bind_eq_some_iff.1 h
    obtain ⟨v4, h3, h⟩ := Option.bind_eq_some_iff.1 h
    obtain ⟨l6, h5, h⟩ := Option.bind_eq_some_iff.1 h
    obtain ⟨v8, h7, h⟩ := Option.bind_eq_some_iff.1 h
    obtain ⟨v10, h9, h⟩ := Option.bind_eq_some_iff.1 h
    obtain ⟨v12, h11, h⟩ := Option.bind_eq_some_iff.1 h
    obtain ⟨v14, h13, h⟩ := Option.bind_eq_some_iff.1 h
    obtain ⟨v16, h15, h⟩ := Option.bind_eq_some_iff.1 h
    obtain ⟨v18, h17, h⟩ := Option.bind_eq_some_iff.1 h
    obtain ⟨_, h19, h⟩ := Option.bind_eq_some_iff.1 h
    exact ⟨_, h, weak_ren (l := [some b2]) (sizedN_ok hz) (distO_ok h19) (LiveR.cons (RefsR.ptr (l := [some b2]) (i := 0) rfl (ptrN_eq h1)) (LiveR.cons (RefsR.plain (Refs.of_eq (boolO_eq h3)) rfl) LiveR.nil)) (BlksR.cons (rowN_refs h5 rfl (GtRefsR.cons (RefsR.plain (Refs.of_eq (intO_eq h7)) rfl) (GtRefsR.cons (RefsR.plain (Refs.of_eq (intO_eq h9)) rfl) (GtRefsR.cons (RefsR.plain (Refs.of_eq (boolO_eq h11)) rfl) (GtRefsR.cons (RefsR.plain (Refs.of_eq (boolO_eq h13)) rfl) (GtRefsR.cons (RefsR.plain (Refs.of_eq (boolO_eq h15)) rfl) (GtRefsR.cons (RefsR.plain (vtO_refs h17) rfl) GtRefsR.nil)))))) rfl) BlksR.nil)⟩

def atlasref23_segment.q0.x0 : Head (Bool) where
  k γ s F := (sizedN 44 s).bind fun _ => (boolO (gt s.tm 2)).bind fun v2 => (distO []).bind fun _ => F (v2)
  st x := ⟨sparseT [(2, (.val (.bool x)))] 44 0, []⟩
  ok γ s F r h := by
    obtain ⟨_, hz, h⟩ := Option.bind_eq_some_iff.1 h
    obtain ⟨v2, h1, h⟩ := Option.bind_eq_some_iff.1 h
    obtain ⟨_, h3, h⟩ := Option.bind_eq_some_iff.1 h
    exact ⟨_, h, weak_ren (l := []) (sizedN_ok hz) (distO_ok h3) (LiveR.cons (RefsR.plain (Refs.of_eq (boolO_eq h1)) rfl) LiveR.nil) BlksR.nil⟩

def atlasref23_segment.q0.t : Tail (Bool) := Tail.one .ret atlasref23_segment.q0.x0
theorem atlasref23_segment.q0.np (y : (Bool)) (v : AV) : (atlasref23_segment.q0.t.out y).1 = .panic v → nomem v = true := fun h => by cases h
def atlasref23_segment.q0.l (k : Nat) (x : (Bool × Int × Int × Bool × Bool × Bool × (List Int))) : Option (Bool) := (bif x.1 then (bif (decide ((IntKind.wrap .u64 ((x.2.2.2.2.2.2.length : Nat) : Int)) ≤ (IntKind.wrap .u64 x.2.2.1))) then (some x.2.2.2.1) else (some false)) else (some false))
theorem atlasref23_segment.q0.at : codeAt (bodyOf Try.f27) [true, true] = some (codeOf (bodyOf Try.f27) [true, true]) := by kernel_rfl
theorem atlasref23_segment.q0.goes (k : Nat) (x : (Bool × Int × Int × Bool × Bool × Bool × (List Int))) : E Try.prog (gamOf []) (lamOf []) (codeOf (bodyOf Try.f27) [true, true]) [true, true] (atlasref23_segment.q0.h.st x) (fun ex t => atlasref23_segment.q0.t.d _ ex t some) = atlasref23_segment.q0.l k x := by
  kernel_rfl
theorem atlasref23_segment.q0.ok_ (k : Nat) : PieceOk Try.prog (bodyOf Try.f27) ⟨[true, true], _, _, atlasref23_segment.q0.h, atlasref23_segment.q0.t, atlasref23_segment.q0.l k⟩ :=
  piece_code (gamOf_nil _) (lamOf_nil _ _) mixed atlasref23_segment.q0.at atlasref23_segment.q0.np (atlasref23_segment.q0.goes k)
def atlasref23_segment.q0.p (k : Nat) : Piece := ⟨[true, true], _, _, atlasref23_segment.q0.h, atlasref23_segment.q0.t, atlasref23_segment.q0.l k⟩
theorem atlasref23_segment.q0.ok (k : Nat) : PieceOk Try.prog (bodyOf Try.f27) (atlasref23_segment.q0.p k) := atlasref23_segment.q0.ok_ k
def atlasref23_segment.f (k : Nat) (x0 : T45) : Option (Bool) := (bif ((Int.tmod x0.f0_VA 4096) == 0) then (bif (decide (x0.f1_Size ≥ 1)) then (bif (decide (x0.f1_Size ≤ 16777216)) then ((atlasref23_segment.q0.l k ((decide ((IntKind.wrap .u64 ((IntKind.wrap .u64 x0.f0_VA) + (IntKind.wrap .u64 x0.f1_Size))) ≤ 4294967296)), x0.f0_VA, x0.f1_Size, x0.f2_Rights_Read, x0.f3_Rights_Write, x0.f4_Rights_Exec, x0.f5_Data)).bind fun r1 => (some r1)) else ((atlasref23_segment.q0.l k (false, x0.f0_VA, x0.f1_Size, x0.f2_Rights_Read, x0.f3_Rights_Write, x0.f4_Rights_Exec, x0.f5_Data)).bind fun r2 => (some r2))) else ((atlasref23_segment.q0.l k (false, x0.f0_VA, x0.f1_Size, x0.f2_Rights_Read, x0.f3_Rights_Write, x0.f4_Rights_Exec, x0.f5_Data)).bind fun r3 => (some r3))) else ((atlasref23_segment.q0.l k (false, x0.f0_VA, x0.f1_Size, x0.f2_Rights_Read, x0.f3_Rights_Write, x0.f4_Rights_Exec, x0.f5_Data)).bind fun r4 => (some r4)))
theorem atlasref23_segment.run (k : Nat) (x0 : T45) : runF Try.prog (gamOf []) (lamOf [atlasref23_segment.q0.p k]) Try.f27 [(T45.av x0)] some = (atlasref23_segment.f k x0).bind fun r => some (.ret (.val (.bool r))) := by
  unfold atlasref23_segment.f
  try simp only [cond_bind, elim_bind, Option.bind_some, Option.bind_none, Option.bind_assoc, Sum.elim_inl, Sum.elim_inr]
  kernel_rfl
def atlasref23_segment.g (k : Nat) : GFun := fun β args K => match args with
  | [a0] => (T45.of a0).bind fun x0 => (atlasref23_segment.f k x0).bind fun r => K (.ret (.val (.bool r)))
  | _ => none
theorem atlasref23_segment.callable : callable Try.prog 27 = true := callable_of Try.func27 (by kernel_rfl)
theorem atlasref23_segment.ok (k : Nat) : GOk Try.prog 27 (atlasref23_segment.g k) := by
  intro β args K r h
  unfold atlasref23_segment.g at h
  split at h
  · obtain ⟨x0, e0, h⟩ := Option.bind_eq_some_iff.1 h
    obtain ⟨y, hy, hK⟩ := Option.bind_eq_some_iff.1 h
    have hrun := atlasref23_segment.run k x0
    rw [hy] at hrun
    obtain ⟨out, e, hs⟩ := sim_of_run Try.func27 (by kernel_rfl) mixed (gamOf_nil _) (lamOf_cons (atlasref23_segment.q0.ok k) (lamOf_nil _ _)) (args' := [(T45.av x0)]) (RefsL.cons (T45.refs e0) RefsL.nil) hrun
    simp only [Option.some.injEq] at e
    subst e
    exact ⟨_, hK, hs⟩
  · cases h
/-! ### atlas/atlasref23.load: function 52 -/
def atlasref23_load.f (k : Nat) (x0 : (List Int)) (x1 : Int) : Option (T45 × Bool) := ((atlasref23_word.f k x0 x1 1).bind fun r1 => ((atlasref23_word.f k x0 x1 4).bind fun r2 => ((atlasref23_word.f k x0 x1 6).bind fun r3 => ((atlasref23_word.f k x0 x1 2).bind fun r4 => ((atlasref23_word.f k x0 x1 5).bind fun r5 => ((atlasref23_word.f k x0 x1 2).bind fun r6 => ((atlasref23_word.f k x0 x1 3).bind fun r7 => (bif (r6 != r7) then (some ((⟨(IntKind.wrap .u32 r4), (IntKind.wrap .u32 r5), ((Int.tmod (IntKind.wrap .u64 (Int.tdiv r3 4)) 2) == 1), ((Int.tmod (IntKind.wrap .u64 (Int.tdiv r3 2)) 2) == 1), ((Int.tmod r3 2) == 1), ([] : List Int)⟩ : T45), false)) else (bif (decide (r2 > (IntKind.wrap .u64 (IntKind.wrap .u32 r5)))) then (some ((⟨(IntKind.wrap .u32 r4), (IntKind.wrap .u32 r5), ((Int.tmod (IntKind.wrap .u64 (Int.tdiv r3 4)) 2) == 1), ((Int.tmod (IntKind.wrap .u64 (Int.tdiv r3 2)) 2) == 1), ((Int.tmod r3 2) == 1), ([] : List Int)⟩ : T45), false)) else (bif (decide (r2 > 0)) then (bif (decide ((IntKind.wrap .u64 (r1 + r2)) > (IntKind.wrap .u64 ((x0.length : Nat) : Int)))) then (some ((⟨(IntKind.wrap .u32 r4), (IntKind.wrap .u32 r5), ((Int.tmod (IntKind.wrap .u64 (Int.tdiv r3 4)) 2) == 1), ((Int.tmod (IntKind.wrap .u64 (Int.tdiv r3 2)) 2) == 1), ((Int.tmod r3 2) == 1), ([] : List Int)⟩ : T45), false)) else (bif (decide (r3 > 7)) then (some ((⟨(IntKind.wrap .u32 r4), (IntKind.wrap .u32 r5), ((Int.tmod (IntKind.wrap .u64 (Int.tdiv r3 4)) 2) == 1), ((Int.tmod (IntKind.wrap .u64 (Int.tdiv r3 2)) 2) == 1), ((Int.tmod r3 2) == 1), ([] : List Int)⟩ : T45), false)) else ((atlasref23_word.f k x0 x1 7).bind fun r8 => (bif (r8 != 4096) then (some ((⟨(IntKind.wrap .u32 r4), (IntKind.wrap .u32 r5), ((Int.tmod (IntKind.wrap .u64 (Int.tdiv r3 4)) 2) == 1), ((Int.tmod (IntKind.wrap .u64 (Int.tdiv r3 2)) 2) == 1), ((Int.tmod r3 2) == 1), ([] : List Int)⟩ : T45), false)) else ((atlasref23_segment.f k (⟨(IntKind.wrap .u32 r4), (IntKind.wrap .u32 r5), ((Int.tmod (IntKind.wrap .u64 (Int.tdiv r3 4)) 2) == 1), ((Int.tmod (IntKind.wrap .u64 (Int.tdiv r3 2)) 2) == 1), ((Int.tmod r3 2) == 1), ([] : List Int)⟩ : T45)).bind fun r9 => (bif (!r9) then (some ((⟨(IntKind.wrap .u32 r4), (IntKind.wrap .u32 r5), ((Int.tmod (IntKind.wrap .u64 (Int.tdiv r3 4)) 2) == 1), ((Int.tmod (IntKind.wrap .u64 (Int.tdiv r3 2)) 2) == 1), ((Int.tmod r3 2) == 1), ([] : List Int)⟩ : T45), false)) else (bif (decide (r2 > 0)) then (bif (decide (0 ≤ (IntKind.wrap .u64 (r1 + r2))) && decide ((IntKind.wrap .u64 (r1 + r2)) ≤ ((x0.length : Nat) : Int))) then (bif (decide (0 ≤ r1) && decide (r1 ≤ ((((IntKind.wrap .u64 (r1 + r2))).toNat : Nat) : Int))) then (bif (decide ((([] : List Int) ++ ((x0.drop ((r1).toNat)).take (((IntKind.wrap .u64 (r1 + r2))).toNat - (r1).toNat))).length ≤ maxLen) && decide ((([] : List Int) ++ ((x0.drop ((r1).toNat)).take (((IntKind.wrap .u64 (r1 + r2))).toNat - (r1).toNat))).length * 1 ≤ 140737488355328)) then (some ((⟨(IntKind.wrap .u32 r4), (IntKind.wrap .u32 r5), ((Int.tmod (IntKind.wrap .u64 (Int.tdiv r3 4)) 2) == 1), ((Int.tmod (IntKind.wrap .u64 (Int.tdiv r3 2)) 2) == 1), ((Int.tmod r3 2) == 1), (([] : List Int) ++ ((x0.drop ((r1).toNat)).take (((IntKind.wrap .u64 (r1 + r2))).toNat - (r1).toNat)))⟩ : T45), true)) else none) else none) else none) else (some ((⟨(IntKind.wrap .u32 r4), (IntKind.wrap .u32 r5), ((Int.tmod (IntKind.wrap .u64 (Int.tdiv r3 4)) 2) == 1), ((Int.tmod (IntKind.wrap .u64 (Int.tdiv r3 2)) 2) == 1), ((Int.tmod r3 2) == 1), ([] : List Int)⟩ : T45), true))))))))) else (bif (decide (r3 > 7)) then (some ((⟨(IntKind.wrap .u32 r4), (IntKind.wrap .u32 r5), ((Int.tmod (IntKind.wrap .u64 (Int.tdiv r3 4)) 2) == 1), ((Int.tmod (IntKind.wrap .u64 (Int.tdiv r3 2)) 2) == 1), ((Int.tmod r3 2) == 1), ([] : List Int)⟩ : T45), false)) else ((atlasref23_word.f k x0 x1 7).bind fun r10 => (bif (r10 != 4096) then (some ((⟨(IntKind.wrap .u32 r4), (IntKind.wrap .u32 r5), ((Int.tmod (IntKind.wrap .u64 (Int.tdiv r3 4)) 2) == 1), ((Int.tmod (IntKind.wrap .u64 (Int.tdiv r3 2)) 2) == 1), ((Int.tmod r3 2) == 1), ([] : List Int)⟩ : T45), false)) else ((atlasref23_segment.f k (⟨(IntKind.wrap .u32 r4), (IntKind.wrap .u32 r5), ((Int.tmod (IntKind.wrap .u64 (Int.tdiv r3 4)) 2) == 1), ((Int.tmod (IntKind.wrap .u64 (Int.tdiv r3 2)) 2) == 1), ((Int.tmod r3 2) == 1), ([] : List Int)⟩ : T45)).bind fun r11 => (bif (!r11) then (some ((⟨(IntKind.wrap .u32 r4), (IntKind.wrap .u32 r5), ((Int.tmod (IntKind.wrap .u64 (Int.tdiv r3 4)) 2) == 1), ((Int.tmod (IntKind.wrap .u64 (Int.tdiv r3 2)) 2) == 1), ((Int.tmod r3 2) == 1), ([] : List Int)⟩ : T45), false)) else (bif (decide (r2 > 0)) then (bif (decide (0 ≤ (IntKind.wrap .u64 (r1 + r2))) && decide ((IntKind.wrap .u64 (r1 + r2)) ≤ ((x0.length : Nat) : Int))) then (bif (decide (0 ≤ r1) && decide (r1 ≤ ((((IntKind.wrap .u64 (r1 + r2))).toNat : Nat) : Int))) then (bif (decide ((([] : List Int) ++ ((x0.drop ((r1).toNat)).take (((IntKind.wrap .u64 (r1 + r2))).toNat - (r1).toNat))).length ≤ maxLen) && decide ((([] : List Int) ++ ((x0.drop ((r1).toNat)).take (((IntKind.wrap .u64 (r1 + r2))).toNat - (r1).toNat))).length * 1 ≤ 140737488355328)) then (some ((⟨(IntKind.wrap .u32 r4), (IntKind.wrap .u32 r5), ((Int.tmod (IntKind.wrap .u64 (Int.tdiv r3 4)) 2) == 1), ((Int.tmod (IntKind.wrap .u64 (Int.tdiv r3 2)) 2) == 1), ((Int.tmod r3 2) == 1), (([] : List Int) ++ ((x0.drop ((r1).toNat)).take (((IntKind.wrap .u64 (r1 + r2))).toNat - (r1).toNat)))⟩ : T45), true)) else none) else none) else none) else (some ((⟨(IntKind.wrap .u32 r4), (IntKind.wrap .u32 r5), ((Int.tmod (IntKind.wrap .u64 (Int.tdiv r3 4)) 2) == 1), ((Int.tmod (IntKind.wrap .u64 (Int.tdiv r3 2)) 2) == 1), ((Int.tmod r3 2) == 1), ([] : List Int)⟩ : T45), true))))))))))))))))))
theorem atlasref23_load.run (k : Nat) (x0 : (List Int)) (x1 : Int) : runF Try.prog (gamOf [(51, atlasref23_word.g k), (27, atlasref23_segment.g k)]) noLam Try.f52 [(.vt (.int .u8) x0), (.val (.int .u64 x1))] some = (atlasref23_load.f k x0 x1).bind fun r => some (.ret (.tup [(T45.av r.1), (.val (.bool r.2))])) := by
  unfold atlasref23_load.f
  try simp only [cond_bind, elim_bind, Option.bind_some, Option.bind_none, Option.bind_assoc, Sum.elim_inl, Sum.elim_inr]
  kernel_rfl
def atlasref23_load.g (k : Nat) : GFun := fun β args K => match args with
  | [a0, a1] => (vtO (.int .u8) a0).bind fun x0 => (intO .u64 a1).bind fun x1 => (atlasref23_load.f k x0 x1).bind fun r => K (.ret (.tup [(T45.av r.1), (.val (.bool r.2))]))
  | _ => none
theorem atlasref23_load.callable : callable Try.prog 52 = true := callable_of Try.func52 (by kernel_rfl)
theorem atlasref23_load.ok (k : Nat) : GOk Try.prog 52 (atlasref23_load.g k) := by
  intro β args K r h
  unfold atlasref23_load.g at h
  split at h
  · obtain ⟨x0, e0, h⟩ := Option.bind_eq_some_iff.1 h
    obtain ⟨x1, e1, h⟩ := Option.bind_eq_some_iff.1 h
    obtain ⟨y, hy, hK⟩ := Option.bind_eq_some_iff.1 h
    have hrun := atlasref23_load.run k x0 x1
    rw [hy] at hrun
    obtain ⟨out, e, hs⟩ := sim_of_run Try.func52 (by kernel_rfl) mixed (gamOf_cons (atlasref23_word.ok k) atlasref23_word.callable (gamOf_cons (atlasref23_segment.ok k) atlasref23_segment.callable (gamOf_nil _))) (noLam_ok _ _) (args' := [(.vt (.int .u8) x0), (.val (.int .u64 x1))]) (RefsL.cons (vtO_refs e0) (RefsL.cons (Refs.of_eq (intO_eq e1)) RefsL.nil)) hrun
    simp only [Option.some.injEq] at e
    subst e
    exact ⟨_, hK, hs⟩
  · cases h
/-! ### atlas/atlasref23.Find: function 12 -/
def atlasref23_Find.q0.h : Head (ByteArray × Int × Int × (List (Int × Int × (Bool × Bool × Bool × Unit) × (List Int) × Unit)) × (List (ByteArray × Int × Unit))) where
  k γ s F := (sizedN 28 s).bind fun _ => (strO (gt s.tm 1)).bind fun v2 => (ptrN 0 (gt s.tm 2)).bind fun b4 => (intO .i64 (gt s.tm 6)).bind fun v6 => (rowN 26 3 s.hp b4).bind fun l8 => (intO .u32 (gt l8 0)).bind fun v10 => (vtO (.pair (.int .u32) (.pair (.int .u32) (.pair (.pair .bool (.pair .bool (.pair .bool .unit))) (.pair (.vec (.int .u8)) .unit)))) (gt l8 1)).bind fun v12 => (vtO (.pair .str (.pair (.int .u32) .unit)) (gt l8 2)).bind fun v14 => (distO [some b4]).bind fun _ => F (v2, v6, v10, v12, v14)
  st x := ⟨sparseT [(1, (.val (.string x.1))), (2, (.ptr 0 0)), (6, (.val (.int .i64 x.2.1)))] 28 0, [.row [(.val (.int .u32 x.2.2.1)), (.vt (.pair (.int .u32) (.pair (.int .u32) (.pair (.pair .bool (.pair .bool (.pair .bool .unit))) (.pair (.vec (.int .u8)) .unit)))) x.2.2.2.1), (.vt (.pair .str (.pair (.int .u32) .unit)) x.2.2.2.2)] 26 true]⟩
  ok γ s F r h := by
    obtain ⟨_, hz, h⟩ := Option.bind_eq_some_iff.1 h
    obtain ⟨v2, h1, h⟩ := Option.bind_eq_some_iff.1 h
    obtain ⟨b4, h3, h⟩ := Option.bind_eq_some_iff.1 h
    obtain ⟨v6, h5, h⟩ := Option.bind_eq_some_iff.1 h
    obtain ⟨l8, h7, h⟩ := Option.bind_eq_some_iff.1 h
    obtain ⟨v10, h9, h⟩ := Option.bind_eq_some_iff.1 h
    obtain ⟨v12, h11, h⟩ := Option.bind_eq_some_iff.1 h
    obtain ⟨v14, h13, h⟩ := Option.bind_eq_some_iff.1 h
    obtain ⟨_, h15, h⟩ := Option.bind_eq_some_iff.1 h
    exact ⟨_, h, weak_ren (l := [some b4]) (sizedN_ok hz) (distO_ok h15) (LiveR.cons (RefsR.plain (Refs.of_eq (strO_eq h1)) rfl) (LiveR.cons (RefsR.ptr (l := [some b4]) (i := 0) rfl (ptrN_eq h3)) (LiveR.cons (RefsR.plain (Refs.of_eq (intO_eq h5)) rfl) LiveR.nil))) (BlksR.cons (rowN_refs h7 rfl (GtRefsR.cons (RefsR.plain (Refs.of_eq (intO_eq h9)) rfl) (GtRefsR.cons (RefsR.plain (vtO_refs h11) rfl) (GtRefsR.cons (RefsR.plain (vtO_refs h13) rfl) GtRefsR.nil))) rfl) BlksR.nil)⟩

def atlasref23_Find.q0.x0 : Head (Int × Bool) where
  k γ s F := (sizedN 28 s).bind fun _ => (intO .u32 (gt s.tm 4)).bind fun v2 => (boolO (gt s.tm 5)).bind fun v4 => (distO []).bind fun _ => F (v2, v4)
  st x := ⟨sparseT [(4, (.val (.int .u32 x.1))), (5, (.val (.bool x.2)))] 28 0, []⟩
  ok γ s F r h := by
    obtain ⟨_, hz, h⟩ := Option.bind_eq_some_iff.1 h
    obtain ⟨v2, h1, h⟩ := Option.bind_eq_some_iff.1 h
    obtain ⟨v4, h3, h⟩ := Option.bind_eq_some_iff.1 h
    obtain ⟨_, h5, h⟩ := Option.bind_eq_some_iff.1 h
    exact ⟨_, h, weak_ren (l := []) (sizedN_ok hz) (distO_ok h5) (LiveR.cons (RefsR.plain (Refs.of_eq (intO_eq h1)) rfl) (LiveR.cons (RefsR.plain (Refs.of_eq (boolO_eq h3)) rfl) LiveR.nil)) BlksR.nil⟩

def atlasref23_Find.q0.x1 : Head (Unit) where
  k γ s F := (sizedN 28 s).bind fun _ => (distO []).bind fun _ => F ()
  st x := ⟨sparseT [] 28 0, []⟩
  ok γ s F r h := by
    obtain ⟨_, hz, h⟩ := Option.bind_eq_some_iff.1 h
    obtain ⟨_, h1, h⟩ := Option.bind_eq_some_iff.1 h
    exact ⟨_, h, weak_ren (l := []) (sizedN_ok hz) (distO_ok h1) LiveR.nil BlksR.nil⟩

def atlasref23_Find.q0.t : Tail ((Int × Bool) ⊕ (Unit)) := Tail.or .ret atlasref23_Find.q0.x0 (Tail.one (.exit 0) atlasref23_Find.q0.x1)
theorem atlasref23_Find.q0.np (y : ((Int × Bool) ⊕ (Unit))) (v : AV) : (atlasref23_Find.q0.t.out y).1 = .panic v → nomem v = true := fun h => by rcases y with _ | y <;> first | (cases h; done) | (cases h; rfl) | (cases h)
theorem atlasref23_Find.q0.nn (y : ((Int × Bool) ⊕ (Unit))) : (atlasref23_Find.q0.t.out y).1 ≠ .normal := fun h => by rcases y with _ | y <;> first | (cases h; done) | (cases h; rfl) | (cases h)
def atlasref23_Find.q0.l (k : Nat) : Nat → (ByteArray × Int × Int × (List (Int × Int × (Bool × Bool × Bool × Unit) × (List Int) × Unit)) × (List (ByteArray × Int × Unit))) → Option ((Int × Bool) ⊕ (Unit))
  | 0, _ => none
  | n + 1, x => (bif (decide (x.2.1 < ((x.2.2.2.2.length : Nat) : Int))) then (bif (decide (0 ≤ x.2.1) && decide (x.2.1 < ((x.2.2.2.2.length : Nat) : Int))) then (bif (((x.2.2.2.2.getD (x.2.1).toNat (ByteArray.empty, 0, ())).1).toList == x.1.toList) then (bif (decide (0 ≤ x.2.1) && decide (x.2.1 < ((x.2.2.2.2.length : Nat) : Int))) then (some (Sum.inl ((x.2.2.2.2.getD (x.2.1).toNat (ByteArray.empty, 0, ())).2.1, true))) else none) else (atlasref23_Find.q0.l k n (x.1, (IntKind.wrap .i64 (x.2.1 + 1)), x.2.2.1, x.2.2.2.1, x.2.2.2.2))) else none) else (some (Sum.inr ())))
theorem atlasref23_Find.q0.z (k : Nat) (x : (ByteArray × Int × Int × (List (Int × Int × (Bool × Bool × Bool × Unit) × (List Int) × Unit)) × (List (ByteArray × Int × Unit)))) : atlasref23_Find.q0.l k 0 x = none := rfl
theorem atlasref23_Find.q0.at : codeAt (bodyOf Try.f12) [false, true, false, true] = some (.loop (loopBody (bodyOf Try.f12) [false, true, false, true])) := by kernel_rfl
theorem atlasref23_Find.q0.goes (k n : Nat) (x : (ByteArray × Int × Int × (List (Int × Int × (Bool × Bool × Bool × Unit) × (List Int) × Unit)) × (List (ByteArray × Int × Unit)))) : E Try.prog (gamOf []) (lamOf []) (loopBody (bodyOf Try.f12) [false, true, false, true]) (false :: [false, true, false, true]) (atlasref23_Find.q0.h.st x) (contD atlasref23_Find.q0.h atlasref23_Find.q0.t (atlasref23_Find.q0.l k n) some) = atlasref23_Find.q0.l k (n + 1) x := by
  kernel_rfl
theorem atlasref23_Find.q0.ok_ (k : Nat) : PieceOk Try.prog (bodyOf Try.f12) ⟨[false, true, false, true], _, _, atlasref23_Find.q0.h, atlasref23_Find.q0.t, atlasref23_Find.q0.l k k⟩ :=
  piece_loop (gamOf_nil _) (lamOf_nil _ _) mixed atlasref23_Find.q0.at atlasref23_Find.q0.np atlasref23_Find.q0.nn (atlasref23_Find.q0.z k) (atlasref23_Find.q0.goes k) k
def atlasref23_Find.q0.p (k : Nat) : Piece := ⟨[false, true, false, true], _, _, atlasref23_Find.q0.h, atlasref23_Find.q0.t, atlasref23_Find.q0.l k k⟩
theorem atlasref23_Find.q0.ok (k : Nat) : PieceOk Try.prog (bodyOf Try.f12) (atlasref23_Find.q0.p k) := atlasref23_Find.q0.ok_ k
def atlasref23_Find.f (k : Nat) (x0 : T25) (x1 : ByteArray) : Option (Int × Bool) := ((atlasref23_Find.q0.l k k (x1, 0, x0.f0_Entry, x0.f1_Segments, x0.f2_Symbols)).bind fun r1 => (Sum.elim (fun r2 => (some (r2.1, r2.2))) (fun r3 => (some (0, false))) r1))
theorem atlasref23_Find.run (k : Nat) (x0 : T25) (x1 : ByteArray) : runF Try.prog (gamOf []) (lamOf [atlasref23_Find.q0.p k]) Try.f12 [(T25.av x0), (.val (.string x1))] some = (atlasref23_Find.f k x0 x1).bind fun r => some (.ret (.tup [(.val (.int .u32 r.1)), (.val (.bool r.2))])) := by
  unfold atlasref23_Find.f
  try simp only [cond_bind, elim_bind, Option.bind_some, Option.bind_none, Option.bind_assoc, Sum.elim_inl, Sum.elim_inr]
  kernel_rfl
def atlasref23_Find.g (k : Nat) : GFun := fun β args K => match args with
  | [a0, a1] => (T25.of a0).bind fun x0 => (strO a1).bind fun x1 => (atlasref23_Find.f k x0 x1).bind fun r => K (.ret (.tup [(.val (.int .u32 r.1)), (.val (.bool r.2))]))
  | _ => none
theorem atlasref23_Find.callable : callable Try.prog 12 = true := callable_of Try.func12 (by kernel_rfl)
theorem atlasref23_Find.ok (k : Nat) : GOk Try.prog 12 (atlasref23_Find.g k) := by
  intro β args K r h
  unfold atlasref23_Find.g at h
  split at h
  · obtain ⟨x0, e0, h⟩ := Option.bind_eq_some_iff.1 h
    obtain ⟨x1, e1, h⟩ := Option.bind_eq_some_iff.1 h
    obtain ⟨y, hy, hK⟩ := Option.bind_eq_some_iff.1 h
    have hrun := atlasref23_Find.run k x0 x1
    rw [hy] at hrun
    obtain ⟨out, e, hs⟩ := sim_of_run Try.func12 (by kernel_rfl) mixed (gamOf_nil _) (lamOf_cons (atlasref23_Find.q0.ok k) (lamOf_nil _ _)) (args' := [(T25.av x0), (.val (.string x1))]) (RefsL.cons (T25.refs e0) (RefsL.cons (Refs.of_eq (strO_eq e1)) RefsL.nil)) hrun
    simp only [Option.some.injEq] at e
    subst e
    exact ⟨_, hK, hs⟩
  · cases h
/-! ### atlas/atlasref01.tail: function 68 -/
def atlasref01_tail.f (x0 : ByteArray) (x1 : Int) : Option (Bool) := (bif (decide (x1 < ((x0).size : Int))) then (bif (decide (0 ≤ x1) && decide (x1 < ((x0).size : Int))) then (bif (decide ((byteAt x0 x1) ≥ 128)) then (bif (decide (0 ≤ x1) && decide (x1 < ((x0).size : Int))) then (some (decide ((byteAt x0 x1) ≤ 191))) else none) else (some false)) else none) else (some false))
theorem atlasref01_tail.run (x0 : ByteArray) (x1 : Int) : runF Try.prog (gamOf []) noLam Try.f68 [(.val (.string x0)), (.val (.int .i64 x1))] some = (atlasref01_tail.f x0 x1).bind fun r => some (.ret (.val (.bool r))) := by
  unfold atlasref01_tail.f
  try simp only [cond_bind, elim_bind, Option.bind_some, Option.bind_none, Option.bind_assoc, Sum.elim_inl, Sum.elim_inr]
  kernel_rfl
def atlasref01_tail.g : GFun := fun β args K => match args with
  | [a0, a1] => (strO a0).bind fun x0 => (intO .i64 a1).bind fun x1 => (atlasref01_tail.f x0 x1).bind fun r => K (.ret (.val (.bool r)))
  | _ => none
theorem atlasref01_tail.callable : callable Try.prog 68 = true := callable_of Try.func68 (by kernel_rfl)
theorem atlasref01_tail.ok : GOk Try.prog 68 (atlasref01_tail.g) := by
  intro β args K r h
  unfold atlasref01_tail.g at h
  split at h
  · obtain ⟨x0, e0, h⟩ := Option.bind_eq_some_iff.1 h
    obtain ⟨x1, e1, h⟩ := Option.bind_eq_some_iff.1 h
    obtain ⟨y, hy, hK⟩ := Option.bind_eq_some_iff.1 h
    have hrun := atlasref01_tail.run x0 x1
    rw [hy] at hrun
    obtain ⟨out, e, hs⟩ := sim_of_run Try.func68 (by kernel_rfl) mixed (gamOf_nil _) (noLam_ok _ _) (args' := [(.val (.string x0)), (.val (.int .i64 x1))]) (RefsL.cons (Refs.of_eq (strO_eq e0)) (RefsL.cons (Refs.of_eq (intO_eq e1)) RefsL.nil)) hrun
    simp only [Option.some.injEq] at e
    subst e
    exact ⟨_, hK, hs⟩
  · cases h
end Go.Va
