-- Written by a program of this session (wip/va/vaprint.py). Not trusted: Lean checks it.
import Derived.Test.YtmphkmoakamepaaVaTy
import Derived.Test.YtmphkmoakamepaaVf7
set_option linter.unusedVariables false
set_option linter.unusedSimpArgs false
set_option autoImplicit false
set_option maxRecDepth 100000
namespace Go.Va
open Go.Proofs
/-! ### atlas/atlasref01.letter: function 60 -/
def atlasref01_letter.q0.h : Head (Int × Bool) where
  k γ s F := (sizedN 39 s).bind fun _ => (intO .i64 (gt s.tm 0)).bind fun v2 => (boolO (gt s.tm 3)).bind fun v4 => (distO []).bind fun _ => F (v2, v4)
  st x := ⟨sparseT [(0, (.val (.int .i64 x.1))), (3, (.val (.bool x.2)))] 39 0, []⟩
  ok γ s F r h := by
    have ⟨_, hz, h⟩ := bs h
    have ⟨v2, h1, h⟩ := bs h
    have ⟨v4, h3, h⟩ := bs h
    have ⟨_, h5, h⟩ := bs h
    exact ⟨_, h, weak_ren (l := []) (sizedN_ok hz) (distO_ok h5) (LiveR.cons (pI h1) (LiveR.cons (pB h3) LiveR.nil)) BlksR.nil⟩

def atlasref01_letter.q0.x0 : Head (Bool) where
  k γ s F := (sizedN 39 s).bind fun _ => (boolO (gt s.tm 2)).bind fun v2 => (distO []).bind fun _ => F (v2)
  st x := ⟨sparseT [(2, (.val (.bool x)))] 39 0, []⟩
  ok γ s F r h := by
    have ⟨_, hz, h⟩ := bs h
    have ⟨v2, h1, h⟩ := bs h
    have ⟨_, h3, h⟩ := bs h
    exact ⟨_, h, weak_ren (l := []) (sizedN_ok hz) (distO_ok h3) (LiveR.cons (pB h1) LiveR.nil) BlksR.nil⟩

def atlasref01_letter.q0.x1 : Head (Int) where
  k γ s F := (sizedN 39 s).bind fun _ => (intO .i64 (gt s.tm 0)).bind fun v2 => (distO []).bind fun _ => F (v2)
  st x := ⟨sparseT [(0, (.val (.int .i64 x)))] 39 0, []⟩
  ok γ s F r h := by
    have ⟨_, hz, h⟩ := bs h
    have ⟨v2, h1, h⟩ := bs h
    have ⟨_, h3, h⟩ := bs h
    exact ⟨_, h, weak_ren (l := []) (sizedN_ok hz) (distO_ok h3) (LiveR.cons (pI h1) LiveR.nil) BlksR.nil⟩

def atlasref01_letter.q0.t : Tail ((Bool) ⊕ (Int)) := Tail.or .ret atlasref01_letter.q0.x0 (Tail.one .normal atlasref01_letter.q0.x1)
theorem atlasref01_letter.q0.np (y : ((Bool) ⊕ (Int))) (v : AV) : (atlasref01_letter.q0.t.out y).1 = .panic v → nomem v = true := fun h => by rcases y with _ | y <;> first | (cases h; done) | (cases h; rfl) | (cases h)
def atlasref01_letter.q0.l (k : Nat) (x : (Int × Bool)) : Option ((Bool) ⊕ (Int)) := (bif x.2 then (some (Sum.inl true)) else (bif (decide (x.1 ≥ 192)) then (bif (decide (x.1 ≤ 591)) then (bif (x.1 != 215) then (some (Sum.inl (x.1 != 247))) else (some (Sum.inl false))) else (some (Sum.inr x.1))) else (some (Sum.inr x.1))))
theorem atlasref01_letter.q0.at : codeAt (bodyOf Try.f60) [true, false, false, true] = some (codeOf (bodyOf Try.f60) [true, false, false, true]) := by kernel_rfl
theorem atlasref01_letter.q0.goes (k : Nat) (x : (Int × Bool)) : E Try.prog (gamOf []) (lamOf []) (codeOf (bodyOf Try.f60) [true, false, false, true]) [true, false, false, true] (atlasref01_letter.q0.h.st x) (fun ex t => atlasref01_letter.q0.t.d _ ex t some) = atlasref01_letter.q0.l k x := by
  kernel_rfl
theorem atlasref01_letter.q0.ok_ (k : Nat) : PieceOk Try.prog (bodyOf Try.f60) ⟨[true, false, false, true], _, _, atlasref01_letter.q0.h, atlasref01_letter.q0.t, atlasref01_letter.q0.l k⟩ :=
  piece_code (gamOf_nil _) (lamOf_nil _ _) mixed atlasref01_letter.q0.at atlasref01_letter.q0.np (atlasref01_letter.q0.goes k)
def atlasref01_letter.q0.p (k : Nat) : Piece := ⟨[true, false, false, true], _, _, atlasref01_letter.q0.h, atlasref01_letter.q0.t, atlasref01_letter.q0.l k⟩
theorem atlasref01_letter.q0.ok (k : Nat) : PieceOk Try.prog (bodyOf Try.f60) (atlasref01_letter.q0.p k) := atlasref01_letter.q0.ok_ k
def atlasref01_letter.q1.h : Head (Int) where
  k γ s F := (sizedN 39 s).bind fun _ => (intO .i64 (gt s.tm 0)).bind fun v2 => (distO []).bind fun _ => F (v2)
  st x := ⟨sparseT [(0, (.val (.int .i64 x)))] 39 0, []⟩
  ok γ s F r h := by
    have ⟨_, hz, h⟩ := bs h
    have ⟨v2, h1, h⟩ := bs h
    have ⟨_, h3, h⟩ := bs h
    exact ⟨_, h, weak_ren (l := []) (sizedN_ok hz) (distO_ok h3) (LiveR.cons (pI h1) LiveR.nil) BlksR.nil⟩

def atlasref01_letter.q1.x0 : Head (Bool) where
  k γ s F := (sizedN 39 s).bind fun _ => (boolO (gt s.tm 2)).bind fun v2 => (distO []).bind fun _ => F (v2)
  st x := ⟨sparseT [(2, (.val (.bool x)))] 39 0, []⟩
  ok γ s F r h := by
    have ⟨_, hz, h⟩ := bs h
    have ⟨v2, h1, h⟩ := bs h
    have ⟨_, h3, h⟩ := bs h
    exact ⟨_, h, weak_ren (l := []) (sizedN_ok hz) (distO_ok h3) (LiveR.cons (pB h1) LiveR.nil) BlksR.nil⟩

def atlasref01_letter.q1.t : Tail (Bool) := Tail.one .ret atlasref01_letter.q1.x0
theorem atlasref01_letter.q1.np (y : (Bool)) (v : AV) : (atlasref01_letter.q1.t.out y).1 = .panic v → nomem v = true := fun h => by cases h
def atlasref01_letter.q1.l (k : Nat) (x : (Int)) : Option (Bool) := (bif (decide (x ≥ 913)) then (bif (decide (x ≤ 969)) then (some (x != 930)) else (some false)) else (some false))
theorem atlasref01_letter.q1.at : codeAt (bodyOf Try.f60) [true, true] = some (codeOf (bodyOf Try.f60) [true, true]) := by kernel_rfl
theorem atlasref01_letter.q1.goes (k : Nat) (x : (Int)) : E Try.prog (gamOf []) (lamOf []) (codeOf (bodyOf Try.f60) [true, true]) [true, true] (atlasref01_letter.q1.h.st x) (fun ex t => atlasref01_letter.q1.t.d _ ex t some) = atlasref01_letter.q1.l k x := by
  kernel_rfl
theorem atlasref01_letter.q1.ok_ (k : Nat) : PieceOk Try.prog (bodyOf Try.f60) ⟨[true, true], _, _, atlasref01_letter.q1.h, atlasref01_letter.q1.t, atlasref01_letter.q1.l k⟩ :=
  piece_code (gamOf_nil _) (lamOf_nil _ _) mixed atlasref01_letter.q1.at atlasref01_letter.q1.np (atlasref01_letter.q1.goes k)
def atlasref01_letter.q1.p (k : Nat) : Piece := ⟨[true, true], _, _, atlasref01_letter.q1.h, atlasref01_letter.q1.t, atlasref01_letter.q1.l k⟩
theorem atlasref01_letter.q1.ok (k : Nat) : PieceOk Try.prog (bodyOf Try.f60) (atlasref01_letter.q1.p k) := atlasref01_letter.q1.ok_ k
def atlasref01_letter.f (k : Nat) (x0 : Int) : Option (Bool) := (bif (decide (x0 ≥ 97)) then (bif (decide (x0 ≤ 122)) then ((atlasref01_letter.q0.l k (x0, (decide (x0 ≤ 122)))).bind fun r1 => (Sum.elim (fun r2 => (some r2)) (fun r3 => ((atlasref01_letter.q1.l k r3).bind fun r4 => (some r4))) r1)) else (bif (decide (x0 ≥ 65)) then ((atlasref01_letter.q0.l k (x0, (decide (x0 ≤ 90)))).bind fun r5 => (Sum.elim (fun r6 => (some r6)) (fun r7 => ((atlasref01_letter.q1.l k r7).bind fun r8 => (some r8))) r5)) else ((atlasref01_letter.q0.l k (x0, false)).bind fun r9 => (Sum.elim (fun r10 => (some r10)) (fun r11 => ((atlasref01_letter.q1.l k r11).bind fun r12 => (some r12))) r9)))) else (bif (decide (x0 ≥ 65)) then ((atlasref01_letter.q0.l k (x0, (decide (x0 ≤ 90)))).bind fun r13 => (Sum.elim (fun r14 => (some r14)) (fun r15 => ((atlasref01_letter.q1.l k r15).bind fun r16 => (some r16))) r13)) else ((atlasref01_letter.q0.l k (x0, false)).bind fun r17 => (Sum.elim (fun r18 => (some r18)) (fun r19 => ((atlasref01_letter.q1.l k r19).bind fun r20 => (some r20))) r17))))
theorem atlasref01_letter.run (k : Nat) (x0 : Int) : runF Try.prog (gamOf []) (lamOf [atlasref01_letter.q0.p k, atlasref01_letter.q1.p k]) Try.f60 [(.val (.int .i64 x0))] some = (atlasref01_letter.f k x0).bind fun r => some (.ret (.val (.bool r))) := by
  unfold atlasref01_letter.f
  try simp only [cond_bind, elim_bind, Option.bind_some, Option.bind_none, Option.bind_assoc, Sum.elim_inl, Sum.elim_inr]
  kernel_rfl
def atlasref01_letter.g (k : Nat) : GFun := fun β args K => match args with
  | [a0] => (intO .i64 a0).bind fun x0 => (atlasref01_letter.f k x0).bind fun r => K (.ret (.val (.bool r)))
  | _ => none
theorem atlasref01_letter.callable : callable Try.prog 60 = true := callable_of Try.func60 (by kernel_rfl)
theorem atlasref01_letter.ok (k : Nat) : GOk Try.prog 60 (atlasref01_letter.g k) := by
  intro β args K r h
  unfold atlasref01_letter.g at h
  split at h
  · obtain ⟨x0, e0, h⟩ := bs h
    obtain ⟨y, hy, hK⟩ := bs h
    have hrun := atlasref01_letter.run k x0
    rw [hy] at hrun
    obtain ⟨out, e, hs⟩ := sim_of_run Try.func60 (by kernel_rfl) mixed (gamOf_nil _) (lamOf_cons (atlasref01_letter.q0.ok k) (lamOf_cons (atlasref01_letter.q1.ok k) (lamOf_nil _ _))) (args' := [(.val (.int .i64 x0))]) (RefsL.cons (Refs.of_eq (intO_eq e0)) RefsL.nil) hrun
    simp only [Option.some.injEq] at e
    subst e
    exact ⟨_, hK, hs⟩
  · cases h
/-! ### atlas/atlasref01.digit: function 61 -/
def atlasref01_digit.f (x0 : Int) : Option (Bool) := (bif (decide (x0 ≥ 48)) then (some (decide (x0 ≤ 57))) else (some false))
theorem atlasref01_digit.run (x0 : Int) : runF Try.prog (gamOf []) noLam Try.f61 [(.val (.int .i64 x0))] some = (atlasref01_digit.f x0).bind fun r => some (.ret (.val (.bool r))) := by
  unfold atlasref01_digit.f
  try simp only [cond_bind, elim_bind, Option.bind_some, Option.bind_none, Option.bind_assoc, Sum.elim_inl, Sum.elim_inr]
  kernel_rfl
def atlasref01_digit.g : GFun := fun β args K => match args with
  | [a0] => (intO .i64 a0).bind fun x0 => (atlasref01_digit.f x0).bind fun r => K (.ret (.val (.bool r)))
  | _ => none
theorem atlasref01_digit.callable : callable Try.prog 61 = true := callable_of Try.func61 (by kernel_rfl)
theorem atlasref01_digit.ok : GOk Try.prog 61 (atlasref01_digit.g) := by
  intro β args K r h
  unfold atlasref01_digit.g at h
  split at h
  · obtain ⟨x0, e0, h⟩ := bs h
    obtain ⟨y, hy, hK⟩ := bs h
    have hrun := atlasref01_digit.run x0
    rw [hy] at hrun
    obtain ⟨out, e, hs⟩ := sim_of_run Try.func61 (by kernel_rfl) mixed (gamOf_nil _) (noLam_ok _ _) (args' := [(.val (.int .i64 x0))]) (RefsL.cons (Refs.of_eq (intO_eq e0)) RefsL.nil) hrun
    simp only [Option.some.injEq] at e
    subst e
    exact ⟨_, hK, hs⟩
  · cases h
/-! ### atlas/atlasref01.Name: function 28 -/
def atlasref01_Name.q0.h : Head (ByteArray × Int × Int) where
  k γ s F := (sizedN 44 s).bind fun _ => (strO (gt s.tm 0)).bind fun v2 => (intO .i64 (gt s.tm 3)).bind fun v4 => (intO .i64 (gt s.tm 4)).bind fun v6 => (distO []).bind fun _ => F (v2, v4, v6)
  st x := ⟨sparseT [(0, (.val (.string x.1))), (3, (.val (.int .i64 x.2.1))), (4, (.val (.int .i64 x.2.2)))] 44 0, []⟩
  ok γ s F r h := by
    have ⟨_, hz, h⟩ := bs h
    have ⟨v2, h1, h⟩ := bs h
    have ⟨v4, h3, h⟩ := bs h
    have ⟨v6, h5, h⟩ := bs h
    have ⟨_, h7, h⟩ := bs h
    exact ⟨_, h, weak_ren (l := []) (sizedN_ok hz) (distO_ok h7) (LiveR.cons (pS h1) (LiveR.cons (pI h3) (LiveR.cons (pI h5) LiveR.nil))) BlksR.nil⟩

def atlasref01_Name.q0.x0 : Head (Bool) where
  k γ s F := (sizedN 44 s).bind fun _ => (boolO (gt s.tm 2)).bind fun v2 => (distO []).bind fun _ => F (v2)
  st x := ⟨sparseT [(2, (.val (.bool x)))] 44 0, []⟩
  ok γ s F r h := by
    have ⟨_, hz, h⟩ := bs h
    have ⟨v2, h1, h⟩ := bs h
    have ⟨_, h3, h⟩ := bs h
    exact ⟨_, h, weak_ren (l := []) (sizedN_ok hz) (distO_ok h3) (LiveR.cons (pB h1) LiveR.nil) BlksR.nil⟩

def atlasref01_Name.q0.x1 : Head (Int) where
  k γ s F := (sizedN 44 s).bind fun _ => (intO .i64 (gt s.tm 3)).bind fun v2 => (distO []).bind fun _ => F (v2)
  st x := ⟨sparseT [(3, (.val (.int .i64 x)))] 44 0, []⟩
  ok γ s F r h := by
    have ⟨_, hz, h⟩ := bs h
    have ⟨v2, h1, h⟩ := bs h
    have ⟨_, h3, h⟩ := bs h
    exact ⟨_, h, weak_ren (l := []) (sizedN_ok hz) (distO_ok h3) (LiveR.cons (pI h1) LiveR.nil) BlksR.nil⟩

def atlasref01_Name.q0.t : Tail ((Bool) ⊕ (Int)) := Tail.or .ret atlasref01_Name.q0.x0 (Tail.one (.exit 0) atlasref01_Name.q0.x1)
theorem atlasref01_Name.q0.np (y : ((Bool) ⊕ (Int))) (v : AV) : (atlasref01_Name.q0.t.out y).1 = .panic v → nomem v = true := fun h => by rcases y with _ | y <;> first | (cases h; done) | (cases h; rfl) | (cases h)
theorem atlasref01_Name.q0.nn (y : ((Bool) ⊕ (Int))) : (atlasref01_Name.q0.t.out y).1 ≠ .normal := fun h => by rcases y with _ | y <;> first | (cases h; done) | (cases h; rfl) | (cases h)
def atlasref01_Name.q0.l (k : Nat) : Nat → (ByteArray × Int × Int) → Option ((Bool) ⊕ (Int))
  | 0, _ => none
  | n + 1, x => (bif (decide (x.2.2 < ((x.1).size : Int))) then ((atlasref01_Rune.f x.1 x.2.2).bind fun r1 => ((atlasref01_letter.f k r1.1).bind fun r2 => (bif (!r2) then (bif (x.2.1 == 0) then (some (Sum.inl false)) else ((atlasref01_digit.f r1.1).bind fun r3 => (bif (!r3) then (bif (r1.1 != 95) then (some (Sum.inl false)) else (atlasref01_Name.q0.l k n (x.1, (IntKind.wrap .i64 (x.2.1 + 1)), (IntKind.wrap .i64 (x.2.2 + r1.2))))) else (atlasref01_Name.q0.l k n (x.1, (IntKind.wrap .i64 (x.2.1 + 1)), (IntKind.wrap .i64 (x.2.2 + r1.2))))))) else (atlasref01_Name.q0.l k n (x.1, (IntKind.wrap .i64 (x.2.1 + 1)), (IntKind.wrap .i64 (x.2.2 + r1.2))))))) else (some (Sum.inr x.2.1)))
theorem atlasref01_Name.q0.z (k : Nat) (x : (ByteArray × Int × Int)) : atlasref01_Name.q0.l k 0 x = none := rfl
theorem atlasref01_Name.q0.at : codeAt (bodyOf Try.f28) [false, true, false, true, true] = some (.loop (loopBody (bodyOf Try.f28) [false, true, false, true, true])) := by kernel_rfl
theorem atlasref01_Name.q0.goes (k n : Nat) (x : (ByteArray × Int × Int)) : E Try.prog (gamOf [(59, atlasref01_Rune.g), (60, atlasref01_letter.g k), (61, atlasref01_digit.g)]) (lamOf []) (loopBody (bodyOf Try.f28) [false, true, false, true, true]) (false :: [false, true, false, true, true]) (atlasref01_Name.q0.h.st x) (contD atlasref01_Name.q0.h atlasref01_Name.q0.t (atlasref01_Name.q0.l k n) some) = atlasref01_Name.q0.l k (n + 1) x := by
  kernel_rfl
theorem atlasref01_Name.q0.ok_ (k : Nat) : PieceOk Try.prog (bodyOf Try.f28) ⟨[false, true, false, true, true], _, _, atlasref01_Name.q0.h, atlasref01_Name.q0.t, atlasref01_Name.q0.l k k⟩ :=
  piece_loop (gamOf_cons (atlasref01_Rune.ok) atlasref01_Rune.callable (gamOf_cons (atlasref01_letter.ok k) atlasref01_letter.callable (gamOf_cons (atlasref01_digit.ok) atlasref01_digit.callable (gamOf_nil _)))) (lamOf_nil _ _) mixed atlasref01_Name.q0.at atlasref01_Name.q0.np atlasref01_Name.q0.nn (atlasref01_Name.q0.z k) (atlasref01_Name.q0.goes k) k
def atlasref01_Name.q0.p (k : Nat) : Piece := ⟨[false, true, false, true, true], _, _, atlasref01_Name.q0.h, atlasref01_Name.q0.t, atlasref01_Name.q0.l k k⟩
theorem atlasref01_Name.q0.ok (k : Nat) : PieceOk Try.prog (bodyOf Try.f28) (atlasref01_Name.q0.p k) := atlasref01_Name.q0.ok_ k
def atlasref01_Name.f (k : Nat) (x0 : ByteArray) : Option (Bool) := ((atlasref01_Name.q0.l k k (x0, 0, 0)).bind fun r4 => (Sum.elim (fun r5 => (some r5)) (fun r6 => (bif (decide (r6 ≥ 1)) then (some (decide (r6 ≤ 16))) else (some false))) r4))
theorem atlasref01_Name.run (k : Nat) (x0 : ByteArray) : runF Try.prog (gamOf [(59, atlasref01_Rune.g), (60, atlasref01_letter.g k), (61, atlasref01_digit.g)]) (lamOf [atlasref01_Name.q0.p k]) Try.f28 [(.val (.string x0))] some = (atlasref01_Name.f k x0).bind fun r => some (.ret (.val (.bool r))) := by
  unfold atlasref01_Name.f
  try simp only [cond_bind, elim_bind, Option.bind_some, Option.bind_none, Option.bind_assoc, Sum.elim_inl, Sum.elim_inr]
  kernel_rfl
def atlasref01_Name.g (k : Nat) : GFun := fun β args K => match args with
  | [a0] => (strO a0).bind fun x0 => (atlasref01_Name.f k x0).bind fun r => K (.ret (.val (.bool r)))
  | _ => none
theorem atlasref01_Name.callable : callable Try.prog 28 = true := callable_of Try.func28 (by kernel_rfl)
theorem atlasref01_Name.ok (k : Nat) : GOk Try.prog 28 (atlasref01_Name.g k) := by
  intro β args K r h
  unfold atlasref01_Name.g at h
  split at h
  · obtain ⟨x0, e0, h⟩ := bs h
    obtain ⟨y, hy, hK⟩ := bs h
    have hrun := atlasref01_Name.run k x0
    rw [hy] at hrun
    obtain ⟨out, e, hs⟩ := sim_of_run Try.func28 (by kernel_rfl) mixed (gamOf_cons (atlasref01_Rune.ok) atlasref01_Rune.callable (gamOf_cons (atlasref01_letter.ok k) atlasref01_letter.callable (gamOf_cons (atlasref01_digit.ok) atlasref01_digit.callable (gamOf_nil _)))) (lamOf_cons (atlasref01_Name.q0.ok k) (lamOf_nil _ _)) (args' := [(.val (.string x0))]) (RefsL.cons (Refs.of_eq (strO_eq e0)) RefsL.nil) hrun
    simp only [Option.some.injEq] at e
    subst e
    exact ⟨_, hK, hs⟩
  · cases h
/-! ### atlas/atlasref23.end: function 62 -/
def atlasref23_end.f (x0 : T45) : Option (Int) := (some (IntKind.wrap .u64 ((IntKind.wrap .u64 (Int.tdiv (IntKind.wrap .u64 ((IntKind.wrap .u64 ((IntKind.wrap .u64 ((IntKind.wrap .u64 x0.f0_VA) + (IntKind.wrap .u64 x0.f1_Size))) + 4096)) - 1)) 4096)) * 4096)))
theorem atlasref23_end.run (x0 : T45) : runF Try.prog (gamOf []) noLam Try.f62 [(T45.av x0)] some = (atlasref23_end.f x0).bind fun r => some (.ret (.val (.int .u64 r))) := by
  unfold atlasref23_end.f
  try simp only [cond_bind, elim_bind, Option.bind_some, Option.bind_none, Option.bind_assoc, Sum.elim_inl, Sum.elim_inr]
  kernel_rfl
def atlasref23_end.g : GFun := fun β args K => match args with
  | [a0] => (T45.of a0).bind fun x0 => (atlasref23_end.f x0).bind fun r => K (.ret (.val (.int .u64 r)))
  | _ => none
theorem atlasref23_end.callable : callable Try.prog 62 = true := callable_of Try.func62 (by kernel_rfl)
theorem atlasref23_end.ok : GOk Try.prog 62 (atlasref23_end.g) := by
  intro β args K r h
  unfold atlasref23_end.g at h
  split at h
  · obtain ⟨x0, e0, h⟩ := bs h
    obtain ⟨y, hy, hK⟩ := bs h
    have hrun := atlasref23_end.run x0
    rw [hy] at hrun
    obtain ⟨out, e, hs⟩ := sim_of_run Try.func62 (by kernel_rfl) mixed (gamOf_nil _) (noLam_ok _ _) (args' := [(T45.av x0)]) (RefsL.cons (T45.refs e0) RefsL.nil) hrun
    simp only [Option.some.injEq] at e
    subst e
    exact ⟨_, hK, hs⟩
  · cases h
/-! ### atlas/atlasref23.rise: function 29 -/
def atlasref23_rise.q0.h : Head (SgL × Int) where
  k γ s F := (sizedN 23 s).bind fun _ => (vtO SgC (gt s.tm 0)).bind fun v2 => (intO .i64 (gt s.tm 3)).bind fun v4 => (distO []).bind fun _ => F (v2, v4)
  st x := ⟨sparseT [(0, (.vt SgC x.1)), (3, (.val (.int .i64 x.2)))] 23 0, []⟩
  ok γ s F r h := by
    have ⟨_, hz, h⟩ := bs h
    have ⟨v2, h1, h⟩ := bs h
    have ⟨v4, h3, h⟩ := bs h
    have ⟨_, h5, h⟩ := bs h
    exact ⟨_, h, weak_ren (l := []) (sizedN_ok hz) (distO_ok h5) (LiveR.cons (pV h1) (LiveR.cons (pI h3) LiveR.nil)) BlksR.nil⟩

def atlasref23_rise.q0.x0 : Head (Bool) where
  k γ s F := (sizedN 23 s).bind fun _ => (boolO (gt s.tm 2)).bind fun v2 => (distO []).bind fun _ => F (v2)
  st x := ⟨sparseT [(2, (.val (.bool x)))] 23 0, []⟩
  ok γ s F r h := by
    have ⟨_, hz, h⟩ := bs h
    have ⟨v2, h1, h⟩ := bs h
    have ⟨_, h3, h⟩ := bs h
    exact ⟨_, h, weak_ren (l := []) (sizedN_ok hz) (distO_ok h3) (LiveR.cons (pB h1) LiveR.nil) BlksR.nil⟩

def atlasref23_rise.q0.x1 : Head (Unit) where
  k γ s F := (sizedN 23 s).bind fun _ => (distO []).bind fun _ => F ()
  st x := ⟨sparseT [] 23 0, []⟩
  ok γ s F r h := by
    have ⟨_, hz, h⟩ := bs h
    have ⟨_, h1, h⟩ := bs h
    exact ⟨_, h, weak_ren (l := []) (sizedN_ok hz) (distO_ok h1) LiveR.nil BlksR.nil⟩

def atlasref23_rise.q0.t : Tail ((Bool) ⊕ (Unit)) := Tail.or .ret atlasref23_rise.q0.x0 (Tail.one (.exit 0) atlasref23_rise.q0.x1)
theorem atlasref23_rise.q0.np (y : ((Bool) ⊕ (Unit))) (v : AV) : (atlasref23_rise.q0.t.out y).1 = .panic v → nomem v = true := fun h => by rcases y with _ | y <;> first | (cases h; done) | (cases h; rfl) | (cases h)
theorem atlasref23_rise.q0.nn (y : ((Bool) ⊕ (Unit))) : (atlasref23_rise.q0.t.out y).1 ≠ .normal := fun h => by rcases y with _ | y <;> first | (cases h; done) | (cases h; rfl) | (cases h)
def atlasref23_rise.q0.l (k : Nat) : Nat → (SgL × Int) → Option ((Bool) ⊕ (Unit))
  | 0, _ => none
  | n + 1, x => (bif (decide (x.2 < ((x.1.length : Nat) : Int))) then (bif (decide (0 ≤ x.2) && decide (x.2 < ((x.1.length : Nat) : Int))) then (bif (decide (0 ≤ (IntKind.wrap .i64 (x.2 - 1))) && decide ((IntKind.wrap .i64 (x.2 - 1)) < ((x.1.length : Nat) : Int))) then ((atlasref23_end.f (⟨(x.1.getD ((IntKind.wrap .i64 (x.2 - 1))).toNat (0, 0, (false, false, false, ()), [], ())).1, (x.1.getD ((IntKind.wrap .i64 (x.2 - 1))).toNat (0, 0, (false, false, false, ()), [], ())).2.1, (x.1.getD ((IntKind.wrap .i64 (x.2 - 1))).toNat (0, 0, (false, false, false, ()), [], ())).2.2.1.1, (x.1.getD ((IntKind.wrap .i64 (x.2 - 1))).toNat (0, 0, (false, false, false, ()), [], ())).2.2.1.2.1, (x.1.getD ((IntKind.wrap .i64 (x.2 - 1))).toNat (0, 0, (false, false, false, ()), [], ())).2.2.1.2.2.1, (x.1.getD ((IntKind.wrap .i64 (x.2 - 1))).toNat (0, 0, (false, false, false, ()), [], ())).2.2.2.1⟩ : T45)).bind fun r1 => (bif (decide ((IntKind.wrap .u64 ((x.1.getD (x.2).toNat (0, 0, (false, false, false, ()), [], ())).1)) < r1)) then (some (Sum.inl false)) else (atlasref23_rise.q0.l k n (x.1, (IntKind.wrap .i64 (x.2 + 1)))))) else none) else none) else (some (Sum.inr ())))
theorem atlasref23_rise.q0.z (k : Nat) (x : (SgL × Int)) : atlasref23_rise.q0.l k 0 x = none := rfl
theorem atlasref23_rise.q0.at : codeAt (bodyOf Try.f29) [false, true, false, true] = some (.loop (loopBody (bodyOf Try.f29) [false, true, false, true])) := by kernel_rfl
theorem atlasref23_rise.q0.goes (k n : Nat) (x : (SgL × Int)) : E Try.prog (gamOf [(62, atlasref23_end.g)]) (lamOf []) (loopBody (bodyOf Try.f29) [false, true, false, true]) (false :: [false, true, false, true]) (atlasref23_rise.q0.h.st x) (contD atlasref23_rise.q0.h atlasref23_rise.q0.t (atlasref23_rise.q0.l k n) some) = atlasref23_rise.q0.l k (n + 1) x := by
  kernel_rfl
theorem atlasref23_rise.q0.ok_ (k : Nat) : PieceOk Try.prog (bodyOf Try.f29) ⟨[false, true, false, true], _, _, atlasref23_rise.q0.h, atlasref23_rise.q0.t, atlasref23_rise.q0.l k k⟩ :=
  piece_loop (gamOf_cons (atlasref23_end.ok) atlasref23_end.callable (gamOf_nil _)) (lamOf_nil _ _) mixed atlasref23_rise.q0.at atlasref23_rise.q0.np atlasref23_rise.q0.nn (atlasref23_rise.q0.z k) (atlasref23_rise.q0.goes k) k
def atlasref23_rise.q0.p (k : Nat) : Piece := ⟨[false, true, false, true], _, _, atlasref23_rise.q0.h, atlasref23_rise.q0.t, atlasref23_rise.q0.l k k⟩
theorem atlasref23_rise.q0.ok (k : Nat) : PieceOk Try.prog (bodyOf Try.f29) (atlasref23_rise.q0.p k) := atlasref23_rise.q0.ok_ k
def atlasref23_rise.f (k : Nat) (x0 : SgL) : Option (Bool) := ((atlasref23_rise.q0.l k k (x0, 1)).bind fun r2 => (Sum.elim (fun r3 => (some r3)) (fun r4 => (some true)) r2))
theorem atlasref23_rise.run (k : Nat) (x0 : SgL) : runF Try.prog (gamOf [(62, atlasref23_end.g)]) (lamOf [atlasref23_rise.q0.p k]) Try.f29 [(.vt SgC x0)] some = (atlasref23_rise.f k x0).bind fun r => some (.ret (.val (.bool r))) := by
  unfold atlasref23_rise.f
  try simp only [cond_bind, elim_bind, Option.bind_some, Option.bind_none, Option.bind_assoc, Sum.elim_inl, Sum.elim_inr]
  kernel_rfl
def atlasref23_rise.g (k : Nat) : GFun := fun β args K => match args with
  | [a0] => (vtO SgC a0).bind fun x0 => (atlasref23_rise.f k x0).bind fun r => K (.ret (.val (.bool r)))
  | _ => none
theorem atlasref23_rise.callable : callable Try.prog 29 = true := callable_of Try.func29 (by kernel_rfl)
theorem atlasref23_rise.ok (k : Nat) : GOk Try.prog 29 (atlasref23_rise.g k) := by
  intro β args K r h
  unfold atlasref23_rise.g at h
  split at h
  · obtain ⟨x0, e0, h⟩ := bs h
    obtain ⟨y, hy, hK⟩ := bs h
    have hrun := atlasref23_rise.run k x0
    rw [hy] at hrun
    obtain ⟨out, e, hs⟩ := sim_of_run Try.func29 (by kernel_rfl) mixed (gamOf_cons (atlasref23_end.ok) atlasref23_end.callable (gamOf_nil _)) (lamOf_cons (atlasref23_rise.q0.ok k) (lamOf_nil _ _)) (args' := [(.vt SgC x0)]) (RefsL.cons (vtO_refs e0) RefsL.nil) hrun
    simp only [Option.some.injEq] at e
    subst e
    exact ⟨_, hK, hs⟩
  · cases h
/-! ### atlas/atlasref23.start: function 30 -/
def atlasref23_start.q0.h : Head (SgL × Int × Int) where
  k γ s F := (sizedN 52 s).bind fun _ => (vtO SgC (gt s.tm 0)).bind fun v2 => (intO .u32 (gt s.tm 1)).bind fun v4 => (intO .i64 (gt s.tm 5)).bind fun v6 => (distO []).bind fun _ => F (v2, v4, v6)
  st x := ⟨sparseT [(0, (.vt SgC x.1)), (1, (.val (.int .u32 x.2.1))), (5, (.val (.int .i64 x.2.2)))] 52 0, []⟩
  ok γ s F r h := by
    have ⟨_, hz, h⟩ := bs h
    have ⟨v2, h1, h⟩ := bs h
    have ⟨v4, h3, h⟩ := bs h
    have ⟨v6, h5, h⟩ := bs h
    have ⟨_, h7, h⟩ := bs h
    exact ⟨_, h, weak_ren (l := []) (sizedN_ok hz) (distO_ok h7) (LiveR.cons (pV h1) (LiveR.cons (pI h3) (LiveR.cons (pI h5) LiveR.nil))) BlksR.nil⟩

def atlasref23_start.q0.x0 : Head (Bool) where
  k γ s F := (sizedN 52 s).bind fun _ => (boolO (gt s.tm 4)).bind fun v2 => (distO []).bind fun _ => F (v2)
  st x := ⟨sparseT [(4, (.val (.bool x)))] 52 0, []⟩
  ok γ s F r h := by
    have ⟨_, hz, h⟩ := bs h
    have ⟨v2, h1, h⟩ := bs h
    have ⟨_, h3, h⟩ := bs h
    exact ⟨_, h, weak_ren (l := []) (sizedN_ok hz) (distO_ok h3) (LiveR.cons (pB h1) LiveR.nil) BlksR.nil⟩

def atlasref23_start.q0.x1 : Head (Unit) where
  k γ s F := (sizedN 52 s).bind fun _ => (distO []).bind fun _ => F ()
  st x := ⟨sparseT [] 52 0, []⟩
  ok γ s F r h := by
    have ⟨_, hz, h⟩ := bs h
    have ⟨_, h1, h⟩ := bs h
    exact ⟨_, h, weak_ren (l := []) (sizedN_ok hz) (distO_ok h1) LiveR.nil BlksR.nil⟩

def atlasref23_start.q0.t : Tail ((Bool) ⊕ (Unit)) := Tail.or .ret atlasref23_start.q0.x0 (Tail.one (.exit 0) atlasref23_start.q0.x1)
theorem atlasref23_start.q0.np (y : ((Bool) ⊕ (Unit))) (v : AV) : (atlasref23_start.q0.t.out y).1 = .panic v → nomem v = true := fun h => by rcases y with _ | y <;> first | (cases h; done) | (cases h; rfl) | (cases h)
theorem atlasref23_start.q0.nn (y : ((Bool) ⊕ (Unit))) : (atlasref23_start.q0.t.out y).1 ≠ .normal := fun h => by rcases y with _ | y <;> first | (cases h; done) | (cases h; rfl) | (cases h)
def atlasref23_start.q0.l (k : Nat) : Nat → (SgL × Int × Int) → Option ((Bool) ⊕ (Unit))
  | 0, _ => none
  | n + 1, x => (bif (decide (x.2.2 < ((x.1.length : Nat) : Int))) then (bif (decide (0 ≤ x.2.2) && decide (x.2.2 < ((x.1.length : Nat) : Int))) then (bif (x.1.getD (x.2.2).toNat (0, 0, (false, false, false, ()), [], ())).2.2.1.2.2.1 then (bif (decide (0 ≤ x.2.2) && decide (x.2.2 < ((x.1.length : Nat) : Int))) then (bif (decide ((IntKind.wrap .u64 x.2.1) ≥ (IntKind.wrap .u64 ((x.1.getD (x.2.2).toNat (0, 0, (false, false, false, ()), [], ())).1)))) then (bif (decide (0 ≤ x.2.2) && decide (x.2.2 < ((x.1.length : Nat) : Int))) then (bif (decide (0 ≤ x.2.2) && decide (x.2.2 < ((x.1.length : Nat) : Int))) then (bif (decide ((IntKind.wrap .u64 ((IntKind.wrap .u64 x.2.1) + 4)) ≤ (IntKind.wrap .u64 ((IntKind.wrap .u64 ((x.1.getD (x.2.2).toNat (0, 0, (false, false, false, ()), [], ())).1)) + (IntKind.wrap .u64 ((x.1.getD (x.2.2).toNat (0, 0, (false, false, false, ()), [], ())).2.1)))))) then (some (Sum.inl true)) else (atlasref23_start.q0.l k n (x.1, x.2.1, (IntKind.wrap .i64 (x.2.2 + 1))))) else none) else none) else (atlasref23_start.q0.l k n (x.1, x.2.1, (IntKind.wrap .i64 (x.2.2 + 1))))) else none) else (atlasref23_start.q0.l k n (x.1, x.2.1, (IntKind.wrap .i64 (x.2.2 + 1))))) else none) else (some (Sum.inr ())))
theorem atlasref23_start.q0.z (k : Nat) (x : (SgL × Int × Int)) : atlasref23_start.q0.l k 0 x = none := rfl
theorem atlasref23_start.q0.at : codeAt (bodyOf Try.f30) [false, true, false, true, true] = some (.loop (loopBody (bodyOf Try.f30) [false, true, false, true, true])) := by kernel_rfl
theorem atlasref23_start.q0.goes (k n : Nat) (x : (SgL × Int × Int)) : E Try.prog (gamOf []) (lamOf []) (loopBody (bodyOf Try.f30) [false, true, false, true, true]) (false :: [false, true, false, true, true]) (atlasref23_start.q0.h.st x) (contD atlasref23_start.q0.h atlasref23_start.q0.t (atlasref23_start.q0.l k n) some) = atlasref23_start.q0.l k (n + 1) x := by
  kernel_rfl
theorem atlasref23_start.q0.ok_ (k : Nat) : PieceOk Try.prog (bodyOf Try.f30) ⟨[false, true, false, true, true], _, _, atlasref23_start.q0.h, atlasref23_start.q0.t, atlasref23_start.q0.l k k⟩ :=
  piece_loop (gamOf_nil _) (lamOf_nil _ _) mixed atlasref23_start.q0.at atlasref23_start.q0.np atlasref23_start.q0.nn (atlasref23_start.q0.z k) (atlasref23_start.q0.goes k) k
def atlasref23_start.q0.p (k : Nat) : Piece := ⟨[false, true, false, true, true], _, _, atlasref23_start.q0.h, atlasref23_start.q0.t, atlasref23_start.q0.l k k⟩
theorem atlasref23_start.q0.ok (k : Nat) : PieceOk Try.prog (bodyOf Try.f30) (atlasref23_start.q0.p k) := atlasref23_start.q0.ok_ k
def atlasref23_start.f (k : Nat) (x0 : SgL) (x1 : Int) : Option (Bool) := (bif ((Int.tmod x1 4) != 0) then (some false) else ((atlasref23_start.q0.l k k (x0, x1, 0)).bind fun r1 => (Sum.elim (fun r2 => (some r2)) (fun r3 => (some false)) r1)))
theorem atlasref23_start.run (k : Nat) (x0 : SgL) (x1 : Int) : runF Try.prog (gamOf []) (lamOf [atlasref23_start.q0.p k]) Try.f30 [(.vt SgC x0), (.val (.int .u32 x1))] some = (atlasref23_start.f k x0 x1).bind fun r => some (.ret (.val (.bool r))) := by
  unfold atlasref23_start.f
  try simp only [cond_bind, elim_bind, Option.bind_some, Option.bind_none, Option.bind_assoc, Sum.elim_inl, Sum.elim_inr]
  kernel_rfl
def atlasref23_start.g (k : Nat) : GFun := fun β args K => match args with
  | [a0, a1] => (vtO SgC a0).bind fun x0 => (intO .u32 a1).bind fun x1 => (atlasref23_start.f k x0 x1).bind fun r => K (.ret (.val (.bool r)))
  | _ => none
theorem atlasref23_start.callable : callable Try.prog 30 = true := callable_of Try.func30 (by kernel_rfl)
theorem atlasref23_start.ok (k : Nat) : GOk Try.prog 30 (atlasref23_start.g k) := by
  intro β args K r h
  unfold atlasref23_start.g at h
  split at h
  · obtain ⟨x0, e0, h⟩ := bs h
    have ⟨x1, e1, h⟩ := bs h
    obtain ⟨y, hy, hK⟩ := bs h
    have hrun := atlasref23_start.run k x0 x1
    rw [hy] at hrun
    obtain ⟨out, e, hs⟩ := sim_of_run Try.func30 (by kernel_rfl) mixed (gamOf_nil _) (lamOf_cons (atlasref23_start.q0.ok k) (lamOf_nil _ _)) (args' := [(.vt SgC x0), (.val (.int .u32 x1))]) (RefsL.cons (vtO_refs e0) (RefsL.cons (Refs.of_eq (intO_eq e1)) RefsL.nil)) hrun
    simp only [Option.some.injEq] at e
    subst e
    exact ⟨_, hK, hs⟩
  · cases h
/-! ### atlas/atlasref23.Right: function 16 -/
def atlasref23_Right.q0.h : Head (Int × Int × SgL × SyL) where
  k γ s F := (sizedN 80 s).bind fun _ => (ptrN 0 (gt s.tm 1)).bind fun b2 => (intO .i64 (gt s.tm 3)).bind fun v4 => (rowN 26 3 s.hp b2).bind fun l6 => (intO .u32 (gt l6 0)).bind fun v8 => (vtO SgC (gt l6 1)).bind fun v10 => (vtO SyC (gt l6 2)).bind fun v12 => (distO [some b2]).bind fun _ => F (v4, v8, v10, v12)
  st x := ⟨sparseT [(1, (.ptr 0 0)), (3, (.val (.int .i64 x.1)))] 80 0, [.row [(.val (.int .u32 x.2.1)), (.vt SgC x.2.2.1), (.vt SyC x.2.2.2)] 26 true]⟩
  ok γ s F r h := by
    have ⟨_, hz, h⟩ := bs h
    have ⟨b2, h1, h⟩ := bs h
    have ⟨v4, h3, h⟩ := bs h
    have ⟨l6, h5, h⟩ := bs h
    have ⟨v8, h7, h⟩ := bs h
    have ⟨v10, h9, h⟩ := bs h
    have ⟨v12, h11, h⟩ := bs h
    have ⟨_, h13, h⟩ := bs h
    exact ⟨_, h, weak_ren (l := [some b2]) (sizedN_ok hz) (distO_ok h13) (LiveR.cons (RefsR.ptr (l := [some b2]) (i := 0) rfl (ptrN_eq h1)) (LiveR.cons (pI h3) LiveR.nil)) (BlksR.cons (rowN_refs h5 rfl (GtRefsR.cons (pI h7) (GtRefsR.cons (pV h9) (GtRefsR.cons (pV h11) GtRefsR.nil))) rfl) BlksR.nil)⟩

def atlasref23_Right.q0.x0 : Head (Bool) where
  k γ s F := (sizedN 80 s).bind fun _ => (boolO (gt s.tm 2)).bind fun v2 => (distO []).bind fun _ => F (v2)
  st x := ⟨sparseT [(2, (.val (.bool x)))] 80 0, []⟩
  ok γ s F r h := by
    have ⟨_, hz, h⟩ := bs h
    have ⟨v2, h1, h⟩ := bs h
    have ⟨_, h3, h⟩ := bs h
    exact ⟨_, h, weak_ren (l := []) (sizedN_ok hz) (distO_ok h3) (LiveR.cons (pB h1) LiveR.nil) BlksR.nil⟩

def atlasref23_Right.q0.x1 : Head (Int × SgL × SyL) where
  k γ s F := (sizedN 80 s).bind fun _ => (ptrN 0 (gt s.tm 1)).bind fun b2 => (rowN 26 3 s.hp b2).bind fun l4 => (intO .u32 (gt l4 0)).bind fun v6 => (vtO SgC (gt l4 1)).bind fun v8 => (vtO SyC (gt l4 2)).bind fun v10 => (distO [some b2]).bind fun _ => F (v6, v8, v10)
  st x := ⟨sparseT [(1, (.ptr 0 0))] 80 0, [.row [(.val (.int .u32 x.1)), (.vt SgC x.2.1), (.vt SyC x.2.2)] 26 true]⟩
  ok γ s F r h := by
    have ⟨_, hz, h⟩ := bs h
    have ⟨b2, h1, h⟩ := bs h
    have ⟨l4, h3, h⟩ := bs h
    have ⟨v6, h5, h⟩ := bs h
    have ⟨v8, h7, h⟩ := bs h
    have ⟨v10, h9, h⟩ := bs h
    have ⟨_, h11, h⟩ := bs h
    exact ⟨_, h, weak_ren (l := [some b2]) (sizedN_ok hz) (distO_ok h11) (LiveR.cons (RefsR.ptr (l := [some b2]) (i := 0) rfl (ptrN_eq h1)) LiveR.nil) (BlksR.cons (rowN_refs h3 rfl (GtRefsR.cons (pI h5) (GtRefsR.cons (pV h7) (GtRefsR.cons (pV h9) GtRefsR.nil))) rfl) BlksR.nil)⟩

def atlasref23_Right.q0.t : Tail ((Bool) ⊕ (Int × SgL × SyL)) := Tail.or .ret atlasref23_Right.q0.x0 (Tail.one (.exit 0) atlasref23_Right.q0.x1)
theorem atlasref23_Right.q0.np (y : ((Bool) ⊕ (Int × SgL × SyL))) (v : AV) : (atlasref23_Right.q0.t.out y).1 = .panic v → nomem v = true := fun h => by rcases y with _ | y <;> first | (cases h; done) | (cases h; rfl) | (cases h)
theorem atlasref23_Right.q0.nn (y : ((Bool) ⊕ (Int × SgL × SyL))) : (atlasref23_Right.q0.t.out y).1 ≠ .normal := fun h => by rcases y with _ | y <;> first | (cases h; done) | (cases h; rfl) | (cases h)
def atlasref23_Right.q0.l (k : Nat) : Nat → (Int × Int × SgL × SyL) → Option ((Bool) ⊕ (Int × SgL × SyL))
  | 0, _ => none
  | n + 1, x => (bif (decide (x.1 < ((x.2.2.1.length : Nat) : Int))) then (bif (decide (0 ≤ x.1) && decide (x.1 < ((x.2.2.1.length : Nat) : Int))) then ((atlasref23_segment.f k (⟨(x.2.2.1.getD (x.1).toNat (0, 0, (false, false, false, ()), [], ())).1, (x.2.2.1.getD (x.1).toNat (0, 0, (false, false, false, ()), [], ())).2.1, (x.2.2.1.getD (x.1).toNat (0, 0, (false, false, false, ()), [], ())).2.2.1.1, (x.2.2.1.getD (x.1).toNat (0, 0, (false, false, false, ()), [], ())).2.2.1.2.1, (x.2.2.1.getD (x.1).toNat (0, 0, (false, false, false, ()), [], ())).2.2.1.2.2.1, (x.2.2.1.getD (x.1).toNat (0, 0, (false, false, false, ()), [], ())).2.2.2.1⟩ : T45)).bind fun r1 => (bif (!r1) then (some (Sum.inl false)) else (atlasref23_Right.q0.l k n ((IntKind.wrap .i64 (x.1 + 1)), x.2.1, x.2.2.1, x.2.2.2)))) else none) else (some (Sum.inr (x.2.1, x.2.2.1, x.2.2.2))))
theorem atlasref23_Right.q0.z (k : Nat) (x : (Int × Int × SgL × SyL)) : atlasref23_Right.q0.l k 0 x = none := rfl
theorem atlasref23_Right.q0.at : codeAt (bodyOf Try.f16) [false, true, false, true, true] = some (.loop (loopBody (bodyOf Try.f16) [false, true, false, true, true])) := by kernel_rfl
theorem atlasref23_Right.q0.goes (k n : Nat) (x : (Int × Int × SgL × SyL)) : E Try.prog (gamOf [(27, atlasref23_segment.g k)]) (lamOf []) (loopBody (bodyOf Try.f16) [false, true, false, true, true]) (false :: [false, true, false, true, true]) (atlasref23_Right.q0.h.st x) (contD atlasref23_Right.q0.h atlasref23_Right.q0.t (atlasref23_Right.q0.l k n) some) = atlasref23_Right.q0.l k (n + 1) x := by
  kernel_rfl
theorem atlasref23_Right.q0.ok_ (k : Nat) : PieceOk Try.prog (bodyOf Try.f16) ⟨[false, true, false, true, true], _, _, atlasref23_Right.q0.h, atlasref23_Right.q0.t, atlasref23_Right.q0.l k k⟩ :=
  piece_loop (gamOf_cons (atlasref23_segment.ok k) atlasref23_segment.callable (gamOf_nil _)) (lamOf_nil _ _) mixed atlasref23_Right.q0.at atlasref23_Right.q0.np atlasref23_Right.q0.nn (atlasref23_Right.q0.z k) (atlasref23_Right.q0.goes k) k
def atlasref23_Right.q0.p (k : Nat) : Piece := ⟨[false, true, false, true, true], _, _, atlasref23_Right.q0.h, atlasref23_Right.q0.t, atlasref23_Right.q0.l k k⟩
theorem atlasref23_Right.q0.ok (k : Nat) : PieceOk Try.prog (bodyOf Try.f16) (atlasref23_Right.q0.p k) := atlasref23_Right.q0.ok_ k
def atlasref23_Right.q1.h : Head (Int × Int × SgL × SyL) where
  k γ s F := (sizedN 80 s).bind fun _ => (ptrN 0 (gt s.tm 1)).bind fun b2 => (intO .i64 (gt s.tm 4)).bind fun v4 => (rowN 26 3 s.hp b2).bind fun l6 => (intO .u32 (gt l6 0)).bind fun v8 => (vtO SgC (gt l6 1)).bind fun v10 => (vtO SyC (gt l6 2)).bind fun v12 => (distO [some b2]).bind fun _ => F (v4, v8, v10, v12)
  st x := ⟨sparseT [(1, (.ptr 0 0)), (4, (.val (.int .i64 x.1)))] 80 0, [.row [(.val (.int .u32 x.2.1)), (.vt SgC x.2.2.1), (.vt SyC x.2.2.2)] 26 true]⟩
  ok γ s F r h := by
    have ⟨_, hz, h⟩ := bs h
    have ⟨b2, h1, h⟩ := bs h
    have ⟨v4, h3, h⟩ := bs h
    have ⟨l6, h5, h⟩ := bs h
    have ⟨v8, h7, h⟩ := bs h
    have ⟨v10, h9, h⟩ := bs h
    have ⟨v12, h11, h⟩ := bs h
    have ⟨_, h13, h⟩ := bs h
    exact ⟨_, h, weak_ren (l := [some b2]) (sizedN_ok hz) (distO_ok h13) (LiveR.cons (RefsR.ptr (l := [some b2]) (i := 0) rfl (ptrN_eq h1)) (LiveR.cons (pI h3) LiveR.nil)) (BlksR.cons (rowN_refs h5 rfl (GtRefsR.cons (pI h7) (GtRefsR.cons (pV h9) (GtRefsR.cons (pV h11) GtRefsR.nil))) rfl) BlksR.nil)⟩

def atlasref23_Right.q1.x0 : Head (Bool) where
  k γ s F := (sizedN 80 s).bind fun _ => (boolO (gt s.tm 2)).bind fun v2 => (distO []).bind fun _ => F (v2)
  st x := ⟨sparseT [(2, (.val (.bool x)))] 80 0, []⟩
  ok γ s F r h := by
    have ⟨_, hz, h⟩ := bs h
    have ⟨v2, h1, h⟩ := bs h
    have ⟨_, h3, h⟩ := bs h
    exact ⟨_, h, weak_ren (l := []) (sizedN_ok hz) (distO_ok h3) (LiveR.cons (pB h1) LiveR.nil) BlksR.nil⟩

def atlasref23_Right.q1.x1 : Head (Int × SgL × SyL) where
  k γ s F := (sizedN 80 s).bind fun _ => (ptrN 0 (gt s.tm 1)).bind fun b2 => (rowN 26 3 s.hp b2).bind fun l4 => (intO .u32 (gt l4 0)).bind fun v6 => (vtO SgC (gt l4 1)).bind fun v8 => (vtO SyC (gt l4 2)).bind fun v10 => (distO [some b2]).bind fun _ => F (v6, v8, v10)
  st x := ⟨sparseT [(1, (.ptr 0 0))] 80 0, [.row [(.val (.int .u32 x.1)), (.vt SgC x.2.1), (.vt SyC x.2.2)] 26 true]⟩
  ok γ s F r h := by
    have ⟨_, hz, h⟩ := bs h
    have ⟨b2, h1, h⟩ := bs h
    have ⟨l4, h3, h⟩ := bs h
    have ⟨v6, h5, h⟩ := bs h
    have ⟨v8, h7, h⟩ := bs h
    have ⟨v10, h9, h⟩ := bs h
    have ⟨_, h11, h⟩ := bs h
    exact ⟨_, h, weak_ren (l := [some b2]) (sizedN_ok hz) (distO_ok h11) (LiveR.cons (RefsR.ptr (l := [some b2]) (i := 0) rfl (ptrN_eq h1)) LiveR.nil) (BlksR.cons (rowN_refs h3 rfl (GtRefsR.cons (pI h5) (GtRefsR.cons (pV h7) (GtRefsR.cons (pV h9) GtRefsR.nil))) rfl) BlksR.nil)⟩

def atlasref23_Right.q1.t : Tail ((Bool) ⊕ (Int × SgL × SyL)) := Tail.or .ret atlasref23_Right.q1.x0 (Tail.one (.exit 2) atlasref23_Right.q1.x1)
theorem atlasref23_Right.q1.np (y : ((Bool) ⊕ (Int × SgL × SyL))) (v : AV) : (atlasref23_Right.q1.t.out y).1 = .panic v → nomem v = true := fun h => by rcases y with _ | y <;> first | (cases h; done) | (cases h; rfl) | (cases h)
theorem atlasref23_Right.q1.nn (y : ((Bool) ⊕ (Int × SgL × SyL))) : (atlasref23_Right.q1.t.out y).1 ≠ .normal := fun h => by rcases y with _ | y <;> first | (cases h; done) | (cases h; rfl) | (cases h)
def atlasref23_Right.q1.l (k : Nat) : Nat → (Int × Int × SgL × SyL) → Option ((Bool) ⊕ (Int × SgL × SyL))
  | 0, _ => none
  | n + 1, x => (bif (decide (x.1 < ((x.2.2.2.length : Nat) : Int))) then (bif (decide (0 ≤ x.1) && decide (x.1 ≤ ((x.2.2.2.length : Nat) : Int))) then (bif (decide (0 ≤ x.1) && decide (x.1 < ((x.2.2.2.length : Nat) : Int))) then ((atlasref23_Find.f k (⟨0, ([] : List SgT), ((x.2.2.2.drop 0).take ((x.1).toNat - 0))⟩ : T25) ((x.2.2.2.getD (x.1).toNat (ByteArray.empty, 0, ())).1)).bind fun r5 => (bif r5.2 then (some (Sum.inl false)) else (bif (decide (0 ≤ x.1) && decide (x.1 < ((x.2.2.2.length : Nat) : Int))) then ((atlasref01_Name.f k ((x.2.2.2.getD (x.1).toNat (ByteArray.empty, 0, ())).1)).bind fun r6 => (bif (!r6) then (some (Sum.inl false)) else (atlasref23_Right.q1.l k n ((IntKind.wrap .i64 (x.1 + 1)), x.2.1, x.2.2.1, x.2.2.2)))) else none))) else none) else none) else (some (Sum.inr (x.2.1, x.2.2.1, x.2.2.2))))
theorem atlasref23_Right.q1.z (k : Nat) (x : (Int × Int × SgL × SyL)) : atlasref23_Right.q1.l k 0 x = none := rfl
theorem atlasref23_Right.q1.at : codeAt (bodyOf Try.f16) [false, true, false, true, true, true] = some (.loop (loopBody (bodyOf Try.f16) [false, true, false, true, true, true])) := by kernel_rfl
theorem atlasref23_Right.q1.goes (k n : Nat) (x : (Int × Int × SgL × SyL)) : E Try.prog (gamOf [(27, atlasref23_segment.g k), (12, atlasref23_Find.g k), (28, atlasref01_Name.g k)]) (lamOf []) (loopBody (bodyOf Try.f16) [false, true, false, true, true, true]) (false :: [false, true, false, true, true, true]) (atlasref23_Right.q1.h.st x) (contD atlasref23_Right.q1.h atlasref23_Right.q1.t (atlasref23_Right.q1.l k n) some) = atlasref23_Right.q1.l k (n + 1) x := by
  kernel_rfl
theorem atlasref23_Right.q1.ok_ (k : Nat) : PieceOk Try.prog (bodyOf Try.f16) ⟨[false, true, false, true, true, true], _, _, atlasref23_Right.q1.h, atlasref23_Right.q1.t, atlasref23_Right.q1.l k k⟩ :=
  piece_loop (gamOf_cons (atlasref23_segment.ok k) atlasref23_segment.callable (gamOf_cons (atlasref23_Find.ok k) atlasref23_Find.callable (gamOf_cons (atlasref01_Name.ok k) atlasref01_Name.callable (gamOf_nil _)))) (lamOf_nil _ _) mixed atlasref23_Right.q1.at atlasref23_Right.q1.np atlasref23_Right.q1.nn (atlasref23_Right.q1.z k) (atlasref23_Right.q1.goes k) k
def atlasref23_Right.q1.p (k : Nat) : Piece := ⟨[false, true, false, true, true, true], _, _, atlasref23_Right.q1.h, atlasref23_Right.q1.t, atlasref23_Right.q1.l k k⟩
theorem atlasref23_Right.q1.ok (k : Nat) : PieceOk Try.prog (bodyOf Try.f16) (atlasref23_Right.q1.p k) := atlasref23_Right.q1.ok_ k
def atlasref23_Right.f (k : Nat) (x0 : T25) : Option (Bool) := (bif (decide (((x0.f1_Segments.length : Nat) : Int) < 1)) then (some false) else (bif (decide (((x0.f1_Segments.length : Nat) : Int) > 16)) then (some false) else (bif (decide (((x0.f2_Symbols.length : Nat) : Int) > 1024)) then (some false) else ((atlasref23_Right.q0.l k k (0, x0.f0_Entry, x0.f1_Segments, x0.f2_Symbols)).bind fun r2 => (Sum.elim (fun r3 => (some r3)) (fun r4 => ((atlasref23_Right.q1.l k k (0, r4.1, r4.2.1, r4.2.2)).bind fun r7 => (Sum.elim (fun r8 => (some r8)) (fun r9 => ((atlasref23_rise.f k r9.2.1).bind fun r10 => (bif r10 then ((atlasref23_start.f k r9.2.1 r9.1).bind fun r11 => (some r11)) else (some false)))) r7))) r2)))))
theorem atlasref23_Right.run (k : Nat) (x0 : T25) : runF Try.prog (gamOf [(27, atlasref23_segment.g k), (12, atlasref23_Find.g k), (28, atlasref01_Name.g k), (29, atlasref23_rise.g k), (30, atlasref23_start.g k)]) (lamOf [atlasref23_Right.q0.p k, atlasref23_Right.q1.p k]) Try.f16 [(T25.av x0)] some = (atlasref23_Right.f k x0).bind fun r => some (.ret (.val (.bool r))) := by
  unfold atlasref23_Right.f
  try simp only [cond_bind, elim_bind, Option.bind_some, Option.bind_none, Option.bind_assoc, Sum.elim_inl, Sum.elim_inr]
  kernel_rfl
def atlasref23_Right.g (k : Nat) : GFun := fun β args K => match args with
  | [a0] => (T25.of a0).bind fun x0 => (atlasref23_Right.f k x0).bind fun r => K (.ret (.val (.bool r)))
  | _ => none
theorem atlasref23_Right.callable : callable Try.prog 16 = true := callable_of Try.func16 (by kernel_rfl)
theorem atlasref23_Right.ok (k : Nat) : GOk Try.prog 16 (atlasref23_Right.g k) := by
  intro β args K r h
  unfold atlasref23_Right.g at h
  split at h
  · obtain ⟨x0, e0, h⟩ := bs h
    obtain ⟨y, hy, hK⟩ := bs h
    have hrun := atlasref23_Right.run k x0
    rw [hy] at hrun
    obtain ⟨out, e, hs⟩ := sim_of_run Try.func16 (by kernel_rfl) mixed (gamOf_cons (atlasref23_segment.ok k) atlasref23_segment.callable (gamOf_cons (atlasref23_Find.ok k) atlasref23_Find.callable (gamOf_cons (atlasref01_Name.ok k) atlasref01_Name.callable (gamOf_cons (atlasref23_rise.ok k) atlasref23_rise.callable (gamOf_cons (atlasref23_start.ok k) atlasref23_start.callable (gamOf_nil _)))))) (lamOf_cons (atlasref23_Right.q0.ok k) (lamOf_cons (atlasref23_Right.q1.ok k) (lamOf_nil _ _))) (args' := [(T25.av x0)]) (RefsL.cons (T25.refs e0) RefsL.nil) hrun
    simp only [Option.some.injEq] at e
    subst e
    exact ⟨_, hK, hs⟩
  · cases h
end Go.Va
