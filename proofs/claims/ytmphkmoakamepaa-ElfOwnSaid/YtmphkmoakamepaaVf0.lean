-- Written by a program of this session (wip/va/vaprint.py). Not trusted: Lean checks it.
import Derived.Test.YtmphkmoakamepaaVaTy
set_option linter.unusedVariables false
set_option linter.unusedSimpArgs false
set_option autoImplicit false
set_option maxRecDepth 100000
namespace Go.Va
open Go.Proofs
/-! ### atlas/elf.end: function 54 -/
def elf_end.f (x0 : T45) : Option (Int) := (some (IntKind.wrap .u64 ((IntKind.wrap .u64 x0.f0_VA) + (IntKind.wrap .u64 x0.f1_Size))))
theorem elf_end.run (x0 : T45) : runF Try.prog (gamOf []) noLam Try.f54 [(T45.av x0)] some = (elf_end.f x0).bind fun r => some (.ret (.val (.int .u64 r))) := by
  unfold elf_end.f
  try simp only [cond_bind, elim_bind, Option.bind_some, Option.bind_none, Option.bind_assoc, Sum.elim_inl, Sum.elim_inr]
  kernel_rfl
def elf_end.g : GFun := fun β args K => match args with
  | [a0] => (T45.of a0).bind fun x0 => (elf_end.f x0).bind fun r => K (.ret (.val (.int .u64 r)))
  | _ => none
theorem elf_end.callable : callable Try.prog 54 = true := callable_of Try.func54 (by kernel_rfl)
theorem elf_end.ok : GOk Try.prog 54 (elf_end.g) := by
  intro β args K r h
  unfold elf_end.g at h
  split at h
  · obtain ⟨x0, e0, h⟩ := bs h
    obtain ⟨y, hy, hK⟩ := bs h
    have hrun := elf_end.run x0
    rw [hy] at hrun
    obtain ⟨out, e, hs⟩ := sim_of_run Try.func54 (by kernel_rfl) mixed (gamOf_nil _) (noLam_ok _ _) (args' := [(T45.av x0)]) (RefsL.cons (T45.refs e0) RefsL.nil) hrun
    simp only [Option.some.injEq] at e
    subst e
    exact ⟨_, hK, hs⟩
  · cases h
/-! ### atlas/elf.segment: function 23 -/
def elf_segment.f (x0 : T45) : Option (Bool) := (bif ((Int.tmod x0.f0_VA 4096) == 0) then (bif (decide (x0.f1_Size ≥ 1)) then (bif (decide (x0.f1_Size ≤ 16777216)) then ((elf_end.f (⟨x0.f0_VA, x0.f1_Size, x0.f2_Rights_Read, x0.f3_Rights_Write, x0.f4_Rights_Exec, x0.f5_Data⟩ : T45)).bind fun r1 => (bif (decide (r1 ≤ 4294967296)) then (bif (decide ((IntKind.wrap .u64 ((x0.f5_Data.length : Nat) : Int)) ≤ (IntKind.wrap .u64 x0.f1_Size))) then (some x0.f2_Rights_Read) else (some false)) else (some false))) else (some false)) else (some false)) else (some false))
theorem elf_segment.run (x0 : T45) : runF Try.prog (gamOf [(54, elf_end.g)]) noLam Try.f23 [(T45.av x0)] some = (elf_segment.f x0).bind fun r => some (.ret (.val (.bool r))) := by
  unfold elf_segment.f
  try simp only [cond_bind, elim_bind, Option.bind_some, Option.bind_none, Option.bind_assoc, Sum.elim_inl, Sum.elim_inr]
  kernel_rfl
def elf_segment.g : GFun := fun β args K => match args with
  | [a0] => (T45.of a0).bind fun x0 => (elf_segment.f x0).bind fun r => K (.ret (.val (.bool r)))
  | _ => none
theorem elf_segment.callable : callable Try.prog 23 = true := callable_of Try.func23 (by kernel_rfl)
theorem elf_segment.ok : GOk Try.prog 23 (elf_segment.g) := by
  intro β args K r h
  unfold elf_segment.g at h
  split at h
  · obtain ⟨x0, e0, h⟩ := bs h
    obtain ⟨y, hy, hK⟩ := bs h
    have hrun := elf_segment.run x0
    rw [hy] at hrun
    obtain ⟨out, e, hs⟩ := sim_of_run Try.func23 (by kernel_rfl) mixed (gamOf_cons (elf_end.ok) elf_end.callable (gamOf_nil _)) (noLam_ok _ _) (args' := [(T45.av x0)]) (RefsL.cons (T45.refs e0) RefsL.nil) hrun
    simp only [Option.some.injEq] at e
    subst e
    exact ⟨_, hK, hs⟩
  · cases h
/-! ### atlas/words.letter: function 55 -/
def words_letter.q0.h : Head (Int × Bool) where
  k γ s F := (sizedN 38 s).bind fun _ => (intO .i32 (gt s.tm 0)).bind fun v2 => (boolO (gt s.tm 3)).bind fun v4 => (distO []).bind fun _ => F (v2, v4)
  st x := ⟨sparseT [(0, (.val (.int .i32 x.1))), (3, (.val (.bool x.2)))] 38 0, []⟩
  ok γ s F r h := by
    have ⟨_, hz, h⟩ := bs h
    have ⟨v2, h1, h⟩ := bs h
    have ⟨v4, h3, h⟩ := bs h
    have ⟨_, h5, h⟩ := bs h
    exact ⟨_, h, weak_ren (l := []) (sizedN_ok hz) (distO_ok h5) (LiveR.cons (pI h1) (LiveR.cons (pB h3) LiveR.nil)) BlksR.nil⟩

def words_letter.q0.x0 : Head (Bool) where
  k γ s F := (sizedN 38 s).bind fun _ => (boolO (gt s.tm 2)).bind fun v2 => (distO []).bind fun _ => F (v2)
  st x := ⟨sparseT [(2, (.val (.bool x)))] 38 0, []⟩
  ok γ s F r h := by
    have ⟨_, hz, h⟩ := bs h
    have ⟨v2, h1, h⟩ := bs h
    have ⟨_, h3, h⟩ := bs h
    exact ⟨_, h, weak_ren (l := []) (sizedN_ok hz) (distO_ok h3) (LiveR.cons (pB h1) LiveR.nil) BlksR.nil⟩

def words_letter.q0.x1 : Head (Unit) where
  k γ s F := (sizedN 38 s).bind fun _ => (distO []).bind fun _ => F ()
  st x := ⟨sparseT [] 38 0, []⟩
  ok γ s F r h := by
    have ⟨_, hz, h⟩ := bs h
    have ⟨_, h1, h⟩ := bs h
    exact ⟨_, h, weak_ren (l := []) (sizedN_ok hz) (distO_ok h1) LiveR.nil BlksR.nil⟩

def words_letter.q0.t : Tail ((Bool) ⊕ (Unit)) := Tail.or .ret words_letter.q0.x0 (Tail.one .normal words_letter.q0.x1)
theorem words_letter.q0.np (y : ((Bool) ⊕ (Unit))) (v : AV) : (words_letter.q0.t.out y).1 = .panic v → nomem v = true := fun h => by rcases y with _ | y <;> first | (cases h; done) | (cases h; rfl) | (cases h)
def words_letter.q0.l (k : Nat) (x : (Int × Bool)) : Option ((Bool) ⊕ (Unit)) := (bif x.2 then (some (Sum.inl true)) else (bif (decide (x.1 ≥ 192)) then (bif (decide (x.1 ≤ 591)) then (bif (x.1 != 215) then (some (Sum.inl (x.1 != 247))) else (some (Sum.inl false))) else (bif (decide (x.1 ≥ 913)) then (bif (decide (x.1 ≤ 969)) then (some (Sum.inl (x.1 != 930))) else (some (Sum.inr ()))) else (some (Sum.inr ())))) else (bif (decide (x.1 ≥ 913)) then (bif (decide (x.1 ≤ 969)) then (some (Sum.inl (x.1 != 930))) else (some (Sum.inr ()))) else (some (Sum.inr ())))))
theorem words_letter.q0.at : codeAt (bodyOf Try.f55) [true, false, false, true] = some (codeOf (bodyOf Try.f55) [true, false, false, true]) := by kernel_rfl
theorem words_letter.q0.goes (k : Nat) (x : (Int × Bool)) : E Try.prog (gamOf []) (lamOf []) (codeOf (bodyOf Try.f55) [true, false, false, true]) [true, false, false, true] (words_letter.q0.h.st x) (fun ex t => words_letter.q0.t.d _ ex t some) = words_letter.q0.l k x := by
  kernel_rfl
theorem words_letter.q0.ok_ (k : Nat) : PieceOk Try.prog (bodyOf Try.f55) ⟨[true, false, false, true], _, _, words_letter.q0.h, words_letter.q0.t, words_letter.q0.l k⟩ :=
  piece_code (gamOf_nil _) (lamOf_nil _ _) mixed words_letter.q0.at words_letter.q0.np (words_letter.q0.goes k)
def words_letter.q0.p (k : Nat) : Piece := ⟨[true, false, false, true], _, _, words_letter.q0.h, words_letter.q0.t, words_letter.q0.l k⟩
theorem words_letter.q0.ok (k : Nat) : PieceOk Try.prog (bodyOf Try.f55) (words_letter.q0.p k) := words_letter.q0.ok_ k
def words_letter.f (k : Nat) (x0 : Int) : Option (Bool) := (bif (decide (x0 ≥ 97)) then (bif (decide (x0 ≤ 122)) then ((words_letter.q0.l k (x0, (decide (x0 ≤ 122)))).bind fun r1 => (Sum.elim (fun r2 => (some r2)) (fun r3 => (some false)) r1)) else (bif (decide (x0 ≥ 65)) then ((words_letter.q0.l k (x0, (decide (x0 ≤ 90)))).bind fun r4 => (Sum.elim (fun r5 => (some r5)) (fun r6 => (some false)) r4)) else ((words_letter.q0.l k (x0, false)).bind fun r7 => (Sum.elim (fun r8 => (some r8)) (fun r9 => (some false)) r7)))) else (bif (decide (x0 ≥ 65)) then ((words_letter.q0.l k (x0, (decide (x0 ≤ 90)))).bind fun r10 => (Sum.elim (fun r11 => (some r11)) (fun r12 => (some false)) r10)) else ((words_letter.q0.l k (x0, false)).bind fun r13 => (Sum.elim (fun r14 => (some r14)) (fun r15 => (some false)) r13))))
theorem words_letter.run (k : Nat) (x0 : Int) : runF Try.prog (gamOf []) (lamOf [words_letter.q0.p k]) Try.f55 [(.val (.int .i32 x0))] some = (words_letter.f k x0).bind fun r => some (.ret (.val (.bool r))) := by
  unfold words_letter.f
  try simp only [cond_bind, elim_bind, Option.bind_some, Option.bind_none, Option.bind_assoc, Sum.elim_inl, Sum.elim_inr]
  kernel_rfl
def words_letter.g (k : Nat) : GFun := fun β args K => match args with
  | [a0] => (intO .i32 a0).bind fun x0 => (words_letter.f k x0).bind fun r => K (.ret (.val (.bool r)))
  | _ => none
theorem words_letter.callable : callable Try.prog 55 = true := callable_of Try.func55 (by kernel_rfl)
theorem words_letter.ok (k : Nat) : GOk Try.prog 55 (words_letter.g k) := by
  intro β args K r h
  unfold words_letter.g at h
  split at h
  · obtain ⟨x0, e0, h⟩ := bs h
    obtain ⟨y, hy, hK⟩ := bs h
    have hrun := words_letter.run k x0
    rw [hy] at hrun
    obtain ⟨out, e, hs⟩ := sim_of_run Try.func55 (by kernel_rfl) mixed (gamOf_nil _) (lamOf_cons (words_letter.q0.ok k) (lamOf_nil _ _)) (args' := [(.val (.int .i32 x0))]) (RefsL.cons (Refs.of_eq (intO_eq e0)) RefsL.nil) hrun
    simp only [Option.some.injEq] at e
    subst e
    exact ⟨_, hK, hs⟩
  · cases h
/-! ### atlas/words.Name: function 24 -/
def words_Name.q0.h : Head (Int × ByteArray × Nat) where
  k γ s F := (sizedN 38 s).bind fun _ => (intO .i64 (gt s.tm 3)).bind fun v2 => (ptrN 0 (gt s.tm 7)).bind fun b4 => (itN s.hp b4).bind fun l6 => (distO [some b4]).bind fun _ => F (v2, l6.1, l6.2)
  st x := ⟨sparseT [(3, (.val (.int .i64 x.1))), (7, (.ptr 0 0))] 38 0, [.ob (.it x.2.1 x.2.2)]⟩
  ok γ s F r h := by
    have ⟨_, hz, h⟩ := bs h
    have ⟨v2, h1, h⟩ := bs h
    have ⟨b4, h3, h⟩ := bs h
    have ⟨l6, h5, h⟩ := bs h
    have ⟨_, h7, h⟩ := bs h
    exact ⟨_, h, weak_ren (l := [some b4]) (sizedN_ok hz) (distO_ok h7) (LiveR.cons (pI h1) (LiveR.cons (RefsR.ptr (l := [some b4]) (i := 0) rfl (ptrN_eq h3)) LiveR.nil)) (BlksR.cons (itN_blk h5) BlksR.nil)⟩

def words_Name.q0.x0 : Head (Bool) where
  k γ s F := (sizedN 38 s).bind fun _ => (boolO (gt s.tm 2)).bind fun v2 => (distO []).bind fun _ => F (v2)
  st x := ⟨sparseT [(2, (.val (.bool x)))] 38 0, []⟩
  ok γ s F r h := by
    have ⟨_, hz, h⟩ := bs h
    have ⟨v2, h1, h⟩ := bs h
    have ⟨_, h3, h⟩ := bs h
    exact ⟨_, h, weak_ren (l := []) (sizedN_ok hz) (distO_ok h3) (LiveR.cons (pB h1) LiveR.nil) BlksR.nil⟩

def words_Name.q0.x1 : Head (Int) where
  k γ s F := (sizedN 38 s).bind fun _ => (intO .i64 (gt s.tm 3)).bind fun v2 => (distO []).bind fun _ => F (v2)
  st x := ⟨sparseT [(3, (.val (.int .i64 x)))] 38 0, []⟩
  ok γ s F r h := by
    have ⟨_, hz, h⟩ := bs h
    have ⟨v2, h1, h⟩ := bs h
    have ⟨_, h3, h⟩ := bs h
    exact ⟨_, h, weak_ren (l := []) (sizedN_ok hz) (distO_ok h3) (LiveR.cons (pI h1) LiveR.nil) BlksR.nil⟩

def words_Name.q0.t : Tail ((Bool) ⊕ (Int)) := Tail.or .ret words_Name.q0.x0 (Tail.one (.exit 0) words_Name.q0.x1)
theorem words_Name.q0.np (y : ((Bool) ⊕ (Int))) (v : AV) : (words_Name.q0.t.out y).1 = .panic v → nomem v = true := fun h => by rcases y with _ | y <;> first | (cases h; done) | (cases h; rfl) | (cases h)
theorem words_Name.q0.nn (y : ((Bool) ⊕ (Int))) : (words_Name.q0.t.out y).1 ≠ .normal := fun h => by rcases y with _ | y <;> first | (cases h; done) | (cases h; rfl) | (cases h)
def words_Name.q0.l (k : Nat) : Nat → (Int × ByteArray × Nat) → Option ((Bool) ⊕ (Int))
  | 0, _ => none
  | n + 1, x => (bif decide (x.2.2 < x.2.1.size) then ((words_letter.f k (((Utf8.decode x.2.1 x.2.2).1 : Nat) : Int)).bind fun r1 => (bif (!r1) then (bif (x.1 == 0) then (some (Sum.inl false)) else (bif ((((Utf8.decode x.2.1 x.2.2).1 : Nat) : Int) != 95) then (bif (decide ((((Utf8.decode x.2.1 x.2.2).1 : Nat) : Int) < 48)) then (some (Sum.inl false)) else (bif (decide ((((Utf8.decode x.2.1 x.2.2).1 : Nat) : Int) > 57)) then (some (Sum.inl false)) else (words_Name.q0.l k n ((IntKind.wrap .i64 (x.1 + 1)), x.2.1, (x.2.2 + (Utf8.decode x.2.1 x.2.2).2))))) else (words_Name.q0.l k n ((IntKind.wrap .i64 (x.1 + 1)), x.2.1, (x.2.2 + (Utf8.decode x.2.1 x.2.2).2))))) else (words_Name.q0.l k n ((IntKind.wrap .i64 (x.1 + 1)), x.2.1, (x.2.2 + (Utf8.decode x.2.1 x.2.2).2))))) else (some (Sum.inr x.1)))
theorem words_Name.q0.z (k : Nat) (x : (Int × ByteArray × Nat)) : words_Name.q0.l k 0 x = none := rfl
theorem words_Name.q0.at : codeAt (bodyOf Try.f24) [false, true, false, true, true] = some (.loop (loopBody (bodyOf Try.f24) [false, true, false, true, true])) := by kernel_rfl
theorem words_Name.q0.goes (k n : Nat) (x : (Int × ByteArray × Nat)) : E Try.prog (gamOf [(55, words_letter.g k)]) (lamOf []) (loopBody (bodyOf Try.f24) [false, true, false, true, true]) (false :: [false, true, false, true, true]) (words_Name.q0.h.st x) (contD words_Name.q0.h words_Name.q0.t (words_Name.q0.l k n) some) = words_Name.q0.l k (n + 1) x := by
  kernel_rfl
theorem words_Name.q0.ok_ (k : Nat) : PieceOk Try.prog (bodyOf Try.f24) ⟨[false, true, false, true, true], _, _, words_Name.q0.h, words_Name.q0.t, words_Name.q0.l k k⟩ :=
  piece_loop (gamOf_cons (words_letter.ok k) words_letter.callable (gamOf_nil _)) (lamOf_nil _ _) mixed words_Name.q0.at words_Name.q0.np words_Name.q0.nn (words_Name.q0.z k) (words_Name.q0.goes k) k
def words_Name.q0.p (k : Nat) : Piece := ⟨[false, true, false, true, true], _, _, words_Name.q0.h, words_Name.q0.t, words_Name.q0.l k k⟩
theorem words_Name.q0.ok (k : Nat) : PieceOk Try.prog (bodyOf Try.f24) (words_Name.q0.p k) := words_Name.q0.ok_ k
def words_Name.f (k : Nat) (x0 : ByteArray) : Option (Bool) := ((words_Name.q0.l k k (0, x0, 0)).bind fun r2 => (Sum.elim (fun r3 => (some r3)) (fun r4 => (bif (decide (r4 ≥ 1)) then (some (decide (r4 ≤ 16))) else (some false))) r2))
theorem words_Name.run (k : Nat) (x0 : ByteArray) : runF Try.prog (gamOf [(55, words_letter.g k)]) (lamOf [words_Name.q0.p k]) Try.f24 [(.val (.string x0))] some = (words_Name.f k x0).bind fun r => some (.ret (.val (.bool r))) := by
  unfold words_Name.f
  try simp only [cond_bind, elim_bind, Option.bind_some, Option.bind_none, Option.bind_assoc, Sum.elim_inl, Sum.elim_inr]
  kernel_rfl
def words_Name.g (k : Nat) : GFun := fun β args K => match args with
  | [a0] => (strO a0).bind fun x0 => (words_Name.f k x0).bind fun r => K (.ret (.val (.bool r)))
  | _ => none
theorem words_Name.callable : callable Try.prog 24 = true := callable_of Try.func24 (by kernel_rfl)
theorem words_Name.ok (k : Nat) : GOk Try.prog 24 (words_Name.g k) := by
  intro β args K r h
  unfold words_Name.g at h
  split at h
  · obtain ⟨x0, e0, h⟩ := bs h
    obtain ⟨y, hy, hK⟩ := bs h
    have hrun := words_Name.run k x0
    rw [hy] at hrun
    obtain ⟨out, e, hs⟩ := sim_of_run Try.func24 (by kernel_rfl) mixed (gamOf_cons (words_letter.ok k) words_letter.callable (gamOf_nil _)) (lamOf_cons (words_Name.q0.ok k) (lamOf_nil _ _)) (args' := [(.val (.string x0))]) (RefsL.cons (Refs.of_eq (strO_eq e0)) RefsL.nil) hrun
    simp only [Option.some.injEq] at e
    subst e
    exact ⟨_, hK, hs⟩
  · cases h
/-! ### atlas/elf.up: function 56 -/
def elf_up.f (x0 : Int) (x1 : Int) : Option (Int) := (bif decide (x1 = 0) then none else (some (IntKind.wrap .u64 ((IntKind.wrap .u64 (Int.tdiv (IntKind.wrap .u64 ((IntKind.wrap .u64 (x0 + x1)) - 1)) x1)) * x1))))
theorem elf_up.run (x0 : Int) (x1 : Int) : runF Try.prog (gamOf []) noLam Try.f56 [(.val (.int .u64 x0)), (.val (.int .u64 x1))] some = (elf_up.f x0 x1).bind fun r => some (.ret (.val (.int .u64 r))) := by
  unfold elf_up.f
  try simp only [cond_bind, elim_bind, Option.bind_some, Option.bind_none, Option.bind_assoc, Sum.elim_inl, Sum.elim_inr]
  kernel_rfl
def elf_up.g : GFun := fun β args K => match args with
  | [a0, a1] => (intO .u64 a0).bind fun x0 => (intO .u64 a1).bind fun x1 => (elf_up.f x0 x1).bind fun r => K (.ret (.val (.int .u64 r)))
  | _ => none
theorem elf_up.callable : callable Try.prog 56 = true := callable_of Try.func56 (by kernel_rfl)
theorem elf_up.ok : GOk Try.prog 56 (elf_up.g) := by
  intro β args K r h
  unfold elf_up.g at h
  split at h
  · obtain ⟨x0, e0, h⟩ := bs h
    have ⟨x1, e1, h⟩ := bs h
    obtain ⟨y, hy, hK⟩ := bs h
    have hrun := elf_up.run x0 x1
    rw [hy] at hrun
    obtain ⟨out, e, hs⟩ := sim_of_run Try.func56 (by kernel_rfl) mixed (gamOf_nil _) (noLam_ok _ _) (args' := [(.val (.int .u64 x0)), (.val (.int .u64 x1))]) (RefsL.cons (Refs.of_eq (intO_eq e0)) (RefsL.cons (Refs.of_eq (intO_eq e1)) RefsL.nil)) hrun
    simp only [Option.some.injEq] at e
    subst e
    exact ⟨_, hK, hs⟩
  · cases h
/-! ### atlas/elf.rising: function 25 -/
def elf_rising.q0.h : Head (SgL × Int) where
  k γ s F := (sizedN 24 s).bind fun _ => (vtO SgC (gt s.tm 0)).bind fun v2 => (intO .i64 (gt s.tm 3)).bind fun v4 => (distO []).bind fun _ => F (v2, v4)
  st x := ⟨sparseT [(0, (.vt SgC x.1)), (3, (.val (.int .i64 x.2)))] 24 0, []⟩
  ok γ s F r h := by
    have ⟨_, hz, h⟩ := bs h
    have ⟨v2, h1, h⟩ := bs h
    have ⟨v4, h3, h⟩ := bs h
    have ⟨_, h5, h⟩ := bs h
    exact ⟨_, h, weak_ren (l := []) (sizedN_ok hz) (distO_ok h5) (LiveR.cons (pV h1) (LiveR.cons (pI h3) LiveR.nil)) BlksR.nil⟩

def elf_rising.q0.x0 : Head (Bool) where
  k γ s F := (sizedN 24 s).bind fun _ => (boolO (gt s.tm 2)).bind fun v2 => (distO []).bind fun _ => F (v2)
  st x := ⟨sparseT [(2, (.val (.bool x)))] 24 0, []⟩
  ok γ s F r h := by
    have ⟨_, hz, h⟩ := bs h
    have ⟨v2, h1, h⟩ := bs h
    have ⟨_, h3, h⟩ := bs h
    exact ⟨_, h, weak_ren (l := []) (sizedN_ok hz) (distO_ok h3) (LiveR.cons (pB h1) LiveR.nil) BlksR.nil⟩

def elf_rising.q0.x1 : Head (Unit) where
  k γ s F := (sizedN 24 s).bind fun _ => (distO []).bind fun _ => F ()
  st x := ⟨sparseT [] 24 0, []⟩
  ok γ s F r h := by
    have ⟨_, hz, h⟩ := bs h
    have ⟨_, h1, h⟩ := bs h
    exact ⟨_, h, weak_ren (l := []) (sizedN_ok hz) (distO_ok h1) LiveR.nil BlksR.nil⟩

def elf_rising.q0.t : Tail ((Bool) ⊕ (Unit)) := Tail.or .ret elf_rising.q0.x0 (Tail.one (.exit 0) elf_rising.q0.x1)
theorem elf_rising.q0.np (y : ((Bool) ⊕ (Unit))) (v : AV) : (elf_rising.q0.t.out y).1 = .panic v → nomem v = true := fun h => by rcases y with _ | y <;> first | (cases h; done) | (cases h; rfl) | (cases h)
theorem elf_rising.q0.nn (y : ((Bool) ⊕ (Unit))) : (elf_rising.q0.t.out y).1 ≠ .normal := fun h => by rcases y with _ | y <;> first | (cases h; done) | (cases h; rfl) | (cases h)
def elf_rising.q0.l (k : Nat) : Nat → (SgL × Int) → Option ((Bool) ⊕ (Unit))
  | 0, _ => none
  | n + 1, x => (bif (decide (x.2 < ((x.1.length : Nat) : Int))) then (bif (decide (0 ≤ x.2) && decide (x.2 < ((x.1.length : Nat) : Int))) then (bif (decide (0 ≤ (IntKind.wrap .i64 (x.2 - 1))) && decide ((IntKind.wrap .i64 (x.2 - 1)) < ((x.1.length : Nat) : Int))) then ((elf_end.f (⟨(x.1.getD ((IntKind.wrap .i64 (x.2 - 1))).toNat (0, 0, (false, false, false, ()), [], ())).1, (x.1.getD ((IntKind.wrap .i64 (x.2 - 1))).toNat (0, 0, (false, false, false, ()), [], ())).2.1, (x.1.getD ((IntKind.wrap .i64 (x.2 - 1))).toNat (0, 0, (false, false, false, ()), [], ())).2.2.1.1, (x.1.getD ((IntKind.wrap .i64 (x.2 - 1))).toNat (0, 0, (false, false, false, ()), [], ())).2.2.1.2.1, (x.1.getD ((IntKind.wrap .i64 (x.2 - 1))).toNat (0, 0, (false, false, false, ()), [], ())).2.2.1.2.2.1, (x.1.getD ((IntKind.wrap .i64 (x.2 - 1))).toNat (0, 0, (false, false, false, ()), [], ())).2.2.2.1⟩ : T45)).bind fun r1 => ((elf_up.f r1 4096).bind fun r2 => (bif (decide ((IntKind.wrap .u64 ((x.1.getD (x.2).toNat (0, 0, (false, false, false, ()), [], ())).1)) < r2)) then (some (Sum.inl false)) else (elf_rising.q0.l k n (x.1, (IntKind.wrap .i64 (x.2 + 1))))))) else none) else none) else (some (Sum.inr ())))
theorem elf_rising.q0.z (k : Nat) (x : (SgL × Int)) : elf_rising.q0.l k 0 x = none := rfl
theorem elf_rising.q0.at : codeAt (bodyOf Try.f25) [false, true, false, true] = some (.loop (loopBody (bodyOf Try.f25) [false, true, false, true])) := by kernel_rfl
theorem elf_rising.q0.goes (k n : Nat) (x : (SgL × Int)) : E Try.prog (gamOf [(54, elf_end.g), (56, elf_up.g)]) (lamOf []) (loopBody (bodyOf Try.f25) [false, true, false, true]) (false :: [false, true, false, true]) (elf_rising.q0.h.st x) (contD elf_rising.q0.h elf_rising.q0.t (elf_rising.q0.l k n) some) = elf_rising.q0.l k (n + 1) x := by
  kernel_rfl
theorem elf_rising.q0.ok_ (k : Nat) : PieceOk Try.prog (bodyOf Try.f25) ⟨[false, true, false, true], _, _, elf_rising.q0.h, elf_rising.q0.t, elf_rising.q0.l k k⟩ :=
  piece_loop (gamOf_cons (elf_end.ok) elf_end.callable (gamOf_cons (elf_up.ok) elf_up.callable (gamOf_nil _))) (lamOf_nil _ _) mixed elf_rising.q0.at elf_rising.q0.np elf_rising.q0.nn (elf_rising.q0.z k) (elf_rising.q0.goes k) k
def elf_rising.q0.p (k : Nat) : Piece := ⟨[false, true, false, true], _, _, elf_rising.q0.h, elf_rising.q0.t, elf_rising.q0.l k k⟩
theorem elf_rising.q0.ok (k : Nat) : PieceOk Try.prog (bodyOf Try.f25) (elf_rising.q0.p k) := elf_rising.q0.ok_ k
def elf_rising.f (k : Nat) (x0 : SgL) : Option (Bool) := ((elf_rising.q0.l k k (x0, 1)).bind fun r3 => (Sum.elim (fun r4 => (some r4)) (fun r5 => (some true)) r3))
theorem elf_rising.run (k : Nat) (x0 : SgL) : runF Try.prog (gamOf [(54, elf_end.g), (56, elf_up.g)]) (lamOf [elf_rising.q0.p k]) Try.f25 [(.vt SgC x0)] some = (elf_rising.f k x0).bind fun r => some (.ret (.val (.bool r))) := by
  unfold elf_rising.f
  try simp only [cond_bind, elim_bind, Option.bind_some, Option.bind_none, Option.bind_assoc, Sum.elim_inl, Sum.elim_inr]
  kernel_rfl
def elf_rising.g (k : Nat) : GFun := fun β args K => match args with
  | [a0] => (vtO SgC a0).bind fun x0 => (elf_rising.f k x0).bind fun r => K (.ret (.val (.bool r)))
  | _ => none
theorem elf_rising.callable : callable Try.prog 25 = true := callable_of Try.func25 (by kernel_rfl)
theorem elf_rising.ok (k : Nat) : GOk Try.prog 25 (elf_rising.g k) := by
  intro β args K r h
  unfold elf_rising.g at h
  split at h
  · obtain ⟨x0, e0, h⟩ := bs h
    obtain ⟨y, hy, hK⟩ := bs h
    have hrun := elf_rising.run k x0
    rw [hy] at hrun
    obtain ⟨out, e, hs⟩ := sim_of_run Try.func25 (by kernel_rfl) mixed (gamOf_cons (elf_end.ok) elf_end.callable (gamOf_cons (elf_up.ok) elf_up.callable (gamOf_nil _))) (lamOf_cons (elf_rising.q0.ok k) (lamOf_nil _ _)) (args' := [(.vt SgC x0)]) (RefsL.cons (vtO_refs e0) RefsL.nil) hrun
    simp only [Option.some.injEq] at e
    subst e
    exact ⟨_, hK, hs⟩
  · cases h
/-! ### atlas/elf.starts$1: function 58 -/
def elf_starts_1.f (x0 : T45) (x1 : Int) : Option (Bool) := (bif x0.f4_Rights_Exec then (bif (decide (x1 ≥ x0.f0_VA)) then ((elf_end.f (⟨x0.f0_VA, x0.f1_Size, x0.f2_Rights_Read, x0.f3_Rights_Write, x0.f4_Rights_Exec, x0.f5_Data⟩ : T45)).bind fun r1 => (some (decide ((IntKind.wrap .u64 ((IntKind.wrap .u64 x1) + 4)) ≤ r1)))) else (some false)) else (some false))
theorem elf_starts_1.run (x0 : T45) (x1 : Int) : runF Try.prog (gamOf [(54, elf_end.g)]) noLam Try.f58 [(T45.av x0), (.cell [(.val (.int .u32 x1))])] some = (elf_starts_1.f x0 x1).bind fun r => some (.ret (.val (.bool r))) := by
  unfold elf_starts_1.f
  try simp only [cond_bind, elim_bind, Option.bind_some, Option.bind_none, Option.bind_assoc, Sum.elim_inl, Sum.elim_inr]
  kernel_rfl
def elf_starts_1.g : GFun := fun β args K => match args with
  | [a0, a1] => (T45.of a0).bind fun x0 => (cellD (oneO (intO .u32)) a1).bind fun x1 => (elf_starts_1.f x0 x1).bind fun r => K (.ret (.val (.bool r)))
  | _ => none
theorem elf_starts_1.callable : callable Try.prog 58 = true := callable_of Try.func58 (by kernel_rfl)
theorem elf_starts_1.ok : GOk Try.prog 58 (elf_starts_1.g) := by
  intro β args K r h
  unfold elf_starts_1.g at h
  split at h
  · obtain ⟨x0, e0, h⟩ := bs h
    have ⟨x1, e1, h⟩ := bs h
    obtain ⟨y, hy, hK⟩ := bs h
    have hrun := elf_starts_1.run x0 x1
    rw [hy] at hrun
    obtain ⟨out, e, hs⟩ := sim_of_run Try.func58 (by kernel_rfl) mixed (gamOf_cons (elf_end.ok) elf_end.callable (gamOf_nil _)) (noLam_ok _ _) (args' := [(T45.av x0), (.cell [(.val (.int .u32 x1))])]) (RefsL.cons (T45.refs e0) (RefsL.cons (cellD_refs1 e1 (fun v h => (Refs.of_eq (intO_eq h)))) RefsL.nil)) hrun
    simp only [Option.some.injEq] at e
    subst e
    exact ⟨_, hK, hs⟩
  · cases h
/-! ### slices.IndexFunc[[]atlas/api.Segment,atlas/api.Segment]: function 67 -/
def api_Segment.q0.h : Head (SgL × Int × Int × Int) where
  k γ s F := (sizedN 19 s).bind fun _ => (vtO SgC (gt s.tm 0)).bind fun v2 => (fnO 58 1 (gt s.tm 1)).bind fun l4 => (cellO 1 (gt l4 0)).bind fun l6 => (intO .u32 (gt l6 0)).bind fun v8 => (intO .i64 (gt s.tm 7)).bind fun v10 => (intO .i64 (gt s.tm 8)).bind fun v12 => (distO []).bind fun _ => F (v2, v8, v10, v12)
  st x := ⟨sparseT [(0, (.vt SgC x.1)), (1, (.fn 58 [(.cell [(.val (.int .u32 x.2.1))])])), (7, (.val (.int .i64 x.2.2.1))), (8, (.val (.int .i64 x.2.2.2)))] 19 0, []⟩
  ok γ s F r h := by
    have ⟨_, hz, h⟩ := bs h
    have ⟨v2, h1, h⟩ := bs h
    have ⟨l4, h3, h⟩ := bs h
    have ⟨l6, h5, h⟩ := bs h
    have ⟨v8, h7, h⟩ := bs h
    have ⟨v10, h9, h⟩ := bs h
    have ⟨v12, h11, h⟩ := bs h
    have ⟨_, h13, h⟩ := bs h
    exact ⟨_, h, weak_ren (l := []) (sizedN_ok hz) (distO_ok h13) (LiveR.cons (pV h1) (LiveR.cons (fnO_refsR h3 rfl (GtRefsR.cons (RefsR.plain (cellO_refs h5 rfl (GtRefs.cons (Refs.of_eq (intO_eq h7)) GtRefs.nil)) rfl) GtRefsR.nil)) (LiveR.cons (pI h9) (LiveR.cons (pI h11) LiveR.nil)))) BlksR.nil⟩

def api_Segment.q0.x0 : Head (Int) where
  k γ s F := (sizedN 19 s).bind fun _ => (intO .i64 (gt s.tm 4)).bind fun v2 => (distO []).bind fun _ => F (v2)
  st x := ⟨sparseT [(4, (.val (.int .i64 x)))] 19 0, []⟩
  ok γ s F r h := by
    have ⟨_, hz, h⟩ := bs h
    have ⟨v2, h1, h⟩ := bs h
    have ⟨_, h3, h⟩ := bs h
    exact ⟨_, h, weak_ren (l := []) (sizedN_ok hz) (distO_ok h3) (LiveR.cons (pI h1) LiveR.nil) BlksR.nil⟩

def api_Segment.q0.x1 : Head (Unit) where
  k γ s F := (sizedN 19 s).bind fun _ => (distO []).bind fun _ => F ()
  st x := ⟨sparseT [] 19 0, []⟩
  ok γ s F r h := by
    have ⟨_, hz, h⟩ := bs h
    have ⟨_, h1, h⟩ := bs h
    exact ⟨_, h, weak_ren (l := []) (sizedN_ok hz) (distO_ok h1) LiveR.nil BlksR.nil⟩

def api_Segment.q0.t : Tail ((Int) ⊕ (Unit)) := Tail.or .ret api_Segment.q0.x0 (Tail.one (.exit 0) api_Segment.q0.x1)
theorem api_Segment.q0.np (y : ((Int) ⊕ (Unit))) (v : AV) : (api_Segment.q0.t.out y).1 = .panic v → nomem v = true := fun h => by rcases y with _ | y <;> first | (cases h; done) | (cases h; rfl) | (cases h)
theorem api_Segment.q0.nn (y : ((Int) ⊕ (Unit))) : (api_Segment.q0.t.out y).1 ≠ .normal := fun h => by rcases y with _ | y <;> first | (cases h; done) | (cases h; rfl) | (cases h)
def api_Segment.q0.l (k : Nat) : Nat → (SgL × Int × Int × Int) → Option ((Int) ⊕ (Unit))
  | 0, _ => none
  | n + 1, x => (bif (decide (x.2.2.2 < x.2.2.1)) then (bif (decide (0 ≤ x.2.2.2) && decide (x.2.2.2 < ((x.1.length : Nat) : Int))) then ((elf_starts_1.f (⟨(x.1.getD (x.2.2.2).toNat (0, 0, (false, false, false, ()), [], ())).1, (x.1.getD (x.2.2.2).toNat (0, 0, (false, false, false, ()), [], ())).2.1, (x.1.getD (x.2.2.2).toNat (0, 0, (false, false, false, ()), [], ())).2.2.1.1, (x.1.getD (x.2.2.2).toNat (0, 0, (false, false, false, ()), [], ())).2.2.1.2.1, (x.1.getD (x.2.2.2).toNat (0, 0, (false, false, false, ()), [], ())).2.2.1.2.2.1, (x.1.getD (x.2.2.2).toNat (0, 0, (false, false, false, ()), [], ())).2.2.2.1⟩ : T45) x.2.1).bind fun r1 => (bif r1 then (some (Sum.inl x.2.2.2)) else (api_Segment.q0.l k n (x.1, x.2.1, x.2.2.1, (IntKind.wrap .i64 (x.2.2.2 + 1)))))) else none) else (some (Sum.inr ())))
theorem api_Segment.q0.z (k : Nat) (x : (SgL × Int × Int × Int)) : api_Segment.q0.l k 0 x = none := rfl
theorem api_Segment.q0.at : codeAt (bodyOf Try.f67) [false, true, false, true] = some (.loop (loopBody (bodyOf Try.f67) [false, true, false, true])) := by kernel_rfl
theorem api_Segment.q0.goes (k n : Nat) (x : (SgL × Int × Int × Int)) : E Try.prog (gamOf [(58, elf_starts_1.g)]) (lamOf []) (loopBody (bodyOf Try.f67) [false, true, false, true]) (false :: [false, true, false, true]) (api_Segment.q0.h.st x) (contD api_Segment.q0.h api_Segment.q0.t (api_Segment.q0.l k n) some) = api_Segment.q0.l k (n + 1) x := by
  kernel_rfl
theorem api_Segment.q0.ok_ (k : Nat) : PieceOk Try.prog (bodyOf Try.f67) ⟨[false, true, false, true], _, _, api_Segment.q0.h, api_Segment.q0.t, api_Segment.q0.l k k⟩ :=
  piece_loop (gamOf_cons (elf_starts_1.ok) elf_starts_1.callable (gamOf_nil _)) (lamOf_nil _ _) mixed api_Segment.q0.at api_Segment.q0.np api_Segment.q0.nn (api_Segment.q0.z k) (api_Segment.q0.goes k) k
def api_Segment.q0.p (k : Nat) : Piece := ⟨[false, true, false, true], _, _, api_Segment.q0.h, api_Segment.q0.t, api_Segment.q0.l k k⟩
theorem api_Segment.q0.ok (k : Nat) : PieceOk Try.prog (bodyOf Try.f67) (api_Segment.q0.p k) := api_Segment.q0.ok_ k
def api_Segment.f (k : Nat) (x0 : SgL) (x1 : F58_0) : Option (Int) := ((api_Segment.q0.l k k (x0, x1.f0, ((x0.length : Nat) : Int), 0)).bind fun r2 => (Sum.elim (fun r3 => (some r3)) (fun r4 => (some (-1))) r2))
theorem api_Segment.run (k : Nat) (x0 : SgL) (x1 : F58_0) : runF Try.prog (gamOf [(58, elf_starts_1.g)]) (lamOf [api_Segment.q0.p k]) Try.f67 [(.vt SgC x0), (F58_0.av x1)] some = (api_Segment.f k x0 x1).bind fun r => some (.ret (.val (.int .i64 r))) := by
  unfold api_Segment.f
  try simp only [cond_bind, elim_bind, Option.bind_some, Option.bind_none, Option.bind_assoc, Sum.elim_inl, Sum.elim_inr]
  kernel_rfl
def api_Segment.g (k : Nat) : GFun := fun β args K => match args with
  | [a0, a1] => (vtO SgC a0).bind fun x0 => (F58_0.of a1).bind fun x1 => (api_Segment.f k x0 x1).bind fun r => K (.ret (.val (.int .i64 r)))
  | _ => none
theorem api_Segment.callable : callable Try.prog 67 = true := callable_of Try.func67 (by kernel_rfl)
theorem api_Segment.ok (k : Nat) : GOk Try.prog 67 (api_Segment.g k) := by
  intro β args K r h
  unfold api_Segment.g at h
  split at h
  · obtain ⟨x0, e0, h⟩ := bs h
    have ⟨x1, e1, h⟩ := bs h
    obtain ⟨y, hy, hK⟩ := bs h
    have hrun := api_Segment.run k x0 x1
    rw [hy] at hrun
    obtain ⟨out, e, hs⟩ := sim_of_run Try.func67 (by kernel_rfl) mixed (gamOf_cons (elf_starts_1.ok) elf_starts_1.callable (gamOf_nil _)) (lamOf_cons (api_Segment.q0.ok k) (lamOf_nil _ _)) (args' := [(.vt SgC x0), (F58_0.av x1)]) (RefsL.cons (vtO_refs e0) (RefsL.cons (F58_0.refs e1) RefsL.nil)) hrun
    simp only [Option.some.injEq] at e
    subst e
    exact ⟨_, hK, hs⟩
  · cases h
/-! ### slices.ContainsFunc[[]atlas/api.Segment,atlas/api.Segment]: function 57 -/
def api_Segment_57.f (k : Nat) (x0 : SgL) (x1 : F58_0) : Option (Bool) := ((api_Segment.f k x0 (⟨x1.f0⟩ : F58_0)).bind fun r1 => (some (decide (r1 ≥ 0))))
theorem api_Segment_57.run (k : Nat) (x0 : SgL) (x1 : F58_0) : runF Try.prog (gamOf [(67, api_Segment.g k)]) noLam Try.f57 [(.vt SgC x0), (F58_0.av x1)] some = (api_Segment_57.f k x0 x1).bind fun r => some (.ret (.val (.bool r))) := by
  unfold api_Segment_57.f
  try simp only [cond_bind, elim_bind, Option.bind_some, Option.bind_none, Option.bind_assoc, Sum.elim_inl, Sum.elim_inr]
  kernel_rfl
def api_Segment_57.g (k : Nat) : GFun := fun β args K => match args with
  | [a0, a1] => (vtO SgC a0).bind fun x0 => (F58_0.of a1).bind fun x1 => (api_Segment_57.f k x0 x1).bind fun r => K (.ret (.val (.bool r)))
  | _ => none
theorem api_Segment_57.callable : callable Try.prog 57 = true := callable_of Try.func57 (by kernel_rfl)
theorem api_Segment_57.ok (k : Nat) : GOk Try.prog 57 (api_Segment_57.g k) := by
  intro β args K r h
  unfold api_Segment_57.g at h
  split at h
  · obtain ⟨x0, e0, h⟩ := bs h
    have ⟨x1, e1, h⟩ := bs h
    obtain ⟨y, hy, hK⟩ := bs h
    have hrun := api_Segment_57.run k x0 x1
    rw [hy] at hrun
    obtain ⟨out, e, hs⟩ := sim_of_run Try.func57 (by kernel_rfl) mixed (gamOf_cons (api_Segment.ok k) api_Segment.callable (gamOf_nil _)) (noLam_ok _ _) (args' := [(.vt SgC x0), (F58_0.av x1)]) (RefsL.cons (vtO_refs e0) (RefsL.cons (F58_0.refs e1) RefsL.nil)) hrun
    simp only [Option.some.injEq] at e
    subst e
    exact ⟨_, hK, hs⟩
  · cases h
/-! ### atlas/elf.starts: function 26 -/
def elf_starts.f (k : Nat) (x0 : SgL) (x1 : Int) : Option (Bool) := (bif ((Int.tmod x1 4) == 0) then ((api_Segment_57.f k x0 (⟨x1⟩ : F58_0)).bind fun r1 => (some r1)) else (some false))
theorem elf_starts.run (k : Nat) (x0 : SgL) (x1 : Int) : runF Try.prog (gamOf [(57, api_Segment_57.g k)]) noLam Try.f26 [(.vt SgC x0), (.val (.int .u32 x1))] some = (elf_starts.f k x0 x1).bind fun r => some (.ret (.val (.bool r))) := by
  unfold elf_starts.f
  try simp only [cond_bind, elim_bind, Option.bind_some, Option.bind_none, Option.bind_assoc, Sum.elim_inl, Sum.elim_inr]
  kernel_rfl
def elf_starts.g (k : Nat) : GFun := fun β args K => match args with
  | [a0, a1] => (vtO SgC a0).bind fun x0 => (intO .u32 a1).bind fun x1 => (elf_starts.f k x0 x1).bind fun r => K (.ret (.val (.bool r)))
  | _ => none
theorem elf_starts.callable : callable Try.prog 26 = true := callable_of Try.func26 (by kernel_rfl)
theorem elf_starts.ok (k : Nat) : GOk Try.prog 26 (elf_starts.g k) := by
  intro β args K r h
  unfold elf_starts.g at h
  split at h
  · obtain ⟨x0, e0, h⟩ := bs h
    have ⟨x1, e1, h⟩ := bs h
    obtain ⟨y, hy, hK⟩ := bs h
    have hrun := elf_starts.run k x0 x1
    rw [hy] at hrun
    obtain ⟨out, e, hs⟩ := sim_of_run Try.func26 (by kernel_rfl) mixed (gamOf_cons (api_Segment_57.ok k) api_Segment_57.callable (gamOf_nil _)) (noLam_ok _ _) (args' := [(.vt SgC x0), (.val (.int .u32 x1))]) (RefsL.cons (vtO_refs e0) (RefsL.cons (Refs.of_eq (intO_eq e1)) RefsL.nil)) hrun
    simp only [Option.some.injEq] at e
    subst e
    exact ⟨_, hK, hs⟩
  · cases h
/-! ### atlas/elf.Right: function 15 -/
def elf_Right.q0.h : Head (SgL × Int × Int × Int × SgL × SyL) where
  k γ s F := (sizedN 68 s).bind fun _ => (ptrN 0 (gt s.tm 1)).bind fun b2 => (vtO SgC (gt s.tm 25)).bind fun v4 => (intO .i64 (gt s.tm 26)).bind fun v6 => (intO .i64 (gt s.tm 27)).bind fun v8 => (rowN 26 3 s.hp b2).bind fun l10 => (intO .u32 (gt l10 0)).bind fun v12 => (vtO SgC (gt l10 1)).bind fun v14 => (vtO SyC (gt l10 2)).bind fun v16 => (distO [some b2]).bind fun _ => F (v4, v6, v8, v12, v14, v16)
  st x := ⟨sparseT [(1, (.ptr 0 0)), (25, (.vt SgC x.1)), (26, (.val (.int .i64 x.2.1))), (27, (.val (.int .i64 x.2.2.1)))] 68 0, [.row [(.val (.int .u32 x.2.2.2.1)), (.vt SgC x.2.2.2.2.1), (.vt SyC x.2.2.2.2.2)] 26 true]⟩
  ok γ s F r h := by
    have ⟨_, hz, h⟩ := bs h
    have ⟨b2, h1, h⟩ := bs h
    have ⟨v4, h3, h⟩ := bs h
    have ⟨v6, h5, h⟩ := bs h
    have ⟨v8, h7, h⟩ := bs h
    have ⟨l10, h9, h⟩ := bs h
    have ⟨v12, h11, h⟩ := bs h
    have ⟨v14, h13, h⟩ := bs h
    have ⟨v16, h15, h⟩ := bs h
    have ⟨_, h17, h⟩ := bs h
    exact ⟨_, h, weak_ren (l := [some b2]) (sizedN_ok hz) (distO_ok h17) (LiveR.cons (RefsR.ptr (l := [some b2]) (i := 0) rfl (ptrN_eq h1)) (LiveR.cons (pV h3) (LiveR.cons (pI h5) (LiveR.cons (pI h7) LiveR.nil)))) (BlksR.cons (rowN_refs h9 rfl (GtRefsR.cons (pI h11) (GtRefsR.cons (pV h13) (GtRefsR.cons (pV h15) GtRefsR.nil))) rfl) BlksR.nil)⟩

def elf_Right.q0.x0 : Head (Bool) where
  k γ s F := (sizedN 68 s).bind fun _ => (boolO (gt s.tm 2)).bind fun v2 => (distO []).bind fun _ => F (v2)
  st x := ⟨sparseT [(2, (.val (.bool x)))] 68 0, []⟩
  ok γ s F r h := by
    have ⟨_, hz, h⟩ := bs h
    have ⟨v2, h1, h⟩ := bs h
    have ⟨_, h3, h⟩ := bs h
    exact ⟨_, h, weak_ren (l := []) (sizedN_ok hz) (distO_ok h3) (LiveR.cons (pB h1) LiveR.nil) BlksR.nil⟩

def elf_Right.q0.x1 : Head (Int × SgL × SyL) where
  k γ s F := (sizedN 68 s).bind fun _ => (ptrN 0 (gt s.tm 1)).bind fun b2 => (rowN 26 3 s.hp b2).bind fun l4 => (intO .u32 (gt l4 0)).bind fun v6 => (vtO SgC (gt l4 1)).bind fun v8 => (vtO SyC (gt l4 2)).bind fun v10 => (distO [some b2]).bind fun _ => F (v6, v8, v10)
  st x := ⟨sparseT [(1, (.ptr 0 0))] 68 0, [.row [(.val (.int .u32 x.1)), (.vt SgC x.2.1), (.vt SyC x.2.2)] 26 true]⟩
  ok γ s F r h := by
    have ⟨_, hz, h⟩ := bs h
    have ⟨b2, h1, h⟩ := bs h
    have ⟨l4, h3, h⟩ := bs h
    have ⟨v6, h5, h⟩ := bs h
    have ⟨v8, h7, h⟩ := bs h
    have ⟨v10, h9, h⟩ := bs h
    have ⟨_, h11, h⟩ := bs h
    exact ⟨_, h, weak_ren (l := [some b2]) (sizedN_ok hz) (distO_ok h11) (LiveR.cons (RefsR.ptr (l := [some b2]) (i := 0) rfl (ptrN_eq h1)) LiveR.nil) (BlksR.cons (rowN_refs h3 rfl (GtRefsR.cons (pI h5) (GtRefsR.cons (pV h7) (GtRefsR.cons (pV h9) GtRefsR.nil))) rfl) BlksR.nil)⟩

def elf_Right.q0.t : Tail ((Bool) ⊕ (Int × SgL × SyL)) := Tail.or .ret elf_Right.q0.x0 (Tail.one (.exit 0) elf_Right.q0.x1)
theorem elf_Right.q0.np (y : ((Bool) ⊕ (Int × SgL × SyL))) (v : AV) : (elf_Right.q0.t.out y).1 = .panic v → nomem v = true := fun h => by rcases y with _ | y <;> first | (cases h; done) | (cases h; rfl) | (cases h)
theorem elf_Right.q0.nn (y : ((Bool) ⊕ (Int × SgL × SyL))) : (elf_Right.q0.t.out y).1 ≠ .normal := fun h => by rcases y with _ | y <;> first | (cases h; done) | (cases h; rfl) | (cases h)
def elf_Right.q0.l (k : Nat) : Nat → (SgL × Int × Int × Int × SgL × SyL) → Option ((Bool) ⊕ (Int × SgL × SyL))
  | 0, _ => none
  | n + 1, x => (bif (decide (x.2.2.1 < x.2.1)) then (bif (decide (0 ≤ x.2.2.1) && decide (x.2.2.1 < ((x.1.length : Nat) : Int))) then ((elf_segment.f (⟨(x.1.getD (x.2.2.1).toNat (0, 0, (false, false, false, ()), [], ())).1, (x.1.getD (x.2.2.1).toNat (0, 0, (false, false, false, ()), [], ())).2.1, (x.1.getD (x.2.2.1).toNat (0, 0, (false, false, false, ()), [], ())).2.2.1.1, (x.1.getD (x.2.2.1).toNat (0, 0, (false, false, false, ()), [], ())).2.2.1.2.1, (x.1.getD (x.2.2.1).toNat (0, 0, (false, false, false, ()), [], ())).2.2.1.2.2.1, (x.1.getD (x.2.2.1).toNat (0, 0, (false, false, false, ()), [], ())).2.2.2.1⟩ : T45)).bind fun r1 => (bif (!r1) then (some (Sum.inl false)) else (elf_Right.q0.l k n (x.1, x.2.1, (IntKind.wrap .i64 (x.2.2.1 + 1)), x.2.2.2.1, x.2.2.2.2.1, x.2.2.2.2.2)))) else none) else (some (Sum.inr (x.2.2.2.1, x.2.2.2.2.1, x.2.2.2.2.2))))
theorem elf_Right.q0.z (k : Nat) (x : (SgL × Int × Int × Int × SgL × SyL)) : elf_Right.q0.l k 0 x = none := rfl
theorem elf_Right.q0.at : codeAt (bodyOf Try.f15) [false, true, false, true, true] = some (.loop (loopBody (bodyOf Try.f15) [false, true, false, true, true])) := by kernel_rfl
theorem elf_Right.q0.goes (k n : Nat) (x : (SgL × Int × Int × Int × SgL × SyL)) : E Try.prog (gamOf [(23, elf_segment.g)]) (lamOf []) (loopBody (bodyOf Try.f15) [false, true, false, true, true]) (false :: [false, true, false, true, true]) (elf_Right.q0.h.st x) (contD elf_Right.q0.h elf_Right.q0.t (elf_Right.q0.l k n) some) = elf_Right.q0.l k (n + 1) x := by
  kernel_rfl
theorem elf_Right.q0.ok_ (k : Nat) : PieceOk Try.prog (bodyOf Try.f15) ⟨[false, true, false, true, true], _, _, elf_Right.q0.h, elf_Right.q0.t, elf_Right.q0.l k k⟩ :=
  piece_loop (gamOf_cons (elf_segment.ok) elf_segment.callable (gamOf_nil _)) (lamOf_nil _ _) mixed elf_Right.q0.at elf_Right.q0.np elf_Right.q0.nn (elf_Right.q0.z k) (elf_Right.q0.goes k) k
def elf_Right.q0.p (k : Nat) : Piece := ⟨[false, true, false, true, true], _, _, elf_Right.q0.h, elf_Right.q0.t, elf_Right.q0.l k k⟩
theorem elf_Right.q0.ok (k : Nat) : PieceOk Try.prog (bodyOf Try.f15) (elf_Right.q0.p k) := elf_Right.q0.ok_ k
def elf_Right.q1.h : Head (SyL × Int × Int × Int × SgL × SyL × (List (ByteArray × Int))) where
  k γ s F := (sizedN 68 s).bind fun _ => (ptrN 0 (gt s.tm 1)).bind fun b2 => (mppN (gt s.tm 5)).bind fun b4 => (vtO SyC (gt s.tm 37)).bind fun v6 => (intO .i64 (gt s.tm 38)).bind fun v8 => (intO .i64 (gt s.tm 39)).bind fun v10 => (rowN 26 3 s.hp b2).bind fun l12 => (intO .u32 (gt l12 0)).bind fun v14 => (vtO SgC (gt l12 1)).bind fun v16 => (vtO SyC (gt l12 2)).bind fun v18 => (mpN .str (.int .i64) s.hp b4).bind fun l20 => (distO [some b2, some b4]).bind fun _ => F (v6, v8, v10, v14, v16, v18, l20)
  st x := ⟨sparseT [(1, (.ptr 0 0)), (5, (.mpp 1)), (37, (.vt SyC x.1)), (38, (.val (.int .i64 x.2.1))), (39, (.val (.int .i64 x.2.2.1)))] 68 0, [.row [(.val (.int .u32 x.2.2.2.1)), (.vt SgC x.2.2.2.2.1), (.vt SyC x.2.2.2.2.2.1)] 26 true, .ob (.mp .str (.int .i64) x.2.2.2.2.2.2)]⟩
  ok γ s F r h := by
    have ⟨_, hz, h⟩ := bs h
    have ⟨b2, h1, h⟩ := bs h
    have ⟨b4, h3, h⟩ := bs h
    have ⟨v6, h5, h⟩ := bs h
    have ⟨v8, h7, h⟩ := bs h
    have ⟨v10, h9, h⟩ := bs h
    have ⟨l12, h11, h⟩ := bs h
    have ⟨v14, h13, h⟩ := bs h
    have ⟨v16, h15, h⟩ := bs h
    have ⟨v18, h17, h⟩ := bs h
    have ⟨l20, h19, h⟩ := bs h
    have ⟨_, h21, h⟩ := bs h
    exact ⟨_, h, weak_ren (l := [some b2, some b4]) (sizedN_ok hz) (distO_ok h21) (LiveR.cons (RefsR.ptr (l := [some b2, some b4]) (i := 0) rfl (ptrN_eq h1)) (LiveR.cons (RefsR.mpp (l := [some b2, some b4]) (i := 1) rfl (mppN_eq h3)) (LiveR.cons (pV h5) (LiveR.cons (pI h7) (LiveR.cons (pI h9) LiveR.nil))))) (BlksR.cons (rowN_refs h11 rfl (GtRefsR.cons (pI h13) (GtRefsR.cons (pV h15) (GtRefsR.cons (pV h17) GtRefsR.nil))) rfl) (BlksR.cons (mpN_blk h19) BlksR.nil))⟩

def elf_Right.q1.x0 : Head (Bool) where
  k γ s F := (sizedN 68 s).bind fun _ => (boolO (gt s.tm 2)).bind fun v2 => (distO []).bind fun _ => F (v2)
  st x := ⟨sparseT [(2, (.val (.bool x)))] 68 0, []⟩
  ok γ s F r h := by
    have ⟨_, hz, h⟩ := bs h
    have ⟨v2, h1, h⟩ := bs h
    have ⟨_, h3, h⟩ := bs h
    exact ⟨_, h, weak_ren (l := []) (sizedN_ok hz) (distO_ok h3) (LiveR.cons (pB h1) LiveR.nil) BlksR.nil⟩

def elf_Right.q1.x1 : Head (Int × SgL × SyL) where
  k γ s F := (sizedN 68 s).bind fun _ => (ptrN 0 (gt s.tm 1)).bind fun b2 => (rowN 26 3 s.hp b2).bind fun l4 => (intO .u32 (gt l4 0)).bind fun v6 => (vtO SgC (gt l4 1)).bind fun v8 => (vtO SyC (gt l4 2)).bind fun v10 => (distO [some b2]).bind fun _ => F (v6, v8, v10)
  st x := ⟨sparseT [(1, (.ptr 0 0))] 68 0, [.row [(.val (.int .u32 x.1)), (.vt SgC x.2.1), (.vt SyC x.2.2)] 26 true]⟩
  ok γ s F r h := by
    have ⟨_, hz, h⟩ := bs h
    have ⟨b2, h1, h⟩ := bs h
    have ⟨l4, h3, h⟩ := bs h
    have ⟨v6, h5, h⟩ := bs h
    have ⟨v8, h7, h⟩ := bs h
    have ⟨v10, h9, h⟩ := bs h
    have ⟨_, h11, h⟩ := bs h
    exact ⟨_, h, weak_ren (l := [some b2]) (sizedN_ok hz) (distO_ok h11) (LiveR.cons (RefsR.ptr (l := [some b2]) (i := 0) rfl (ptrN_eq h1)) LiveR.nil) (BlksR.cons (rowN_refs h3 rfl (GtRefsR.cons (pI h5) (GtRefsR.cons (pV h7) (GtRefsR.cons (pV h9) GtRefsR.nil))) rfl) BlksR.nil)⟩

def elf_Right.q1.t : Tail ((Bool) ⊕ (Int × SgL × SyL)) := Tail.or .ret elf_Right.q1.x0 (Tail.one (.exit 2) elf_Right.q1.x1)
theorem elf_Right.q1.np (y : ((Bool) ⊕ (Int × SgL × SyL))) (v : AV) : (elf_Right.q1.t.out y).1 = .panic v → nomem v = true := fun h => by rcases y with _ | y <;> first | (cases h; done) | (cases h; rfl) | (cases h)
theorem elf_Right.q1.nn (y : ((Bool) ⊕ (Int × SgL × SyL))) : (elf_Right.q1.t.out y).1 ≠ .normal := fun h => by rcases y with _ | y <;> first | (cases h; done) | (cases h; rfl) | (cases h)
def elf_Right.q1.l (k : Nat) : Nat → (SyL × Int × Int × Int × SgL × SyL × (List (ByteArray × Int))) → Option ((Bool) ⊕ (Int × SgL × SyL))
  | 0, _ => none
  | n + 1, x => (bif (decide (x.2.2.1 < x.2.1)) then (bif (decide (0 ≤ x.2.2.1) && decide (x.2.2.1 < ((x.1.length : Nat) : Int))) then (bif (decide ((optD (mpGet .str (.int .i64) x.2.2.2.2.2.2 ((x.1.getD (x.2.2.1).toNat (ByteArray.empty, 0, ())).1)) 0) > 0)) then (some (Sum.inl false)) else ((words_Name.f k ((x.1.getD (x.2.2.1).toNat (ByteArray.empty, 0, ())).1)).bind fun r5 => (bif (!r5) then (some (Sum.inl false)) else (elf_Right.q1.l k n (x.1, x.2.1, (IntKind.wrap .i64 (x.2.2.1 + 1)), x.2.2.2.1, x.2.2.2.2.1, x.2.2.2.2.2.1, (mpPut .str (.int .i64) x.2.2.2.2.2.2 ((x.1.getD (x.2.2.1).toNat (ByteArray.empty, 0, ())).1) 1)))))) else none) else (some (Sum.inr (x.2.2.2.1, x.2.2.2.2.1, x.2.2.2.2.2.1))))
theorem elf_Right.q1.z (k : Nat) (x : (SyL × Int × Int × Int × SgL × SyL × (List (ByteArray × Int)))) : elf_Right.q1.l k 0 x = none := rfl
theorem elf_Right.q1.at : codeAt (bodyOf Try.f15) [false, true, false, true, true, true, true] = some (.loop (loopBody (bodyOf Try.f15) [false, true, false, true, true, true, true])) := by kernel_rfl
theorem elf_Right.q1.goes (k n : Nat) (x : (SyL × Int × Int × Int × SgL × SyL × (List (ByteArray × Int)))) : E Try.prog (gamOf [(23, elf_segment.g), (24, words_Name.g k)]) (lamOf []) (loopBody (bodyOf Try.f15) [false, true, false, true, true, true, true]) (false :: [false, true, false, true, true, true, true]) (elf_Right.q1.h.st x) (contD elf_Right.q1.h elf_Right.q1.t (elf_Right.q1.l k n) some) = elf_Right.q1.l k (n + 1) x := by
  kernel_rfl
theorem elf_Right.q1.ok_ (k : Nat) : PieceOk Try.prog (bodyOf Try.f15) ⟨[false, true, false, true, true, true, true], _, _, elf_Right.q1.h, elf_Right.q1.t, elf_Right.q1.l k k⟩ :=
  piece_loop (gamOf_cons (elf_segment.ok) elf_segment.callable (gamOf_cons (words_Name.ok k) words_Name.callable (gamOf_nil _))) (lamOf_nil _ _) mixed elf_Right.q1.at elf_Right.q1.np elf_Right.q1.nn (elf_Right.q1.z k) (elf_Right.q1.goes k) k
def elf_Right.q1.p (k : Nat) : Piece := ⟨[false, true, false, true, true, true, true], _, _, elf_Right.q1.h, elf_Right.q1.t, elf_Right.q1.l k k⟩
theorem elf_Right.q1.ok (k : Nat) : PieceOk Try.prog (bodyOf Try.f15) (elf_Right.q1.p k) := elf_Right.q1.ok_ k
def elf_Right.f (k : Nat) (x0 : T25) : Option (Bool) := (bif (decide (((x0.f1_Segments.length : Nat) : Int) < 1)) then (some false) else (bif (decide (((x0.f1_Segments.length : Nat) : Int) > 16)) then (some false) else (bif (decide (((x0.f2_Symbols.length : Nat) : Int) > 1024)) then (some false) else ((elf_Right.q0.l k k (x0.f1_Segments, ((x0.f1_Segments.length : Nat) : Int), 0, x0.f0_Entry, x0.f1_Segments, x0.f2_Symbols)).bind fun r2 => (Sum.elim (fun r3 => (some r3)) (fun r4 => ((elf_Right.q1.l k k (r4.2.2, ((r4.2.2.length : Nat) : Int), 0, r4.1, r4.2.1, r4.2.2, ([] : List (ByteArray × Int)))).bind fun r6 => (Sum.elim (fun r7 => (some r7)) (fun r8 => ((elf_rising.f k r8.2.1).bind fun r9 => (bif r9 then ((elf_starts.f k r8.2.1 r8.1).bind fun r10 => (some r10)) else (some false)))) r6))) r2)))))
theorem elf_Right.run (k : Nat) (x0 : T25) : runF Try.prog (gamOf [(23, elf_segment.g), (24, words_Name.g k), (25, elf_rising.g k), (26, elf_starts.g k)]) (lamOf [elf_Right.q0.p k, elf_Right.q1.p k]) Try.f15 [(T25.av x0)] some = (elf_Right.f k x0).bind fun r => some (.ret (.val (.bool r))) := by
  unfold elf_Right.f
  try simp only [cond_bind, elim_bind, Option.bind_some, Option.bind_none, Option.bind_assoc, Sum.elim_inl, Sum.elim_inr]
  kernel_rfl
def elf_Right.g (k : Nat) : GFun := fun β args K => match args with
  | [a0] => (T25.of a0).bind fun x0 => (elf_Right.f k x0).bind fun r => K (.ret (.val (.bool r)))
  | _ => none
theorem elf_Right.callable : callable Try.prog 15 = true := callable_of Try.func15 (by kernel_rfl)
theorem elf_Right.ok (k : Nat) : GOk Try.prog 15 (elf_Right.g k) := by
  intro β args K r h
  unfold elf_Right.g at h
  split at h
  · obtain ⟨x0, e0, h⟩ := bs h
    obtain ⟨y, hy, hK⟩ := bs h
    have hrun := elf_Right.run k x0
    rw [hy] at hrun
    obtain ⟨out, e, hs⟩ := sim_of_run Try.func15 (by kernel_rfl) mixed (gamOf_cons (elf_segment.ok) elf_segment.callable (gamOf_cons (words_Name.ok k) words_Name.callable (gamOf_cons (elf_rising.ok k) elf_rising.callable (gamOf_cons (elf_starts.ok k) elf_starts.callable (gamOf_nil _))))) (lamOf_cons (elf_Right.q0.ok k) (lamOf_cons (elf_Right.q1.ok k) (lamOf_nil _ _))) (args' := [(T25.av x0)]) (RefsL.cons (T25.refs e0) RefsL.nil) hrun
    simp only [Option.some.injEq] at e
    subst e
    exact ⟨_, hK, hs⟩
  · cases h
end Go.Va
