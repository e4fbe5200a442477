import Derived.Test.YtnidnmhcjngmeaaGreatVaTy
-- Written by a program of this session (wip/va/vaprint.py). Not trusted: Lean checks it.
set_option linter.unusedVariables false
set_option linter.unusedSimpArgs false
set_option autoImplicit false
set_option maxRecDepth 100000
namespace Go.Va
open Go.Proofs
/-! ### atlas/words.letter: function 87 -/
def words_letter.q0.h : Head (Int × Bool) where
  k γ s F := (sizedN 38 s).bind fun _ => (intO .i32 (gt s.tm 0)).bind fun v2 => (boolO (gt s.tm 3)).bind fun v4 => (distO []).bind fun _ => F (v2, v4)
  st x := ⟨sparseT [(0, (.val (.int .i32 x.1))), (3, (.val (.bool x.2)))] 38 0, []⟩
  ok γ s F r h := by
    have ⟨_, hz, h⟩ := bs h
    have ⟨v2, h1, h⟩ := bs h
    have ⟨v4, h3, h⟩ := bs h
    have ⟨_, h5, h⟩ := bs h
    exact ⟨_, h, weak_ren (l := []) (sizedN_ok hz) (distO_ok h5) (LiveR.cons (pI h1) (LiveR.cons (pB h3) LiveR.nil)) BlksR.nil⟩

def words_letter.q0.x0 : Head (Bool) where
  k γ s F := (sizedN 38 s).bind fun _ => (boolO (gt s.tm 2)).bind fun v2 => (distO []).bind fun _ => F (v2)
  st x := ⟨sparseT [(2, (.val (.bool x)))] 38 0, []⟩
  ok γ s F r h := by
    have ⟨_, hz, h⟩ := bs h
    have ⟨v2, h1, h⟩ := bs h
    have ⟨_, h3, h⟩ := bs h
    exact ⟨_, h, weak_ren (l := []) (sizedN_ok hz) (distO_ok h3) (LiveR.cons (pB h1) LiveR.nil) BlksR.nil⟩

def words_letter.q0.x1 : Head (Unit) where
  k γ s F := (sizedN 38 s).bind fun _ => (distO []).bind fun _ => F ()
  st x := ⟨sparseT [] 38 0, []⟩
  ok γ s F r h := by
    have ⟨_, hz, h⟩ := bs h
    have ⟨_, h1, h⟩ := bs h
    exact ⟨_, h, weak_ren (l := []) (sizedN_ok hz) (distO_ok h1) LiveR.nil BlksR.nil⟩

def words_letter.q0.t : Tail ((Bool) ⊕ (Unit)) := Tail.or .ret words_letter.q0.x0 (Tail.one .normal words_letter.q0.x1)
theorem words_letter.q0.np (y : ((Bool) ⊕ (Unit))) (v : AV) : (words_letter.q0.t.out y).1 = .panic v → nomem v = true := fun h => by rcases y with _ | y <;> first | (cases h; done) | (cases h; rfl) | (cases h)
def words_letter.q0.l (k : Nat) (x : (Int × Bool)) : Option ((Bool) ⊕ (Unit)) := (bif x.2 then (some (Sum.inl true)) else (bif (decide (x.1 ≥ 192)) then (bif (decide (x.1 ≤ 591)) then (bif (x.1 != 215) then (some (Sum.inl (x.1 != 247))) else (some (Sum.inl false))) else (bif (decide (x.1 ≥ 913)) then (bif (decide (x.1 ≤ 969)) then (some (Sum.inl (x.1 != 930))) else (some (Sum.inr ()))) else (some (Sum.inr ())))) else (bif (decide (x.1 ≥ 913)) then (bif (decide (x.1 ≤ 969)) then (some (Sum.inl (x.1 != 930))) else (some (Sum.inr ()))) else (some (Sum.inr ())))))
theorem words_letter.q0.at : codeAt (bodyOf Tryz.f87) [true, false, false, true] = some (codeOf (bodyOf Tryz.f87) [true, false, false, true]) := by kernel_rfl
theorem words_letter.q0.goes (k : Nat) (x : (Int × Bool)) : E Tryz.prog (gamOf []) (lamOf []) (codeOf (bodyOf Tryz.f87) [true, false, false, true]) [true, false, false, true] (words_letter.q0.h.st x) (fun ex t => words_letter.q0.t.d _ ex t some) = words_letter.q0.l k x := by
  kernel_rfl
theorem words_letter.q0.ok_ (k : Nat) : PieceOk Tryz.prog (bodyOf Tryz.f87) ⟨[true, false, false, true], _, _, words_letter.q0.h, words_letter.q0.t, words_letter.q0.l k⟩ :=
  piece_code (gamOf_nil _) (lamOf_nil _ _) mixed words_letter.q0.at words_letter.q0.np (words_letter.q0.goes k)
def words_letter.q0.p (k : Nat) : Piece := ⟨[true, false, false, true], _, _, words_letter.q0.h, words_letter.q0.t, words_letter.q0.l k⟩
theorem words_letter.q0.ok (k : Nat) : PieceOk Tryz.prog (bodyOf Tryz.f87) (words_letter.q0.p k) := words_letter.q0.ok_ k
def words_letter.f (k : Nat) (x0 : Int) : Option (Bool) := (bif (decide (x0 ≥ 97)) then (bif (decide (x0 ≤ 122)) then ((words_letter.q0.l k (x0, (decide (x0 ≤ 122)))).bind fun r1 => (Sum.elim (fun r2 => (some r2)) (fun r3 => (some false)) r1)) else (bif (decide (x0 ≥ 65)) then ((words_letter.q0.l k (x0, (decide (x0 ≤ 90)))).bind fun r4 => (Sum.elim (fun r5 => (some r5)) (fun r6 => (some false)) r4)) else ((words_letter.q0.l k (x0, false)).bind fun r7 => (Sum.elim (fun r8 => (some r8)) (fun r9 => (some false)) r7)))) else (bif (decide (x0 ≥ 65)) then ((words_letter.q0.l k (x0, (decide (x0 ≤ 90)))).bind fun r10 => (Sum.elim (fun r11 => (some r11)) (fun r12 => (some false)) r10)) else ((words_letter.q0.l k (x0, false)).bind fun r13 => (Sum.elim (fun r14 => (some r14)) (fun r15 => (some false)) r13))))
theorem words_letter.run (k : Nat) (x0 : Int) : runF Tryz.prog (gamOf []) (lamOf [words_letter.q0.p k]) Tryz.f87 [(.val (.int .i32 x0))] some = (words_letter.f k x0).bind fun r => some (.ret (.val (.bool r))) := by
  unfold words_letter.f
  try simp only [cond_bind, elim_bind, Option.bind_some, Option.bind_none, Option.bind_assoc, Sum.elim_inl, Sum.elim_inr]
  kernel_rfl
def words_letter.g (k : Nat) : GFun := fun β args K => match args with
  | [a0] => (intO .i32 a0).bind fun x0 => (words_letter.f k x0).bind fun r => K (.ret (.val (.bool r)))
  | _ => none
theorem words_letter.callable : callable Tryz.prog 87 = true := callable_of Tryz.func87 (by kernel_rfl)
theorem words_letter.ok (k : Nat) : GOk Tryz.prog 87 (words_letter.g k) := by
  intro β args K r h
  unfold words_letter.g at h
  split at h
  · obtain ⟨x0, e0, h⟩ := bs h
    obtain ⟨y, hy, hK⟩ := bs h
    have hrun := words_letter.run k x0
    rw [hy] at hrun
    obtain ⟨out, e, hs⟩ := sim_of_run Tryz.func87 (by kernel_rfl) mixed (gamOf_nil _) (lamOf_cons (words_letter.q0.ok k) (lamOf_nil _ _)) (args' := [(.val (.int .i32 x0))]) (RefsL.cons (Refs.of_eq (intO_eq e0)) RefsL.nil) hrun
    simp only [Option.some.injEq] at e
    subst e
    exact ⟨_, hK, hs⟩
  · cases h
/-! ### atlas/words.Name: function 83 -/
def words_Name.q0.h : Head (Int × ByteArray × Nat) where
  k γ s F := (sizedN 38 s).bind fun _ => (intO .i64 (gt s.tm 3)).bind fun v2 => (ptrN 0 (gt s.tm 7)).bind fun b4 => (itN s.hp b4).bind fun l6 => (distO [some b4]).bind fun _ => F (v2, l6.1, l6.2)
  st x := ⟨sparseT [(3, (.val (.int .i64 x.1))), (7, (.ptr 0 0))] 38 0, [.ob (.it x.2.1 x.2.2)]⟩
  ok γ s F r h := by
    have ⟨_, hz, h⟩ := bs h
    have ⟨v2, h1, h⟩ := bs h
    have ⟨b4, h3, h⟩ := bs h
    have ⟨l6, h5, h⟩ := bs h
    have ⟨_, h7, h⟩ := bs h
    exact ⟨_, h, weak_ren (l := [some b4]) (sizedN_ok hz) (distO_ok h7) (LiveR.cons (pI h1) (LiveR.cons (RefsR.ptr (l := [some b4]) (i := 0) rfl (ptrN_eq h3)) LiveR.nil)) (BlksR.cons (itN_blk h5) BlksR.nil)⟩

def words_Name.q0.x0 : Head (Bool) where
  k γ s F := (sizedN 38 s).bind fun _ => (boolO (gt s.tm 2)).bind fun v2 => (distO []).bind fun _ => F (v2)
  st x := ⟨sparseT [(2, (.val (.bool x)))] 38 0, []⟩
  ok γ s F r h := by
    have ⟨_, hz, h⟩ := bs h
    have ⟨v2, h1, h⟩ := bs h
    have ⟨_, h3, h⟩ := bs h
    exact ⟨_, h, weak_ren (l := []) (sizedN_ok hz) (distO_ok h3) (LiveR.cons (pB h1) LiveR.nil) BlksR.nil⟩

def words_Name.q0.x1 : Head (Int) where
  k γ s F := (sizedN 38 s).bind fun _ => (intO .i64 (gt s.tm 3)).bind fun v2 => (distO []).bind fun _ => F (v2)
  st x := ⟨sparseT [(3, (.val (.int .i64 x)))] 38 0, []⟩
  ok γ s F r h := by
    have ⟨_, hz, h⟩ := bs h
    have ⟨v2, h1, h⟩ := bs h
    have ⟨_, h3, h⟩ := bs h
    exact ⟨_, h, weak_ren (l := []) (sizedN_ok hz) (distO_ok h3) (LiveR.cons (pI h1) LiveR.nil) BlksR.nil⟩

def words_Name.q0.t : Tail ((Bool) ⊕ (Int)) := Tail.or .ret words_Name.q0.x0 (Tail.one (.exit 0) words_Name.q0.x1)
theorem words_Name.q0.np (y : ((Bool) ⊕ (Int))) (v : AV) : (words_Name.q0.t.out y).1 = .panic v → nomem v = true := fun h => by rcases y with _ | y <;> first | (cases h; done) | (cases h; rfl) | (cases h)
theorem words_Name.q0.nn (y : ((Bool) ⊕ (Int))) : (words_Name.q0.t.out y).1 ≠ .normal := fun h => by rcases y with _ | y <;> first | (cases h; done) | (cases h; rfl) | (cases h)
def words_Name.q0.l (k : Nat) : Nat → (Int × ByteArray × Nat) → Option ((Bool) ⊕ (Int))
  | 0, _ => none
  | n + 1, x => (bif decide (x.2.2 < x.2.1.size) then ((words_letter.f k (((Utf8.decode x.2.1 x.2.2).1 : Nat) : Int)).bind fun r1 => (bif (!r1) then (bif (x.1 == 0) then (some (Sum.inl false)) else (bif ((((Utf8.decode x.2.1 x.2.2).1 : Nat) : Int) != 95) then (bif (decide ((((Utf8.decode x.2.1 x.2.2).1 : Nat) : Int) < 48)) then (some (Sum.inl false)) else (bif (decide ((((Utf8.decode x.2.1 x.2.2).1 : Nat) : Int) > 57)) then (some (Sum.inl false)) else (words_Name.q0.l k n ((IntKind.wrap .i64 (x.1 + 1)), x.2.1, (x.2.2 + (Utf8.decode x.2.1 x.2.2).2))))) else (words_Name.q0.l k n ((IntKind.wrap .i64 (x.1 + 1)), x.2.1, (x.2.2 + (Utf8.decode x.2.1 x.2.2).2))))) else (words_Name.q0.l k n ((IntKind.wrap .i64 (x.1 + 1)), x.2.1, (x.2.2 + (Utf8.decode x.2.1 x.2.2).2))))) else (some (Sum.inr x.1)))
theorem words_Name.q0.z (k : Nat) (x : (Int × ByteArray × Nat)) : words_Name.q0.l k 0 x = none := rfl
theorem words_Name.q0.at : codeAt (bodyOf Tryz.f83) [false, true, false, true, true] = some (.loop (loopBody (bodyOf Tryz.f83) [false, true, false, true, true])) := by kernel_rfl
theorem words_Name.q0.goes (k n : Nat) (x : (Int × ByteArray × Nat)) : E Tryz.prog (gamOf [(87, words_letter.g k)]) (lamOf []) (loopBody (bodyOf Tryz.f83) [false, true, false, true, true]) (false :: [false, true, false, true, true]) (words_Name.q0.h.st x) (contD words_Name.q0.h words_Name.q0.t (words_Name.q0.l k n) some) = words_Name.q0.l k (n + 1) x := by
  kernel_rfl
theorem words_Name.q0.ok_ (k : Nat) : PieceOk Tryz.prog (bodyOf Tryz.f83) ⟨[false, true, false, true, true], _, _, words_Name.q0.h, words_Name.q0.t, words_Name.q0.l k k⟩ :=
  piece_loop (gamOf_cons (words_letter.ok k) words_letter.callable (gamOf_nil _)) (lamOf_nil _ _) mixed words_Name.q0.at words_Name.q0.np words_Name.q0.nn (words_Name.q0.z k) (words_Name.q0.goes k) k
def words_Name.q0.p (k : Nat) : Piece := ⟨[false, true, false, true, true], _, _, words_Name.q0.h, words_Name.q0.t, words_Name.q0.l k k⟩
theorem words_Name.q0.ok (k : Nat) : PieceOk Tryz.prog (bodyOf Tryz.f83) (words_Name.q0.p k) := words_Name.q0.ok_ k
def words_Name.f (k : Nat) (x0 : ByteArray) : Option (Bool) := ((words_Name.q0.l k k (0, x0, 0)).bind fun r2 => (Sum.elim (fun r3 => (some r3)) (fun r4 => (bif (decide (r4 ≥ 1)) then (some (decide (r4 ≤ 16))) else (some false))) r2))
theorem words_Name.run (k : Nat) (x0 : ByteArray) : runF Tryz.prog (gamOf [(87, words_letter.g k)]) (lamOf [words_Name.q0.p k]) Tryz.f83 [(.val (.string x0))] some = (words_Name.f k x0).bind fun r => some (.ret (.val (.bool r))) := by
  unfold words_Name.f
  try simp only [cond_bind, elim_bind, Option.bind_some, Option.bind_none, Option.bind_assoc, Sum.elim_inl, Sum.elim_inr]
  kernel_rfl
def words_Name.g (k : Nat) : GFun := fun β args K => match args with
  | [a0] => (strO a0).bind fun x0 => (words_Name.f k x0).bind fun r => K (.ret (.val (.bool r)))
  | _ => none
theorem words_Name.callable : callable Tryz.prog 83 = true := callable_of Tryz.func83 (by kernel_rfl)
theorem words_Name.ok (k : Nat) : GOk Tryz.prog 83 (words_Name.g k) := by
  intro β args K r h
  unfold words_Name.g at h
  split at h
  · obtain ⟨x0, e0, h⟩ := bs h
    obtain ⟨y, hy, hK⟩ := bs h
    have hrun := words_Name.run k x0
    rw [hy] at hrun
    obtain ⟨out, e, hs⟩ := sim_of_run Tryz.func83 (by kernel_rfl) mixed (gamOf_cons (words_letter.ok k) words_letter.callable (gamOf_nil _)) (lamOf_cons (words_Name.q0.ok k) (lamOf_nil _ _)) (args' := [(.val (.string x0))]) (RefsL.cons (Refs.of_eq (strO_eq e0)) RefsL.nil) hrun
    simp only [Option.some.injEq] at e
    subst e
    exact ⟨_, hK, hs⟩
  · cases h
/-! ### atlas/words.digit: function 88 -/
def words_digit.f (x0 : Int) (x1 : Int) : Option (Int × Bool) := (bif (decide (x0 ≥ 48)) then (bif (decide (x0 ≤ 57)) then (some ((IntKind.wrap .u64 (IntKind.wrap .u8 (x0 - 48))), true)) else (bif (x1 == 16) then (bif (decide (x0 ≥ 97)) then (bif (decide (x0 ≤ 102)) then (some ((IntKind.wrap .u64 ((IntKind.wrap .u64 (IntKind.wrap .u8 (x0 - 97))) + 10)), true)) else (bif (x1 == 16) then (bif (decide (x0 ≥ 65)) then (bif (decide (x0 ≤ 70)) then (some ((IntKind.wrap .u64 ((IntKind.wrap .u64 (IntKind.wrap .u8 (x0 - 65))) + 10)), true)) else (some (0, false))) else (some (0, false))) else (some (0, false)))) else (bif (x1 == 16) then (bif (decide (x0 ≥ 65)) then (bif (decide (x0 ≤ 70)) then (some ((IntKind.wrap .u64 ((IntKind.wrap .u64 (IntKind.wrap .u8 (x0 - 65))) + 10)), true)) else (some (0, false))) else (some (0, false))) else (some (0, false)))) else (bif (x1 == 16) then (bif (decide (x0 ≥ 65)) then (bif (decide (x0 ≤ 70)) then (some ((IntKind.wrap .u64 ((IntKind.wrap .u64 (IntKind.wrap .u8 (x0 - 65))) + 10)), true)) else (some (0, false))) else (some (0, false))) else (some (0, false))))) else (bif (x1 == 16) then (bif (decide (x0 ≥ 97)) then (bif (decide (x0 ≤ 102)) then (some ((IntKind.wrap .u64 ((IntKind.wrap .u64 (IntKind.wrap .u8 (x0 - 97))) + 10)), true)) else (bif (x1 == 16) then (bif (decide (x0 ≥ 65)) then (bif (decide (x0 ≤ 70)) then (some ((IntKind.wrap .u64 ((IntKind.wrap .u64 (IntKind.wrap .u8 (x0 - 65))) + 10)), true)) else (some (0, false))) else (some (0, false))) else (some (0, false)))) else (bif (x1 == 16) then (bif (decide (x0 ≥ 65)) then (bif (decide (x0 ≤ 70)) then (some ((IntKind.wrap .u64 ((IntKind.wrap .u64 (IntKind.wrap .u8 (x0 - 65))) + 10)), true)) else (some (0, false))) else (some (0, false))) else (some (0, false)))) else (bif (x1 == 16) then (bif (decide (x0 ≥ 65)) then (bif (decide (x0 ≤ 70)) then (some ((IntKind.wrap .u64 ((IntKind.wrap .u64 (IntKind.wrap .u8 (x0 - 65))) + 10)), true)) else (some (0, false))) else (some (0, false))) else (some (0, false)))))
theorem words_digit.run (x0 : Int) (x1 : Int) : runF Tryz.prog (gamOf []) noLam Tryz.f88 [(.val (.int .u8 x0)), (.val (.int .u64 x1))] some = (words_digit.f x0 x1).bind fun r => some (.ret (.tup [(.val (.int .u64 r.1)), (.val (.bool r.2))])) := by
  unfold words_digit.f
  try simp only [cond_bind, elim_bind, Option.bind_some, Option.bind_none, Option.bind_assoc, Sum.elim_inl, Sum.elim_inr]
  kernel_rfl
def words_digit.g : GFun := fun β args K => match args with
  | [a0, a1] => (intO .u8 a0).bind fun x0 => (intO .u64 a1).bind fun x1 => (words_digit.f x0 x1).bind fun r => K (.ret (.tup [(.val (.int .u64 r.1)), (.val (.bool r.2))]))
  | _ => none
theorem words_digit.callable : callable Tryz.prog 88 = true := callable_of Tryz.func88 (by kernel_rfl)
theorem words_digit.ok : GOk Tryz.prog 88 (words_digit.g) := by
  intro β args K r h
  unfold words_digit.g at h
  split at h
  · obtain ⟨x0, e0, h⟩ := bs h
    have ⟨x1, e1, h⟩ := bs h
    obtain ⟨y, hy, hK⟩ := bs h
    have hrun := words_digit.run x0 x1
    rw [hy] at hrun
    obtain ⟨out, e, hs⟩ := sim_of_run Tryz.func88 (by kernel_rfl) mixed (gamOf_nil _) (noLam_ok _ _) (args' := [(.val (.int .u8 x0)), (.val (.int .u64 x1))]) (RefsL.cons (Refs.of_eq (intO_eq e0)) (RefsL.cons (Refs.of_eq (intO_eq e1)) RefsL.nil)) hrun
    simp only [Option.some.injEq] at e
    subst e
    exact ⟨_, hK, hs⟩
  · cases h
/-! ### atlas/words.Number: function 84 -/
def words_Number.q0.h : Head (ByteArray × Int × Int × Bool × Int × Int) where
  k γ s F := (sizedN 54 s).bind fun _ => (strO (gt s.tm 0)).bind fun v2 => (intO .u64 (gt s.tm 4)).bind fun v4 => (intO .u64 (gt s.tm 5)).bind fun v6 => (boolO (gt s.tm 6)).bind fun v8 => (intO .i64 (gt s.tm 21)).bind fun v10 => (intO .i64 (gt s.tm 22)).bind fun v12 => (distO []).bind fun _ => F (v2, v4, v6, v8, v10, v12)
  st x := ⟨sparseT [(0, (.val (.string x.1))), (4, (.val (.int .u64 x.2.1))), (5, (.val (.int .u64 x.2.2.1))), (6, (.val (.bool x.2.2.2.1))), (21, (.val (.int .i64 x.2.2.2.2.1))), (22, (.val (.int .i64 x.2.2.2.2.2)))] 54 0, []⟩
  ok γ s F r h := by
    have ⟨_, hz, h⟩ := bs h
    have ⟨v2, h1, h⟩ := bs h
    have ⟨v4, h3, h⟩ := bs h
    have ⟨v6, h5, h⟩ := bs h
    have ⟨v8, h7, h⟩ := bs h
    have ⟨v10, h9, h⟩ := bs h
    have ⟨v12, h11, h⟩ := bs h
    have ⟨_, h13, h⟩ := bs h
    exact ⟨_, h, weak_ren (l := []) (sizedN_ok hz) (distO_ok h13) (LiveR.cons (pS h1) (LiveR.cons (pI h3) (LiveR.cons (pI h5) (LiveR.cons (pB h7) (LiveR.cons (pI h9) (LiveR.cons (pI h11) LiveR.nil)))))) BlksR.nil⟩

def words_Number.q0.x0 : Head (Int × Int) where
  k γ s F := (sizedN 54 s).bind fun _ => (intO .u64 (gt s.tm 2)).bind fun v2 => (intO .i64 (gt s.tm 3)).bind fun v4 => (distO []).bind fun _ => F (v2, v4)
  st x := ⟨sparseT [(2, (.val (.int .u64 x.1))), (3, (.val (.int .i64 x.2)))] 54 0, []⟩
  ok γ s F r h := by
    have ⟨_, hz, h⟩ := bs h
    have ⟨v2, h1, h⟩ := bs h
    have ⟨v4, h3, h⟩ := bs h
    have ⟨_, h5, h⟩ := bs h
    exact ⟨_, h, weak_ren (l := []) (sizedN_ok hz) (distO_ok h5) (LiveR.cons (pI h1) (LiveR.cons (pI h3) LiveR.nil)) BlksR.nil⟩

def words_Number.q0.x1 : Head (Int × Bool) where
  k γ s F := (sizedN 54 s).bind fun _ => (intO .u64 (gt s.tm 5)).bind fun v2 => (boolO (gt s.tm 6)).bind fun v4 => (distO []).bind fun _ => F (v2, v4)
  st x := ⟨sparseT [(5, (.val (.int .u64 x.1))), (6, (.val (.bool x.2)))] 54 0, []⟩
  ok γ s F r h := by
    have ⟨_, hz, h⟩ := bs h
    have ⟨v2, h1, h⟩ := bs h
    have ⟨v4, h3, h⟩ := bs h
    have ⟨_, h5, h⟩ := bs h
    exact ⟨_, h, weak_ren (l := []) (sizedN_ok hz) (distO_ok h5) (LiveR.cons (pI h1) (LiveR.cons (pB h3) LiveR.nil)) BlksR.nil⟩

def words_Number.q0.t : Tail ((Int × Int) ⊕ (Int × Bool)) := Tail.or .ret words_Number.q0.x0 (Tail.one (.exit 0) words_Number.q0.x1)
theorem words_Number.q0.np (y : ((Int × Int) ⊕ (Int × Bool))) (v : AV) : (words_Number.q0.t.out y).1 = .panic v → nomem v = true := fun h => by rcases y with _ | y <;> first | (cases h; done) | (cases h; rfl) | (cases h)
theorem words_Number.q0.nn (y : ((Int × Int) ⊕ (Int × Bool))) : (words_Number.q0.t.out y).1 ≠ .normal := fun h => by rcases y with _ | y <;> first | (cases h; done) | (cases h; rfl) | (cases h)
def words_Number.q0.l (k : Nat) : Nat → (ByteArray × Int × Int × Bool × Int × Int) → Option ((Int × Int) ⊕ (Int × Bool))
  | 0, _ => none
  | n + 1, x => (bif (decide (x.2.2.2.2.2 < x.2.2.2.2.1)) then (bif (decide (0 ≤ x.2.2.2.2.2) && decide (x.2.2.2.2.2 < ((x.1).size : Int))) then ((words_digit.f (byteAt x.1 x.2.2.2.2.2) x.2.1).bind fun r1 => (bif (!r1.2) then (bif (decide (0 ≤ x.2.2.2.2.2) && decide (x.2.2.2.2.2 < ((x.1).size : Int))) then (bif ((byteAt x.1 x.2.2.2.2.2) != 95) then (some (Sum.inl (0, 11))) else (bif (!x.2.2.2.1) then (some (Sum.inl (0, 11))) else (words_Number.q0.l k n (x.1, x.2.1, x.2.2.1, false, x.2.2.2.2.1, (IntKind.wrap .i64 (x.2.2.2.2.2 + 1)))))) else none) else (bif (decide ((IntKind.wrap .u64 ((IntKind.wrap .u64 (x.2.2.1 * x.2.1)) + r1.1)) ≥ 1099511627776)) then (some (Sum.inl (0, 11))) else (words_Number.q0.l k n (x.1, x.2.1, (IntKind.wrap .u64 ((IntKind.wrap .u64 (x.2.2.1 * x.2.1)) + r1.1)), true, x.2.2.2.2.1, (IntKind.wrap .i64 (x.2.2.2.2.2 + 1))))))) else none) else (some (Sum.inr (x.2.2.1, x.2.2.2.1))))
theorem words_Number.q0.z (k : Nat) (x : (ByteArray × Int × Int × Bool × Int × Int)) : words_Number.q0.l k 0 x = none := rfl
theorem words_Number.q0.at : codeAt (bodyOf Tryz.f84) [false, true, false, true, true, true, true, true] = some (.loop (loopBody (bodyOf Tryz.f84) [false, true, false, true, true, true, true, true])) := by kernel_rfl
theorem words_Number.q0.goes (k n : Nat) (x : (ByteArray × Int × Int × Bool × Int × Int)) : E Tryz.prog (gamOf [(88, words_digit.g)]) (lamOf []) (loopBody (bodyOf Tryz.f84) [false, true, false, true, true, true, true, true]) (false :: [false, true, false, true, true, true, true, true]) (words_Number.q0.h.st x) (contD words_Number.q0.h words_Number.q0.t (words_Number.q0.l k n) some) = words_Number.q0.l k (n + 1) x := by
  kernel_rfl
theorem words_Number.q0.ok_ (k : Nat) : PieceOk Tryz.prog (bodyOf Tryz.f84) ⟨[false, true, false, true, true, true, true, true], _, _, words_Number.q0.h, words_Number.q0.t, words_Number.q0.l k k⟩ :=
  piece_loop (gamOf_cons (words_digit.ok) words_digit.callable (gamOf_nil _)) (lamOf_nil _ _) mixed words_Number.q0.at words_Number.q0.np words_Number.q0.nn (words_Number.q0.z k) (words_Number.q0.goes k) k
def words_Number.q0.p (k : Nat) : Piece := ⟨[false, true, false, true, true, true, true, true], _, _, words_Number.q0.h, words_Number.q0.t, words_Number.q0.l k k⟩
theorem words_Number.q0.ok (k : Nat) : PieceOk Tryz.prog (bodyOf Tryz.f84) (words_Number.q0.p k) := words_Number.q0.ok_ k
def words_Number.f (k : Nat) (x0 : ByteArray) : Option (Int × Int) := (bif (decide (((x0).size : Int) ≥ 2)) then (bif (decide (0 ≤ 2) && decide (2 ≤ (((x0).size : Nat) : Int))) then (bif ((ByteArray.extract x0 0 2).toList == (⟨#[48, 120]⟩ : ByteArray).toList) then (bif (decide (0 ≤ 2) && decide (2 ≤ (((x0).size : Nat) : Int))) then ((words_Number.q0.l k k ((ByteArray.extract x0 2 ((x0).size)), 16, 0, false, (((ByteArray.extract x0 2 ((x0).size))).size : Int), 0)).bind fun r2 => (Sum.elim (fun r3 => (some (r3.1, r3.2))) (fun r4 => (bif (!r4.2) then (some (0, 11)) else (some (r4.1, 0)))) r2)) else none) else ((words_Number.q0.l k k (x0, 10, 0, false, ((x0).size : Int), 0)).bind fun r5 => (Sum.elim (fun r6 => (some (r6.1, r6.2))) (fun r7 => (bif (!r7.2) then (some (0, 11)) else (some (r7.1, 0)))) r5))) else none) else ((words_Number.q0.l k k (x0, 10, 0, false, ((x0).size : Int), 0)).bind fun r8 => (Sum.elim (fun r9 => (some (r9.1, r9.2))) (fun r10 => (bif (!r10.2) then (some (0, 11)) else (some (r10.1, 0)))) r8)))
theorem words_Number.run (k : Nat) (x0 : ByteArray) : runF Tryz.prog (gamOf [(88, words_digit.g)]) (lamOf [words_Number.q0.p k]) Tryz.f84 [(.val (.string x0))] some = (words_Number.f k x0).bind fun r => some (.ret (.tup [(.val (.int .u64 r.1)), (.val (.int .i64 r.2))])) := by
  unfold words_Number.f
  try simp only [cond_bind, elim_bind, Option.bind_some, Option.bind_none, Option.bind_assoc, Sum.elim_inl, Sum.elim_inr]
  kernel_rfl
def words_Number.g (k : Nat) : GFun := fun β args K => match args with
  | [a0] => (strO a0).bind fun x0 => (words_Number.f k x0).bind fun r => K (.ret (.tup [(.val (.int .u64 r.1)), (.val (.int .i64 r.2))]))
  | _ => none
theorem words_Number.callable : callable Tryz.prog 84 = true := callable_of Tryz.func84 (by kernel_rfl)
theorem words_Number.ok (k : Nat) : GOk Tryz.prog 84 (words_Number.g k) := by
  intro β args K r h
  unfold words_Number.g at h
  split at h
  · obtain ⟨x0, e0, h⟩ := bs h
    obtain ⟨y, hy, hK⟩ := bs h
    have hrun := words_Number.run k x0
    rw [hy] at hrun
    obtain ⟨out, e, hs⟩ := sim_of_run Tryz.func84 (by kernel_rfl) mixed (gamOf_cons (words_digit.ok) words_digit.callable (gamOf_nil _)) (lamOf_cons (words_Number.q0.ok k) (lamOf_nil _ _)) (args' := [(.val (.string x0))]) (RefsL.cons (Refs.of_eq (strO_eq e0)) RefsL.nil) hrun
    simp only [Option.some.injEq] at e
    subst e
    exact ⟨_, hK, hs⟩
  · cases h
/-! ### atlas/words.SizeText: function 90 -/
def words_SizeText.f (x0 : Int) : Option (ByteArray) := (bif (x0 == 1) then (some (⟨#[52, 107]⟩ : ByteArray)) else (bif (x0 == 2) then (some (⟨#[54, 52, 107]⟩ : ByteArray)) else (bif (x0 == 3) then (some (⟨#[49, 109]⟩ : ByteArray)) else (bif (x0 == 4) then (some (⟨#[49, 54, 109]⟩ : ByteArray)) else (some (⟨#[]⟩ : ByteArray))))))
theorem words_SizeText.run (x0 : Int) : runF Tryz.prog (gamOf []) noLam Tryz.f90 [(.val (.int .i64 x0))] some = (words_SizeText.f x0).bind fun r => some (.ret (.val (.string r))) := by
  unfold words_SizeText.f
  try simp only [cond_bind, elim_bind, Option.bind_some, Option.bind_none, Option.bind_assoc, Sum.elim_inl, Sum.elim_inr]
  kernel_rfl
def words_SizeText.g : GFun := fun β args K => match args with
  | [a0] => (intO .i64 a0).bind fun x0 => (words_SizeText.f x0).bind fun r => K (.ret (.val (.string r)))
  | _ => none
theorem words_SizeText.callable : callable Tryz.prog 90 = true := callable_of Tryz.func90 (by kernel_rfl)
theorem words_SizeText.ok : GOk Tryz.prog 90 (words_SizeText.g) := by
  intro β args K r h
  unfold words_SizeText.g at h
  split at h
  · obtain ⟨x0, e0, h⟩ := bs h
    obtain ⟨y, hy, hK⟩ := bs h
    have hrun := words_SizeText.run x0
    rw [hy] at hrun
    obtain ⟨out, e, hs⟩ := sim_of_run Tryz.func90 (by kernel_rfl) mixed (gamOf_nil _) (noLam_ok _ _) (args' := [(.val (.int .i64 x0))]) (RefsL.cons (Refs.of_eq (intO_eq e0)) RefsL.nil) hrun
    simp only [Option.some.injEq] at e
    subst e
    exact ⟨_, hK, hs⟩
  · cases h
/-! ### atlas/words.Size: function 86 -/
def words_Size.q0.h : Head (ByteArray × Int) where
  k γ s F := (sizedN 14 s).bind fun _ => (strO (gt s.tm 0)).bind fun v2 => (intO .i64 (gt s.tm 4)).bind fun v4 => (distO []).bind fun _ => F (v2, v4)
  st x := ⟨sparseT [(0, (.val (.string x.1))), (4, (.val (.int .i64 x.2)))] 14 0, []⟩
  ok γ s F r h := by
    have ⟨_, hz, h⟩ := bs h
    have ⟨v2, h1, h⟩ := bs h
    have ⟨v4, h3, h⟩ := bs h
    have ⟨_, h5, h⟩ := bs h
    exact ⟨_, h, weak_ren (l := []) (sizedN_ok hz) (distO_ok h5) (LiveR.cons (pS h1) (LiveR.cons (pI h3) LiveR.nil)) BlksR.nil⟩

def words_Size.q0.x0 : Head (Int × Int) where
  k γ s F := (sizedN 14 s).bind fun _ => (intO .i64 (gt s.tm 2)).bind fun v2 => (intO .i64 (gt s.tm 3)).bind fun v4 => (distO []).bind fun _ => F (v2, v4)
  st x := ⟨sparseT [(2, (.val (.int .i64 x.1))), (3, (.val (.int .i64 x.2)))] 14 0, []⟩
  ok γ s F r h := by
    have ⟨_, hz, h⟩ := bs h
    have ⟨v2, h1, h⟩ := bs h
    have ⟨v4, h3, h⟩ := bs h
    have ⟨_, h5, h⟩ := bs h
    exact ⟨_, h, weak_ren (l := []) (sizedN_ok hz) (distO_ok h5) (LiveR.cons (pI h1) (LiveR.cons (pI h3) LiveR.nil)) BlksR.nil⟩

def words_Size.q0.x1 : Head (Unit) where
  k γ s F := (sizedN 14 s).bind fun _ => (distO []).bind fun _ => F ()
  st x := ⟨sparseT [] 14 0, []⟩
  ok γ s F r h := by
    have ⟨_, hz, h⟩ := bs h
    have ⟨_, h1, h⟩ := bs h
    exact ⟨_, h, weak_ren (l := []) (sizedN_ok hz) (distO_ok h1) LiveR.nil BlksR.nil⟩

def words_Size.q0.t : Tail ((Int × Int) ⊕ (Unit)) := Tail.or .ret words_Size.q0.x0 (Tail.one (.exit 0) words_Size.q0.x1)
theorem words_Size.q0.np (y : ((Int × Int) ⊕ (Unit))) (v : AV) : (words_Size.q0.t.out y).1 = .panic v → nomem v = true := fun h => by rcases y with _ | y <;> first | (cases h; done) | (cases h; rfl) | (cases h)
theorem words_Size.q0.nn (y : ((Int × Int) ⊕ (Unit))) : (words_Size.q0.t.out y).1 ≠ .normal := fun h => by rcases y with _ | y <;> first | (cases h; done) | (cases h; rfl) | (cases h)
def words_Size.q0.l (k : Nat) : Nat → (ByteArray × Int) → Option ((Int × Int) ⊕ (Unit))
  | 0, _ => none
  | n + 1, x => (bif (decide (x.2 ≤ 4)) then ((words_SizeText.f x.2).bind fun r1 => (bif (r1.toList == x.1.toList) then (some (Sum.inl (x.2, 0))) else (words_Size.q0.l k n (x.1, (IntKind.wrap .i64 (x.2 + 1)))))) else (some (Sum.inr ())))
theorem words_Size.q0.z (k : Nat) (x : (ByteArray × Int)) : words_Size.q0.l k 0 x = none := rfl
theorem words_Size.q0.at : codeAt (bodyOf Tryz.f86) [false, true, false, true] = some (.loop (loopBody (bodyOf Tryz.f86) [false, true, false, true])) := by kernel_rfl
theorem words_Size.q0.goes (k n : Nat) (x : (ByteArray × Int)) : E Tryz.prog (gamOf [(90, words_SizeText.g)]) (lamOf []) (loopBody (bodyOf Tryz.f86) [false, true, false, true]) (false :: [false, true, false, true]) (words_Size.q0.h.st x) (contD words_Size.q0.h words_Size.q0.t (words_Size.q0.l k n) some) = words_Size.q0.l k (n + 1) x := by
  kernel_rfl
theorem words_Size.q0.ok_ (k : Nat) : PieceOk Tryz.prog (bodyOf Tryz.f86) ⟨[false, true, false, true], _, _, words_Size.q0.h, words_Size.q0.t, words_Size.q0.l k k⟩ :=
  piece_loop (gamOf_cons (words_SizeText.ok) words_SizeText.callable (gamOf_nil _)) (lamOf_nil _ _) mixed words_Size.q0.at words_Size.q0.np words_Size.q0.nn (words_Size.q0.z k) (words_Size.q0.goes k) k
def words_Size.q0.p (k : Nat) : Piece := ⟨[false, true, false, true], _, _, words_Size.q0.h, words_Size.q0.t, words_Size.q0.l k k⟩
theorem words_Size.q0.ok (k : Nat) : PieceOk Tryz.prog (bodyOf Tryz.f86) (words_Size.q0.p k) := words_Size.q0.ok_ k
def words_Size.f (k : Nat) (x0 : ByteArray) : Option (Int × Int) := ((words_Size.q0.l k k (x0, 1)).bind fun r2 => (Sum.elim (fun r3 => (some (r3.1, r3.2))) (fun r4 => (some (0, 12))) r2))
theorem words_Size.run (k : Nat) (x0 : ByteArray) : runF Tryz.prog (gamOf [(90, words_SizeText.g)]) (lamOf [words_Size.q0.p k]) Tryz.f86 [(.val (.string x0))] some = (words_Size.f k x0).bind fun r => some (.ret (.tup [(.val (.int .i64 r.1)), (.val (.int .i64 r.2))])) := by
  unfold words_Size.f
  try simp only [cond_bind, elim_bind, Option.bind_some, Option.bind_none, Option.bind_assoc, Sum.elim_inl, Sum.elim_inr]
  kernel_rfl
def words_Size.g (k : Nat) : GFun := fun β args K => match args with
  | [a0] => (strO a0).bind fun x0 => (words_Size.f k x0).bind fun r => K (.ret (.tup [(.val (.int .i64 r.1)), (.val (.int .i64 r.2))]))
  | _ => none
theorem words_Size.callable : callable Tryz.prog 86 = true := callable_of Tryz.func86 (by kernel_rfl)
theorem words_Size.ok (k : Nat) : GOk Tryz.prog 86 (words_Size.g k) := by
  intro β args K r h
  unfold words_Size.g at h
  split at h
  · obtain ⟨x0, e0, h⟩ := bs h
    obtain ⟨y, hy, hK⟩ := bs h
    have hrun := words_Size.run k x0
    rw [hy] at hrun
    obtain ⟨out, e, hs⟩ := sim_of_run Tryz.func86 (by kernel_rfl) mixed (gamOf_cons (words_SizeText.ok) words_SizeText.callable (gamOf_nil _)) (lamOf_cons (words_Size.q0.ok k) (lamOf_nil _ _)) (args' := [(.val (.string x0))]) (RefsL.cons (Refs.of_eq (strO_eq e0)) RefsL.nil) hrun
    simp only [Option.some.injEq] at e
    subst e
    exact ⟨_, hK, hs⟩
  · cases h
/-! ### atlas/words.blank: function 14 -/
def words_blank.f (x0 : Int) : Option (Bool) := (bif (x0 == 9) then (bif (x0 == 9) then (some true) else (some false)) else (bif (x0 == 13) then (bif (x0 == 13) then (some true) else (some false)) else (bif (x0 == 32) then (bif (x0 == 32) then (some true) else (some false)) else (bif (x0 == 160) then (bif (x0 == 160) then (some true) else (some false)) else (bif (x0 == 8195) then (bif (x0 == 8195) then (some true) else (some false)) else (bif (x0 == 12288) then (some true) else (some false)))))))
theorem words_blank.run (x0 : Int) : runF Tryz.prog (gamOf []) noLam Tryz.f14 [(.val (.int .i32 x0))] some = (words_blank.f x0).bind fun r => some (.ret (.val (.bool r))) := by
  unfold words_blank.f
  try simp only [cond_bind, elim_bind, Option.bind_some, Option.bind_none, Option.bind_assoc, Sum.elim_inl, Sum.elim_inr]
  kernel_rfl
def words_blank.g : GFun := fun β args K => match args with
  | [a0] => (intO .i32 a0).bind fun x0 => (words_blank.f x0).bind fun r => K (.ret (.val (.bool r)))
  | _ => none
theorem words_blank.callable : callable Tryz.prog 14 = true := callable_of Tryz.func14 (by kernel_rfl)
theorem words_blank.ok : GOk Tryz.prog 14 (words_blank.g) := by
  intro β args K r h
  unfold words_blank.g at h
  split at h
  · obtain ⟨x0, e0, h⟩ := bs h
    obtain ⟨y, hy, hK⟩ := bs h
    have hrun := words_blank.run x0
    rw [hy] at hrun
    obtain ⟨out, e, hs⟩ := sim_of_run Tryz.func14 (by kernel_rfl) mixed (gamOf_nil _) (noLam_ok _ _) (args' := [(.val (.int .i32 x0))]) (RefsL.cons (Refs.of_eq (intO_eq e0)) RefsL.nil) hrun
    simp only [Option.some.injEq] at e
    subst e
    exact ⟨_, hK, hs⟩
  · cases h
/-! ### atlas/words.Fields: function 7 -/
def words_Fields.q0.h : Head (ByteArray × Int × Int × (List ByteArray) × ByteArray × Nat) where
  k γ s F := (sizedN 52 s).bind fun _ => (strO (gt s.tm 0)).bind fun v2 => (soN 1 s.hp (gt s.tm 3)).bind fun b4 => (intO .i64 (gt s.tm 4)).bind fun v6 => (intO .i64 (gt s.tm 5)).bind fun v8 => (ptrN 0 (gt s.tm 11)).bind fun b10 => (rtN .str 9 s.hp b4).bind fun v12 => (itN s.hp b10).bind fun l14 => (distO [b4, some b10]).bind fun _ => F (v2, v6, v8, v12, l14.1, l14.2)
  st x := ⟨sparseT [(0, (.val (.string x.1))), (3, (.so 0 1)), (4, (.val (.int .i64 x.2.1))), (5, (.val (.int .i64 x.2.2.1))), (11, (.ptr 1 0))] 52 0, [.rt .str x.2.2.2.1 9, .ob (.it x.2.2.2.2.1 x.2.2.2.2.2)]⟩
  ok γ s F r h := by
    have ⟨_, hz, h⟩ := bs h
    have ⟨v2, h1, h⟩ := bs h
    have ⟨b4, h3, h⟩ := bs h
    have ⟨v6, h5, h⟩ := bs h
    have ⟨v8, h7, h⟩ := bs h
    have ⟨b10, h9, h⟩ := bs h
    have ⟨v12, h11, h⟩ := bs h
    have ⟨l14, h13, h⟩ := bs h
    have ⟨_, h15, h⟩ := bs h
    exact ⟨_, h, weak_ren (l := [b4, some b10]) (sizedN_ok hz) (distO_ok h15) (LiveR.cons (pS h1) (LiveR.cons (RefsR.so (l := [b4, some b10]) (i := 0) rfl (Nat.le_of_ble_eq_true rfl) h3) (LiveR.cons (pI h5) (LiveR.cons (pI h7) (LiveR.cons (RefsR.ptr (l := [b4, some b10]) (i := 1) rfl (ptrN_eq h9)) LiveR.nil))))) (BlksR.cons (rtN_blk h11) (BlksR.cons (itN_blk h13) BlksR.nil))⟩

def words_Fields.q0.x0 : Head (ByteArray × Int × Int × (List ByteArray)) where
  k γ s F := (sizedN 52 s).bind fun _ => (strO (gt s.tm 0)).bind fun v2 => (soN 1 s.hp (gt s.tm 3)).bind fun b4 => (intO .i64 (gt s.tm 4)).bind fun v6 => (intO .i64 (gt s.tm 5)).bind fun v8 => (rtN .str 9 s.hp b4).bind fun v10 => (distO [b4]).bind fun _ => F (v2, v6, v8, v10)
  st x := ⟨sparseT [(0, (.val (.string x.1))), (3, (.so 0 1)), (4, (.val (.int .i64 x.2.1))), (5, (.val (.int .i64 x.2.2.1)))] 52 0, [.rt .str x.2.2.2 9]⟩
  ok γ s F r h := by
    have ⟨_, hz, h⟩ := bs h
    have ⟨v2, h1, h⟩ := bs h
    have ⟨b4, h3, h⟩ := bs h
    have ⟨v6, h5, h⟩ := bs h
    have ⟨v8, h7, h⟩ := bs h
    have ⟨v10, h9, h⟩ := bs h
    have ⟨_, h11, h⟩ := bs h
    exact ⟨_, h, weak_ren (l := [b4]) (sizedN_ok hz) (distO_ok h11) (LiveR.cons (pS h1) (LiveR.cons (RefsR.so (l := [b4]) (i := 0) rfl (Nat.le_of_ble_eq_true rfl) h3) (LiveR.cons (pI h5) (LiveR.cons (pI h7) LiveR.nil)))) (BlksR.cons (rtN_blk h9) BlksR.nil)⟩

def words_Fields.q0.t : Tail (ByteArray × Int × Int × (List ByteArray)) := Tail.one (.exit 0) words_Fields.q0.x0
theorem words_Fields.q0.np (y : (ByteArray × Int × Int × (List ByteArray))) (v : AV) : (words_Fields.q0.t.out y).1 = .panic v → nomem v = true := fun h => by cases h
theorem words_Fields.q0.nn (y : (ByteArray × Int × Int × (List ByteArray))) : (words_Fields.q0.t.out y).1 ≠ .normal := fun h => by cases h
def words_Fields.q0.l (k : Nat) : Nat → (ByteArray × Int × Int × (List ByteArray) × ByteArray × Nat) → Option (ByteArray × Int × Int × (List ByteArray))
  | 0, _ => none
  | n + 1, x => (bif decide (x.2.2.2.2.2 < x.2.2.2.2.1.size) then (bif ((((Utf8.decode x.2.2.2.2.1 x.2.2.2.2.2).1 : Nat) : Int) == 35) then (some (x.1, x.2.1, ((x.2.2.2.2.2 : Nat) : Int), x.2.2.2.1)) else ((words_blank.f (((Utf8.decode x.2.2.2.2.1 x.2.2.2.2.2).1 : Nat) : Int)).bind fun r1 => (bif r1 then (bif (decide (x.2.1 ≥ 0)) then (bif (decide (0 ≤ ((x.2.2.2.2.2 : Nat) : Int)) && decide (((x.2.2.2.2.2 : Nat) : Int) ≤ (((x.1).size : Nat) : Int))) then (bif (decide (0 ≤ x.2.1) && decide (x.2.1 ≤ (((((x.2.2.2.2.2 : Nat) : Int)).toNat : Nat) : Int))) then (bif (decide ((x.2.2.2.1 ++ ([(ByteArray.extract x.1 ((x.2.1).toNat) ((((x.2.2.2.2.2 : Nat) : Int)).toNat))] : List ByteArray)).length ≤ maxLen) && decide ((x.2.2.2.1 ++ ([(ByteArray.extract x.1 ((x.2.1).toNat) ((((x.2.2.2.2.2 : Nat) : Int)).toNat))] : List ByteArray)).length * 16 ≤ 211106232532992)) then (words_Fields.q0.l k n (x.1, (-1), x.2.2.1, (x.2.2.2.1 ++ ([(ByteArray.extract x.1 ((x.2.1).toNat) ((((x.2.2.2.2.2 : Nat) : Int)).toNat))] : List ByteArray)), x.2.2.2.2.1, (x.2.2.2.2.2 + (Utf8.decode x.2.2.2.2.1 x.2.2.2.2.2).2))) else none) else none) else none) else ((words_blank.f (((Utf8.decode x.2.2.2.2.1 x.2.2.2.2.2).1 : Nat) : Int)).bind fun r2 => (bif (!r2) then (bif (decide (x.2.1 < 0)) then (words_Fields.q0.l k n (x.1, ((x.2.2.2.2.2 : Nat) : Int), x.2.2.1, x.2.2.2.1, x.2.2.2.2.1, (x.2.2.2.2.2 + (Utf8.decode x.2.2.2.2.1 x.2.2.2.2.2).2))) else (words_Fields.q0.l k n (x.1, x.2.1, x.2.2.1, x.2.2.2.1, x.2.2.2.2.1, (x.2.2.2.2.2 + (Utf8.decode x.2.2.2.2.1 x.2.2.2.2.2).2)))) else (words_Fields.q0.l k n (x.1, x.2.1, x.2.2.1, x.2.2.2.1, x.2.2.2.2.1, (x.2.2.2.2.2 + (Utf8.decode x.2.2.2.2.1 x.2.2.2.2.2).2)))))) else ((words_blank.f (((Utf8.decode x.2.2.2.2.1 x.2.2.2.2.2).1 : Nat) : Int)).bind fun r3 => (bif (!r3) then (bif (decide (x.2.1 < 0)) then (words_Fields.q0.l k n (x.1, ((x.2.2.2.2.2 : Nat) : Int), x.2.2.1, x.2.2.2.1, x.2.2.2.2.1, (x.2.2.2.2.2 + (Utf8.decode x.2.2.2.2.1 x.2.2.2.2.2).2))) else (words_Fields.q0.l k n (x.1, x.2.1, x.2.2.1, x.2.2.2.1, x.2.2.2.2.1, (x.2.2.2.2.2 + (Utf8.decode x.2.2.2.2.1 x.2.2.2.2.2).2)))) else (words_Fields.q0.l k n (x.1, x.2.1, x.2.2.1, x.2.2.2.1, x.2.2.2.2.1, (x.2.2.2.2.2 + (Utf8.decode x.2.2.2.2.1 x.2.2.2.2.2).2)))))))) else (some (x.1, x.2.1, x.2.2.1, x.2.2.2.1)))
theorem words_Fields.q0.z (k : Nat) (x : (ByteArray × Int × Int × (List ByteArray) × ByteArray × Nat)) : words_Fields.q0.l k 0 x = none := rfl
theorem words_Fields.q0.at : codeAt (bodyOf Tryz.f7) [false, true, false, true, true, true, true] = some (.loop (loopBody (bodyOf Tryz.f7) [false, true, false, true, true, true, true])) := by kernel_rfl
theorem words_Fields.q0.goes (k n : Nat) (x : (ByteArray × Int × Int × (List ByteArray) × ByteArray × Nat)) : E Tryz.prog (gamOf [(14, words_blank.g)]) (lamOf []) (loopBody (bodyOf Tryz.f7) [false, true, false, true, true, true, true]) (false :: [false, true, false, true, true, true, true]) (words_Fields.q0.h.st x) (contD words_Fields.q0.h words_Fields.q0.t (words_Fields.q0.l k n) some) = words_Fields.q0.l k (n + 1) x := by
  kernel_rfl
theorem words_Fields.q0.ok_ (k : Nat) : PieceOk Tryz.prog (bodyOf Tryz.f7) ⟨[false, true, false, true, true, true, true], _, _, words_Fields.q0.h, words_Fields.q0.t, words_Fields.q0.l k k⟩ :=
  piece_loop (gamOf_cons (words_blank.ok) words_blank.callable (gamOf_nil _)) (lamOf_nil _ _) mixed words_Fields.q0.at words_Fields.q0.np words_Fields.q0.nn (words_Fields.q0.z k) (words_Fields.q0.goes k) k
def words_Fields.q0.p (k : Nat) : Piece := ⟨[false, true, false, true, true, true, true], _, _, words_Fields.q0.h, words_Fields.q0.t, words_Fields.q0.l k k⟩
theorem words_Fields.q0.ok (k : Nat) : PieceOk Tryz.prog (bodyOf Tryz.f7) (words_Fields.q0.p k) := words_Fields.q0.ok_ k
def words_Fields.f (k : Nat) (x0 : ByteArray) : Option ((List ByteArray)) := ((words_Fields.q0.l k k (x0, (-1), ((x0).size : Int), ([] : List ByteArray), x0, 0)).bind fun r4 => (bif (decide (r4.2.1 ≥ 0)) then (bif (decide (0 ≤ r4.2.2.1) && decide (r4.2.2.1 ≤ (((r4.1).size : Nat) : Int))) then (bif (decide (0 ≤ r4.2.1) && decide (r4.2.1 ≤ (((r4.2.2.1).toNat : Nat) : Int))) then (bif (decide ((r4.2.2.2 ++ ([(ByteArray.extract r4.1 ((r4.2.1).toNat) ((r4.2.2.1).toNat))] : List ByteArray)).length ≤ maxLen) && decide ((r4.2.2.2 ++ ([(ByteArray.extract r4.1 ((r4.2.1).toNat) ((r4.2.2.1).toNat))] : List ByteArray)).length * 16 ≤ 211106232532992)) then (some (r4.2.2.2 ++ ([(ByteArray.extract r4.1 ((r4.2.1).toNat) ((r4.2.2.1).toNat))] : List ByteArray))) else none) else none) else none) else (some r4.2.2.2)))
theorem words_Fields.run (k : Nat) (x0 : ByteArray) : runF Tryz.prog (gamOf [(14, words_blank.g)]) (lamOf [words_Fields.q0.p k]) Tryz.f7 [(.val (.string x0))] some = (words_Fields.f k x0).bind fun r => some (.ret (.vt .str r)) := by
  unfold words_Fields.f
  try simp only [cond_bind, elim_bind, Option.bind_some, Option.bind_none, Option.bind_assoc, Sum.elim_inl, Sum.elim_inr]
  kernel_rfl
def words_Fields.g (k : Nat) : GFun := fun β args K => match args with
  | [a0] => (strO a0).bind fun x0 => (words_Fields.f k x0).bind fun r => K (.ret (.vt .str r))
  | _ => none
theorem words_Fields.callable : callable Tryz.prog 7 = true := callable_of Tryz.func7 (by kernel_rfl)
theorem words_Fields.ok (k : Nat) : GOk Tryz.prog 7 (words_Fields.g k) := by
  intro β args K r h
  unfold words_Fields.g at h
  split at h
  · obtain ⟨x0, e0, h⟩ := bs h
    obtain ⟨y, hy, hK⟩ := bs h
    have hrun := words_Fields.run k x0
    rw [hy] at hrun
    obtain ⟨out, e, hs⟩ := sim_of_run Tryz.func7 (by kernel_rfl) mixed (gamOf_cons (words_blank.ok) words_blank.callable (gamOf_nil _)) (lamOf_cons (words_Fields.q0.ok k) (lamOf_nil _ _)) (args' := [(.val (.string x0))]) (RefsL.cons (Refs.of_eq (strO_eq e0)) RefsL.nil) hrun
    simp only [Option.some.injEq] at e
    subst e
    exact ⟨_, hK, hs⟩
  · cases h
/-! ### atlas/script.names: function 15 -/
def script_names.f  : Option ((List ByteArray)) := (some ([(⟨#[]⟩ : ByteArray), (⟨#[98, 111, 111, 116]⟩ : ByteArray), (⟨#[98, 97, 114, 101]⟩ : ByteArray), (⟨#[110, 111, 105, 115, 101]⟩ : ByteArray), (⟨#[99, 114, 101, 97, 116, 101]⟩ : ByteArray), (⟨#[100, 101, 115, 116, 114, 111, 121]⟩ : ByteArray), (⟨#[115, 119, 105, 116, 99, 104]⟩ : ByteArray), (⟨#[109, 97, 112]⟩ : ByteArray), (⟨#[117, 110, 109, 97, 112]⟩ : ByteArray), (⟨#[112, 114, 111, 116, 101, 99, 116]⟩ : ByteArray), (⟨#[115, 104, 97, 114, 101]⟩ : ByteArray), (⟨#[113, 117, 101, 114, 121]⟩ : ByteArray), (⟨#[108, 111, 97, 100]⟩ : ByteArray), (⟨#[115, 116, 111, 114, 101]⟩ : ByteArray), (⟨#[102, 101, 116, 99, 104]⟩ : ByteArray), (⟨#[115, 112, 97, 99, 101, 115]⟩ : ByteArray), (⟨#[112, 111, 107, 101]⟩ : ByteArray), (⟨#[112, 101, 101, 107]⟩ : ByteArray), (⟨#[109, 99, 114]⟩ : ByteArray), (⟨#[109, 114, 99]⟩ : ByteArray), (⟨#[100, 105, 114, 116, 121]⟩ : ByteArray)] : List ByteArray))
theorem script_names.run  : runF Tryz.prog (gamOf []) noLam Tryz.f15 [] some = (script_names.f ).bind fun r => some (.ret (.vt .str r)) := by
  unfold script_names.f
  try simp only [cond_bind, elim_bind, Option.bind_some, Option.bind_none, Option.bind_assoc, Sum.elim_inl, Sum.elim_inr]
  kernel_rfl
def script_names.g : GFun := fun β args K => match args with
  | [] => (script_names.f ).bind fun r => K (.ret (.vt .str r))
  | _ => none
theorem script_names.callable : callable Tryz.prog 15 = true := callable_of Tryz.func15 (by kernel_rfl)
theorem script_names.ok : GOk Tryz.prog 15 (script_names.g) := by
  intro β args K r h
  unfold script_names.g at h
  split at h
  · obtain ⟨y, hy, hK⟩ := bs h
    have hrun := script_names.run 
    rw [hy] at hrun
    obtain ⟨out, e, hs⟩ := sim_of_run Tryz.func15 (by kernel_rfl) mixed (gamOf_nil _) (noLam_ok _ _) (args' := []) RefsL.nil hrun
    simp only [Option.some.injEq] at e
    subst e
    exact ⟨_, hK, hs⟩
  · cases h
/-! ### atlas/atlasref01.tail: function 42 -/
def atlasref01_tail.f (x0 : ByteArray) (x1 : Int) : Option (Bool) := (bif (decide (x1 < ((x0).size : Int))) then (bif (decide (0 ≤ x1) && decide (x1 < ((x0).size : Int))) then (bif (decide ((byteAt x0 x1) ≥ 128)) then (bif (decide (0 ≤ x1) && decide (x1 < ((x0).size : Int))) then (some (decide ((byteAt x0 x1) ≤ 191))) else none) else (some false)) else none) else (some false))
theorem atlasref01_tail.run (x0 : ByteArray) (x1 : Int) : runF Tryz.prog (gamOf []) noLam Tryz.f42 [(.val (.string x0)), (.val (.int .i64 x1))] some = (atlasref01_tail.f x0 x1).bind fun r => some (.ret (.val (.bool r))) := by
  unfold atlasref01_tail.f
  try simp only [cond_bind, elim_bind, Option.bind_some, Option.bind_none, Option.bind_assoc, Sum.elim_inl, Sum.elim_inr]
  kernel_rfl
def atlasref01_tail.g : GFun := fun β args K => match args with
  | [a0, a1] => (strO a0).bind fun x0 => (intO .i64 a1).bind fun x1 => (atlasref01_tail.f x0 x1).bind fun r => K (.ret (.val (.bool r)))
  | _ => none
theorem atlasref01_tail.callable : callable Tryz.prog 42 = true := callable_of Tryz.func42 (by kernel_rfl)
theorem atlasref01_tail.ok : GOk Tryz.prog 42 (atlasref01_tail.g) := by
  intro β args K r h
  unfold atlasref01_tail.g at h
  split at h
  · obtain ⟨x0, e0, h⟩ := bs h
    have ⟨x1, e1, h⟩ := bs h
    obtain ⟨y, hy, hK⟩ := bs h
    have hrun := atlasref01_tail.run x0 x1
    rw [hy] at hrun
    obtain ⟨out, e, hs⟩ := sim_of_run Tryz.func42 (by kernel_rfl) mixed (gamOf_nil _) (noLam_ok _ _) (args' := [(.val (.string x0)), (.val (.int .i64 x1))]) (RefsL.cons (Refs.of_eq (strO_eq e0)) (RefsL.cons (Refs.of_eq (intO_eq e1)) RefsL.nil)) hrun
    simp only [Option.some.injEq] at e
    subst e
    exact ⟨_, hK, hs⟩
  · cases h
end Go.Va
