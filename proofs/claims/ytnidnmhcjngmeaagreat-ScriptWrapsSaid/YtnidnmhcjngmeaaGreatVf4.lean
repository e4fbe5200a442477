import Derived.Test.YtnidnmhcjngmeaaGreatVaTy
import Derived.Test.YtnidnmhcjngmeaaGreatVf1
-- Written by a program of this session (wip/va/vaprint.py). Not trusted: Lean checks it.
set_option linter.unusedVariables false
set_option linter.unusedSimpArgs false
set_option autoImplicit false
set_option maxRecDepth 100000
namespace Go.Va
open Go.Proofs
/-! ### atlas/atlasref15.kinds: function 21 -/
def atlasref15_kinds.f (x0 : Int) : Option (ByteArray) := (bif (x0 == 1) then (some (⟨#[49, 50, 51, 52, 53, 54]⟩ : ByteArray)) else (bif (x0 == 2) then (some (⟨#[49, 50, 51, 52]⟩ : ByteArray)) else (bif (x0 == 4) then (bif (x0 == 4) then (some (⟨#[78]⟩ : ByteArray)) else (bif (x0 == 6) then (some (⟨#[83]⟩ : ByteArray)) else (bif (x0 == 7) then (some (⟨#[78, 86, 115, 99, 114]⟩ : ByteArray)) else (bif (x0 == 8) then (some (⟨#[78, 86, 76]⟩ : ByteArray)) else (bif (x0 == 9) then (some (⟨#[78, 86, 76, 114]⟩ : ByteArray)) else (bif (x0 == 10) then (some (⟨#[78, 86, 79, 70, 76, 114]⟩ : ByteArray)) else (bif (x0 == 11) then (some (⟨#[78, 86]⟩ : ByteArray)) else (bif (x0 == 12) then (bif (x0 == 12) then (some (⟨#[86, 98, 113]⟩ : ByteArray)) else (bif (x0 == 13) then (some (⟨#[86, 98, 87, 113]⟩ : ByteArray)) else (bif (x0 == 16) then (some (⟨#[80, 87]⟩ : ByteArray)) else (bif (x0 == 17) then (some (⟨#[80]⟩ : ByteArray)) else (bif (x0 == 18) then (some (⟨#[67, 111, 77, 112, 87, 117]⟩ : ByteArray)) else (bif (x0 == 19) then (some (⟨#[67, 111, 77, 112, 117]⟩ : ByteArray)) else (some (⟨#[]⟩ : ByteArray)))))))) else (bif (x0 == 14) then (some (⟨#[86, 98, 113]⟩ : ByteArray)) else (bif (x0 == 13) then (some (⟨#[86, 98, 87, 113]⟩ : ByteArray)) else (bif (x0 == 16) then (some (⟨#[80, 87]⟩ : ByteArray)) else (bif (x0 == 17) then (some (⟨#[80]⟩ : ByteArray)) else (bif (x0 == 18) then (some (⟨#[67, 111, 77, 112, 87, 117]⟩ : ByteArray)) else (bif (x0 == 19) then (some (⟨#[67, 111, 77, 112, 117]⟩ : ByteArray)) else (some (⟨#[]⟩ : ByteArray)))))))))))))))) else (bif (x0 == 5) then (some (⟨#[78]⟩ : ByteArray)) else (bif (x0 == 6) then (some (⟨#[83]⟩ : ByteArray)) else (bif (x0 == 7) then (some (⟨#[78, 86, 115, 99, 114]⟩ : ByteArray)) else (bif (x0 == 8) then (some (⟨#[78, 86, 76]⟩ : ByteArray)) else (bif (x0 == 9) then (some (⟨#[78, 86, 76, 114]⟩ : ByteArray)) else (bif (x0 == 10) then (some (⟨#[78, 86, 79, 70, 76, 114]⟩ : ByteArray)) else (bif (x0 == 11) then (some (⟨#[78, 86]⟩ : ByteArray)) else (bif (x0 == 12) then (bif (x0 == 12) then (some (⟨#[86, 98, 113]⟩ : ByteArray)) else (bif (x0 == 13) then (some (⟨#[86, 98, 87, 113]⟩ : ByteArray)) else (bif (x0 == 16) then (some (⟨#[80, 87]⟩ : ByteArray)) else (bif (x0 == 17) then (some (⟨#[80]⟩ : ByteArray)) else (bif (x0 == 18) then (some (⟨#[67, 111, 77, 112, 87, 117]⟩ : ByteArray)) else (bif (x0 == 19) then (some (⟨#[67, 111, 77, 112, 117]⟩ : ByteArray)) else (some (⟨#[]⟩ : ByteArray)))))))) else (bif (x0 == 14) then (some (⟨#[86, 98, 113]⟩ : ByteArray)) else (bif (x0 == 13) then (some (⟨#[86, 98, 87, 113]⟩ : ByteArray)) else (bif (x0 == 16) then (some (⟨#[80, 87]⟩ : ByteArray)) else (bif (x0 == 17) then (some (⟨#[80]⟩ : ByteArray)) else (bif (x0 == 18) then (some (⟨#[67, 111, 77, 112, 87, 117]⟩ : ByteArray)) else (bif (x0 == 19) then (some (⟨#[67, 111, 77, 112, 117]⟩ : ByteArray)) else (some (⟨#[]⟩ : ByteArray)))))))))))))))))))
theorem atlasref15_kinds.run (x0 : Int) : runF Tryz.prog (gamOf []) noLam Tryz.f21 [(.val (.int .i64 x0))] some = (atlasref15_kinds.f x0).bind fun r => some (.ret (.val (.string r))) := by
  unfold atlasref15_kinds.f
  try simp only [cond_bind, elim_bind, Option.bind_some, Option.bind_none, Option.bind_assoc, Sum.elim_inl, Sum.elim_inr]
  kernel_rfl
def atlasref15_kinds.g : GFun := fun β args K => match args with
  | [a0] => (intO .i64 a0).bind fun x0 => (atlasref15_kinds.f x0).bind fun r => K (.ret (.val (.string r)))
  | _ => none
theorem atlasref15_kinds.callable : callable Tryz.prog 21 = true := callable_of Tryz.func21 (by kernel_rfl)
theorem atlasref15_kinds.ok : GOk Tryz.prog 21 (atlasref15_kinds.g) := by
  intro β args K r h
  unfold atlasref15_kinds.g at h
  split at h
  · obtain ⟨x0, e0, h⟩ := bs h
    obtain ⟨y, hy, hK⟩ := bs h
    have hrun := atlasref15_kinds.run x0
    rw [hy] at hrun
    obtain ⟨out, e, hs⟩ := sim_of_run Tryz.func21 (by kernel_rfl) mixed (gamOf_nil _) (noLam_ok _ _) (args' := [(.val (.int .i64 x0))]) (RefsL.cons (Refs.of_eq (intO_eq e0)) RefsL.nil) hrun
    simp only [Option.some.injEq] at e
    subst e
    exact ⟨_, hK, hs⟩
  · cases h
/-! ### atlas/atlasref01.letter: function 52 -/
def atlasref01_letter.q0.h : Head (Int × Bool) where
  k γ s F := (sizedN 39 s).bind fun _ => (intO .i64 (gt s.tm 0)).bind fun v2 => (boolO (gt s.tm 3)).bind fun v4 => (distO []).bind fun _ => F (v2, v4)
  st x := ⟨sparseT [(0, (.val (.int .i64 x.1))), (3, (.val (.bool x.2)))] 39 0, []⟩
  ok γ s F r h := by
    have ⟨_, hz, h⟩ := bs h
    have ⟨v2, h1, h⟩ := bs h
    have ⟨v4, h3, h⟩ := bs h
    have ⟨_, h5, h⟩ := bs h
    exact ⟨_, h, weak_ren (l := []) (sizedN_ok hz) (distO_ok h5) (LiveR.cons (pI h1) (LiveR.cons (pB h3) LiveR.nil)) BlksR.nil⟩

def atlasref01_letter.q0.x0 : Head (Bool) where
  k γ s F := (sizedN 39 s).bind fun _ => (boolO (gt s.tm 2)).bind fun v2 => (distO []).bind fun _ => F (v2)
  st x := ⟨sparseT [(2, (.val (.bool x)))] 39 0, []⟩
  ok γ s F r h := by
    have ⟨_, hz, h⟩ := bs h
    have ⟨v2, h1, h⟩ := bs h
    have ⟨_, h3, h⟩ := bs h
    exact ⟨_, h, weak_ren (l := []) (sizedN_ok hz) (distO_ok h3) (LiveR.cons (pB h1) LiveR.nil) BlksR.nil⟩

def atlasref01_letter.q0.x1 : Head (Int) where
  k γ s F := (sizedN 39 s).bind fun _ => (intO .i64 (gt s.tm 0)).bind fun v2 => (distO []).bind fun _ => F (v2)
  st x := ⟨sparseT [(0, (.val (.int .i64 x)))] 39 0, []⟩
  ok γ s F r h := by
    have ⟨_, hz, h⟩ := bs h
    have ⟨v2, h1, h⟩ := bs h
    have ⟨_, h3, h⟩ := bs h
    exact ⟨_, h, weak_ren (l := []) (sizedN_ok hz) (distO_ok h3) (LiveR.cons (pI h1) LiveR.nil) BlksR.nil⟩

def atlasref01_letter.q0.t : Tail ((Bool) ⊕ (Int)) := Tail.or .ret atlasref01_letter.q0.x0 (Tail.one .normal atlasref01_letter.q0.x1)
theorem atlasref01_letter.q0.np (y : ((Bool) ⊕ (Int))) (v : AV) : (atlasref01_letter.q0.t.out y).1 = .panic v → nomem v = true := fun h => by rcases y with _ | y <;> first | (cases h; done) | (cases h; rfl) | (cases h)
def atlasref01_letter.q0.l (k : Nat) (x : (Int × Bool)) : Option ((Bool) ⊕ (Int)) := (bif x.2 then (some (Sum.inl true)) else (bif (decide (x.1 ≥ 192)) then (bif (decide (x.1 ≤ 591)) then (bif (x.1 != 215) then (some (Sum.inl (x.1 != 247))) else (some (Sum.inl false))) else (some (Sum.inr x.1))) else (some (Sum.inr x.1))))
theorem atlasref01_letter.q0.at : codeAt (bodyOf Tryz.f52) [true, false, false, true] = some (codeOf (bodyOf Tryz.f52) [true, false, false, true]) := by kernel_rfl
theorem atlasref01_letter.q0.goes (k : Nat) (x : (Int × Bool)) : E Tryz.prog (gamOf []) (lamOf []) (codeOf (bodyOf Tryz.f52) [true, false, false, true]) [true, false, false, true] (atlasref01_letter.q0.h.st x) (fun ex t => atlasref01_letter.q0.t.d _ ex t some) = atlasref01_letter.q0.l k x := by
  kernel_rfl
theorem atlasref01_letter.q0.ok_ (k : Nat) : PieceOk Tryz.prog (bodyOf Tryz.f52) ⟨[true, false, false, true], _, _, atlasref01_letter.q0.h, atlasref01_letter.q0.t, atlasref01_letter.q0.l k⟩ :=
  piece_code (gamOf_nil _) (lamOf_nil _ _) mixed atlasref01_letter.q0.at atlasref01_letter.q0.np (atlasref01_letter.q0.goes k)
def atlasref01_letter.q0.p (k : Nat) : Piece := ⟨[true, false, false, true], _, _, atlasref01_letter.q0.h, atlasref01_letter.q0.t, atlasref01_letter.q0.l k⟩
theorem atlasref01_letter.q0.ok (k : Nat) : PieceOk Tryz.prog (bodyOf Tryz.f52) (atlasref01_letter.q0.p k) := atlasref01_letter.q0.ok_ k
def atlasref01_letter.q1.h : Head (Int) where
  k γ s F := (sizedN 39 s).bind fun _ => (intO .i64 (gt s.tm 0)).bind fun v2 => (distO []).bind fun _ => F (v2)
  st x := ⟨sparseT [(0, (.val (.int .i64 x)))] 39 0, []⟩
  ok γ s F r h := by
    have ⟨_, hz, h⟩ := bs h
    have ⟨v2, h1, h⟩ := bs h
    have ⟨_, h3, h⟩ := bs h
    exact ⟨_, h, weak_ren (l := []) (sizedN_ok hz) (distO_ok h3) (LiveR.cons (pI h1) LiveR.nil) BlksR.nil⟩

def atlasref01_letter.q1.x0 : Head (Bool) where
  k γ s F := (sizedN 39 s).bind fun _ => (boolO (gt s.tm 2)).bind fun v2 => (distO []).bind fun _ => F (v2)
  st x := ⟨sparseT [(2, (.val (.bool x)))] 39 0, []⟩
  ok γ s F r h := by
    have ⟨_, hz, h⟩ := bs h
    have ⟨v2, h1, h⟩ := bs h
    have ⟨_, h3, h⟩ := bs h
    exact ⟨_, h, weak_ren (l := []) (sizedN_ok hz) (distO_ok h3) (LiveR.cons (pB h1) LiveR.nil) BlksR.nil⟩

def atlasref01_letter.q1.t : Tail (Bool) := Tail.one .ret atlasref01_letter.q1.x0
theorem atlasref01_letter.q1.np (y : (Bool)) (v : AV) : (atlasref01_letter.q1.t.out y).1 = .panic v → nomem v = true := fun h => by cases h
def atlasref01_letter.q1.l (k : Nat) (x : (Int)) : Option (Bool) := (bif (decide (x ≥ 913)) then (bif (decide (x ≤ 969)) then (some (x != 930)) else (some false)) else (some false))
theorem atlasref01_letter.q1.at : codeAt (bodyOf Tryz.f52) [true, true] = some (codeOf (bodyOf Tryz.f52) [true, true]) := by kernel_rfl
theorem atlasref01_letter.q1.goes (k : Nat) (x : (Int)) : E Tryz.prog (gamOf []) (lamOf []) (codeOf (bodyOf Tryz.f52) [true, true]) [true, true] (atlasref01_letter.q1.h.st x) (fun ex t => atlasref01_letter.q1.t.d _ ex t some) = atlasref01_letter.q1.l k x := by
  kernel_rfl
theorem atlasref01_letter.q1.ok_ (k : Nat) : PieceOk Tryz.prog (bodyOf Tryz.f52) ⟨[true, true], _, _, atlasref01_letter.q1.h, atlasref01_letter.q1.t, atlasref01_letter.q1.l k⟩ :=
  piece_code (gamOf_nil _) (lamOf_nil _ _) mixed atlasref01_letter.q1.at atlasref01_letter.q1.np (atlasref01_letter.q1.goes k)
def atlasref01_letter.q1.p (k : Nat) : Piece := ⟨[true, true], _, _, atlasref01_letter.q1.h, atlasref01_letter.q1.t, atlasref01_letter.q1.l k⟩
theorem atlasref01_letter.q1.ok (k : Nat) : PieceOk Tryz.prog (bodyOf Tryz.f52) (atlasref01_letter.q1.p k) := atlasref01_letter.q1.ok_ k
def atlasref01_letter.f (k : Nat) (x0 : Int) : Option (Bool) := (bif (decide (x0 ≥ 97)) then (bif (decide (x0 ≤ 122)) then ((atlasref01_letter.q0.l k (x0, (decide (x0 ≤ 122)))).bind fun r1 => (Sum.elim (fun r2 => (some r2)) (fun r3 => ((atlasref01_letter.q1.l k r3).bind fun r4 => (some r4))) r1)) else (bif (decide (x0 ≥ 65)) then ((atlasref01_letter.q0.l k (x0, (decide (x0 ≤ 90)))).bind fun r5 => (Sum.elim (fun r6 => (some r6)) (fun r7 => ((atlasref01_letter.q1.l k r7).bind fun r8 => (some r8))) r5)) else ((atlasref01_letter.q0.l k (x0, false)).bind fun r9 => (Sum.elim (fun r10 => (some r10)) (fun r11 => ((atlasref01_letter.q1.l k r11).bind fun r12 => (some r12))) r9)))) else (bif (decide (x0 ≥ 65)) then ((atlasref01_letter.q0.l k (x0, (decide (x0 ≤ 90)))).bind fun r13 => (Sum.elim (fun r14 => (some r14)) (fun r15 => ((atlasref01_letter.q1.l k r15).bind fun r16 => (some r16))) r13)) else ((atlasref01_letter.q0.l k (x0, false)).bind fun r17 => (Sum.elim (fun r18 => (some r18)) (fun r19 => ((atlasref01_letter.q1.l k r19).bind fun r20 => (some r20))) r17))))
theorem atlasref01_letter.run (k : Nat) (x0 : Int) : runF Tryz.prog (gamOf []) (lamOf [atlasref01_letter.q0.p k, atlasref01_letter.q1.p k]) Tryz.f52 [(.val (.int .i64 x0))] some = (atlasref01_letter.f k x0).bind fun r => some (.ret (.val (.bool r))) := by
  unfold atlasref01_letter.f
  try simp only [cond_bind, elim_bind, Option.bind_some, Option.bind_none, Option.bind_assoc, Sum.elim_inl, Sum.elim_inr]
  kernel_rfl
def atlasref01_letter.g (k : Nat) : GFun := fun β args K => match args with
  | [a0] => (intO .i64 a0).bind fun x0 => (atlasref01_letter.f k x0).bind fun r => K (.ret (.val (.bool r)))
  | _ => none
theorem atlasref01_letter.callable : callable Tryz.prog 52 = true := callable_of Tryz.func52 (by kernel_rfl)
theorem atlasref01_letter.ok (k : Nat) : GOk Tryz.prog 52 (atlasref01_letter.g k) := by
  intro β args K r h
  unfold atlasref01_letter.g at h
  split at h
  · obtain ⟨x0, e0, h⟩ := bs h
    obtain ⟨y, hy, hK⟩ := bs h
    have hrun := atlasref01_letter.run k x0
    rw [hy] at hrun
    obtain ⟨out, e, hs⟩ := sim_of_run Tryz.func52 (by kernel_rfl) mixed (gamOf_nil _) (lamOf_cons (atlasref01_letter.q0.ok k) (lamOf_cons (atlasref01_letter.q1.ok k) (lamOf_nil _ _))) (args' := [(.val (.int .i64 x0))]) (RefsL.cons (Refs.of_eq (intO_eq e0)) RefsL.nil) hrun
    simp only [Option.some.injEq] at e
    subst e
    exact ⟨_, hK, hs⟩
  · cases h
/-! ### atlas/atlasref01.digit: function 53 -/
def atlasref01_digit.f (x0 : Int) : Option (Bool) := (bif (decide (x0 ≥ 48)) then (some (decide (x0 ≤ 57))) else (some false))
theorem atlasref01_digit.run (x0 : Int) : runF Tryz.prog (gamOf []) noLam Tryz.f53 [(.val (.int .i64 x0))] some = (atlasref01_digit.f x0).bind fun r => some (.ret (.val (.bool r))) := by
  unfold atlasref01_digit.f
  try simp only [cond_bind, elim_bind, Option.bind_some, Option.bind_none, Option.bind_assoc, Sum.elim_inl, Sum.elim_inr]
  kernel_rfl
def atlasref01_digit.g : GFun := fun β args K => match args with
  | [a0] => (intO .i64 a0).bind fun x0 => (atlasref01_digit.f x0).bind fun r => K (.ret (.val (.bool r)))
  | _ => none
theorem atlasref01_digit.callable : callable Tryz.prog 53 = true := callable_of Tryz.func53 (by kernel_rfl)
theorem atlasref01_digit.ok : GOk Tryz.prog 53 (atlasref01_digit.g) := by
  intro β args K r h
  unfold atlasref01_digit.g at h
  split at h
  · obtain ⟨x0, e0, h⟩ := bs h
    obtain ⟨y, hy, hK⟩ := bs h
    have hrun := atlasref01_digit.run x0
    rw [hy] at hrun
    obtain ⟨out, e, hs⟩ := sim_of_run Tryz.func53 (by kernel_rfl) mixed (gamOf_nil _) (noLam_ok _ _) (args' := [(.val (.int .i64 x0))]) (RefsL.cons (Refs.of_eq (intO_eq e0)) RefsL.nil) hrun
    simp only [Option.some.injEq] at e
    subst e
    exact ⟨_, hK, hs⟩
  · cases h
/-! ### atlas/atlasref01.Name: function 44 -/
def atlasref01_Name.q0.h : Head (ByteArray × Int × Int) where
  k γ s F := (sizedN 44 s).bind fun _ => (strO (gt s.tm 0)).bind fun v2 => (intO .i64 (gt s.tm 3)).bind fun v4 => (intO .i64 (gt s.tm 4)).bind fun v6 => (distO []).bind fun _ => F (v2, v4, v6)
  st x := ⟨sparseT [(0, (.val (.string x.1))), (3, (.val (.int .i64 x.2.1))), (4, (.val (.int .i64 x.2.2)))] 44 0, []⟩
  ok γ s F r h := by
    have ⟨_, hz, h⟩ := bs h
    have ⟨v2, h1, h⟩ := bs h
    have ⟨v4, h3, h⟩ := bs h
    have ⟨v6, h5, h⟩ := bs h
    have ⟨_, h7, h⟩ := bs h
    exact ⟨_, h, weak_ren (l := []) (sizedN_ok hz) (distO_ok h7) (LiveR.cons (pS h1) (LiveR.cons (pI h3) (LiveR.cons (pI h5) LiveR.nil))) BlksR.nil⟩

def atlasref01_Name.q0.x0 : Head (Bool) where
  k γ s F := (sizedN 44 s).bind fun _ => (boolO (gt s.tm 2)).bind fun v2 => (distO []).bind fun _ => F (v2)
  st x := ⟨sparseT [(2, (.val (.bool x)))] 44 0, []⟩
  ok γ s F r h := by
    have ⟨_, hz, h⟩ := bs h
    have ⟨v2, h1, h⟩ := bs h
    have ⟨_, h3, h⟩ := bs h
    exact ⟨_, h, weak_ren (l := []) (sizedN_ok hz) (distO_ok h3) (LiveR.cons (pB h1) LiveR.nil) BlksR.nil⟩

def atlasref01_Name.q0.x1 : Head (Int) where
  k γ s F := (sizedN 44 s).bind fun _ => (intO .i64 (gt s.tm 3)).bind fun v2 => (distO []).bind fun _ => F (v2)
  st x := ⟨sparseT [(3, (.val (.int .i64 x)))] 44 0, []⟩
  ok γ s F r h := by
    have ⟨_, hz, h⟩ := bs h
    have ⟨v2, h1, h⟩ := bs h
    have ⟨_, h3, h⟩ := bs h
    exact ⟨_, h, weak_ren (l := []) (sizedN_ok hz) (distO_ok h3) (LiveR.cons (pI h1) LiveR.nil) BlksR.nil⟩

def atlasref01_Name.q0.t : Tail ((Bool) ⊕ (Int)) := Tail.or .ret atlasref01_Name.q0.x0 (Tail.one (.exit 0) atlasref01_Name.q0.x1)
theorem atlasref01_Name.q0.np (y : ((Bool) ⊕ (Int))) (v : AV) : (atlasref01_Name.q0.t.out y).1 = .panic v → nomem v = true := fun h => by rcases y with _ | y <;> first | (cases h; done) | (cases h; rfl) | (cases h)
theorem atlasref01_Name.q0.nn (y : ((Bool) ⊕ (Int))) : (atlasref01_Name.q0.t.out y).1 ≠ .normal := fun h => by rcases y with _ | y <;> first | (cases h; done) | (cases h; rfl) | (cases h)
def atlasref01_Name.q0.l (k : Nat) : Nat → (ByteArray × Int × Int) → Option ((Bool) ⊕ (Int))
  | 0, _ => none
  | n + 1, x => (bif (decide (x.2.2 < ((x.1).size : Int))) then ((atlasref01_Rune.f x.1 x.2.2).bind fun r1 => ((atlasref01_letter.f k r1.1).bind fun r2 => (bif (!r2) then (bif (x.2.1 == 0) then (some (Sum.inl false)) else ((atlasref01_digit.f r1.1).bind fun r3 => (bif (!r3) then (bif (r1.1 != 95) then (some (Sum.inl false)) else (atlasref01_Name.q0.l k n (x.1, (IntKind.wrap .i64 (x.2.1 + 1)), (IntKind.wrap .i64 (x.2.2 + r1.2))))) else (atlasref01_Name.q0.l k n (x.1, (IntKind.wrap .i64 (x.2.1 + 1)), (IntKind.wrap .i64 (x.2.2 + r1.2))))))) else (atlasref01_Name.q0.l k n (x.1, (IntKind.wrap .i64 (x.2.1 + 1)), (IntKind.wrap .i64 (x.2.2 + r1.2))))))) else (some (Sum.inr x.2.1)))
theorem atlasref01_Name.q0.z (k : Nat) (x : (ByteArray × Int × Int)) : atlasref01_Name.q0.l k 0 x = none := rfl
theorem atlasref01_Name.q0.at : codeAt (bodyOf Tryz.f44) [false, true, false, true, true] = some (.loop (loopBody (bodyOf Tryz.f44) [false, true, false, true, true])) := by kernel_rfl
theorem atlasref01_Name.q0.goes (k n : Nat) (x : (ByteArray × Int × Int)) : E Tryz.prog (gamOf [(18, atlasref01_Rune.g), (52, atlasref01_letter.g k), (53, atlasref01_digit.g)]) (lamOf []) (loopBody (bodyOf Tryz.f44) [false, true, false, true, true]) (false :: [false, true, false, true, true]) (atlasref01_Name.q0.h.st x) (contD atlasref01_Name.q0.h atlasref01_Name.q0.t (atlasref01_Name.q0.l k n) some) = atlasref01_Name.q0.l k (n + 1) x := by
  kernel_rfl
theorem atlasref01_Name.q0.ok_ (k : Nat) : PieceOk Tryz.prog (bodyOf Tryz.f44) ⟨[false, true, false, true, true], _, _, atlasref01_Name.q0.h, atlasref01_Name.q0.t, atlasref01_Name.q0.l k k⟩ :=
  piece_loop (gamOf_cons (atlasref01_Rune.ok) atlasref01_Rune.callable (gamOf_cons (atlasref01_letter.ok k) atlasref01_letter.callable (gamOf_cons (atlasref01_digit.ok) atlasref01_digit.callable (gamOf_nil _)))) (lamOf_nil _ _) mixed atlasref01_Name.q0.at atlasref01_Name.q0.np atlasref01_Name.q0.nn (atlasref01_Name.q0.z k) (atlasref01_Name.q0.goes k) k
def atlasref01_Name.q0.p (k : Nat) : Piece := ⟨[false, true, false, true, true], _, _, atlasref01_Name.q0.h, atlasref01_Name.q0.t, atlasref01_Name.q0.l k k⟩
theorem atlasref01_Name.q0.ok (k : Nat) : PieceOk Tryz.prog (bodyOf Tryz.f44) (atlasref01_Name.q0.p k) := atlasref01_Name.q0.ok_ k
def atlasref01_Name.f (k : Nat) (x0 : ByteArray) : Option (Bool) := ((atlasref01_Name.q0.l k k (x0, 0, 0)).bind fun r4 => (Sum.elim (fun r5 => (some r5)) (fun r6 => (bif (decide (r6 ≥ 1)) then (some (decide (r6 ≤ 16))) else (some false))) r4))
theorem atlasref01_Name.run (k : Nat) (x0 : ByteArray) : runF Tryz.prog (gamOf [(18, atlasref01_Rune.g), (52, atlasref01_letter.g k), (53, atlasref01_digit.g)]) (lamOf [atlasref01_Name.q0.p k]) Tryz.f44 [(.val (.string x0))] some = (atlasref01_Name.f k x0).bind fun r => some (.ret (.val (.bool r))) := by
  unfold atlasref01_Name.f
  try simp only [cond_bind, elim_bind, Option.bind_some, Option.bind_none, Option.bind_assoc, Sum.elim_inl, Sum.elim_inr]
  kernel_rfl
def atlasref01_Name.g (k : Nat) : GFun := fun β args K => match args with
  | [a0] => (strO a0).bind fun x0 => (atlasref01_Name.f k x0).bind fun r => K (.ret (.val (.bool r)))
  | _ => none
theorem atlasref01_Name.callable : callable Tryz.prog 44 = true := callable_of Tryz.func44 (by kernel_rfl)
theorem atlasref01_Name.ok (k : Nat) : GOk Tryz.prog 44 (atlasref01_Name.g k) := by
  intro β args K r h
  unfold atlasref01_Name.g at h
  split at h
  · obtain ⟨x0, e0, h⟩ := bs h
    obtain ⟨y, hy, hK⟩ := bs h
    have hrun := atlasref01_Name.run k x0
    rw [hy] at hrun
    obtain ⟨out, e, hs⟩ := sim_of_run Tryz.func44 (by kernel_rfl) mixed (gamOf_cons (atlasref01_Rune.ok) atlasref01_Rune.callable (gamOf_cons (atlasref01_letter.ok k) atlasref01_letter.callable (gamOf_cons (atlasref01_digit.ok) atlasref01_digit.callable (gamOf_nil _)))) (lamOf_cons (atlasref01_Name.q0.ok k) (lamOf_nil _ _)) (args' := [(.val (.string x0))]) (RefsL.cons (Refs.of_eq (strO_eq e0)) RefsL.nil) hrun
    simp only [Option.some.injEq] at e
    subst e
    exact ⟨_, hK, hs⟩
  · cases h
/-! ### atlas/atlasref01.SizeText: function 54 -/
def atlasref01_SizeText.f (x0 : Int) : Option (ByteArray) := (bif (x0 == 1) then (some (⟨#[52, 107]⟩ : ByteArray)) else (bif (x0 == 2) then (some (⟨#[54, 52, 107]⟩ : ByteArray)) else (bif (x0 == 3) then (some (⟨#[49, 109]⟩ : ByteArray)) else (bif (x0 == 4) then (some (⟨#[49, 54, 109]⟩ : ByteArray)) else (some (⟨#[]⟩ : ByteArray))))))
theorem atlasref01_SizeText.run (x0 : Int) : runF Tryz.prog (gamOf []) noLam Tryz.f54 [(.val (.int .i64 x0))] some = (atlasref01_SizeText.f x0).bind fun r => some (.ret (.val (.string r))) := by
  unfold atlasref01_SizeText.f
  try simp only [cond_bind, elim_bind, Option.bind_some, Option.bind_none, Option.bind_assoc, Sum.elim_inl, Sum.elim_inr]
  kernel_rfl
def atlasref01_SizeText.g : GFun := fun β args K => match args with
  | [a0] => (intO .i64 a0).bind fun x0 => (atlasref01_SizeText.f x0).bind fun r => K (.ret (.val (.string r)))
  | _ => none
theorem atlasref01_SizeText.callable : callable Tryz.prog 54 = true := callable_of Tryz.func54 (by kernel_rfl)
theorem atlasref01_SizeText.ok : GOk Tryz.prog 54 (atlasref01_SizeText.g) := by
  intro β args K r h
  unfold atlasref01_SizeText.g at h
  split at h
  · obtain ⟨x0, e0, h⟩ := bs h
    obtain ⟨y, hy, hK⟩ := bs h
    have hrun := atlasref01_SizeText.run x0
    rw [hy] at hrun
    obtain ⟨out, e, hs⟩ := sim_of_run Tryz.func54 (by kernel_rfl) mixed (gamOf_nil _) (noLam_ok _ _) (args' := [(.val (.int .i64 x0))]) (RefsL.cons (Refs.of_eq (intO_eq e0)) RefsL.nil) hrun
    simp only [Option.some.injEq] at e
    subst e
    exact ⟨_, hK, hs⟩
  · cases h
/-! ### atlas/atlasref01.Size: function 45 -/
def atlasref01_Size.q0.h : Head (ByteArray × Int) where
  k γ s F := (sizedN 14 s).bind fun _ => (strO (gt s.tm 0)).bind fun v2 => (intO .i64 (gt s.tm 4)).bind fun v4 => (distO []).bind fun _ => F (v2, v4)
  st x := ⟨sparseT [(0, (.val (.string x.1))), (4, (.val (.int .i64 x.2)))] 14 0, []⟩
  ok γ s F r h := by
    have ⟨_, hz, h⟩ := bs h
    have ⟨v2, h1, h⟩ := bs h
    have ⟨v4, h3, h⟩ := bs h
    have ⟨_, h5, h⟩ := bs h
    exact ⟨_, h, weak_ren (l := []) (sizedN_ok hz) (distO_ok h5) (LiveR.cons (pS h1) (LiveR.cons (pI h3) LiveR.nil)) BlksR.nil⟩

def atlasref01_Size.q0.x0 : Head (Int × Int) where
  k γ s F := (sizedN 14 s).bind fun _ => (intO .i64 (gt s.tm 2)).bind fun v2 => (intO .i64 (gt s.tm 3)).bind fun v4 => (distO []).bind fun _ => F (v2, v4)
  st x := ⟨sparseT [(2, (.val (.int .i64 x.1))), (3, (.val (.int .i64 x.2)))] 14 0, []⟩
  ok γ s F r h := by
    have ⟨_, hz, h⟩ := bs h
    have ⟨v2, h1, h⟩ := bs h
    have ⟨v4, h3, h⟩ := bs h
    have ⟨_, h5, h⟩ := bs h
    exact ⟨_, h, weak_ren (l := []) (sizedN_ok hz) (distO_ok h5) (LiveR.cons (pI h1) (LiveR.cons (pI h3) LiveR.nil)) BlksR.nil⟩

def atlasref01_Size.q0.x1 : Head (Unit) where
  k γ s F := (sizedN 14 s).bind fun _ => (distO []).bind fun _ => F ()
  st x := ⟨sparseT [] 14 0, []⟩
  ok γ s F r h := by
    have ⟨_, hz, h⟩ := bs h
    have ⟨_, h1, h⟩ := bs h
    exact ⟨_, h, weak_ren (l := []) (sizedN_ok hz) (distO_ok h1) LiveR.nil BlksR.nil⟩

def atlasref01_Size.q0.t : Tail ((Int × Int) ⊕ (Unit)) := Tail.or .ret atlasref01_Size.q0.x0 (Tail.one (.exit 0) atlasref01_Size.q0.x1)
theorem atlasref01_Size.q0.np (y : ((Int × Int) ⊕ (Unit))) (v : AV) : (atlasref01_Size.q0.t.out y).1 = .panic v → nomem v = true := fun h => by rcases y with _ | y <;> first | (cases h; done) | (cases h; rfl) | (cases h)
theorem atlasref01_Size.q0.nn (y : ((Int × Int) ⊕ (Unit))) : (atlasref01_Size.q0.t.out y).1 ≠ .normal := fun h => by rcases y with _ | y <;> first | (cases h; done) | (cases h; rfl) | (cases h)
def atlasref01_Size.q0.l (k : Nat) : Nat → (ByteArray × Int) → Option ((Int × Int) ⊕ (Unit))
  | 0, _ => none
  | n + 1, x => (bif (decide (x.2 < 5)) then ((atlasref01_SizeText.f x.2).bind fun r1 => (bif (r1.toList == x.1.toList) then (some (Sum.inl (x.2, 0))) else (atlasref01_Size.q0.l k n (x.1, (IntKind.wrap .i64 (x.2 + 1)))))) else (some (Sum.inr ())))
theorem atlasref01_Size.q0.z (k : Nat) (x : (ByteArray × Int)) : atlasref01_Size.q0.l k 0 x = none := rfl
theorem atlasref01_Size.q0.at : codeAt (bodyOf Tryz.f45) [false, true, false, true] = some (.loop (loopBody (bodyOf Tryz.f45) [false, true, false, true])) := by kernel_rfl
theorem atlasref01_Size.q0.goes (k n : Nat) (x : (ByteArray × Int)) : E Tryz.prog (gamOf [(54, atlasref01_SizeText.g)]) (lamOf []) (loopBody (bodyOf Tryz.f45) [false, true, false, true]) (false :: [false, true, false, true]) (atlasref01_Size.q0.h.st x) (contD atlasref01_Size.q0.h atlasref01_Size.q0.t (atlasref01_Size.q0.l k n) some) = atlasref01_Size.q0.l k (n + 1) x := by
  kernel_rfl
theorem atlasref01_Size.q0.ok_ (k : Nat) : PieceOk Tryz.prog (bodyOf Tryz.f45) ⟨[false, true, false, true], _, _, atlasref01_Size.q0.h, atlasref01_Size.q0.t, atlasref01_Size.q0.l k k⟩ :=
  piece_loop (gamOf_cons (atlasref01_SizeText.ok) atlasref01_SizeText.callable (gamOf_nil _)) (lamOf_nil _ _) mixed atlasref01_Size.q0.at atlasref01_Size.q0.np atlasref01_Size.q0.nn (atlasref01_Size.q0.z k) (atlasref01_Size.q0.goes k) k
def atlasref01_Size.q0.p (k : Nat) : Piece := ⟨[false, true, false, true], _, _, atlasref01_Size.q0.h, atlasref01_Size.q0.t, atlasref01_Size.q0.l k k⟩
theorem atlasref01_Size.q0.ok (k : Nat) : PieceOk Tryz.prog (bodyOf Tryz.f45) (atlasref01_Size.q0.p k) := atlasref01_Size.q0.ok_ k
def atlasref01_Size.f (k : Nat) (x0 : ByteArray) : Option (Int × Int) := ((atlasref01_Size.q0.l k k (x0, 1)).bind fun r2 => (Sum.elim (fun r3 => (some (r3.1, r3.2))) (fun r4 => (some (0, 12))) r2))
theorem atlasref01_Size.run (k : Nat) (x0 : ByteArray) : runF Tryz.prog (gamOf [(54, atlasref01_SizeText.g)]) (lamOf [atlasref01_Size.q0.p k]) Tryz.f45 [(.val (.string x0))] some = (atlasref01_Size.f k x0).bind fun r => some (.ret (.tup [(.val (.int .i64 r.1)), (.val (.int .i64 r.2))])) := by
  unfold atlasref01_Size.f
  try simp only [cond_bind, elim_bind, Option.bind_some, Option.bind_none, Option.bind_assoc, Sum.elim_inl, Sum.elim_inr]
  kernel_rfl
def atlasref01_Size.g (k : Nat) : GFun := fun β args K => match args with
  | [a0] => (strO a0).bind fun x0 => (atlasref01_Size.f k x0).bind fun r => K (.ret (.tup [(.val (.int .i64 r.1)), (.val (.int .i64 r.2))]))
  | _ => none
theorem atlasref01_Size.callable : callable Tryz.prog 45 = true := callable_of Tryz.func45 (by kernel_rfl)
theorem atlasref01_Size.ok (k : Nat) : GOk Tryz.prog 45 (atlasref01_Size.g k) := by
  intro β args K r h
  unfold atlasref01_Size.g at h
  split at h
  · obtain ⟨x0, e0, h⟩ := bs h
    obtain ⟨y, hy, hK⟩ := bs h
    have hrun := atlasref01_Size.run k x0
    rw [hy] at hrun
    obtain ⟨out, e, hs⟩ := sim_of_run Tryz.func45 (by kernel_rfl) mixed (gamOf_cons (atlasref01_SizeText.ok) atlasref01_SizeText.callable (gamOf_nil _)) (lamOf_cons (atlasref01_Size.q0.ok k) (lamOf_nil _ _)) (args' := [(.val (.string x0))]) (RefsL.cons (Refs.of_eq (strO_eq e0)) RefsL.nil) hrun
    simp only [Option.some.injEq] at e
    subst e
    exact ⟨_, hK, hs⟩
  · cases h
/-! ### atlas/atlasref01.RightsText: function 55 -/
def atlasref01_RightsText.f (x0 : T28) : Option (ByteArray) := (bif x0.f0 then (bif x0.f1 then (bif x0.f2 then (some (⟨#[114, 119, 120]⟩ : ByteArray)) else (some (⟨#[114, 119, 45]⟩ : ByteArray))) else (bif x0.f2 then (some (⟨#[114, 45, 120]⟩ : ByteArray)) else (some (⟨#[114, 45, 45]⟩ : ByteArray)))) else (bif x0.f1 then (bif x0.f2 then (some (⟨#[45, 119, 120]⟩ : ByteArray)) else (some (⟨#[45, 119, 45]⟩ : ByteArray))) else (bif x0.f2 then (some (⟨#[45, 45, 120]⟩ : ByteArray)) else (some (⟨#[45, 45, 45]⟩ : ByteArray)))))
theorem atlasref01_RightsText.run (x0 : T28) : runF Tryz.prog (gamOf []) noLam Tryz.f55 [(T28.av x0)] some = (atlasref01_RightsText.f x0).bind fun r => some (.ret (.val (.string r))) := by
  unfold atlasref01_RightsText.f
  try simp only [cond_bind, elim_bind, Option.bind_some, Option.bind_none, Option.bind_assoc, Sum.elim_inl, Sum.elim_inr]
  kernel_rfl
def atlasref01_RightsText.g : GFun := fun β args K => match args with
  | [a0] => (T28.of a0).bind fun x0 => (atlasref01_RightsText.f x0).bind fun r => K (.ret (.val (.string r)))
  | _ => none
theorem atlasref01_RightsText.callable : callable Tryz.prog 55 = true := callable_of Tryz.func55 (by kernel_rfl)
theorem atlasref01_RightsText.ok : GOk Tryz.prog 55 (atlasref01_RightsText.g) := by
  intro β args K r h
  unfold atlasref01_RightsText.g at h
  split at h
  · obtain ⟨x0, e0, h⟩ := bs h
    obtain ⟨y, hy, hK⟩ := bs h
    have hrun := atlasref01_RightsText.run x0
    rw [hy] at hrun
    obtain ⟨out, e, hs⟩ := sim_of_run Tryz.func55 (by kernel_rfl) mixed (gamOf_nil _) (noLam_ok _ _) (args' := [(T28.av x0)]) (RefsL.cons (T28.refs e0) RefsL.nil) hrun
    simp only [Option.some.injEq] at e
    subst e
    exact ⟨_, hK, hs⟩
  · cases h
/-! ### atlas/atlasref01.Rights: function 46 -/
def atlasref01_Rights.q0.h : Head (ByteArray × Int × Bool × Bool × Bool) where
  k γ s F := (sizedN 26 s).bind fun _ => (strO (gt s.tm 0)).bind fun v2 => (ptrN 0 (gt s.tm 2)).bind fun b4 => (intO .i64 (gt s.tm 4)).bind fun v6 => (rowN 29 3 s.hp b4).bind fun l8 => (boolO (gt l8 0)).bind fun v10 => (boolO (gt l8 1)).bind fun v12 => (boolO (gt l8 2)).bind fun v14 => (distO [some b4]).bind fun _ => F (v2, v6, v10, v12, v14)
  st x := ⟨sparseT [(0, (.val (.string x.1))), (2, (.ptr 0 0)), (4, (.val (.int .i64 x.2.1)))] 26 0, [.row [(.val (.bool x.2.2.1)), (.val (.bool x.2.2.2.1)), (.val (.bool x.2.2.2.2))] 29 true]⟩
  ok γ s F r h := by
    have ⟨_, hz, h⟩ := bs h
    have ⟨v2, h1, h⟩ := bs h
    have ⟨b4, h3, h⟩ := bs h
    have ⟨v6, h5, h⟩ := bs h
    have ⟨l8, h7, h⟩ := bs h
    have ⟨v10, h9, h⟩ := bs h
    have ⟨v12, h11, h⟩ := bs h
    have ⟨v14, h13, h⟩ := bs h
    have ⟨_, h15, h⟩ := bs h
    exact ⟨_, h, weak_ren (l := [some b4]) (sizedN_ok hz) (distO_ok h15) (LiveR.cons (pS h1) (LiveR.cons (RefsR.ptr (l := [some b4]) (i := 0) rfl (ptrN_eq h3)) (LiveR.cons (pI h5) LiveR.nil))) (BlksR.cons (rowN_refs h7 rfl (GtRefsR.cons (pB h9) (GtRefsR.cons (pB h11) (GtRefsR.cons (pB h13) GtRefsR.nil))) rfl) BlksR.nil)⟩

def atlasref01_Rights.q0.x0 : Head (Int × Bool × Bool × Bool) where
  k γ s F := (sizedN 26 s).bind fun _ => (ptrN 0 (gt s.tm 2)).bind fun b2 => (intO .i64 (gt s.tm 3)).bind fun v4 => (rowN 29 3 s.hp b2).bind fun l6 => (boolO (gt l6 0)).bind fun v8 => (boolO (gt l6 1)).bind fun v10 => (boolO (gt l6 2)).bind fun v12 => (distO [some b2]).bind fun _ => F (v4, v8, v10, v12)
  st x := ⟨sparseT [(2, (.ptr 0 0)), (3, (.val (.int .i64 x.1)))] 26 0, [.row [(.val (.bool x.2.1)), (.val (.bool x.2.2.1)), (.val (.bool x.2.2.2))] 29 true]⟩
  ok γ s F r h := by
    have ⟨_, hz, h⟩ := bs h
    have ⟨b2, h1, h⟩ := bs h
    have ⟨v4, h3, h⟩ := bs h
    have ⟨l6, h5, h⟩ := bs h
    have ⟨v8, h7, h⟩ := bs h
    have ⟨v10, h9, h⟩ := bs h
    have ⟨v12, h11, h⟩ := bs h
    have ⟨_, h13, h⟩ := bs h
    exact ⟨_, h, weak_ren (l := [some b2]) (sizedN_ok hz) (distO_ok h13) (LiveR.cons (RefsR.ptr (l := [some b2]) (i := 0) rfl (ptrN_eq h1)) (LiveR.cons (pI h3) LiveR.nil)) (BlksR.cons (rowN_refs h5 rfl (GtRefsR.cons (pB h7) (GtRefsR.cons (pB h9) (GtRefsR.cons (pB h11) GtRefsR.nil))) rfl) BlksR.nil)⟩

def atlasref01_Rights.q0.x1 : Head (Bool × Bool × Bool) where
  k γ s F := (sizedN 26 s).bind fun _ => (ptrN 0 (gt s.tm 2)).bind fun b2 => (rowN 29 3 s.hp b2).bind fun l4 => (boolO (gt l4 0)).bind fun v6 => (boolO (gt l4 1)).bind fun v8 => (boolO (gt l4 2)).bind fun v10 => (distO [some b2]).bind fun _ => F (v6, v8, v10)
  st x := ⟨sparseT [(2, (.ptr 0 0))] 26 0, [.row [(.val (.bool x.1)), (.val (.bool x.2.1)), (.val (.bool x.2.2))] 29 true]⟩
  ok γ s F r h := by
    have ⟨_, hz, h⟩ := bs h
    have ⟨b2, h1, h⟩ := bs h
    have ⟨l4, h3, h⟩ := bs h
    have ⟨v6, h5, h⟩ := bs h
    have ⟨v8, h7, h⟩ := bs h
    have ⟨v10, h9, h⟩ := bs h
    have ⟨_, h11, h⟩ := bs h
    exact ⟨_, h, weak_ren (l := [some b2]) (sizedN_ok hz) (distO_ok h11) (LiveR.cons (RefsR.ptr (l := [some b2]) (i := 0) rfl (ptrN_eq h1)) LiveR.nil) (BlksR.cons (rowN_refs h3 rfl (GtRefsR.cons (pB h5) (GtRefsR.cons (pB h7) (GtRefsR.cons (pB h9) GtRefsR.nil))) rfl) BlksR.nil)⟩

def atlasref01_Rights.q0.t : Tail ((Int × Bool × Bool × Bool) ⊕ (Bool × Bool × Bool)) := Tail.or .ret atlasref01_Rights.q0.x0 (Tail.one (.exit 0) atlasref01_Rights.q0.x1)
theorem atlasref01_Rights.q0.np (y : ((Int × Bool × Bool × Bool) ⊕ (Bool × Bool × Bool))) (v : AV) : (atlasref01_Rights.q0.t.out y).1 = .panic v → nomem v = true := fun h => by rcases y with _ | y <;> first | (cases h; done) | (cases h; rfl) | (cases h)
theorem atlasref01_Rights.q0.nn (y : ((Int × Bool × Bool × Bool) ⊕ (Bool × Bool × Bool))) : (atlasref01_Rights.q0.t.out y).1 ≠ .normal := fun h => by rcases y with _ | y <;> first | (cases h; done) | (cases h; rfl) | (cases h)
def atlasref01_Rights.q0.l (k : Nat) : Nat → (ByteArray × Int × Bool × Bool × Bool) → Option ((Int × Bool × Bool × Bool) ⊕ (Bool × Bool × Bool))
  | 0, _ => none
  | n + 1, x => (bif (decide (x.2.1 < 8)) then ((atlasref01_RightsText.f (⟨(decide (x.2.1 ≥ 4)), ((Int.tmod (IntKind.wrap .i64 (Int.tdiv x.2.1 2)) 2) == 1), ((Int.tmod x.2.1 2) == 1)⟩ : T28)).bind fun r1 => (bif (r1.toList == x.1.toList) then (some (Sum.inl (0, (decide (x.2.1 ≥ 4)), ((Int.tmod (IntKind.wrap .i64 (Int.tdiv x.2.1 2)) 2) == 1), ((Int.tmod x.2.1 2) == 1)))) else (atlasref01_Rights.q0.l k n (x.1, (IntKind.wrap .i64 (x.2.1 + 1)), x.2.2.1, x.2.2.2.1, x.2.2.2.2)))) else (some (Sum.inr (x.2.2.1, x.2.2.2.1, x.2.2.2.2))))
theorem atlasref01_Rights.q0.z (k : Nat) (x : (ByteArray × Int × Bool × Bool × Bool)) : atlasref01_Rights.q0.l k 0 x = none := rfl
theorem atlasref01_Rights.q0.at : codeAt (bodyOf Tryz.f46) [false, true, false, true] = some (.loop (loopBody (bodyOf Tryz.f46) [false, true, false, true])) := by kernel_rfl
theorem atlasref01_Rights.q0.goes (k n : Nat) (x : (ByteArray × Int × Bool × Bool × Bool)) : E Tryz.prog (gamOf [(55, atlasref01_RightsText.g)]) (lamOf []) (loopBody (bodyOf Tryz.f46) [false, true, false, true]) (false :: [false, true, false, true]) (atlasref01_Rights.q0.h.st x) (contD atlasref01_Rights.q0.h atlasref01_Rights.q0.t (atlasref01_Rights.q0.l k n) some) = atlasref01_Rights.q0.l k (n + 1) x := by
  kernel_rfl
theorem atlasref01_Rights.q0.ok_ (k : Nat) : PieceOk Tryz.prog (bodyOf Tryz.f46) ⟨[false, true, false, true], _, _, atlasref01_Rights.q0.h, atlasref01_Rights.q0.t, atlasref01_Rights.q0.l k k⟩ :=
  piece_loop (gamOf_cons (atlasref01_RightsText.ok) atlasref01_RightsText.callable (gamOf_nil _)) (lamOf_nil _ _) mixed atlasref01_Rights.q0.at atlasref01_Rights.q0.np atlasref01_Rights.q0.nn (atlasref01_Rights.q0.z k) (atlasref01_Rights.q0.goes k) k
def atlasref01_Rights.q0.p (k : Nat) : Piece := ⟨[false, true, false, true], _, _, atlasref01_Rights.q0.h, atlasref01_Rights.q0.t, atlasref01_Rights.q0.l k k⟩
theorem atlasref01_Rights.q0.ok (k : Nat) : PieceOk Tryz.prog (bodyOf Tryz.f46) (atlasref01_Rights.q0.p k) := atlasref01_Rights.q0.ok_ k
def atlasref01_Rights.f (k : Nat) (x0 : ByteArray) : Option (T28 × Int) := ((atlasref01_Rights.q0.l k k (x0, 0, false, false, false)).bind fun r2 => (Sum.elim (fun r3 => (some ((⟨r3.2.1, r3.2.2.1, r3.2.2.2⟩ : T28), r3.1))) (fun r4 => (some ((⟨false, false, false⟩ : T28), 12))) r2))
theorem atlasref01_Rights.run (k : Nat) (x0 : ByteArray) : runF Tryz.prog (gamOf [(55, atlasref01_RightsText.g)]) (lamOf [atlasref01_Rights.q0.p k]) Tryz.f46 [(.val (.string x0))] some = (atlasref01_Rights.f k x0).bind fun r => some (.ret (.tup [(T28.av r.1), (.val (.int .i64 r.2))])) := by
  unfold atlasref01_Rights.f
  try simp only [cond_bind, elim_bind, Option.bind_some, Option.bind_none, Option.bind_assoc, Sum.elim_inl, Sum.elim_inr]
  kernel_rfl
def atlasref01_Rights.g (k : Nat) : GFun := fun β args K => match args with
  | [a0] => (strO a0).bind fun x0 => (atlasref01_Rights.f k x0).bind fun r => K (.ret (.tup [(T28.av r.1), (.val (.int .i64 r.2))]))
  | _ => none
theorem atlasref01_Rights.callable : callable Tryz.prog 46 = true := callable_of Tryz.func46 (by kernel_rfl)
theorem atlasref01_Rights.ok (k : Nat) : GOk Tryz.prog 46 (atlasref01_Rights.g k) := by
  intro β args K r h
  unfold atlasref01_Rights.g at h
  split at h
  · obtain ⟨x0, e0, h⟩ := bs h
    obtain ⟨y, hy, hK⟩ := bs h
    have hrun := atlasref01_Rights.run k x0
    rw [hy] at hrun
    obtain ⟨out, e, hs⟩ := sim_of_run Tryz.func46 (by kernel_rfl) mixed (gamOf_cons (atlasref01_RightsText.ok) atlasref01_RightsText.callable (gamOf_nil _)) (lamOf_cons (atlasref01_Rights.q0.ok k) (lamOf_nil _ _)) (args' := [(.val (.string x0))]) (RefsL.cons (Refs.of_eq (strO_eq e0)) RefsL.nil) hrun
    simp only [Option.some.injEq] at e
    subst e
    exact ⟨_, hK, hs⟩
  · cases h
/-! ### atlas/atlasref15.top: function 48 -/
def atlasref15_top.f (x0 : Int) : Option (Int) := (bif (x0 == 86) then (bif (x0 == 86) then (some 4294967296) else (bif (x0 == 76) then (bif (x0 == 76) then (some 1099511627776) else (bif (x0 == 67) then (bif (x0 == 67) then (some 16) else (bif (x0 == 111) then (bif (x0 == 111) then (some 8) else (some 2147483648)) else (bif (x0 == 112) then (some 8) else (some 2147483648)))) else (bif (x0 == 77) then (some 16) else (bif (x0 == 111) then (bif (x0 == 111) then (some 8) else (some 2147483648)) else (bif (x0 == 112) then (some 8) else (some 2147483648)))))) else (bif (x0 == 80) then (some 1099511627776) else (bif (x0 == 67) then (bif (x0 == 67) then (some 16) else (bif (x0 == 111) then (bif (x0 == 111) then (some 8) else (some 2147483648)) else (bif (x0 == 112) then (some 8) else (some 2147483648)))) else (bif (x0 == 77) then (some 16) else (bif (x0 == 111) then (bif (x0 == 111) then (some 8) else (some 2147483648)) else (bif (x0 == 112) then (some 8) else (some 2147483648)))))))) else (bif (x0 == 70) then (bif (x0 == 70) then (some 4294967296) else (bif (x0 == 76) then (bif (x0 == 76) then (some 1099511627776) else (bif (x0 == 67) then (bif (x0 == 67) then (some 16) else (bif (x0 == 111) then (bif (x0 == 111) then (some 8) else (some 2147483648)) else (bif (x0 == 112) then (some 8) else (some 2147483648)))) else (bif (x0 == 77) then (some 16) else (bif (x0 == 111) then (bif (x0 == 111) then (some 8) else (some 2147483648)) else (bif (x0 == 112) then (some 8) else (some 2147483648)))))) else (bif (x0 == 80) then (some 1099511627776) else (bif (x0 == 67) then (bif (x0 == 67) then (some 16) else (bif (x0 == 111) then (bif (x0 == 111) then (some 8) else (some 2147483648)) else (bif (x0 == 112) then (some 8) else (some 2147483648)))) else (bif (x0 == 77) then (some 16) else (bif (x0 == 111) then (bif (x0 == 111) then (some 8) else (some 2147483648)) else (bif (x0 == 112) then (some 8) else (some 2147483648)))))))) else (bif (x0 == 87) then (some 4294967296) else (bif (x0 == 76) then (bif (x0 == 76) then (some 1099511627776) else (bif (x0 == 67) then (bif (x0 == 67) then (some 16) else (bif (x0 == 111) then (bif (x0 == 111) then (some 8) else (some 2147483648)) else (bif (x0 == 112) then (some 8) else (some 2147483648)))) else (bif (x0 == 77) then (some 16) else (bif (x0 == 111) then (bif (x0 == 111) then (some 8) else (some 2147483648)) else (bif (x0 == 112) then (some 8) else (some 2147483648)))))) else (bif (x0 == 80) then (some 1099511627776) else (bif (x0 == 67) then (bif (x0 == 67) then (some 16) else (bif (x0 == 111) then (bif (x0 == 111) then (some 8) else (some 2147483648)) else (bif (x0 == 112) then (some 8) else (some 2147483648)))) else (bif (x0 == 77) then (some 16) else (bif (x0 == 111) then (bif (x0 == 111) then (some 8) else (some 2147483648)) else (bif (x0 == 112) then (some 8) else (some 2147483648))))))))))
theorem atlasref15_top.run (x0 : Int) : runF Tryz.prog (gamOf []) noLam Tryz.f48 [(.val (.int .u8 x0))] some = (atlasref15_top.f x0).bind fun r => some (.ret (.val (.int .u64 r))) := by
  unfold atlasref15_top.f
  try simp only [cond_bind, elim_bind, Option.bind_some, Option.bind_none, Option.bind_assoc, Sum.elim_inl, Sum.elim_inr]
  kernel_rfl
def atlasref15_top.g : GFun := fun β args K => match args with
  | [a0] => (intO .u8 a0).bind fun x0 => (atlasref15_top.f x0).bind fun r => K (.ret (.val (.int .u64 r)))
  | _ => none
theorem atlasref15_top.callable : callable Tryz.prog 48 = true := callable_of Tryz.func48 (by kernel_rfl)
theorem atlasref15_top.ok : GOk Tryz.prog 48 (atlasref15_top.g) := by
  intro β args K r h
  unfold atlasref15_top.g at h
  split at h
  · obtain ⟨x0, e0, h⟩ := bs h
    obtain ⟨y, hy, hK⟩ := bs h
    have hrun := atlasref15_top.run x0
    rw [hy] at hrun
    obtain ⟨out, e, hs⟩ := sim_of_run Tryz.func48 (by kernel_rfl) mixed (gamOf_nil _) (noLam_ok _ _) (args' := [(.val (.int .u8 x0))]) (RefsL.cons (Refs.of_eq (intO_eq e0)) RefsL.nil) hrun
    simp only [Option.some.injEq] at e
    subst e
    exact ⟨_, hK, hs⟩
  · cases h
/-! ### atlas/atlasref15.count: function 49 -/
def atlasref15_count.f (x0 : T32) (x1 : Int) (x2 : Int) : Option (T32) := (bif (x1 == 49) then (some (⟨x0.f0, (IntKind.wrap .i64 x2), x0.f2, x0.f3, x0.f4, x0.f5, x0.f6, x0.f7, x0.f8, x0.f9, x0.f10, x0.f11, x0.f12, x0.f13, x0.f14, x0.f15, x0.f16, x0.f17, x0.f18, x0.f19, x0.f20, x0.f21, x0.f22, x0.f23, x0.f24, x0.f25, x0.f26, x0.f27, x0.f28, x0.f29, x0.f30, x0.f31⟩ : T32)) else (bif (x1 == 50) then (some (⟨x0.f0, x0.f1, (IntKind.wrap .i64 x2), x0.f3, x0.f4, x0.f5, x0.f6, x0.f7, x0.f8, x0.f9, x0.f10, x0.f11, x0.f12, x0.f13, x0.f14, x0.f15, x0.f16, x0.f17, x0.f18, x0.f19, x0.f20, x0.f21, x0.f22, x0.f23, x0.f24, x0.f25, x0.f26, x0.f27, x0.f28, x0.f29, x0.f30, x0.f31⟩ : T32)) else (bif (x1 == 51) then (some (⟨x0.f0, x0.f1, x0.f2, (IntKind.wrap .i64 x2), x0.f4, x0.f5, x0.f6, x0.f7, x0.f8, x0.f9, x0.f10, x0.f11, x0.f12, x0.f13, x0.f14, x0.f15, x0.f16, x0.f17, x0.f18, x0.f19, x0.f20, x0.f21, x0.f22, x0.f23, x0.f24, x0.f25, x0.f26, x0.f27, x0.f28, x0.f29, x0.f30, x0.f31⟩ : T32)) else (bif (x1 == 52) then (some (⟨x0.f0, x0.f1, x0.f2, x0.f3, (IntKind.wrap .i64 x2), x0.f5, x0.f6, x0.f7, x0.f8, x0.f9, x0.f10, x0.f11, x0.f12, x0.f13, x0.f14, x0.f15, x0.f16, x0.f17, x0.f18, x0.f19, x0.f20, x0.f21, x0.f22, x0.f23, x0.f24, x0.f25, x0.f26, x0.f27, x0.f28, x0.f29, x0.f30, x0.f31⟩ : T32)) else (bif (x1 == 53) then (some (⟨x0.f0, x0.f1, x0.f2, x0.f3, x0.f4, (IntKind.wrap .i64 x2), x0.f6, x0.f7, x0.f8, x0.f9, x0.f10, x0.f11, x0.f12, x0.f13, x0.f14, x0.f15, x0.f16, x0.f17, x0.f18, x0.f19, x0.f20, x0.f21, x0.f22, x0.f23, x0.f24, x0.f25, x0.f26, x0.f27, x0.f28, x0.f29, x0.f30, x0.f31⟩ : T32)) else (bif (x1 == 54) then (some (⟨x0.f0, x0.f1, x0.f2, x0.f3, x0.f4, x0.f5, (IntKind.wrap .i64 x2), x0.f7, x0.f8, x0.f9, x0.f10, x0.f11, x0.f12, x0.f13, x0.f14, x0.f15, x0.f16, x0.f17, x0.f18, x0.f19, x0.f20, x0.f21, x0.f22, x0.f23, x0.f24, x0.f25, x0.f26, x0.f27, x0.f28, x0.f29, x0.f30, x0.f31⟩ : T32)) else (bif (x1 == 86) then (some (⟨x0.f0, x0.f1, x0.f2, x0.f3, x0.f4, x0.f5, x0.f6, x0.f7, x0.f8, x0.f9, x0.f10, x0.f11, x0.f12, x0.f13, x0.f14, x0.f15, (IntKind.wrap .u32 x2), x0.f17, x0.f18, x0.f19, x0.f20, x0.f21, x0.f22, x0.f23, x0.f24, x0.f25, x0.f26, x0.f27, x0.f28, x0.f29, x0.f30, x0.f31⟩ : T32)) else (bif (x1 == 70) then (some (⟨x0.f0, x0.f1, x0.f2, x0.f3, x0.f4, x0.f5, x0.f6, x0.f7, x0.f8, x0.f9, x0.f10, x0.f11, x0.f12, x0.f13, x0.f14, x0.f15, x0.f16, (IntKind.wrap .u32 x2), x0.f18, x0.f19, x0.f20, x0.f21, x0.f22, x0.f23, x0.f24, x0.f25, x0.f26, x0.f27, x0.f28, x0.f29, x0.f30, x0.f31⟩ : T32)) else (bif (x1 == 87) then (some (⟨x0.f0, x0.f1, x0.f2, x0.f3, x0.f4, x0.f5, x0.f6, x0.f7, x0.f8, x0.f9, x0.f10, x0.f11, x0.f12, x0.f13, x0.f14, x0.f15, x0.f16, x0.f17, x0.f18, x0.f19, x0.f20, x0.f21, x0.f22, x0.f23, x0.f24, (IntKind.wrap .u32 x2), x0.f26, x0.f27, x0.f28, x0.f29, x0.f30, x0.f31⟩ : T32)) else (bif (x1 == 76) then (some (⟨x0.f0, x0.f1, x0.f2, x0.f3, x0.f4, x0.f5, x0.f6, x0.f7, x0.f8, x0.f9, x0.f10, x0.f11, x0.f12, x0.f13, x0.f14, x0.f15, x0.f16, x0.f17, x0.f18, x0.f19, x2, x0.f21, x0.f22, x0.f23, x0.f24, x0.f25, x0.f26, x0.f27, x0.f28, x0.f29, x0.f30, x0.f31⟩ : T32)) else (bif (x1 == 80) then (some (⟨x0.f0, x0.f1, x0.f2, x0.f3, x0.f4, x0.f5, x0.f6, x0.f7, x0.f8, x0.f9, x0.f10, x0.f11, x0.f12, x0.f13, x0.f14, x0.f15, x0.f16, x0.f17, x0.f18, x0.f19, x0.f20, x0.f21, x0.f22, x0.f23, x0.f24, x0.f25, x0.f26, x2, x0.f28, x0.f29, x0.f30, x0.f31⟩ : T32)) else (bif (x1 == 99) then (some (⟨x0.f0, x0.f1, x0.f2, x0.f3, x0.f4, x0.f5, x0.f6, x0.f7, x0.f8, x0.f9, x0.f10, x0.f11, x0.f12, x0.f13, x0.f14, x0.f15, x0.f16, x0.f17, x0.f18, (IntKind.wrap .i64 x2), x0.f20, x0.f21, x0.f22, x0.f23, x0.f24, x0.f25, x0.f26, x0.f27, x0.f28, x0.f29, x0.f30, x0.f31⟩ : T32)) else (bif (x1 == 98) then (some (⟨x0.f0, x0.f1, x0.f2, x0.f3, x0.f4, x0.f5, x0.f6, x0.f7, x0.f8, x0.f9, x0.f10, x0.f11, x0.f12, x0.f13, x0.f14, x0.f15, x0.f16, x0.f17, x0.f18, x0.f19, x0.f20, x0.f21, x0.f22, x0.f23, (IntKind.wrap .i64 x2), x0.f25, x0.f26, x0.f27, x0.f28, x0.f29, x0.f30, x0.f31⟩ : T32)) else (bif (x1 == 67) then (some (⟨x0.f0, x0.f1, x0.f2, x0.f3, x0.f4, x0.f5, x0.f6, x0.f7, x0.f8, x0.f9, x0.f10, x0.f11, x0.f12, x0.f13, x0.f14, x0.f15, x0.f16, x0.f17, x0.f18, x0.f19, x0.f20, x0.f21, x0.f22, x0.f23, x0.f24, x0.f25, x0.f26, x0.f27, (IntKind.wrap .i64 x2), x0.f29, x0.f30, x0.f31⟩ : T32)) else (bif (x1 == 111) then (some (⟨x0.f0, x0.f1, x0.f2, x0.f3, x0.f4, x0.f5, x0.f6, x0.f7, x0.f8, x0.f9, x0.f10, x0.f11, x0.f12, x0.f13, x0.f14, x0.f15, x0.f16, x0.f17, x0.f18, x0.f19, x0.f20, x0.f21, x0.f22, x0.f23, x0.f24, x0.f25, x0.f26, x0.f27, x0.f28, (IntKind.wrap .i64 x2), x0.f30, x0.f31⟩ : T32)) else (bif (x1 == 77) then (some (⟨x0.f0, x0.f1, x0.f2, x0.f3, x0.f4, x0.f5, x0.f6, x0.f7, x0.f8, x0.f9, x0.f10, x0.f11, x0.f12, x0.f13, x0.f14, x0.f15, x0.f16, x0.f17, x0.f18, x0.f19, x0.f20, x0.f21, x0.f22, x0.f23, x0.f24, x0.f25, x0.f26, x0.f27, x0.f28, x0.f29, (IntKind.wrap .i64 x2), x0.f31⟩ : T32)) else (bif (x1 == 112) then (some (⟨x0.f0, x0.f1, x0.f2, x0.f3, x0.f4, x0.f5, x0.f6, x0.f7, x0.f8, x0.f9, x0.f10, x0.f11, x0.f12, x0.f13, x0.f14, x0.f15, x0.f16, x0.f17, x0.f18, x0.f19, x0.f20, x0.f21, x0.f22, x0.f23, x0.f24, x0.f25, x0.f26, x0.f27, x0.f28, x0.f29, x0.f30, (IntKind.wrap .i64 x2)⟩ : T32)) else (some (⟨x0.f0, x0.f1, x0.f2, x0.f3, x0.f4, x0.f5, x0.f6, x0.f7, x0.f8, x0.f9, x0.f10, x0.f11, x0.f12, x0.f13, x0.f14, x0.f15, x0.f16, x0.f17, x0.f18, x0.f19, x0.f20, x0.f21, x0.f22, x0.f23, x0.f24, x0.f25, x0.f26, x0.f27, x0.f28, x0.f29, x0.f30, x0.f31⟩ : T32)))))))))))))))))))
theorem atlasref15_count.run (x0 : T32) (x1 : Int) (x2 : Int) : runF Tryz.prog (gamOf []) noLam Tryz.f49 [(T32.av x0), (.val (.int .u8 x1)), (.val (.int .u64 x2))] some = (atlasref15_count.f x0 x1 x2).bind fun r => some (.ret (T32.av r)) := by
  unfold atlasref15_count.f
  try simp only [cond_bind, elim_bind, Option.bind_some, Option.bind_none, Option.bind_assoc, Sum.elim_inl, Sum.elim_inr]
  kernel_rfl
def atlasref15_count.g : GFun := fun β args K => match args with
  | [a0, a1, a2] => (T32.of a0).bind fun x0 => (intO .u8 a1).bind fun x1 => (intO .u64 a2).bind fun x2 => (atlasref15_count.f x0 x1 x2).bind fun r => K (.ret (T32.av r))
  | _ => none
theorem atlasref15_count.callable : callable Tryz.prog 49 = true := callable_of Tryz.func49 (by kernel_rfl)
theorem atlasref15_count.ok : GOk Tryz.prog 49 (atlasref15_count.g) := by
  intro β args K r h
  unfold atlasref15_count.g at h
  split at h
  · obtain ⟨x0, e0, h⟩ := bs h
    have ⟨x1, e1, h⟩ := bs h
    have ⟨x2, e2, h⟩ := bs h
    obtain ⟨y, hy, hK⟩ := bs h
    have hrun := atlasref15_count.run x0 x1 x2
    rw [hy] at hrun
    obtain ⟨out, e, hs⟩ := sim_of_run Tryz.func49 (by kernel_rfl) mixed (gamOf_nil _) (noLam_ok _ _) (args' := [(T32.av x0), (.val (.int .u8 x1)), (.val (.int .u64 x2))]) (RefsL.cons (T32.refs e0) (RefsL.cons (Refs.of_eq (intO_eq e1)) (RefsL.cons (Refs.of_eq (intO_eq e2)) RefsL.nil))) hrun
    simp only [Option.some.injEq] at e
    subst e
    exact ⟨_, hK, hs⟩
  · cases h
end Go.Va
