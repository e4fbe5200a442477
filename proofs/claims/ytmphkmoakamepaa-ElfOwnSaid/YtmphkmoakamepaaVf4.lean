-- Written by a program of this session (wip/va/vaprint.py). Not trusted: Lean checks it.
import Derived.Test.YtmphkmoakamepaaVaTy
import Derived.Test.YtmphkmoakamepaaVf0
import Derived.Test.YtmphkmoakamepaaVf3
set_option linter.unusedVariables false
set_option linter.unusedSimpArgs false
set_option autoImplicit false
set_option maxRecDepth 100000
namespace Go.Va
open Go.Proofs
/-! ### (atlas/elf.reader).num: function 63 -/
def elf_reader_num.q0.h : Head (Int × Int × Int × (List Int)) where
  k γ s F := (sizedN 28 s).bind fun _ => (intO .u64 (gt s.tm 1)).bind fun v2 => (ptrN 0 (gt s.tm 3)).bind fun b4 => (intO .u32 (gt s.tm 7)).bind fun v6 => (intO .i64 (gt s.tm 8)).bind fun v8 => (rowN 80 1 s.hp b4).bind fun l10 => (vtO (.int .u8) (gt l10 0)).bind fun v12 => (distO [some b4]).bind fun _ => F (v2, v6, v8, v12)
  st x := ⟨sparseT [(1, (.val (.int .u64 x.1))), (3, (.ptr 0 0)), (7, (.val (.int .u32 x.2.1))), (8, (.val (.int .i64 x.2.2.1)))] 28 0, [.row [(.vt (.int .u8) x.2.2.2)] 80 true]⟩
  ok γ s F r h := by
    have ⟨_, hz, h⟩ := bs h
    have ⟨v2, h1, h⟩ := bs h
    have ⟨b4, h3, h⟩ := bs h
    have ⟨v6, h5, h⟩ := bs h
    have ⟨v8, h7, h⟩ := bs h
    have ⟨l10, h9, h⟩ := bs h
    have ⟨v12, h11, h⟩ := bs h
    have ⟨_, h13, h⟩ := bs h
    exact ⟨_, h, weak_ren (l := [some b4]) (sizedN_ok hz) (distO_ok h13) (LiveR.cons (pI h1) (LiveR.cons (RefsR.ptr (l := [some b4]) (i := 0) rfl (ptrN_eq h3)) (LiveR.cons (pI h5) (LiveR.cons (pI h7) LiveR.nil)))) (BlksR.cons (rowN_refs h9 rfl (GtRefsR.cons (pV h11) GtRefsR.nil) rfl) BlksR.nil)⟩

def elf_reader_num.q0.x0 : Head (Int) where
  k γ s F := (sizedN 28 s).bind fun _ => (intO .u32 (gt s.tm 7)).bind fun v2 => (distO []).bind fun _ => F (v2)
  st x := ⟨sparseT [(7, (.val (.int .u32 x)))] 28 0, []⟩
  ok γ s F r h := by
    have ⟨_, hz, h⟩ := bs h
    have ⟨v2, h1, h⟩ := bs h
    have ⟨_, h3, h⟩ := bs h
    exact ⟨_, h, weak_ren (l := []) (sizedN_ok hz) (distO_ok h3) (LiveR.cons (pI h1) LiveR.nil) BlksR.nil⟩

def elf_reader_num.q0.t : Tail (Int) := Tail.one (.exit 0) elf_reader_num.q0.x0
theorem elf_reader_num.q0.np (y : (Int)) (v : AV) : (elf_reader_num.q0.t.out y).1 = .panic v → nomem v = true := fun h => by cases h
theorem elf_reader_num.q0.nn (y : (Int)) : (elf_reader_num.q0.t.out y).1 ≠ .normal := fun h => by cases h
def elf_reader_num.q0.l (k : Nat) : Nat → (Int × Int × Int × (List Int)) → Option (Int)
  | 0, _ => none
  | n + 1, x => (bif (decide (x.2.2.1 ≥ 0)) then (bif (decide (0 ≤ (IntKind.wrap .u64 (x.1 + (IntKind.wrap .u64 x.2.2.1)))) && decide ((IntKind.wrap .u64 (x.1 + (IntKind.wrap .u64 x.2.2.1))) < ((x.2.2.2.length : Nat) : Int))) then (elf_reader_num.q0.l k n (x.1, (orI .u32 (shlI .u32 x.2.1 8) (IntKind.wrap .u32 (x.2.2.2.getD ((IntKind.wrap .u64 (x.1 + (IntKind.wrap .u64 x.2.2.1)))).toNat 0))), (IntKind.wrap .i64 (x.2.2.1 - 1)), x.2.2.2)) else none) else (some x.2.1))
theorem elf_reader_num.q0.z (k : Nat) (x : (Int × Int × Int × (List Int))) : elf_reader_num.q0.l k 0 x = none := rfl
theorem elf_reader_num.q0.at : codeAt (bodyOf Try.f63) [false, true, false, true, true] = some (.loop (loopBody (bodyOf Try.f63) [false, true, false, true, true])) := by kernel_rfl
theorem elf_reader_num.q0.goes (k n : Nat) (x : (Int × Int × Int × (List Int))) : E Try.prog (gamOf []) (lamOf []) (loopBody (bodyOf Try.f63) [false, true, false, true, true]) (false :: [false, true, false, true, true]) (elf_reader_num.q0.h.st x) (contD elf_reader_num.q0.h elf_reader_num.q0.t (elf_reader_num.q0.l k n) some) = elf_reader_num.q0.l k (n + 1) x := by
  kernel_rfl
theorem elf_reader_num.q0.ok_ (k : Nat) : PieceOk Try.prog (bodyOf Try.f63) ⟨[false, true, false, true, true], _, _, elf_reader_num.q0.h, elf_reader_num.q0.t, elf_reader_num.q0.l k k⟩ :=
  piece_loop (gamOf_nil _) (lamOf_nil _ _) mixed elf_reader_num.q0.at elf_reader_num.q0.np elf_reader_num.q0.nn (elf_reader_num.q0.z k) (elf_reader_num.q0.goes k) k
def elf_reader_num.q0.p (k : Nat) : Piece := ⟨[false, true, false, true, true], _, _, elf_reader_num.q0.h, elf_reader_num.q0.t, elf_reader_num.q0.l k k⟩
theorem elf_reader_num.q0.ok (k : Nat) : PieceOk Try.prog (bodyOf Try.f63) (elf_reader_num.q0.p k) := elf_reader_num.q0.ok_ k
def elf_reader_num.f (k : Nat) (x0 : T62) (x1 : Int) (x2 : Int) : Option (Int) := ((elf_reader_num.q0.l k k (x1, 0, (IntKind.wrap .i64 (x2 - 1)), x0.f0_b)).bind fun r1 => (some r1))
theorem elf_reader_num.run (k : Nat) (x0 : T62) (x1 : Int) (x2 : Int) : runF Try.prog (gamOf []) (lamOf [elf_reader_num.q0.p k]) Try.f63 [(T62.av x0), (.val (.int .u64 x1)), (.val (.int .i64 x2))] some = (elf_reader_num.f k x0 x1 x2).bind fun r => some (.ret (.val (.int .u32 r))) := by
  unfold elf_reader_num.f
  try simp only [cond_bind, elim_bind, Option.bind_some, Option.bind_none, Option.bind_assoc, Sum.elim_inl, Sum.elim_inr]
  kernel_rfl
def elf_reader_num.g (k : Nat) : GFun := fun β args K => match args with
  | [a0, a1, a2] => (T62.of a0).bind fun x0 => (intO .u64 a1).bind fun x1 => (intO .i64 a2).bind fun x2 => (elf_reader_num.f k x0 x1 x2).bind fun r => K (.ret (.val (.int .u32 r)))
  | _ => none
theorem elf_reader_num.callable : callable Try.prog 63 = true := callable_of Try.func63 (by kernel_rfl)
theorem elf_reader_num.ok (k : Nat) : GOk Try.prog 63 (elf_reader_num.g k) := by
  intro β args K r h
  unfold elf_reader_num.g at h
  split at h
  · obtain ⟨x0, e0, h⟩ := bs h
    have ⟨x1, e1, h⟩ := bs h
    have ⟨x2, e2, h⟩ := bs h
    obtain ⟨y, hy, hK⟩ := bs h
    have hrun := elf_reader_num.run k x0 x1 x2
    rw [hy] at hrun
    obtain ⟨out, e, hs⟩ := sim_of_run Try.func63 (by kernel_rfl) mixed (gamOf_nil _) (lamOf_cons (elf_reader_num.q0.ok k) (lamOf_nil _ _)) (args' := [(T62.av x0), (.val (.int .u64 x1)), (.val (.int .i64 x2))]) (RefsL.cons (T62.refs e0) (RefsL.cons (Refs.of_eq (intO_eq e1)) (RefsL.cons (Refs.of_eq (intO_eq e2)) RefsL.nil))) hrun
    simp only [Option.some.injEq] at e
    subst e
    exact ⟨_, hK, hs⟩
  · cases h
/-! ### (atlas/elf.reader).half: function 44 -/
def elf_reader_half.f (k : Nat) (x0 : T62) (x1 : Int) : Option (Int) := ((elf_reader_num.f k (⟨x0.f0_b⟩ : T62) x1 2).bind fun r1 => (some r1))
theorem elf_reader_half.run (k : Nat) (x0 : T62) (x1 : Int) : runF Try.prog (gamOf [(63, elf_reader_num.g k)]) noLam Try.f44 [(T62.av x0), (.val (.int .u64 x1))] some = (elf_reader_half.f k x0 x1).bind fun r => some (.ret (.val (.int .u32 r))) := by
  unfold elf_reader_half.f
  try simp only [cond_bind, elim_bind, Option.bind_some, Option.bind_none, Option.bind_assoc, Sum.elim_inl, Sum.elim_inr]
  kernel_rfl
def elf_reader_half.g (k : Nat) : GFun := fun β args K => match args with
  | [a0, a1] => (T62.of a0).bind fun x0 => (intO .u64 a1).bind fun x1 => (elf_reader_half.f k x0 x1).bind fun r => K (.ret (.val (.int .u32 r)))
  | _ => none
theorem elf_reader_half.callable : callable Try.prog 44 = true := callable_of Try.func44 (by kernel_rfl)
theorem elf_reader_half.ok (k : Nat) : GOk Try.prog 44 (elf_reader_half.g k) := by
  intro β args K r h
  unfold elf_reader_half.g at h
  split at h
  · obtain ⟨x0, e0, h⟩ := bs h
    have ⟨x1, e1, h⟩ := bs h
    obtain ⟨y, hy, hK⟩ := bs h
    have hrun := elf_reader_half.run k x0 x1
    rw [hy] at hrun
    obtain ⟨out, e, hs⟩ := sim_of_run Try.func44 (by kernel_rfl) mixed (gamOf_cons (elf_reader_num.ok k) elf_reader_num.callable (gamOf_nil _)) (noLam_ok _ _) (args' := [(T62.av x0), (.val (.int .u64 x1))]) (RefsL.cons (T62.refs e0) (RefsL.cons (Refs.of_eq (intO_eq e1)) RefsL.nil)) hrun
    simp only [Option.some.injEq] at e
    subst e
    exact ⟨_, hK, hs⟩
  · cases h
/-! ### (atlas/elf.reader).word: function 45 -/
def elf_reader_word.f (k : Nat) (x0 : T62) (x1 : Int) : Option (Int) := ((elf_reader_num.f k (⟨x0.f0_b⟩ : T62) x1 4).bind fun r1 => (some r1))
theorem elf_reader_word.run (k : Nat) (x0 : T62) (x1 : Int) : runF Try.prog (gamOf [(63, elf_reader_num.g k)]) noLam Try.f45 [(T62.av x0), (.val (.int .u64 x1))] some = (elf_reader_word.f k x0 x1).bind fun r => some (.ret (.val (.int .u32 r))) := by
  unfold elf_reader_word.f
  try simp only [cond_bind, elim_bind, Option.bind_some, Option.bind_none, Option.bind_assoc, Sum.elim_inl, Sum.elim_inr]
  kernel_rfl
def elf_reader_word.g (k : Nat) : GFun := fun β args K => match args with
  | [a0, a1] => (T62.of a0).bind fun x0 => (intO .u64 a1).bind fun x1 => (elf_reader_word.f k x0 x1).bind fun r => K (.ret (.val (.int .u32 r)))
  | _ => none
theorem elf_reader_word.callable : callable Try.prog 45 = true := callable_of Try.func45 (by kernel_rfl)
theorem elf_reader_word.ok (k : Nat) : GOk Try.prog 45 (elf_reader_word.g k) := by
  intro β args K r h
  unfold elf_reader_word.g at h
  split at h
  · obtain ⟨x0, e0, h⟩ := bs h
    have ⟨x1, e1, h⟩ := bs h
    obtain ⟨y, hy, hK⟩ := bs h
    have hrun := elf_reader_word.run k x0 x1
    rw [hy] at hrun
    obtain ⟨out, e, hs⟩ := sim_of_run Try.func45 (by kernel_rfl) mixed (gamOf_cons (elf_reader_num.ok k) elf_reader_num.callable (gamOf_nil _)) (noLam_ok _ _) (args' := [(T62.av x0), (.val (.int .u64 x1))]) (RefsL.cons (T62.refs e0) (RefsL.cons (Refs.of_eq (intO_eq e1)) RefsL.nil)) hrun
    simp only [Option.some.injEq] at e
    subst e
    exact ⟨_, hK, hs⟩
  · cases h
/-! ### (atlas/elf.reader).holds: function 46 -/
def elf_reader_holds.f (x0 : T62) (x1 : Int) (x2 : Int) : Option (Bool) := (some (decide ((IntKind.wrap .u64 (x1 + x2)) ≤ (IntKind.wrap .u64 ((x0.f0_b.length : Nat) : Int)))))
theorem elf_reader_holds.run (x0 : T62) (x1 : Int) (x2 : Int) : runF Try.prog (gamOf []) noLam Try.f46 [(T62.av x0), (.val (.int .u64 x1)), (.val (.int .u64 x2))] some = (elf_reader_holds.f x0 x1 x2).bind fun r => some (.ret (.val (.bool r))) := by
  unfold elf_reader_holds.f
  try simp only [cond_bind, elim_bind, Option.bind_some, Option.bind_none, Option.bind_assoc, Sum.elim_inl, Sum.elim_inr]
  kernel_rfl
def elf_reader_holds.g : GFun := fun β args K => match args with
  | [a0, a1, a2] => (T62.of a0).bind fun x0 => (intO .u64 a1).bind fun x1 => (intO .u64 a2).bind fun x2 => (elf_reader_holds.f x0 x1 x2).bind fun r => K (.ret (.val (.bool r)))
  | _ => none
theorem elf_reader_holds.callable : callable Try.prog 46 = true := callable_of Try.func46 (by kernel_rfl)
theorem elf_reader_holds.ok : GOk Try.prog 46 (elf_reader_holds.g) := by
  intro β args K r h
  unfold elf_reader_holds.g at h
  split at h
  · obtain ⟨x0, e0, h⟩ := bs h
    have ⟨x1, e1, h⟩ := bs h
    have ⟨x2, e2, h⟩ := bs h
    obtain ⟨y, hy, hK⟩ := bs h
    have hrun := elf_reader_holds.run x0 x1 x2
    rw [hy] at hrun
    obtain ⟨out, e, hs⟩ := sim_of_run Try.func46 (by kernel_rfl) mixed (gamOf_nil _) (noLam_ok _ _) (args' := [(T62.av x0), (.val (.int .u64 x1)), (.val (.int .u64 x2))]) (RefsL.cons (T62.refs e0) (RefsL.cons (Refs.of_eq (intO_eq e1)) (RefsL.cons (Refs.of_eq (intO_eq e2)) RefsL.nil))) hrun
    simp only [Option.some.injEq] at e
    subst e
    exact ⟨_, hK, hs⟩
  · cases h
/-! ### slices.Clone[[]byte,byte]: function 64 -/
def slices_Clone_byte_byte.f (x0 : (List Int)) : Option ((List Int)) := (bif x0.isEmpty then none else (bif (decide ((([] : List Int) ++ x0).length ≤ maxLen) && decide ((([] : List Int) ++ x0).length * 1 ≤ 211106232532992)) then (some (([] : List Int) ++ x0)) else none))
theorem slices_Clone_byte_byte.run (x0 : (List Int)) : runF Try.prog (gamOf []) noLam Try.f64 [(.vt (.int .u8) x0)] some = (slices_Clone_byte_byte.f x0).bind fun r => some (.ret (.vt (.int .u8) r)) := by
  unfold slices_Clone_byte_byte.f
  try simp only [cond_bind, elim_bind, Option.bind_some, Option.bind_none, Option.bind_assoc, Sum.elim_inl, Sum.elim_inr]
  kernel_rfl
def slices_Clone_byte_byte.g : GFun := fun β args K => match args with
  | [a0] => (vtO (.int .u8) a0).bind fun x0 => (slices_Clone_byte_byte.f x0).bind fun r => K (.ret (.vt (.int .u8) r))
  | _ => none
theorem slices_Clone_byte_byte.callable : callable Try.prog 64 = true := callable_of Try.func64 (by kernel_rfl)
theorem slices_Clone_byte_byte.ok : GOk Try.prog 64 (slices_Clone_byte_byte.g) := by
  intro β args K r h
  unfold slices_Clone_byte_byte.g at h
  split at h
  · obtain ⟨x0, e0, h⟩ := bs h
    obtain ⟨y, hy, hK⟩ := bs h
    have hrun := slices_Clone_byte_byte.run x0
    rw [hy] at hrun
    obtain ⟨out, e, hs⟩ := sim_of_run Try.func64 (by kernel_rfl) mixed (gamOf_nil _) (noLam_ok _ _) (args' := [(.vt (.int .u8) x0)]) (RefsL.cons (vtO_refs e0) RefsL.nil) hrun
    simp only [Option.some.injEq] at e
    subst e
    exact ⟨_, hK, hs⟩
  · cases h
/-! ### (atlas/elf.reader).segment: function 47 -/
def elf_reader_segment.q0.h : Head (Int × Int × (List Int) × Int × Int × Bool × Bool × Bool × (List Int) × Int × Int × Bool × Bool × Bool × (List Int)) where
  k γ s F := (sizedN 93 s).bind fun _ => (ptrN 0 (gt s.tm 2)).bind fun b2 => (ptrN 0 (gt s.tm 4)).bind fun b4 => (intO .u64 (gt s.tm 5)).bind fun v6 => (intO .u64 (gt s.tm 6)).bind fun v8 => (ptrN 0 (gt s.tm 8)).bind fun b10 => (rowN 80 1 s.hp b2).bind fun l12 => (vtO (.int .u8) (gt l12 0)).bind fun v14 => (rowN 46 6 s.hp b4).bind fun l16 => (intO .u32 (gt l16 0)).bind fun v18 => (intO .u32 (gt l16 1)).bind fun v20 => (boolO (gt l16 2)).bind fun v22 => (boolO (gt l16 3)).bind fun v24 => (boolO (gt l16 4)).bind fun v26 => (vtO (.int .u8) (gt l16 5)).bind fun v28 => (rowN 46 6 s.hp b10).bind fun l30 => (intO .u32 (gt l30 0)).bind fun v32 => (intO .u32 (gt l30 1)).bind fun v34 => (boolO (gt l30 2)).bind fun v36 => (boolO (gt l30 3)).bind fun v38 => (boolO (gt l30 4)).bind fun v40 => (vtO (.int .u8) (gt l30 5)).bind fun v42 => (distO [some b2, some b4, some b10]).bind fun _ => F (v6, v8, v14, v18, v20, v22, v24, v26, v28, v32, v34, v36, v38, v40, v42)
  st x := ⟨sparseT [(2, (.ptr 0 0)), (4, (.ptr 1 0)), (5, (.val (.int .u64 x.1))), (6, (.val (.int .u64 x.2.1))), (8, (.ptr 2 0))] 93 0, [.row [(.vt (.int .u8) x.2.2.1)] 80 true, .row [(.val (.int .u32 x.2.2.2.1)), (.val (.int .u32 x.2.2.2.2.1)), (.val (.bool x.2.2.2.2.2.1)), (.val (.bool x.2.2.2.2.2.2.1)), (.val (.bool x.2.2.2.2.2.2.2.1)), (.vt (.int .u8) x.2.2.2.2.2.2.2.2.1)] 46 true, .row [(.val (.int .u32 x.2.2.2.2.2.2.2.2.2.1)), (.val (.int .u32 x.2.2.2.2.2.2.2.2.2.2.1)), (.val (.bool x.2.2.2.2.2.2.2.2.2.2.2.1)), (.val (.bool x.2.2.2.2.2.2.2.2.2.2.2.2.1)), (.val (.bool x.2.2.2.2.2.2.2.2.2.2.2.2.2.1)), (.vt (.int .u8) x.2.2.2.2.2.2.2.2.2.2.2.2.2.2)] 46 true]⟩
  ok γ s F r h := by
    have ⟨_, hz, h⟩ := bs h
    have ⟨b2, h1, h⟩ := bs h
    have ⟨b4, h3, h⟩ := bs h
    have ⟨v6, h5, h⟩ := bs h
    have ⟨v8, h7, h⟩ := bs h
    have ⟨b10, h9, h⟩ := bs h
    have ⟨l12, h11, h⟩ := bs h
    have ⟨v14, h13, h⟩ := bs h
    have ⟨l16, h15, h⟩ := bs h
    have ⟨v18, h17, h⟩ := bs h
    have ⟨v20, h19, h⟩ := bs h
    have ⟨v22, h21, h⟩ := bs h
    have ⟨v24, h23, h⟩ := bs h
    have ⟨v26, h25, h⟩ := bs h
    have ⟨v28, h27, h⟩ := bs h
    have ⟨l30, h29, h⟩ := bs h
    have ⟨v32, h31, h⟩ := bs h
    have ⟨v34, h33, h⟩ := bs h
    have ⟨v36, h35, h⟩ := bs h
    have ⟨v38, h37, h⟩ := bs h
    have ⟨v40, h39, h⟩ := bs h
    have ⟨v42, h41, h⟩ := bs h
    have ⟨_, h43, h⟩ := bs h
    exact ⟨_, h, weak_ren (l := [some b2, some b4, some b10]) (sizedN_ok hz) (distO_ok h43) (LiveR.cons (RefsR.ptr (l := [some b2, some b4, some b10]) (i := 0) rfl (ptrN_eq h1)) (LiveR.cons (RefsR.ptr (l := [some b2, some b4, some b10]) (i := 1) rfl (ptrN_eq h3)) (LiveR.cons (pI h5) (LiveR.cons (pI h7) (LiveR.cons (RefsR.ptr (l := [some b2, some b4, some b10]) (i := 2) rfl (ptrN_eq h9)) LiveR.nil))))) (BlksR.cons (rowN_refs h11 rfl (GtRefsR.cons (pV h13) GtRefsR.nil) rfl) (BlksR.cons (rowN_refs h15 rfl (GtRefsR.cons (pI h17) (GtRefsR.cons (pI h19) (GtRefsR.cons (pB h21) (GtRefsR.cons (pB h23) (GtRefsR.cons (pB h25) (GtRefsR.cons (pV h27) GtRefsR.nil)))))) rfl) (BlksR.cons (rowN_refs h29 rfl (GtRefsR.cons (pI h31) (GtRefsR.cons (pI h33) (GtRefsR.cons (pB h35) (GtRefsR.cons (pB h37) (GtRefsR.cons (pB h39) (GtRefsR.cons (pV h41) GtRefsR.nil)))))) rfl) BlksR.nil)))⟩

def elf_reader_segment.q0.x0 : Head (Unit) where
  k γ s F := (sizedN 93 s).bind fun _ => (distO []).bind fun _ => F ()
  st x := ⟨sparseT [] 93 0, []⟩
  ok γ s F r h := by
    have ⟨_, hz, h⟩ := bs h
    have ⟨_, h1, h⟩ := bs h
    exact ⟨_, h, weak_ren (l := []) (sizedN_ok hz) (distO_ok h1) LiveR.nil BlksR.nil⟩

def elf_reader_segment.q0.x1 : Head (Int × Int × Bool × Bool × Bool × (List Int)) where
  k γ s F := (sizedN 93 s).bind fun _ => (ptrN 0 (gt s.tm 4)).bind fun b2 => (rowN 46 6 s.hp b2).bind fun l4 => (intO .u32 (gt l4 0)).bind fun v6 => (intO .u32 (gt l4 1)).bind fun v8 => (boolO (gt l4 2)).bind fun v10 => (boolO (gt l4 3)).bind fun v12 => (boolO (gt l4 4)).bind fun v14 => (vtO (.int .u8) (gt l4 5)).bind fun v16 => (distO [some b2]).bind fun _ => F (v6, v8, v10, v12, v14, v16)
  st x := ⟨sparseT [(4, (.ptr 0 0))] 93 0, [.row [(.val (.int .u32 x.1)), (.val (.int .u32 x.2.1)), (.val (.bool x.2.2.1)), (.val (.bool x.2.2.2.1)), (.val (.bool x.2.2.2.2.1)), (.vt (.int .u8) x.2.2.2.2.2)] 46 true]⟩
  ok γ s F r h := by
    have ⟨_, hz, h⟩ := bs h
    have ⟨b2, h1, h⟩ := bs h
    have ⟨l4, h3, h⟩ := bs h
    have ⟨v6, h5, h⟩ := bs h
    have ⟨v8, h7, h⟩ := bs h
    have ⟨v10, h9, h⟩ := bs h
    have ⟨v12, h11, h⟩ := bs h
    have ⟨v14, h13, h⟩ := bs h
    have ⟨v16, h15, h⟩ := bs h
    have ⟨_, h17, h⟩ := bs h
    exact ⟨_, h, weak_ren (l := [some b2]) (sizedN_ok hz) (distO_ok h17) (LiveR.cons (RefsR.ptr (l := [some b2]) (i := 0) rfl (ptrN_eq h1)) LiveR.nil) (BlksR.cons (rowN_refs h3 rfl (GtRefsR.cons (pI h5) (GtRefsR.cons (pI h7) (GtRefsR.cons (pB h9) (GtRefsR.cons (pB h11) (GtRefsR.cons (pB h13) (GtRefsR.cons (pV h15) GtRefsR.nil)))))) rfl) BlksR.nil)⟩

def elf_reader_segment.q0.t : Tail ((T77 × (Unit)) ⊕ (Int × Int × Bool × Bool × Bool × (List Int))) := Tail.pan (fun v => (ifaceO 78 v).bind T77.of) (fun x => .iface 78 (T77.av x)) (fun v x h => by obtain ⟨y, h1, h2⟩ := bs h; exact ifaceO_refs h1 (T77.refs h2)) elf_reader_segment.q0.x0 (Tail.one .ret elf_reader_segment.q0.x1)
theorem elf_reader_segment.q0.np (y : ((T77 × (Unit)) ⊕ (Int × Int × Bool × Bool × Bool × (List Int)))) (v : AV) : (elf_reader_segment.q0.t.out y).1 = .panic v → nomem v = true := fun h => by rcases y with _ | y <;> first | (cases h; done) | (cases h; rfl) | (cases h)
def elf_reader_segment.q0.l (k : Nat) (x : (Int × Int × (List Int) × Int × Int × Bool × Bool × Bool × (List Int) × Int × Int × Bool × Bool × Bool × (List Int))) : Option ((T77 × (Unit)) ⊕ (Int × Int × Bool × Bool × Bool × (List Int))) := (bif (decide (x.2.1 > 0)) then (bif (decide (0 ≤ (IntKind.wrap .u64 (x.1 + x.2.1))) && decide ((IntKind.wrap .u64 (x.1 + x.2.1)) ≤ ((x.2.2.1.length : Nat) : Int))) then (bif (decide (0 ≤ x.1) && decide (x.1 ≤ ((((IntKind.wrap .u64 (x.1 + x.2.1))).toNat : Nat) : Int))) then ((slices_Clone_byte_byte.f ((x.2.2.1.drop ((x.1).toNat)).take (((IntKind.wrap .u64 (x.1 + x.2.1))).toNat - (x.1).toNat))).bind fun r11 => ((elf_segment.f (⟨x.2.2.2.2.2.2.2.2.2.1, x.2.2.2.2.2.2.2.2.2.2.1, x.2.2.2.2.2.2.2.2.2.2.2.1, x.2.2.2.2.2.2.2.2.2.2.2.2.1, x.2.2.2.2.2.2.2.2.2.2.2.2.2.1, r11⟩ : T45)).bind fun r12 => ((elf_must.f r12 235).bind fun r13 => (Sum.elim (fun r15 => (some (Sum.inl ((⟨r15.f0_e⟩ : T77), ())))) (fun r14 => (some (Sum.inr (x.2.2.2.2.2.2.2.2.2.1, x.2.2.2.2.2.2.2.2.2.2.1, x.2.2.2.2.2.2.2.2.2.2.2.1, x.2.2.2.2.2.2.2.2.2.2.2.2.1, x.2.2.2.2.2.2.2.2.2.2.2.2.2.1, r11)))) r13)))) else none) else none) else ((elf_segment.f (⟨x.2.2.2.2.2.2.2.2.2.1, x.2.2.2.2.2.2.2.2.2.2.1, x.2.2.2.2.2.2.2.2.2.2.2.1, x.2.2.2.2.2.2.2.2.2.2.2.2.1, x.2.2.2.2.2.2.2.2.2.2.2.2.2.1, x.2.2.2.2.2.2.2.2.2.2.2.2.2.2⟩ : T45)).bind fun r16 => ((elf_must.f r16 235).bind fun r17 => (Sum.elim (fun r19 => (some (Sum.inl ((⟨r19.f0_e⟩ : T77), ())))) (fun r18 => (some (Sum.inr (x.2.2.2.2.2.2.2.2.2.1, x.2.2.2.2.2.2.2.2.2.2.1, x.2.2.2.2.2.2.2.2.2.2.2.1, x.2.2.2.2.2.2.2.2.2.2.2.2.1, x.2.2.2.2.2.2.2.2.2.2.2.2.2.1, x.2.2.2.2.2.2.2.2.2.2.2.2.2.2)))) r17))))
theorem elf_reader_segment.q0.at : codeAt (bodyOf Try.f47) [true, true, true, true] = some (codeOf (bodyOf Try.f47) [true, true, true, true]) := by kernel_rfl
theorem elf_reader_segment.q0.goes (k : Nat) (x : (Int × Int × (List Int) × Int × Int × Bool × Bool × Bool × (List Int) × Int × Int × Bool × Bool × Bool × (List Int))) : E Try.prog (gamOf [(45, elf_reader_word.g k), (43, elf_must.g), (64, slices_Clone_byte_byte.g), (23, elf_segment.g)]) (lamOf []) (codeOf (bodyOf Try.f47) [true, true, true, true]) [true, true, true, true] (elf_reader_segment.q0.h.st x) (fun ex t => elf_reader_segment.q0.t.d _ ex t some) = elf_reader_segment.q0.l k x := by
  kernel_rfl
theorem elf_reader_segment.q0.ok_ (k : Nat) : PieceOk Try.prog (bodyOf Try.f47) ⟨[true, true, true, true], _, _, elf_reader_segment.q0.h, elf_reader_segment.q0.t, elf_reader_segment.q0.l k⟩ :=
  piece_code (gamOf_cons (elf_reader_word.ok k) elf_reader_word.callable (gamOf_cons (elf_must.ok) elf_must.callable (gamOf_cons (slices_Clone_byte_byte.ok) slices_Clone_byte_byte.callable (gamOf_cons (elf_segment.ok) elf_segment.callable (gamOf_nil _))))) (lamOf_nil _ _) mixed elf_reader_segment.q0.at elf_reader_segment.q0.np (elf_reader_segment.q0.goes k)
def elf_reader_segment.q0.p (k : Nat) : Piece := ⟨[true, true, true, true], _, _, elf_reader_segment.q0.h, elf_reader_segment.q0.t, elf_reader_segment.q0.l k⟩
theorem elf_reader_segment.q0.ok (k : Nat) : PieceOk Try.prog (bodyOf Try.f47) (elf_reader_segment.q0.p k) := elf_reader_segment.q0.ok_ k
def elf_reader_segment.f (k : Nat) (x0 : T62) (x1 : Int) : Option (T77 ⊕ (T45)) := ((elf_reader_word.f k (⟨x0.f0_b⟩ : T62) (IntKind.wrap .u64 (x1 + 4))).bind fun r1 => ((elf_reader_word.f k (⟨x0.f0_b⟩ : T62) (IntKind.wrap .u64 (x1 + 16))).bind fun r2 => ((elf_reader_word.f k (⟨x0.f0_b⟩ : T62) (IntKind.wrap .u64 (x1 + 24))).bind fun r3 => ((elf_reader_word.f k (⟨x0.f0_b⟩ : T62) (IntKind.wrap .u64 (x1 + 8))).bind fun r4 => ((elf_reader_word.f k (⟨x0.f0_b⟩ : T62) (IntKind.wrap .u64 (x1 + 20))).bind fun r5 => ((elf_reader_word.f k (⟨x0.f0_b⟩ : T62) (IntKind.wrap .u64 (x1 + 12))).bind fun r6 => (bif (r6 == r4) then (bif (decide ((IntKind.wrap .u64 r2) ≤ (IntKind.wrap .u64 r5))) then (bif ((IntKind.wrap .u64 r2) == 0) then (bif (decide (r3 < 8)) then ((elf_reader_word.f k (⟨x0.f0_b⟩ : T62) (IntKind.wrap .u64 (x1 + 28))).bind fun r7 => ((elf_must.f (r7 == 4096) 235).bind fun r8 => (Sum.elim (fun r10 => (some (Sum.inl (⟨r10.f0_e⟩ : T77)))) (fun r9 => ((elf_reader_segment.q0.l k ((IntKind.wrap .u64 r1), (IntKind.wrap .u64 r2), x0.f0_b, 0, 0, false, false, false, ([] : List Int), r4, r5, ((andI .u32 r3 4) != 0), ((andI .u32 r3 2) != 0), ((andI .u32 r3 1) != 0), ([] : List Int))).bind fun r20 => (Sum.elim (fun r21 => (some (Sum.inl (⟨r21.1.f0_e⟩ : T77)))) (fun r22 => (some (Sum.inr (⟨r22.1, r22.2.1, r22.2.2.1, r22.2.2.2.1, r22.2.2.2.2.1, r22.2.2.2.2.2⟩ : T45)))) r20))) r8))) else ((elf_must.f false 235).bind fun r23 => (Sum.elim (fun r25 => (some (Sum.inl (⟨r25.f0_e⟩ : T77)))) (fun r24 => ((elf_reader_segment.q0.l k ((IntKind.wrap .u64 r1), (IntKind.wrap .u64 r2), x0.f0_b, 0, 0, false, false, false, ([] : List Int), r4, r5, ((andI .u32 r3 4) != 0), ((andI .u32 r3 2) != 0), ((andI .u32 r3 1) != 0), ([] : List Int))).bind fun r26 => (Sum.elim (fun r27 => (some (Sum.inl (⟨r27.1.f0_e⟩ : T77)))) (fun r28 => (some (Sum.inr (⟨r28.1, r28.2.1, r28.2.2.1, r28.2.2.2.1, r28.2.2.2.2.1, r28.2.2.2.2.2⟩ : T45)))) r26))) r23))) else ((elf_reader_holds.f (⟨x0.f0_b⟩ : T62) (IntKind.wrap .u64 r1) (IntKind.wrap .u64 r2)).bind fun r29 => (bif r29 then (bif (decide (r3 < 8)) then ((elf_reader_word.f k (⟨x0.f0_b⟩ : T62) (IntKind.wrap .u64 (x1 + 28))).bind fun r30 => ((elf_must.f (r30 == 4096) 235).bind fun r31 => (Sum.elim (fun r33 => (some (Sum.inl (⟨r33.f0_e⟩ : T77)))) (fun r32 => ((elf_reader_segment.q0.l k ((IntKind.wrap .u64 r1), (IntKind.wrap .u64 r2), x0.f0_b, 0, 0, false, false, false, ([] : List Int), r4, r5, ((andI .u32 r3 4) != 0), ((andI .u32 r3 2) != 0), ((andI .u32 r3 1) != 0), ([] : List Int))).bind fun r34 => (Sum.elim (fun r35 => (some (Sum.inl (⟨r35.1.f0_e⟩ : T77)))) (fun r36 => (some (Sum.inr (⟨r36.1, r36.2.1, r36.2.2.1, r36.2.2.2.1, r36.2.2.2.2.1, r36.2.2.2.2.2⟩ : T45)))) r34))) r31))) else ((elf_must.f false 235).bind fun r37 => (Sum.elim (fun r39 => (some (Sum.inl (⟨r39.f0_e⟩ : T77)))) (fun r38 => ((elf_reader_segment.q0.l k ((IntKind.wrap .u64 r1), (IntKind.wrap .u64 r2), x0.f0_b, 0, 0, false, false, false, ([] : List Int), r4, r5, ((andI .u32 r3 4) != 0), ((andI .u32 r3 2) != 0), ((andI .u32 r3 1) != 0), ([] : List Int))).bind fun r40 => (Sum.elim (fun r41 => (some (Sum.inl (⟨r41.1.f0_e⟩ : T77)))) (fun r42 => (some (Sum.inr (⟨r42.1, r42.2.1, r42.2.2.1, r42.2.2.2.1, r42.2.2.2.2.1, r42.2.2.2.2.2⟩ : T45)))) r40))) r37))) else ((elf_must.f false 235).bind fun r43 => (Sum.elim (fun r45 => (some (Sum.inl (⟨r45.f0_e⟩ : T77)))) (fun r44 => ((elf_reader_segment.q0.l k ((IntKind.wrap .u64 r1), (IntKind.wrap .u64 r2), x0.f0_b, 0, 0, false, false, false, ([] : List Int), r4, r5, ((andI .u32 r3 4) != 0), ((andI .u32 r3 2) != 0), ((andI .u32 r3 1) != 0), ([] : List Int))).bind fun r46 => (Sum.elim (fun r47 => (some (Sum.inl (⟨r47.1.f0_e⟩ : T77)))) (fun r48 => (some (Sum.inr (⟨r48.1, r48.2.1, r48.2.2.1, r48.2.2.2.1, r48.2.2.2.2.1, r48.2.2.2.2.2⟩ : T45)))) r46))) r43))))) else ((elf_must.f false 235).bind fun r49 => (Sum.elim (fun r51 => (some (Sum.inl (⟨r51.f0_e⟩ : T77)))) (fun r50 => ((elf_reader_segment.q0.l k ((IntKind.wrap .u64 r1), (IntKind.wrap .u64 r2), x0.f0_b, 0, 0, false, false, false, ([] : List Int), r4, r5, ((andI .u32 r3 4) != 0), ((andI .u32 r3 2) != 0), ((andI .u32 r3 1) != 0), ([] : List Int))).bind fun r52 => (Sum.elim (fun r53 => (some (Sum.inl (⟨r53.1.f0_e⟩ : T77)))) (fun r54 => (some (Sum.inr (⟨r54.1, r54.2.1, r54.2.2.1, r54.2.2.2.1, r54.2.2.2.2.1, r54.2.2.2.2.2⟩ : T45)))) r52))) r49))) else ((elf_must.f false 235).bind fun r55 => (Sum.elim (fun r57 => (some (Sum.inl (⟨r57.f0_e⟩ : T77)))) (fun r56 => ((elf_reader_segment.q0.l k ((IntKind.wrap .u64 r1), (IntKind.wrap .u64 r2), x0.f0_b, 0, 0, false, false, false, ([] : List Int), r4, r5, ((andI .u32 r3 4) != 0), ((andI .u32 r3 2) != 0), ((andI .u32 r3 1) != 0), ([] : List Int))).bind fun r58 => (Sum.elim (fun r59 => (some (Sum.inl (⟨r59.1.f0_e⟩ : T77)))) (fun r60 => (some (Sum.inr (⟨r60.1, r60.2.1, r60.2.2.1, r60.2.2.2.1, r60.2.2.2.2.1, r60.2.2.2.2.2⟩ : T45)))) r58))) r55)))))))))
theorem elf_reader_segment.run (k : Nat) (x0 : T62) (x1 : Int) : runF Try.prog (gamOf [(45, elf_reader_word.g k), (43, elf_must.g), (64, slices_Clone_byte_byte.g), (23, elf_segment.g), (46, elf_reader_holds.g)]) (lamOf [elf_reader_segment.q0.p k]) Try.f47 [(T62.av x0), (.val (.int .u64 x1))] some = (elf_reader_segment.f k x0 x1).bind fun r => Sum.elim (fun e => some (.pan (.iface 78 (T77.av e)))) (fun r => some (.ret (T45.av r))) r := by
  unfold elf_reader_segment.f
  try simp only [cond_bind, elim_bind, Option.bind_some, Option.bind_none, Option.bind_assoc, Sum.elim_inl, Sum.elim_inr]
  kernel_rfl
def elf_reader_segment.g (k : Nat) : GFun := fun β args K => match args with
  | [a0, a1] => (T62.of a0).bind fun x0 => (intO .u64 a1).bind fun x1 => (elf_reader_segment.f k x0 x1).bind fun r => Sum.elim (fun e => K (.pan (.iface 78 (T77.av e)))) (fun r => K (.ret (T45.av r))) r
  | _ => none
theorem elf_reader_segment.callable : callable Try.prog 47 = true := callable_of Try.func47 (by kernel_rfl)
theorem elf_reader_segment.ok (k : Nat) : GOk Try.prog 47 (elf_reader_segment.g k) := by
  intro β args K r h
  unfold elf_reader_segment.g at h
  split at h
  · obtain ⟨x0, e0, h⟩ := bs h
    have ⟨x1, e1, h⟩ := bs h
    obtain ⟨y, hy, hK⟩ := bs h
    have hrun := elf_reader_segment.run k x0 x1
    rw [hy] at hrun
    cases y with
    | inl z =>
      obtain ⟨out, e, hs⟩ := sim_of_run Try.func47 (by kernel_rfl) mixed (gamOf_cons (elf_reader_word.ok k) elf_reader_word.callable (gamOf_cons (elf_must.ok) elf_must.callable (gamOf_cons (slices_Clone_byte_byte.ok) slices_Clone_byte_byte.callable (gamOf_cons (elf_segment.ok) elf_segment.callable (gamOf_cons (elf_reader_holds.ok) elf_reader_holds.callable (gamOf_nil _)))))) (lamOf_cons (elf_reader_segment.q0.ok k) (lamOf_nil _ _)) (args' := [(T62.av x0), (.val (.int .u64 x1))]) (RefsL.cons (T62.refs e0) (RefsL.cons (Refs.of_eq (intO_eq e1)) RefsL.nil)) hrun
      simp only [Option.some.injEq] at e
      subst e
      exact ⟨_, hK, hs⟩
    | inr z =>
      obtain ⟨out, e, hs⟩ := sim_of_run Try.func47 (by kernel_rfl) mixed (gamOf_cons (elf_reader_word.ok k) elf_reader_word.callable (gamOf_cons (elf_must.ok) elf_must.callable (gamOf_cons (slices_Clone_byte_byte.ok) slices_Clone_byte_byte.callable (gamOf_cons (elf_segment.ok) elf_segment.callable (gamOf_cons (elf_reader_holds.ok) elf_reader_holds.callable (gamOf_nil _)))))) (lamOf_cons (elf_reader_segment.q0.ok k) (lamOf_nil _ _)) (args' := [(T62.av x0), (.val (.int .u64 x1))]) (RefsL.cons (T62.refs e0) (RefsL.cons (Refs.of_eq (intO_eq e1)) RefsL.nil)) hrun
      simp only [Option.some.injEq] at e
      subst e
      exact ⟨_, hK, hs⟩
  · cases h
/-! ### internal/stringslite.IndexByte: function 73 (by hand) -/
def stringslite_IndexByte.f (x0 : ByteArray) (x1 : Int) : Option Int := some (firstIdx x0 x1.toNat.toUInt8)
def stringslite_IndexByte.g : GFun := fun β args K => match args with
  | [a0, a1] => (strO a0).bind fun x0 => (intO .u8 a1).bind fun x1 => (stringslite_IndexByte.f x0 x1).bind fun r => K (.ret (.val (.int .i64 r)))
  | _ => none
theorem stringslite_IndexByte.callable : callable Try.prog 73 = true := callable_of Try.func73 (by kernel_rfl)
theorem stringslite_IndexByte.calls (s : ByteArray) (c : Int) (w : World) :
    Calls Try.prog 73 #[.string s, .int .u8 c] w fun e w' => e = .returned (.int .i64 (firstIdx s c.toNat.toUInt8)) ∧ w' = w := by
  go_enter Try.func73, Try.ntmps73
  go_wp2
  rw [run_callFunc_extern Try.func77 (by kernel_rfl) (by kernel_rfl) (by kernel_rfl) (e := Extern.BytealgIndexByte.indexByte) (by kernel_rfl), run_indexByte_string]
  simp only [Result.andThen]
  rw [Oper.upon_value]
  go_wp2
  go_ret
  exact ⟨rfl, rfl⟩
theorem stringslite_IndexByte.ok : GOk Try.prog 73 stringslite_IndexByte.g := by
  intro β args K r h
  unfold stringslite_IndexByte.g at h
  split at h
  · obtain ⟨x0, e0, h⟩ := bs h
    have ⟨x1, e1, h⟩ := bs h
    refine ⟨_, h, ?_⟩
    rw [strO_eq e0, intO_eq e1]
    intro w ban vs hban hc
    obtain ⟨hl, hr⟩ := hc
    rcases vs with _ | ⟨u0, _ | ⟨u1, _ | ⟨u2, vs⟩⟩⟩ <;> simp at hl
    have q0 : u0 = _ := (hr 0).inv_val
    have q1 : u1 = _ := (hr 1).inv_val
    subst q0; subst q1
    refine (stringslite_IndexByte.calls x0 x1 w).mono fun e w' he => ?_
    obtain ⟨rfl, rfl⟩ := he
    exact ⟨⟨⟨rfl, rfl, rfl, Nat.le_refl _, fun _ _ => rfl⟩, fun B hB cur t fr h => absurd (Array.getElem?_eq_some_iff.1 h).1 (Nat.not_lt.2 hB)⟩, _, rfl, .val _⟩
  · cases h

/-! ### internal/stringslite.Index: function 72 -/
def stringslite_Index.f (x0 : ByteArray) (x1 : Unit) : Option (Int) := (bif ((⟨#[0]⟩ : ByteArray).toList == x0.toList) then (some 0) else ((stringslite_IndexByte.f x0 0).bind fun r1 => (some r1)))
theorem stringslite_Index.run (x0 : ByteArray) (x1 : Unit) : runF Try.prog (gamOf [(73, stringslite_IndexByte.g)]) noLam Try.f72 [(.val (.string x0)), (.val (.string (⟨#[0]⟩ : ByteArray)))] some = (stringslite_Index.f x0 x1).bind fun r => some (.ret (.val (.int .i64 r))) := by
  unfold stringslite_Index.f
  try simp only [cond_bind, elim_bind, Option.bind_some, Option.bind_none, Option.bind_assoc, Sum.elim_inl, Sum.elim_inr]
  kernel_rfl
def stringslite_Index.g : GFun := fun β args K => match args with
  | [a0, a1] => (strO a0).bind fun x0 => (constO (⟨#[0]⟩ : ByteArray) a1).bind fun x1 => (stringslite_Index.f x0 x1).bind fun r => K (.ret (.val (.int .i64 r)))
  | _ => none
theorem stringslite_Index.callable : callable Try.prog 72 = true := callable_of Try.func72 (by kernel_rfl)
theorem stringslite_Index.ok : GOk Try.prog 72 (stringslite_Index.g) := by
  intro β args K r h
  unfold stringslite_Index.g at h
  split at h
  · obtain ⟨x0, e0, h⟩ := bs h
    have ⟨x1, e1, h⟩ := bs h
    obtain ⟨y, hy, hK⟩ := bs h
    have hrun := stringslite_Index.run x0 x1
    rw [hy] at hrun
    obtain ⟨out, e, hs⟩ := sim_of_run Try.func72 (by kernel_rfl) mixed (gamOf_cons (stringslite_IndexByte.ok) stringslite_IndexByte.callable (gamOf_nil _)) (noLam_ok _ _) (args' := [(.val (.string x0)), (.val (.string (⟨#[0]⟩ : ByteArray)))]) (RefsL.cons (Refs.of_eq (strO_eq e0)) (RefsL.cons (Refs.of_eq (constO_eq e1)) RefsL.nil)) hrun
    simp only [Option.some.injEq] at e
    subst e
    exact ⟨_, hK, hs⟩
  · cases h
/-! ### internal/stringslite.Cut: function 71 -/
def stringslite_Cut.f (x0 : ByteArray) (x1 : Unit) : Option (ByteArray × ByteArray × Bool) := ((stringslite_Index.f x0 ()).bind fun r1 => (bif (decide (r1 ≥ 0)) then (bif (decide (0 ≤ r1) && decide (r1 ≤ (((x0).size : Nat) : Int))) then (bif (decide (0 ≤ (IntKind.wrap .i64 (r1 + 1))) && decide ((IntKind.wrap .i64 (r1 + 1)) ≤ (((x0).size : Nat) : Int))) then (some ((ByteArray.extract x0 0 ((r1).toNat)), (ByteArray.extract x0 (((IntKind.wrap .i64 (r1 + 1))).toNat) ((x0).size)), true)) else none) else none) else (some (x0, (⟨#[]⟩ : ByteArray), false))))
theorem stringslite_Cut.run (x0 : ByteArray) (x1 : Unit) : runF Try.prog (gamOf [(72, stringslite_Index.g)]) noLam Try.f71 [(.val (.string x0)), (.val (.string (⟨#[0]⟩ : ByteArray)))] some = (stringslite_Cut.f x0 x1).bind fun r => some (.ret (.tup [(.val (.string r.1)), (.val (.string r.2.1)), (.val (.bool r.2.2))])) := by
  unfold stringslite_Cut.f
  try simp only [cond_bind, elim_bind, Option.bind_some, Option.bind_none, Option.bind_assoc, Sum.elim_inl, Sum.elim_inr]
  kernel_rfl
def stringslite_Cut.g : GFun := fun β args K => match args with
  | [a0, a1] => (strO a0).bind fun x0 => (constO (⟨#[0]⟩ : ByteArray) a1).bind fun x1 => (stringslite_Cut.f x0 x1).bind fun r => K (.ret (.tup [(.val (.string r.1)), (.val (.string r.2.1)), (.val (.bool r.2.2))]))
  | _ => none
theorem stringslite_Cut.callable : callable Try.prog 71 = true := callable_of Try.func71 (by kernel_rfl)
theorem stringslite_Cut.ok : GOk Try.prog 71 (stringslite_Cut.g) := by
  intro β args K r h
  unfold stringslite_Cut.g at h
  split at h
  · obtain ⟨x0, e0, h⟩ := bs h
    have ⟨x1, e1, h⟩ := bs h
    obtain ⟨y, hy, hK⟩ := bs h
    have hrun := stringslite_Cut.run x0 x1
    rw [hy] at hrun
    obtain ⟨out, e, hs⟩ := sim_of_run Try.func71 (by kernel_rfl) mixed (gamOf_cons (stringslite_Index.ok) stringslite_Index.callable (gamOf_nil _)) (noLam_ok _ _) (args' := [(.val (.string x0)), (.val (.string (⟨#[0]⟩ : ByteArray)))]) (RefsL.cons (Refs.of_eq (strO_eq e0)) (RefsL.cons (Refs.of_eq (constO_eq e1)) RefsL.nil)) hrun
    simp only [Option.some.injEq] at e
    subst e
    exact ⟨_, hK, hs⟩
  · cases h
/-! ### strings.Cut: function 69 -/
def strings_Cut.f (x0 : ByteArray) (x1 : Unit) : Option (ByteArray × ByteArray × Bool) := ((stringslite_Cut.f x0 ()).bind fun r1 => (some (r1.1, r1.2.1, r1.2.2)))
theorem strings_Cut.run (x0 : ByteArray) (x1 : Unit) : runF Try.prog (gamOf [(71, stringslite_Cut.g)]) noLam Try.f69 [(.val (.string x0)), (.val (.string (⟨#[0]⟩ : ByteArray)))] some = (strings_Cut.f x0 x1).bind fun r => some (.ret (.tup [(.val (.string r.1)), (.val (.string r.2.1)), (.val (.bool r.2.2))])) := by
  unfold strings_Cut.f
  try simp only [cond_bind, elim_bind, Option.bind_some, Option.bind_none, Option.bind_assoc, Sum.elim_inl, Sum.elim_inr]
  kernel_rfl
def strings_Cut.g : GFun := fun β args K => match args with
  | [a0, a1] => (strO a0).bind fun x0 => (constO (⟨#[0]⟩ : ByteArray) a1).bind fun x1 => (strings_Cut.f x0 x1).bind fun r => K (.ret (.tup [(.val (.string r.1)), (.val (.string r.2.1)), (.val (.bool r.2.2))]))
  | _ => none
theorem strings_Cut.callable : callable Try.prog 69 = true := callable_of Try.func69 (by kernel_rfl)
theorem strings_Cut.ok : GOk Try.prog 69 (strings_Cut.g) := by
  intro β args K r h
  unfold strings_Cut.g at h
  split at h
  · obtain ⟨x0, e0, h⟩ := bs h
    have ⟨x1, e1, h⟩ := bs h
    obtain ⟨y, hy, hK⟩ := bs h
    have hrun := strings_Cut.run x0 x1
    rw [hy] at hrun
    obtain ⟨out, e, hs⟩ := sim_of_run Try.func69 (by kernel_rfl) mixed (gamOf_cons (stringslite_Cut.ok) stringslite_Cut.callable (gamOf_nil _)) (noLam_ok _ _) (args' := [(.val (.string x0)), (.val (.string (⟨#[0]⟩ : ByteArray)))]) (RefsL.cons (Refs.of_eq (strO_eq e0)) (RefsL.cons (Refs.of_eq (constO_eq e1)) RefsL.nil)) hrun
    simp only [Option.some.injEq] at e
    subst e
    exact ⟨_, hK, hs⟩
  · cases h
/-! ### (atlas/elf.reader).named: function 65 -/
def elf_reader_named.q0.h : Head (Int × Int × ByteArray × Int × (List Int) × SyL × (List (ByteArray × Int))) where
  k γ s F := (sizedN 69 s).bind fun _ => (intO .u64 (gt s.tm 1)).bind fun v2 => (intO .u64 (gt s.tm 2)).bind fun v4 => (strO (gt s.tm 3)).bind fun v6 => (ptrN 0 (gt s.tm 4)).bind fun b8 => (soN 2 s.hp (gt s.tm 9)).bind fun b10 => (mppN (gt s.tm 10)).bind fun b12 => (intO .u64 (gt s.tm 11)).bind fun v14 => (rowN 80 1 s.hp b8).bind fun l16 => (vtO (.int .u8) (gt l16 0)).bind fun v18 => (rtN SyC 48 s.hp b10).bind fun v20 => (mpN .str (.int .i64) s.hp b12).bind fun l22 => (distO [some b8, b10, some b12]).bind fun _ => F (v2, v4, v6, v14, v18, v20, l22)
  st x := ⟨sparseT [(1, (.val (.int .u64 x.1))), (2, (.val (.int .u64 x.2.1))), (3, (.val (.string x.2.2.1))), (4, (.ptr 0 0)), (9, (.so 1 2)), (10, (.mpp 2)), (11, (.val (.int .u64 x.2.2.2.1)))] 69 0, [.row [(.vt (.int .u8) x.2.2.2.2.1)] 80 true, .rt SyC x.2.2.2.2.2.1 48, .ob (.mp .str (.int .i64) x.2.2.2.2.2.2)]⟩
  ok γ s F r h := by
    have ⟨_, hz, h⟩ := bs h
    have ⟨v2, h1, h⟩ := bs h
    have ⟨v4, h3, h⟩ := bs h
    have ⟨v6, h5, h⟩ := bs h
    have ⟨b8, h7, h⟩ := bs h
    have ⟨b10, h9, h⟩ := bs h
    have ⟨b12, h11, h⟩ := bs h
    have ⟨v14, h13, h⟩ := bs h
    have ⟨l16, h15, h⟩ := bs h
    have ⟨v18, h17, h⟩ := bs h
    have ⟨v20, h19, h⟩ := bs h
    have ⟨l22, h21, h⟩ := bs h
    have ⟨_, h23, h⟩ := bs h
    exact ⟨_, h, weak_ren (l := [some b8, b10, some b12]) (sizedN_ok hz) (distO_ok h23) (LiveR.cons (pI h1) (LiveR.cons (pI h3) (LiveR.cons (pS h5) (LiveR.cons (RefsR.ptr (l := [some b8, b10, some b12]) (i := 0) rfl (ptrN_eq h7)) (LiveR.cons (RefsR.so (l := [some b8, b10, some b12]) (i := 1) rfl (Nat.le_of_ble_eq_true rfl) h9) (LiveR.cons (RefsR.mpp (l := [some b8, b10, some b12]) (i := 2) rfl (mppN_eq h11)) (LiveR.cons (pI h13) LiveR.nil))))))) (BlksR.cons (rowN_refs h15 rfl (GtRefsR.cons (pV h17) GtRefsR.nil) rfl) (BlksR.cons (rtN_blk h19) (BlksR.cons (mpN_blk h21) BlksR.nil)))⟩

def elf_reader_named.q0.x0 : Head (Unit) where
  k γ s F := (sizedN 69 s).bind fun _ => (distO []).bind fun _ => F ()
  st x := ⟨sparseT [] 69 0, []⟩
  ok γ s F r h := by
    have ⟨_, hz, h⟩ := bs h
    have ⟨_, h1, h⟩ := bs h
    exact ⟨_, h, weak_ren (l := []) (sizedN_ok hz) (distO_ok h1) LiveR.nil BlksR.nil⟩

def elf_reader_named.q0.x1 : Head (SyL) where
  k γ s F := (sizedN 69 s).bind fun _ => (soN 2 s.hp (gt s.tm 9)).bind fun b2 => (rtN SyC 48 s.hp b2).bind fun v4 => (distO [b2]).bind fun _ => F (v4)
  st x := ⟨sparseT [(9, (.so 0 2))] 69 0, [.rt SyC x 48]⟩
  ok γ s F r h := by
    have ⟨_, hz, h⟩ := bs h
    have ⟨b2, h1, h⟩ := bs h
    have ⟨v4, h3, h⟩ := bs h
    have ⟨_, h5, h⟩ := bs h
    exact ⟨_, h, weak_ren (l := [b2]) (sizedN_ok hz) (distO_ok h5) (LiveR.cons (RefsR.so (l := [b2]) (i := 0) rfl (Nat.le_of_ble_eq_true rfl) h1) LiveR.nil) (BlksR.cons (rtN_blk h3) BlksR.nil)⟩

def elf_reader_named.q0.t : Tail ((T77 × (Unit)) ⊕ (SyL)) := Tail.pan (fun v => (ifaceO 78 v).bind T77.of) (fun x => .iface 78 (T77.av x)) (fun v x h => by obtain ⟨y, h1, h2⟩ := bs h; exact ifaceO_refs h1 (T77.refs h2)) elf_reader_named.q0.x0 (Tail.one (.exit 0) elf_reader_named.q0.x1)
theorem elf_reader_named.q0.np (y : ((T77 × (Unit)) ⊕ (SyL))) (v : AV) : (elf_reader_named.q0.t.out y).1 = .panic v → nomem v = true := fun h => by rcases y with _ | y <;> first | (cases h; done) | (cases h; rfl) | (cases h)
theorem elf_reader_named.q0.nn (y : ((T77 × (Unit)) ⊕ (SyL))) : (elf_reader_named.q0.t.out y).1 ≠ .normal := fun h => by rcases y with _ | y <;> first | (cases h; done) | (cases h; rfl) | (cases h)
def elf_reader_named.q0.l (k : Nat) : Nat → (Int × Int × ByteArray × Int × (List Int) × SyL × (List (ByteArray × Int))) → Option ((T77 × (Unit)) ⊕ (SyL))
  | 0, _ => none
  | n + 1, x => (bif (decide (x.2.2.2.1 < x.2.1)) then ((elf_reader_word.f k (⟨x.2.2.2.2.1⟩ : T62) (IntKind.wrap .u64 (x.1 + (IntKind.wrap .u64 (x.2.2.2.1 * 16))))).bind fun r1 => ((elf_must.f (decide ((IntKind.wrap .u64 r1) < (IntKind.wrap .u64 ((x.2.2.1).size : Int)))) 238).bind fun r2 => (Sum.elim (fun r4 => (some (Sum.inl ((⟨r4.f0_e⟩ : T77), ())))) (fun r3 => (bif (decide (0 ≤ (IntKind.wrap .u64 r1)) && decide ((IntKind.wrap .u64 r1) ≤ (((x.2.2.1).size : Nat) : Int))) then ((strings_Cut.f (ByteArray.extract x.2.2.1 (((IntKind.wrap .u64 r1)).toNat) ((x.2.2.1).size)) ()).bind fun r5 => (bif r5.2.2 then ((words_Name.f k r5.1).bind fun r6 => (bif r6 then ((elf_must.f ((optD (mpGet .str (.int .i64) x.2.2.2.2.2.2 r5.1) 0) == 0) 238).bind fun r7 => (Sum.elim (fun r9 => (some (Sum.inl ((⟨r9.f0_e⟩ : T77), ())))) (fun r8 => ((elf_reader_word.f k (⟨x.2.2.2.2.1⟩ : T62) (IntKind.wrap .u64 ((IntKind.wrap .u64 (x.1 + (IntKind.wrap .u64 (x.2.2.2.1 * 16)))) + 4))).bind fun r10 => (bif (decide ((x.2.2.2.2.2.1 ++ ([(r5.1, r10, ())] : List (ByteArray × Int × Unit))).length ≤ maxLen) && decide ((x.2.2.2.2.2.1 ++ ([(r5.1, r10, ())] : List (ByteArray × Int × Unit))).length * 24 ≤ 211106232532992)) then (elf_reader_named.q0.l k n (x.1, x.2.1, x.2.2.1, (IntKind.wrap .u64 (x.2.2.2.1 + 1)), x.2.2.2.2.1, (x.2.2.2.2.2.1 ++ ([(r5.1, r10, ())] : List (ByteArray × Int × Unit))), (mpPut .str (.int .i64) x.2.2.2.2.2.2 r5.1 1))) else none))) r7)) else ((elf_must.f false 238).bind fun r11 => (Sum.elim (fun r13 => (some (Sum.inl ((⟨r13.f0_e⟩ : T77), ())))) (fun r12 => ((elf_reader_word.f k (⟨x.2.2.2.2.1⟩ : T62) (IntKind.wrap .u64 ((IntKind.wrap .u64 (x.1 + (IntKind.wrap .u64 (x.2.2.2.1 * 16)))) + 4))).bind fun r14 => (bif (decide ((x.2.2.2.2.2.1 ++ ([(r5.1, r14, ())] : List (ByteArray × Int × Unit))).length ≤ maxLen) && decide ((x.2.2.2.2.2.1 ++ ([(r5.1, r14, ())] : List (ByteArray × Int × Unit))).length * 24 ≤ 211106232532992)) then (elf_reader_named.q0.l k n (x.1, x.2.1, x.2.2.1, (IntKind.wrap .u64 (x.2.2.2.1 + 1)), x.2.2.2.2.1, (x.2.2.2.2.2.1 ++ ([(r5.1, r14, ())] : List (ByteArray × Int × Unit))), (mpPut .str (.int .i64) x.2.2.2.2.2.2 r5.1 1))) else none))) r11)))) else ((elf_must.f false 238).bind fun r15 => (Sum.elim (fun r17 => (some (Sum.inl ((⟨r17.f0_e⟩ : T77), ())))) (fun r16 => ((elf_reader_word.f k (⟨x.2.2.2.2.1⟩ : T62) (IntKind.wrap .u64 ((IntKind.wrap .u64 (x.1 + (IntKind.wrap .u64 (x.2.2.2.1 * 16)))) + 4))).bind fun r18 => (bif (decide ((x.2.2.2.2.2.1 ++ ([(r5.1, r18, ())] : List (ByteArray × Int × Unit))).length ≤ maxLen) && decide ((x.2.2.2.2.2.1 ++ ([(r5.1, r18, ())] : List (ByteArray × Int × Unit))).length * 24 ≤ 211106232532992)) then (elf_reader_named.q0.l k n (x.1, x.2.1, x.2.2.1, (IntKind.wrap .u64 (x.2.2.2.1 + 1)), x.2.2.2.2.1, (x.2.2.2.2.2.1 ++ ([(r5.1, r18, ())] : List (ByteArray × Int × Unit))), (mpPut .str (.int .i64) x.2.2.2.2.2.2 r5.1 1))) else none))) r15)))) else none)) r2))) else (some (Sum.inr x.2.2.2.2.2.1)))
theorem elf_reader_named.q0.z (k : Nat) (x : (Int × Int × ByteArray × Int × (List Int) × SyL × (List (ByteArray × Int)))) : elf_reader_named.q0.l k 0 x = none := rfl
theorem elf_reader_named.q0.at : codeAt (bodyOf Try.f65) [false, true, false, true, true, true] = some (.loop (loopBody (bodyOf Try.f65) [false, true, false, true, true, true])) := by kernel_rfl
theorem elf_reader_named.q0.goes (k n : Nat) (x : (Int × Int × ByteArray × Int × (List Int) × SyL × (List (ByteArray × Int)))) : E Try.prog (gamOf [(45, elf_reader_word.g k), (43, elf_must.g), (69, strings_Cut.g), (24, words_Name.g k)]) (lamOf []) (loopBody (bodyOf Try.f65) [false, true, false, true, true, true]) (false :: [false, true, false, true, true, true]) (elf_reader_named.q0.h.st x) (contD elf_reader_named.q0.h elf_reader_named.q0.t (elf_reader_named.q0.l k n) some) = elf_reader_named.q0.l k (n + 1) x := by
  kernel_rfl
theorem elf_reader_named.q0.ok_ (k : Nat) : PieceOk Try.prog (bodyOf Try.f65) ⟨[false, true, false, true, true, true], _, _, elf_reader_named.q0.h, elf_reader_named.q0.t, elf_reader_named.q0.l k k⟩ :=
  piece_loop (gamOf_cons (elf_reader_word.ok k) elf_reader_word.callable (gamOf_cons (elf_must.ok) elf_must.callable (gamOf_cons (strings_Cut.ok) strings_Cut.callable (gamOf_cons (words_Name.ok k) words_Name.callable (gamOf_nil _))))) (lamOf_nil _ _) mixed elf_reader_named.q0.at elf_reader_named.q0.np elf_reader_named.q0.nn (elf_reader_named.q0.z k) (elf_reader_named.q0.goes k) k
def elf_reader_named.q0.p (k : Nat) : Piece := ⟨[false, true, false, true, true, true], _, _, elf_reader_named.q0.h, elf_reader_named.q0.t, elf_reader_named.q0.l k k⟩
theorem elf_reader_named.q0.ok (k : Nat) : PieceOk Try.prog (bodyOf Try.f65) (elf_reader_named.q0.p k) := elf_reader_named.q0.ok_ k
def elf_reader_named.f (k : Nat) (x0 : T62) (x1 : Int) (x2 : Int) (x3 : ByteArray) : Option (T77 ⊕ (SyL)) := ((elf_reader_named.q0.l k k (x1, x2, x3, 1, x0.f0_b, ([] : List (ByteArray × Int × Unit)), ([] : List (ByteArray × Int)))).bind fun r19 => (Sum.elim (fun r20 => (some (Sum.inl (⟨r20.1.f0_e⟩ : T77)))) (fun r21 => (some (Sum.inr r21))) r19))
theorem elf_reader_named.run (k : Nat) (x0 : T62) (x1 : Int) (x2 : Int) (x3 : ByteArray) : runF Try.prog (gamOf [(45, elf_reader_word.g k), (43, elf_must.g), (69, strings_Cut.g), (24, words_Name.g k)]) (lamOf [elf_reader_named.q0.p k]) Try.f65 [(T62.av x0), (.val (.int .u64 x1)), (.val (.int .u64 x2)), (.val (.string x3))] some = (elf_reader_named.f k x0 x1 x2 x3).bind fun r => Sum.elim (fun e => some (.pan (.iface 78 (T77.av e)))) (fun r => some (.ret (.vt SyC r))) r := by
  unfold elf_reader_named.f
  try simp only [cond_bind, elim_bind, Option.bind_some, Option.bind_none, Option.bind_assoc, Sum.elim_inl, Sum.elim_inr]
  kernel_rfl
def elf_reader_named.g (k : Nat) : GFun := fun β args K => match args with
  | [a0, a1, a2, a3] => (T62.of a0).bind fun x0 => (intO .u64 a1).bind fun x1 => (intO .u64 a2).bind fun x2 => (strO a3).bind fun x3 => (elf_reader_named.f k x0 x1 x2 x3).bind fun r => Sum.elim (fun e => K (.pan (.iface 78 (T77.av e)))) (fun r => K (.ret (.vt SyC r))) r
  | _ => none
theorem elf_reader_named.callable : callable Try.prog 65 = true := callable_of Try.func65 (by kernel_rfl)
theorem elf_reader_named.ok (k : Nat) : GOk Try.prog 65 (elf_reader_named.g k) := by
  intro β args K r h
  unfold elf_reader_named.g at h
  split at h
  · obtain ⟨x0, e0, h⟩ := bs h
    have ⟨x1, e1, h⟩ := bs h
    have ⟨x2, e2, h⟩ := bs h
    have ⟨x3, e3, h⟩ := bs h
    obtain ⟨y, hy, hK⟩ := bs h
    have hrun := elf_reader_named.run k x0 x1 x2 x3
    rw [hy] at hrun
    cases y with
    | inl z =>
      obtain ⟨out, e, hs⟩ := sim_of_run Try.func65 (by kernel_rfl) mixed (gamOf_cons (elf_reader_word.ok k) elf_reader_word.callable (gamOf_cons (elf_must.ok) elf_must.callable (gamOf_cons (strings_Cut.ok) strings_Cut.callable (gamOf_cons (words_Name.ok k) words_Name.callable (gamOf_nil _))))) (lamOf_cons (elf_reader_named.q0.ok k) (lamOf_nil _ _)) (args' := [(T62.av x0), (.val (.int .u64 x1)), (.val (.int .u64 x2)), (.val (.string x3))]) (RefsL.cons (T62.refs e0) (RefsL.cons (Refs.of_eq (intO_eq e1)) (RefsL.cons (Refs.of_eq (intO_eq e2)) (RefsL.cons (Refs.of_eq (strO_eq e3)) RefsL.nil)))) hrun
      simp only [Option.some.injEq] at e
      subst e
      exact ⟨_, hK, hs⟩
    | inr z =>
      obtain ⟨out, e, hs⟩ := sim_of_run Try.func65 (by kernel_rfl) mixed (gamOf_cons (elf_reader_word.ok k) elf_reader_word.callable (gamOf_cons (elf_must.ok) elf_must.callable (gamOf_cons (strings_Cut.ok) strings_Cut.callable (gamOf_cons (words_Name.ok k) words_Name.callable (gamOf_nil _))))) (lamOf_cons (elf_reader_named.q0.ok k) (lamOf_nil _ _)) (args' := [(T62.av x0), (.val (.int .u64 x1)), (.val (.int .u64 x2)), (.val (.string x3))]) (RefsL.cons (T62.refs e0) (RefsL.cons (Refs.of_eq (intO_eq e1)) (RefsL.cons (Refs.of_eq (intO_eq e2)) (RefsL.cons (Refs.of_eq (strO_eq e3)) RefsL.nil)))) hrun
      simp only [Option.some.injEq] at e
      subst e
      exact ⟨_, hK, hs⟩
  · cases h
end Go.Va
