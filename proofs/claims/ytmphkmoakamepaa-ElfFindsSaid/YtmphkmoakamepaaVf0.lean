-- Written by a program of this session (wip/va/vaprint.py). Not trusted: Lean checks it.
import Derived.Test.YtmphkmoakamepaaVaTy
set_option linter.unusedVariables false
set_option linter.unusedSimpArgs false
set_option autoImplicit false
set_option maxRecDepth 100000
namespace Go.Va
open Go.Proofs
/-! ### atlas/elf.Find: function 10 -/
def elf_Find.q0.h : Head (ByteArray × (List (ByteArray × Int × Unit)) × Int × Int) where
  k γ s F := (sizedN 22 s).bind fun _ => (strO (gt s.tm 1)).bind fun v2 => (vtO (.pair .str (.pair (.int .u32) .unit)) (gt s.tm 9)).bind fun v4 => (intO .i64 (gt s.tm 10)).bind fun v6 => (intO .i64 (gt s.tm 11)).bind fun v8 => (distO []).bind fun _ => F (v2, v4, v6, v8)
  st x := ⟨sparseT [(1, (.val (.string x.1))), (9, (.vt (.pair .str (.pair (.int .u32) .unit)) x.2.1)), (10, (.val (.int .i64 x.2.2.1))), (11, (.val (.int .i64 x.2.2.2)))] 22 0, []⟩
  ok γ s F r h := by
    obtain ⟨_, hz, h⟩ := Option.bind_eq_some_iff.1 h
    obtain ⟨v2, h1, h⟩ := Option.bind_eq_some_iff.1 h
    obtain ⟨v4, h3, h⟩ := Option.bind_eq_some_iff.1 h
    obtain ⟨v6, h5, h⟩ := Option.bind_eq_some_iff.1 h
    obtain ⟨v8, h7, h⟩ := Option.bind_eq_some_iff.1 h
    obtain ⟨_, h9, h⟩ := Option.bind_eq_some_iff.1 h
    exact ⟨_, h, weak_ren (l := []) (sizedN_ok hz) (distO_ok h9) (LiveR.cons (RefsR.plain (Refs.of_eq (strO_eq h1)) rfl) (LiveR.cons (RefsR.plain (vtO_refs h3) rfl) (LiveR.cons (RefsR.plain (Refs.of_eq (intO_eq h5)) rfl) (LiveR.cons (RefsR.plain (Refs.of_eq (intO_eq h7)) rfl) LiveR.nil)))) BlksR.nil⟩

def elf_Find.q0.x0 : Head (Int × Bool) where
  k γ s F := (sizedN 22 s).bind fun _ => (intO .u32 (gt s.tm 4)).bind fun v2 => (boolO (gt s.tm 5)).bind fun v4 => (distO []).bind fun _ => F (v2, v4)
  st x := ⟨sparseT [(4, (.val (.int .u32 x.1))), (5, (.val (.bool x.2)))] 22 0, []⟩
  ok γ s F r h := by
    obtain ⟨_, hz, h⟩ := Option.bind_eq_some_iff.1 h
    obtain ⟨v2, h1, h⟩ := Option.bind_eq_some_iff.1 h
    obtain ⟨v4, h3, h⟩ := Option.bind_eq_some_iff.1 h
    obtain ⟨_, h5, h⟩ := Option.bind_eq_some_iff.1 h
    exact ⟨_, h, weak_ren (l := []) (sizedN_ok hz) (distO_ok h5) (LiveR.cons (RefsR.plain (Refs.of_eq (intO_eq h1)) rfl) (LiveR.cons (RefsR.plain (Refs.of_eq (boolO_eq h3)) rfl) LiveR.nil)) BlksR.nil⟩

def elf_Find.q0.x1 : Head (Unit) where
  k γ s F := (sizedN 22 s).bind fun _ => (distO []).bind fun _ => F ()
  st x := ⟨sparseT [] 22 0, []⟩
  ok γ s F r h := by
    obtain ⟨_, hz, h⟩ := Option.bind_eq_some_iff.1 h
    obtain ⟨_, h1, h⟩ := Option.bind_eq_some_iff.1 h
    exact ⟨_, h, weak_ren (l := []) (sizedN_ok hz) (distO_ok h1) LiveR.nil BlksR.nil⟩

def elf_Find.q0.t : Tail ((Int × Bool) ⊕ (Unit)) := Tail.or .ret elf_Find.q0.x0 (Tail.one (.exit 0) elf_Find.q0.x1)
theorem elf_Find.q0.np (y : ((Int × Bool) ⊕ (Unit))) (v : AV) : (elf_Find.q0.t.out y).1 ≠ .panic v := fun h => by rcases y with _ | y <;> first | (cases h; done) | (cases h)
theorem elf_Find.q0.nn (y : ((Int × Bool) ⊕ (Unit))) : (elf_Find.q0.t.out y).1 ≠ .normal := fun h => by rcases y with _ | y <;> first | (cases h; done) | (cases h)
def elf_Find.q0.l (k : Nat) : Nat → (ByteArray × (List (ByteArray × Int × Unit)) × Int × Int) → Option ((Int × Bool) ⊕ (Unit))
  | 0, _ => none
  | n + 1, x => (bif (decide (x.2.2.2 < x.2.2.1)) then (bif (decide (0 ≤ x.2.2.2) && decide (x.2.2.2 < ((x.2.1.length : Nat) : Int))) then (bif (((x.2.1.getD (x.2.2.2).toNat (ByteArray.empty, 0, ())).1).toList == x.1.toList) then (some (Sum.inl ((x.2.1.getD (x.2.2.2).toNat (ByteArray.empty, 0, ())).2.1, true))) else (elf_Find.q0.l k n (x.1, x.2.1, x.2.2.1, (IntKind.wrap .i64 (x.2.2.2 + 1))))) else none) else (some (Sum.inr ())))
theorem elf_Find.q0.z (k : Nat) (x : (ByteArray × (List (ByteArray × Int × Unit)) × Int × Int)) : elf_Find.q0.l k 0 x = none := rfl
theorem elf_Find.q0.at : codeAt (bodyOf Try.f10) [false, true, false, true] = some (.loop (loopBody (bodyOf Try.f10) [false, true, false, true])) := by kernel_rfl
theorem elf_Find.q0.goes (k n : Nat) (x : (ByteArray × (List (ByteArray × Int × Unit)) × Int × Int)) : E Try.prog (gamOf []) (lamOf []) (loopBody (bodyOf Try.f10) [false, true, false, true]) (false :: [false, true, false, true]) (elf_Find.q0.h.st x) (contD elf_Find.q0.h elf_Find.q0.t (elf_Find.q0.l k n) some) = elf_Find.q0.l k (n + 1) x := by
  kernel_rfl
theorem elf_Find.q0.ok_ (k : Nat) : PieceOk Try.prog (bodyOf Try.f10) ⟨[false, true, false, true], _, _, elf_Find.q0.h, elf_Find.q0.t, elf_Find.q0.l k k⟩ :=
  piece_loop (gamOf_nil _) (lamOf_nil _ _) mixed elf_Find.q0.at elf_Find.q0.np elf_Find.q0.nn (elf_Find.q0.z k) (elf_Find.q0.goes k) k
def elf_Find.q0.p (k : Nat) : Piece := ⟨[false, true, false, true], _, _, elf_Find.q0.h, elf_Find.q0.t, elf_Find.q0.l k k⟩
theorem elf_Find.q0.ok (k : Nat) : PieceOk Try.prog (bodyOf Try.f10) (elf_Find.q0.p k) := elf_Find.q0.ok_ k
def elf_Find.f (k : Nat) (x0 : T25) (x1 : ByteArray) : Option (Int × Bool) := ((elf_Find.q0.l k k (x1, x0.f2_Symbols, ((x0.f2_Symbols.length : Nat) : Int), 0)).bind fun r1 => (Sum.elim (fun r2 => (some (r2.1, r2.2))) (fun r3 => (some (0, false))) r1))
theorem elf_Find.run (k : Nat) (x0 : T25) (x1 : ByteArray) : runF Try.prog (gamOf []) (lamOf [elf_Find.q0.p k]) Try.f10 [(T25.av x0), (.val (.string x1))] some = (elf_Find.f k x0 x1).bind fun r => some (.ret (.tup [(.val (.int .u32 r.1)), (.val (.bool r.2))])) := by
  unfold elf_Find.f
  try simp only [cond_bind, elim_bind, Option.bind_some, Option.bind_none, Option.bind_assoc]
  kernel_rfl
def elf_Find.g (k : Nat) : GFun := fun β args K => match args with
  | [a0, a1] => (T25.of a0).bind fun x0 => (strO a1).bind fun x1 => (elf_Find.f k x0 x1).bind fun r => K (.ret (.tup [(.val (.int .u32 r.1)), (.val (.bool r.2))]))
  | _ => none
theorem elf_Find.callable : callable Try.prog 10 = true := callable_of Try.func10 (by kernel_rfl)
theorem elf_Find.ok (k : Nat) : GOk Try.prog 10 (elf_Find.g k) := by
  intro β args K r h
  unfold elf_Find.g at h
  split at h
  · obtain ⟨x0, e0, h⟩ := Option.bind_eq_some_iff.1 h
    obtain ⟨x1, e1, h⟩ := Option.bind_eq_some_iff.1 h
    obtain ⟨y, hy, hK⟩ := Option.bind_eq_some_iff.1 h
    have hrun := elf_Find.run k x0 x1
    rw [hy] at hrun
    obtain ⟨out, e, hs⟩ := sim_of_run Try.func10 (by kernel_rfl) mixed (gamOf_nil _) (lamOf_cons (elf_Find.q0.ok k) (lamOf_nil _ _)) (args' := [(T25.av x0), (.val (.string x1))]) (RefsL.cons (T25.refs e0) (RefsL.cons (Refs.of_eq (strO_eq e1)) RefsL.nil)) hrun
    simp only [Option.some.injEq] at e
    subst e
    exact ⟨_, hK, hs⟩
  · cases h
/-! ### atlas/atlaslaw23.own: function 11 -/
def atlaslaw23_own.q0.h : Head (Int × Int × (List (Int × Int × (Bool × Bool × Bool × Unit) × (List Int) × Unit)) × (List (ByteArray × Int × Unit)) × Int × Int × (List (Int × Int × (Bool × Bool × Bool × Unit) × (List Int) × Unit)) × (List (ByteArray × Int × Unit)) × (List (Int × Int × (Bool × Bool × Bool × Unit) × (List Int) × Unit)) × (List (ByteArray × Int × Unit))) where
  k γ s F := (sizedN 39 s).bind fun _ => (ptrN 0 (gt s.tm 1)).bind fun b2 => (ptrN 0 (gt s.tm 2)).bind fun b4 => (ptrN 0 (gt s.tm 3)).bind fun b6 => (intO .i64 (gt s.tm 4)).bind fun v8 => (rowN 26 3 s.hp b2).bind fun l10 => (intO .u32 (gt l10 0)).bind fun v12 => (vtO (.pair (.int .u32) (.pair (.int .u32) (.pair (.pair .bool (.pair .bool (.pair .bool .unit))) (.pair (.vec (.int .u8)) .unit)))) (gt l10 1)).bind fun v14 => (vtO (.pair .str (.pair (.int .u32) .unit)) (gt l10 2)).bind fun v16 => (rowN 26 3 s.hp b4).bind fun l18 => (intO .u32 (gt l18 0)).bind fun v20 => (soN 6 s.hp (gt l18 1)).bind fun b22 => (soN 2 s.hp (gt l18 2)).bind fun b24 => (rowN 26 3 s.hp b6).bind fun l26 => (intO .u32 (gt l26 0)).bind fun v28 => (soN 6 s.hp (gt l26 1)).bind fun b30 => (soN 2 s.hp (gt l26 2)).bind fun b32 => (rtN (.pair (.int .u32) (.pair (.int .u32) (.pair (.pair .bool (.pair .bool (.pair .bool .unit))) (.pair (.vec (.int .u8)) .unit)))) 46 s.hp b22).bind fun v34 => (rtN (.pair .str (.pair (.int .u32) .unit)) 48 s.hp b24).bind fun v36 => (rtN (.pair (.int .u32) (.pair (.int .u32) (.pair (.pair .bool (.pair .bool (.pair .bool .unit))) (.pair (.vec (.int .u8)) .unit)))) 46 s.hp b30).bind fun v38 => (rtN (.pair .str (.pair (.int .u32) .unit)) 48 s.hp b32).bind fun v40 => (distO [some b2, some b4, some b6, b22, b24, b30, b32]).bind fun _ => F (v8, v12, v14, v16, v20, v28, v34, v36, v38, v40)
  st x := ⟨sparseT [(1, (.ptr 0 0)), (2, (.ptr 1 0)), (3, (.ptr 2 0)), (4, (.val (.int .i64 x.1)))] 39 0, [.row [(.val (.int .u32 x.2.1)), (.vt (.pair (.int .u32) (.pair (.int .u32) (.pair (.pair .bool (.pair .bool (.pair .bool .unit))) (.pair (.vec (.int .u8)) .unit)))) x.2.2.1), (.vt (.pair .str (.pair (.int .u32) .unit)) x.2.2.2.1)] 26 true, .row [(.val (.int .u32 x.2.2.2.2.1)), (.so 3 6), (.so 4 2)] 26 false, .row [(.val (.int .u32 x.2.2.2.2.2.1)), (.so 5 6), (.so 6 2)] 26 false, .rt (.pair (.int .u32) (.pair (.int .u32) (.pair (.pair .bool (.pair .bool (.pair .bool .unit))) (.pair (.vec (.int .u8)) .unit)))) x.2.2.2.2.2.2.1 46, .rt (.pair .str (.pair (.int .u32) .unit)) x.2.2.2.2.2.2.2.1 48, .rt (.pair (.int .u32) (.pair (.int .u32) (.pair (.pair .bool (.pair .bool (.pair .bool .unit))) (.pair (.vec (.int .u8)) .unit)))) x.2.2.2.2.2.2.2.2.1 46, .rt (.pair .str (.pair (.int .u32) .unit)) x.2.2.2.2.2.2.2.2.2 48]⟩
  ok γ s F r h := by
    obtain ⟨_, hz, h⟩ := Option.bind_eq_some_iff.1 h
    obtain ⟨b2, h1, h⟩ := Option.bind_eq_some_iff.1 h
    obtain ⟨b4, h3, h⟩ := Option.bind_eq_some_iff.1 h
    obtain ⟨b6, h5, h⟩ := Option.bind_eq_some_iff.1 h
    obtain ⟨v8, h7, h⟩ := Option.bind_eq_some_iff.1 h
    obtain ⟨l10, h9, h⟩ := Option.bind_eq_some_iff.1 h
    obtain ⟨v12, h11, h⟩ := Option.bind_eq_some_iff.1 h
    obtain ⟨v14, h13, h⟩ := Option.bind_eq_some_iff.1 h
    obtain ⟨v16, h15, h⟩ := Option.bind_eq_some_iff.1 h
    obtain ⟨l18, h17, h⟩ := Option.bind_eq_some_iff.1 h
    obtain ⟨v20, h19, h⟩ := Option.bind_eq_some_iff.1 h
    obtain ⟨b22, h21, h⟩ := Option.bind_eq_some_iff.1 h
    obtain ⟨b24, h23, h⟩ := Option.bind_eq_some_iff.1 h
    obtain ⟨l26, h25, h⟩ := Option.bind_eq_some_iff.1 h
    obtain ⟨v28, h27, h⟩ := Option.bind_eq_some_iff.1 h
    obtain ⟨b30, h29, h⟩ := Option.bind_eq_some_iff.1 h
    obtain ⟨b32, h31, h⟩ := Option.bind_eq_some_iff.1 h
    obtain ⟨v34, h33, h⟩ := Option.bind_eq_some_iff.1 h
    obtain ⟨v36, h35, h⟩ := Option.bind_eq_some_iff.1 h
    obtain ⟨v38, h37, h⟩ := Option.bind_eq_some_iff.1 h
    obtain ⟨v40, h39, h⟩ := Option.bind_eq_some_iff.1 h
    obtain ⟨_, h41, h⟩ := Option.bind_eq_some_iff.1 h
    exact ⟨_, h, weak_ren (l := [some b2, some b4, some b6, b22, b24, b30, b32]) (sizedN_ok hz) (distO_ok h41) (LiveR.cons (RefsR.ptr (l := [some b2, some b4, some b6, b22, b24, b30, b32]) (i := 0) rfl (ptrN_eq h1)) (LiveR.cons (RefsR.ptr (l := [some b2, some b4, some b6, b22, b24, b30, b32]) (i := 1) rfl (ptrN_eq h3)) (LiveR.cons (RefsR.ptr (l := [some b2, some b4, some b6, b22, b24, b30, b32]) (i := 2) rfl (ptrN_eq h5)) (LiveR.cons (RefsR.plain (Refs.of_eq (intO_eq h7)) rfl) LiveR.nil)))) (BlksR.cons (rowN_refs h9 rfl (GtRefsR.cons (RefsR.plain (Refs.of_eq (intO_eq h11)) rfl) (GtRefsR.cons (RefsR.plain (vtO_refs h13) rfl) (GtRefsR.cons (RefsR.plain (vtO_refs h15) rfl) GtRefsR.nil))) rfl) (BlksR.cons (rowN_refs h17 rfl (GtRefsR.cons (RefsR.plain (Refs.of_eq (intO_eq h19)) rfl) (GtRefsR.cons (RefsR.so (l := [some b2, some b4, some b6, b22, b24, b30, b32]) (i := 3) rfl (Nat.le_of_ble_eq_true rfl) h21) (GtRefsR.cons (RefsR.so (l := [some b2, some b4, some b6, b22, b24, b30, b32]) (i := 4) rfl (Nat.le_of_ble_eq_true rfl) h23) GtRefsR.nil))) rfl) (BlksR.cons (rowN_refs h25 rfl (GtRefsR.cons (RefsR.plain (Refs.of_eq (intO_eq h27)) rfl) (GtRefsR.cons (RefsR.so (l := [some b2, some b4, some b6, b22, b24, b30, b32]) (i := 5) rfl (Nat.le_of_ble_eq_true rfl) h29) (GtRefsR.cons (RefsR.so (l := [some b2, some b4, some b6, b22, b24, b30, b32]) (i := 6) rfl (Nat.le_of_ble_eq_true rfl) h31) GtRefsR.nil))) rfl) (BlksR.cons (rtN_blk h33) (BlksR.cons (rtN_blk h35) (BlksR.cons (rtN_blk h37) (BlksR.cons (rtN_blk h39) BlksR.nil)))))))⟩

def atlaslaw23_own.q0.x0 : Head (Int × (List (Int × Int × (Bool × Bool × Bool × Unit) × (List Int) × Unit)) × (List (ByteArray × Int × Unit)) × Int × Int × (List (Int × Int × (Bool × Bool × Bool × Unit) × (List Int) × Unit)) × (List (ByteArray × Int × Unit)) × (List (Int × Int × (Bool × Bool × Bool × Unit) × (List Int) × Unit)) × (List (ByteArray × Int × Unit))) where
  k γ s F := (sizedN 39 s).bind fun _ => (ptrN 0 (gt s.tm 1)).bind fun b2 => (ptrN 0 (gt s.tm 2)).bind fun b4 => (ptrN 0 (gt s.tm 3)).bind fun b6 => (rowN 26 3 s.hp b2).bind fun l8 => (intO .u32 (gt l8 0)).bind fun v10 => (vtO (.pair (.int .u32) (.pair (.int .u32) (.pair (.pair .bool (.pair .bool (.pair .bool .unit))) (.pair (.vec (.int .u8)) .unit)))) (gt l8 1)).bind fun v12 => (vtO (.pair .str (.pair (.int .u32) .unit)) (gt l8 2)).bind fun v14 => (rowN 26 3 s.hp b4).bind fun l16 => (intO .u32 (gt l16 0)).bind fun v18 => (soN 6 s.hp (gt l16 1)).bind fun b20 => (soN 2 s.hp (gt l16 2)).bind fun b22 => (rowN 26 3 s.hp b6).bind fun l24 => (intO .u32 (gt l24 0)).bind fun v26 => (soN 6 s.hp (gt l24 1)).bind fun b28 => (soN 2 s.hp (gt l24 2)).bind fun b30 => (rtN (.pair (.int .u32) (.pair (.int .u32) (.pair (.pair .bool (.pair .bool (.pair .bool .unit))) (.pair (.vec (.int .u8)) .unit)))) 46 s.hp b20).bind fun v32 => (rtN (.pair .str (.pair (.int .u32) .unit)) 48 s.hp b22).bind fun v34 => (rtN (.pair (.int .u32) (.pair (.int .u32) (.pair (.pair .bool (.pair .bool (.pair .bool .unit))) (.pair (.vec (.int .u8)) .unit)))) 46 s.hp b28).bind fun v36 => (rtN (.pair .str (.pair (.int .u32) .unit)) 48 s.hp b30).bind fun v38 => (distO [some b2, some b4, some b6, b20, b22, b28, b30]).bind fun _ => F (v10, v12, v14, v18, v26, v32, v34, v36, v38)
  st x := ⟨sparseT [(1, (.ptr 0 0)), (2, (.ptr 1 0)), (3, (.ptr 2 0))] 39 0, [.row [(.val (.int .u32 x.1)), (.vt (.pair (.int .u32) (.pair (.int .u32) (.pair (.pair .bool (.pair .bool (.pair .bool .unit))) (.pair (.vec (.int .u8)) .unit)))) x.2.1), (.vt (.pair .str (.pair (.int .u32) .unit)) x.2.2.1)] 26 true, .row [(.val (.int .u32 x.2.2.2.1)), (.so 3 6), (.so 4 2)] 26 false, .row [(.val (.int .u32 x.2.2.2.2.1)), (.so 5 6), (.so 6 2)] 26 false, .rt (.pair (.int .u32) (.pair (.int .u32) (.pair (.pair .bool (.pair .bool (.pair .bool .unit))) (.pair (.vec (.int .u8)) .unit)))) x.2.2.2.2.2.1 46, .rt (.pair .str (.pair (.int .u32) .unit)) x.2.2.2.2.2.2.1 48, .rt (.pair (.int .u32) (.pair (.int .u32) (.pair (.pair .bool (.pair .bool (.pair .bool .unit))) (.pair (.vec (.int .u8)) .unit)))) x.2.2.2.2.2.2.2.1 46, .rt (.pair .str (.pair (.int .u32) .unit)) x.2.2.2.2.2.2.2.2 48]⟩
  ok γ s F r h := by
    obtain ⟨_, hz, h⟩ := Option.bind_eq_some_iff.1 h
    obtain ⟨b2, h1, h⟩ := Option.bind_eq_some_iff.1 h
    obtain ⟨b4, h3, h⟩ := Option.bind_eq_some_iff.1 h
    obtain ⟨b6, h5, h⟩ := Option.bind_eq_some_iff.1 h
    obtain ⟨l8, h7, h⟩ := Option.bind_eq_some_iff.1 h
    obtain ⟨v10, h9, h⟩ := Option.bind_eq_some_iff.1 h
    obtain ⟨v12, h11, h⟩ := Option.bind_eq_some_iff.1 h
    obtain ⟨v14, h13, h⟩ := Option.bind_eq_some_iff.1 h
    obtain ⟨l16, h15, h⟩ := Option.bind_eq_some_iff.1 h
    obtain ⟨v18, h17, h⟩ := Option.bind_eq_some_iff.1 h
    obtain ⟨b20, h19, h⟩ := Option.bind_eq_some_iff.1 h
    obtain ⟨b22, h21, h⟩ := Option.bind_eq_some_iff.1 h
    obtain ⟨l24, h23, h⟩ := Option.bind_eq_some_iff.1 h
    obtain ⟨v26, h25, h⟩ := Option.bind_eq_some_iff.1 h
    obtain ⟨b28, h27, h⟩ := Option.bind_eq_some_iff.1 h
    obtain ⟨b30, h29, h⟩ := Option.bind_eq_some_iff.1 h
    obtain ⟨v32, h31, h⟩ := Option.bind_eq_some_iff.1 h
    obtain ⟨v34, h33, h⟩ := Option.bind_eq_some_iff.1 h
    obtain ⟨v36, h35, h⟩ := Option.bind_eq_some_iff.1 h
    obtain ⟨v38, h37, h⟩ := Option.bind_eq_some_iff.1 h
    obtain ⟨_, h39, h⟩ := Option.bind_eq_some_iff.1 h
    exact ⟨_, h, weak_ren (l := [some b2, some b4, some b6, b20, b22, b28, b30]) (sizedN_ok hz) (distO_ok h39) (LiveR.cons (RefsR.ptr (l := [some b2, some b4, some b6, b20, b22, b28, b30]) (i := 0) rfl (ptrN_eq h1)) (LiveR.cons (RefsR.ptr (l := [some b2, some b4, some b6, b20, b22, b28, b30]) (i := 1) rfl (ptrN_eq h3)) (LiveR.cons (RefsR.ptr (l := [some b2, some b4, some b6, b20, b22, b28, b30]) (i := 2) rfl (ptrN_eq h5)) LiveR.nil))) (BlksR.cons (rowN_refs h7 rfl (GtRefsR.cons (RefsR.plain (Refs.of_eq (intO_eq h9)) rfl) (GtRefsR.cons (RefsR.plain (vtO_refs h11) rfl) (GtRefsR.cons (RefsR.plain (vtO_refs h13) rfl) GtRefsR.nil))) rfl) (BlksR.cons (rowN_refs h15 rfl (GtRefsR.cons (RefsR.plain (Refs.of_eq (intO_eq h17)) rfl) (GtRefsR.cons (RefsR.so (l := [some b2, some b4, some b6, b20, b22, b28, b30]) (i := 3) rfl (Nat.le_of_ble_eq_true rfl) h19) (GtRefsR.cons (RefsR.so (l := [some b2, some b4, some b6, b20, b22, b28, b30]) (i := 4) rfl (Nat.le_of_ble_eq_true rfl) h21) GtRefsR.nil))) rfl) (BlksR.cons (rowN_refs h23 rfl (GtRefsR.cons (RefsR.plain (Refs.of_eq (intO_eq h25)) rfl) (GtRefsR.cons (RefsR.so (l := [some b2, some b4, some b6, b20, b22, b28, b30]) (i := 5) rfl (Nat.le_of_ble_eq_true rfl) h27) (GtRefsR.cons (RefsR.so (l := [some b2, some b4, some b6, b20, b22, b28, b30]) (i := 6) rfl (Nat.le_of_ble_eq_true rfl) h29) GtRefsR.nil))) rfl) (BlksR.cons (rtN_blk h31) (BlksR.cons (rtN_blk h33) (BlksR.cons (rtN_blk h35) (BlksR.cons (rtN_blk h37) BlksR.nil)))))))⟩

def atlaslaw23_own.q0.t : Tail (Int × (List (Int × Int × (Bool × Bool × Bool × Unit) × (List Int) × Unit)) × (List (ByteArray × Int × Unit)) × Int × Int × (List (Int × Int × (Bool × Bool × Bool × Unit) × (List Int) × Unit)) × (List (ByteArray × Int × Unit)) × (List (Int × Int × (Bool × Bool × Bool × Unit) × (List Int) × Unit)) × (List (ByteArray × Int × Unit))) := Tail.one (.exit 0) atlaslaw23_own.q0.x0
theorem atlaslaw23_own.q0.np (y : (Int × (List (Int × Int × (Bool × Bool × Bool × Unit) × (List Int) × Unit)) × (List (ByteArray × Int × Unit)) × Int × Int × (List (Int × Int × (Bool × Bool × Bool × Unit) × (List Int) × Unit)) × (List (ByteArray × Int × Unit)) × (List (Int × Int × (Bool × Bool × Bool × Unit) × (List Int) × Unit)) × (List (ByteArray × Int × Unit)))) (v : AV) : (atlaslaw23_own.q0.t.out y).1 ≠ .panic v := fun h => by cases h
theorem atlaslaw23_own.q0.nn (y : (Int × (List (Int × Int × (Bool × Bool × Bool × Unit) × (List Int) × Unit)) × (List (ByteArray × Int × Unit)) × Int × Int × (List (Int × Int × (Bool × Bool × Bool × Unit) × (List Int) × Unit)) × (List (ByteArray × Int × Unit)) × (List (Int × Int × (Bool × Bool × Bool × Unit) × (List Int) × Unit)) × (List (ByteArray × Int × Unit)))) : (atlaslaw23_own.q0.t.out y).1 ≠ .normal := fun h => by cases h
def atlaslaw23_own.q0.l (k : Nat) : Nat → (Int × Int × (List (Int × Int × (Bool × Bool × Bool × Unit) × (List Int) × Unit)) × (List (ByteArray × Int × Unit)) × Int × Int × (List (Int × Int × (Bool × Bool × Bool × Unit) × (List Int) × Unit)) × (List (ByteArray × Int × Unit)) × (List (Int × Int × (Bool × Bool × Bool × Unit) × (List Int) × Unit)) × (List (ByteArray × Int × Unit))) → Option (Int × (List (Int × Int × (Bool × Bool × Bool × Unit) × (List Int) × Unit)) × (List (ByteArray × Int × Unit)) × Int × Int × (List (Int × Int × (Bool × Bool × Bool × Unit) × (List Int) × Unit)) × (List (ByteArray × Int × Unit)) × (List (Int × Int × (Bool × Bool × Bool × Unit) × (List Int) × Unit)) × (List (ByteArray × Int × Unit)))
  | 0, _ => none
  | n + 1, x => (bif (decide (x.1 < ((x.2.2.1.length : Nat) : Int))) then (bif (decide (0 ≤ x.1) && decide (x.1 < ((x.2.2.1.length : Nat) : Int))) then (bif (decide ((([] : List Int) ++ (x.2.2.1.getD (x.1).toNat (0, 0, (false, false, false, ()), [], ())).2.2.2.1).length ≤ maxLen) && decide ((([] : List Int) ++ (x.2.2.1.getD (x.1).toNat (0, 0, (false, false, false, ()), [], ())).2.2.2.1).length * 1 ≤ 140737488355328)) then (bif (decide ((x.2.2.2.2.2.2.2.2.1 ++ ([((x.2.2.1.getD (x.1).toNat (0, 0, (false, false, false, ()), [], ())).1, (x.2.2.1.getD (x.1).toNat (0, 0, (false, false, false, ()), [], ())).2.1, ((x.2.2.1.getD (x.1).toNat (0, 0, (false, false, false, ()), [], ())).2.2.1.1, (x.2.2.1.getD (x.1).toNat (0, 0, (false, false, false, ()), [], ())).2.2.1.2.1, (x.2.2.1.getD (x.1).toNat (0, 0, (false, false, false, ()), [], ())).2.2.1.2.2.1, ()), (([] : List Int) ++ (x.2.2.1.getD (x.1).toNat (0, 0, (false, false, false, ()), [], ())).2.2.2.1), ())] : List (Int × Int × (Bool × Bool × Bool × Unit) × (List Int) × Unit))).length ≤ maxLen) && decide ((x.2.2.2.2.2.2.2.2.1 ++ ([((x.2.2.1.getD (x.1).toNat (0, 0, (false, false, false, ()), [], ())).1, (x.2.2.1.getD (x.1).toNat (0, 0, (false, false, false, ()), [], ())).2.1, ((x.2.2.1.getD (x.1).toNat (0, 0, (false, false, false, ()), [], ())).2.2.1.1, (x.2.2.1.getD (x.1).toNat (0, 0, (false, false, false, ()), [], ())).2.2.1.2.1, (x.2.2.1.getD (x.1).toNat (0, 0, (false, false, false, ()), [], ())).2.2.1.2.2.1, ()), (([] : List Int) ++ (x.2.2.1.getD (x.1).toNat (0, 0, (false, false, false, ()), [], ())).2.2.2.1), ())] : List (Int × Int × (Bool × Bool × Bool × Unit) × (List Int) × Unit))).length * 40 ≤ 140737488355328)) then (atlaslaw23_own.q0.l k n ((IntKind.wrap .i64 (x.1 + 1)), x.2.1, x.2.2.1, x.2.2.2.1, x.2.2.2.2.1, x.2.2.2.2.2.1, x.2.2.2.2.2.2.1, x.2.2.2.2.2.2.2.1, (x.2.2.2.2.2.2.2.2.1 ++ ([((x.2.2.1.getD (x.1).toNat (0, 0, (false, false, false, ()), [], ())).1, (x.2.2.1.getD (x.1).toNat (0, 0, (false, false, false, ()), [], ())).2.1, ((x.2.2.1.getD (x.1).toNat (0, 0, (false, false, false, ()), [], ())).2.2.1.1, (x.2.2.1.getD (x.1).toNat (0, 0, (false, false, false, ()), [], ())).2.2.1.2.1, (x.2.2.1.getD (x.1).toNat (0, 0, (false, false, false, ()), [], ())).2.2.1.2.2.1, ()), (([] : List Int) ++ (x.2.2.1.getD (x.1).toNat (0, 0, (false, false, false, ()), [], ())).2.2.2.1), ())] : List (Int × Int × (Bool × Bool × Bool × Unit) × (List Int) × Unit))), x.2.2.2.2.2.2.2.2.2)) else none) else none) else none) else (some (x.2.1, x.2.2.1, x.2.2.2.1, x.2.2.2.2.1, x.2.2.2.2.2.1, x.2.2.2.2.2.2.1, x.2.2.2.2.2.2.2.1, x.2.2.2.2.2.2.2.2.1, x.2.2.2.2.2.2.2.2.2)))
theorem atlaslaw23_own.q0.z (k : Nat) (x : (Int × Int × (List (Int × Int × (Bool × Bool × Bool × Unit) × (List Int) × Unit)) × (List (ByteArray × Int × Unit)) × Int × Int × (List (Int × Int × (Bool × Bool × Bool × Unit) × (List Int) × Unit)) × (List (ByteArray × Int × Unit)) × (List (Int × Int × (Bool × Bool × Bool × Unit) × (List Int) × Unit)) × (List (ByteArray × Int × Unit)))) : atlaslaw23_own.q0.l k 0 x = none := rfl
theorem atlaslaw23_own.q0.at : codeAt (bodyOf Try.f11) [false, true, false, true, true] = some (.loop (loopBody (bodyOf Try.f11) [false, true, false, true, true])) := by kernel_rfl
theorem atlaslaw23_own.q0.goes (k n : Nat) (x : (Int × Int × (List (Int × Int × (Bool × Bool × Bool × Unit) × (List Int) × Unit)) × (List (ByteArray × Int × Unit)) × Int × Int × (List (Int × Int × (Bool × Bool × Bool × Unit) × (List Int) × Unit)) × (List (ByteArray × Int × Unit)) × (List (Int × Int × (Bool × Bool × Bool × Unit) × (List Int) × Unit)) × (List (ByteArray × Int × Unit)))) : E Try.prog (gamOf []) (lamOf []) (loopBody (bodyOf Try.f11) [false, true, false, true, true]) (false :: [false, true, false, true, true]) (atlaslaw23_own.q0.h.st x) (contD atlaslaw23_own.q0.h atlaslaw23_own.q0.t (atlaslaw23_own.q0.l k n) some) = atlaslaw23_own.q0.l k (n + 1) x := by
  kernel_rfl
theorem atlaslaw23_own.q0.ok_ (k : Nat) : PieceOk Try.prog (bodyOf Try.f11) ⟨[false, true, false, true, true], _, _, atlaslaw23_own.q0.h, atlaslaw23_own.q0.t, atlaslaw23_own.q0.l k k⟩ :=
  piece_loop (gamOf_nil _) (lamOf_nil _ _) mixed atlaslaw23_own.q0.at atlaslaw23_own.q0.np atlaslaw23_own.q0.nn (atlaslaw23_own.q0.z k) (atlaslaw23_own.q0.goes k) k
def atlaslaw23_own.q0.p (k : Nat) : Piece := ⟨[false, true, false, true, true], _, _, atlaslaw23_own.q0.h, atlaslaw23_own.q0.t, atlaslaw23_own.q0.l k k⟩
theorem atlaslaw23_own.q0.ok (k : Nat) : PieceOk Try.prog (bodyOf Try.f11) (atlaslaw23_own.q0.p k) := atlaslaw23_own.q0.ok_ k
def atlaslaw23_own.f (k : Nat) (x0 : T25) : Option (T25) := ((atlaslaw23_own.q0.l k k (0, x0.f0_Entry, x0.f1_Segments, x0.f2_Symbols, 0, x0.f0_Entry, ([] : List (Int × Int × (Bool × Bool × Bool × Unit) × (List Int) × Unit)), ([] : List (ByteArray × Int × Unit)), ([] : List (Int × Int × (Bool × Bool × Bool × Unit) × (List Int) × Unit)), ([] : List (ByteArray × Int × Unit)))).bind fun r1 => (bif (decide ((r1.2.2.2.2.2.2.2.2 ++ r1.2.2.1).length ≤ maxLen) && decide ((r1.2.2.2.2.2.2.2.2 ++ r1.2.2.1).length * 24 ≤ 140737488355328)) then (some (⟨r1.2.2.2.2.1, r1.2.2.2.2.2.2.2.1, (r1.2.2.2.2.2.2.2.2 ++ r1.2.2.1)⟩ : T25)) else none))
theorem atlaslaw23_own.run (k : Nat) (x0 : T25) : runF Try.prog (gamOf []) (lamOf [atlaslaw23_own.q0.p k]) Try.f11 [(T25.av x0)] some = (atlaslaw23_own.f k x0).bind fun r => some (.ret (T25.av r)) := by
  unfold atlaslaw23_own.f
  try simp only [cond_bind, elim_bind, Option.bind_some, Option.bind_none, Option.bind_assoc]
  kernel_rfl
def atlaslaw23_own.g (k : Nat) : GFun := fun β args K => match args with
  | [a0] => (T25.of a0).bind fun x0 => (atlaslaw23_own.f k x0).bind fun r => K (.ret (T25.av r))
  | _ => none
theorem atlaslaw23_own.callable : callable Try.prog 11 = true := callable_of Try.func11 (by kernel_rfl)
theorem atlaslaw23_own.ok (k : Nat) : GOk Try.prog 11 (atlaslaw23_own.g k) := by
  intro β args K r h
  unfold atlaslaw23_own.g at h
  split at h
  · obtain ⟨x0, e0, h⟩ := Option.bind_eq_some_iff.1 h
    obtain ⟨y, hy, hK⟩ := Option.bind_eq_some_iff.1 h
    have hrun := atlaslaw23_own.run k x0
    rw [hy] at hrun
    obtain ⟨out, e, hs⟩ := sim_of_run Try.func11 (by kernel_rfl) mixed (gamOf_nil _) (lamOf_cons (atlaslaw23_own.q0.ok k) (lamOf_nil _ _)) (args' := [(T25.av x0)]) (RefsL.cons (T25.refs e0) RefsL.nil) hrun
    simp only [Option.some.injEq] at e
    subst e
    exact ⟨_, hK, hs⟩
  · cases h
/-! ### atlas/atlasref23.Find: function 12 -/
def atlasref23_Find.q0.h : Head (ByteArray × Int × Int × (List (Int × Int × (Bool × Bool × Bool × Unit) × (List Int) × Unit)) × (List (ByteArray × Int × Unit))) where
  k γ s F := (sizedN 28 s).bind fun _ => (strO (gt s.tm 1)).bind fun v2 => (ptrN 0 (gt s.tm 2)).bind fun b4 => (intO .i64 (gt s.tm 6)).bind fun v6 => (rowN 26 3 s.hp b4).bind fun l8 => (intO .u32 (gt l8 0)).bind fun v10 => (vtO (.pair (.int .u32) (.pair (.int .u32) (.pair (.pair .bool (.pair .bool (.pair .bool .unit))) (.pair (.vec (.int .u8)) .unit)))) (gt l8 1)).bind fun v12 => (vtO (.pair .str (.pair (.int .u32) .unit)) (gt l8 2)).bind fun v14 => (distO [some b4]).bind fun _ => F (v2, v6, v10, v12, v14)
  st x := ⟨sparseT [(1, (.val (.string x.1))), (2, (.ptr 0 0)), (6, (.val (.int .i64 x.2.1)))] 28 0, [.row [(.val (.int .u32 x.2.2.1)), (.vt (.pair (.int .u32) (.pair (.int .u32) (.pair (.pair .bool (.pair .bool (.pair .bool .unit))) (.pair (.vec (.int .u8)) .unit)))) x.2.2.2.1), (.vt (.pair .str (.pair (.int .u32) .unit)) x.2.2.2.2)] 26 true]⟩
  ok γ s F r h := by
    obtain ⟨_, hz, h⟩ := Option.bind_eq_some_iff.1 h
    obtain ⟨v2, h1, h⟩ := Option.bind_eq_some_iff.1 h
    obtain ⟨b4, h3, h⟩ := Option.bind_eq_some_iff.1 h
    obtain ⟨v6, h5, h⟩ := Option.bind_eq_some_iff.1 h
    obtain ⟨l8, h7, h⟩ := Option.bind_eq_some_iff.1 h
    obtain ⟨v10, h9, h⟩ := Option.bind_eq_some_iff.1 h
    obtain ⟨v12, h11, h⟩ := Option.bind_eq_some_iff.1 h
    obtain ⟨v14, h13, h⟩ := Option.bind_eq_some_iff.1 h
    obtain ⟨_, h15, h⟩ := Option.bind_eq_some_iff.1 h
    exact ⟨_, h, weak_ren (l := [some b4]) (sizedN_ok hz) (distO_ok h15) (LiveR.cons (RefsR.plain (Refs.of_eq (strO_eq h1)) rfl) (LiveR.cons (RefsR.ptr (l := [some b4]) (i := 0) rfl (ptrN_eq h3)) (LiveR.cons (RefsR.plain (Refs.of_eq (intO_eq h5)) rfl) LiveR.nil))) (BlksR.cons (rowN_refs h7 rfl (GtRefsR.cons (RefsR.plain (Refs.of_eq (intO_eq h9)) rfl) (GtRefsR.cons (RefsR.plain (vtO_refs h11) rfl) (GtRefsR.cons (RefsR.plain (vtO_refs h13) rfl) GtRefsR.nil))) rfl) BlksR.nil)⟩

def atlasref23_Find.q0.x0 : Head (Int × Bool) where
  k γ s F := (sizedN 28 s).bind fun _ => (intO .u32 (gt s.tm 4)).bind fun v2 => (boolO (gt s.tm 5)).bind fun v4 => (distO []).bind fun _ => F (v2, v4)
  st x := ⟨sparseT [(4, (.val (.int .u32 x.1))), (5, (.val (.bool x.2)))] 28 0, []⟩
  ok γ s F r h := by
    obtain ⟨_, hz, h⟩ := Option.bind_eq_some_iff.1 h
    obtain ⟨v2, h1, h⟩ := Option.bind_eq_some_iff.1 h
    obtain ⟨v4, h3, h⟩ := Option.bind_eq_some_iff.1 h
    obtain ⟨_, h5, h⟩ := Option.bind_eq_some_iff.1 h
    exact ⟨_, h, weak_ren (l := []) (sizedN_ok hz) (distO_ok h5) (LiveR.cons (RefsR.plain (Refs.of_eq (intO_eq h1)) rfl) (LiveR.cons (RefsR.plain (Refs.of_eq (boolO_eq h3)) rfl) LiveR.nil)) BlksR.nil⟩

def atlasref23_Find.q0.x1 : Head (Unit) where
  k γ s F := (sizedN 28 s).bind fun _ => (distO []).bind fun _ => F ()
  st x := ⟨sparseT [] 28 0, []⟩
  ok γ s F r h := by
    obtain ⟨_, hz, h⟩ := Option.bind_eq_some_iff.1 h
    obtain ⟨_, h1, h⟩ := Option.bind_eq_some_iff.1 h
    exact ⟨_, h, weak_ren (l := []) (sizedN_ok hz) (distO_ok h1) LiveR.nil BlksR.nil⟩

def atlasref23_Find.q0.t : Tail ((Int × Bool) ⊕ (Unit)) := Tail.or .ret atlasref23_Find.q0.x0 (Tail.one (.exit 0) atlasref23_Find.q0.x1)
theorem atlasref23_Find.q0.np (y : ((Int × Bool) ⊕ (Unit))) (v : AV) : (atlasref23_Find.q0.t.out y).1 ≠ .panic v := fun h => by rcases y with _ | y <;> first | (cases h; done) | (cases h)
theorem atlasref23_Find.q0.nn (y : ((Int × Bool) ⊕ (Unit))) : (atlasref23_Find.q0.t.out y).1 ≠ .normal := fun h => by rcases y with _ | y <;> first | (cases h; done) | (cases h)
def atlasref23_Find.q0.l (k : Nat) : Nat → (ByteArray × Int × Int × (List (Int × Int × (Bool × Bool × Bool × Unit) × (List Int) × Unit)) × (List (ByteArray × Int × Unit))) → Option ((Int × Bool) ⊕ (Unit))
  | 0, _ => none
  | n + 1, x => (bif (decide (x.2.1 < ((x.2.2.2.2.length : Nat) : Int))) then (bif (decide (0 ≤ x.2.1) && decide (x.2.1 < ((x.2.2.2.2.length : Nat) : Int))) then (bif (((x.2.2.2.2.getD (x.2.1).toNat (ByteArray.empty, 0, ())).1).toList == x.1.toList) then (bif (decide (0 ≤ x.2.1) && decide (x.2.1 < ((x.2.2.2.2.length : Nat) : Int))) then (some (Sum.inl ((x.2.2.2.2.getD (x.2.1).toNat (ByteArray.empty, 0, ())).2.1, true))) else none) else (atlasref23_Find.q0.l k n (x.1, (IntKind.wrap .i64 (x.2.1 + 1)), x.2.2.1, x.2.2.2.1, x.2.2.2.2))) else none) else (some (Sum.inr ())))
theorem atlasref23_Find.q0.z (k : Nat) (x : (ByteArray × Int × Int × (List (Int × Int × (Bool × Bool × Bool × Unit) × (List Int) × Unit)) × (List (ByteArray × Int × Unit)))) : atlasref23_Find.q0.l k 0 x = none := rfl
theorem atlasref23_Find.q0.at : codeAt (bodyOf Try.f12) [false, true, false, true] = some (.loop (loopBody (bodyOf Try.f12) [false, true, false, true])) := by kernel_rfl
theorem atlasref23_Find.q0.goes (k n : Nat) (x : (ByteArray × Int × Int × (List (Int × Int × (Bool × Bool × Bool × Unit) × (List Int) × Unit)) × (List (ByteArray × Int × Unit)))) : E Try.prog (gamOf []) (lamOf []) (loopBody (bodyOf Try.f12) [false, true, false, true]) (false :: [false, true, false, true]) (atlasref23_Find.q0.h.st x) (contD atlasref23_Find.q0.h atlasref23_Find.q0.t (atlasref23_Find.q0.l k n) some) = atlasref23_Find.q0.l k (n + 1) x := by
  kernel_rfl
theorem atlasref23_Find.q0.ok_ (k : Nat) : PieceOk Try.prog (bodyOf Try.f12) ⟨[false, true, false, true], _, _, atlasref23_Find.q0.h, atlasref23_Find.q0.t, atlasref23_Find.q0.l k k⟩ :=
  piece_loop (gamOf_nil _) (lamOf_nil _ _) mixed atlasref23_Find.q0.at atlasref23_Find.q0.np atlasref23_Find.q0.nn (atlasref23_Find.q0.z k) (atlasref23_Find.q0.goes k) k
def atlasref23_Find.q0.p (k : Nat) : Piece := ⟨[false, true, false, true], _, _, atlasref23_Find.q0.h, atlasref23_Find.q0.t, atlasref23_Find.q0.l k k⟩
theorem atlasref23_Find.q0.ok (k : Nat) : PieceOk Try.prog (bodyOf Try.f12) (atlasref23_Find.q0.p k) := atlasref23_Find.q0.ok_ k
def atlasref23_Find.f (k : Nat) (x0 : T25) (x1 : ByteArray) : Option (Int × Bool) := ((atlasref23_Find.q0.l k k (x1, 0, x0.f0_Entry, x0.f1_Segments, x0.f2_Symbols)).bind fun r1 => (Sum.elim (fun r2 => (some (r2.1, r2.2))) (fun r3 => (some (0, false))) r1))
theorem atlasref23_Find.run (k : Nat) (x0 : T25) (x1 : ByteArray) : runF Try.prog (gamOf []) (lamOf [atlasref23_Find.q0.p k]) Try.f12 [(T25.av x0), (.val (.string x1))] some = (atlasref23_Find.f k x0 x1).bind fun r => some (.ret (.tup [(.val (.int .u32 r.1)), (.val (.bool r.2))])) := by
  unfold atlasref23_Find.f
  try simp only [cond_bind, elim_bind, Option.bind_some, Option.bind_none, Option.bind_assoc]
  kernel_rfl
def atlasref23_Find.g (k : Nat) : GFun := fun β args K => match args with
  | [a0, a1] => (T25.of a0).bind fun x0 => (strO a1).bind fun x1 => (atlasref23_Find.f k x0 x1).bind fun r => K (.ret (.tup [(.val (.int .u32 r.1)), (.val (.bool r.2))]))
  | _ => none
theorem atlasref23_Find.callable : callable Try.prog 12 = true := callable_of Try.func12 (by kernel_rfl)
theorem atlasref23_Find.ok (k : Nat) : GOk Try.prog 12 (atlasref23_Find.g k) := by
  intro β args K r h
  unfold atlasref23_Find.g at h
  split at h
  · obtain ⟨x0, e0, h⟩ := Option.bind_eq_some_iff.1 h
    obtain ⟨x1, e1, h⟩ := Option.bind_eq_some_iff.1 h
    obtain ⟨y, hy, hK⟩ := Option.bind_eq_some_iff.1 h
    have hrun := atlasref23_Find.run k x0 x1
    rw [hy] at hrun
    obtain ⟨out, e, hs⟩ := sim_of_run Try.func12 (by kernel_rfl) mixed (gamOf_nil _) (lamOf_cons (atlasref23_Find.q0.ok k) (lamOf_nil _ _)) (args' := [(T25.av x0), (.val (.string x1))]) (RefsL.cons (T25.refs e0) (RefsL.cons (Refs.of_eq (strO_eq e1)) RefsL.nil)) hrun
    simp only [Option.some.injEq] at e
    subst e
    exact ⟨_, hK, hs⟩
  · cases h
/-! ### atlas/elf.Near: function 13 -/
def elf_Near.q0.h : Head (Int × Int × (List (ByteArray × Int × Unit)) × Int × Int × Int × (List (Int × Int × (Bool × Bool × Bool × Unit) × (List Int) × Unit)) × (List (ByteArray × Int × Unit))) where
  k γ s F := (sizedN 55 s).bind fun _ => (intO .u32 (gt s.tm 1)).bind fun v2 => (ptrN 0 (gt s.tm 2)).bind fun b4 => (intO .i64 (gt s.tm 7)).bind fun v6 => (vtO (.pair .str (.pair (.int .u32) .unit)) (gt s.tm 11)).bind fun v8 => (intO .i64 (gt s.tm 12)).bind fun v10 => (intO .i64 (gt s.tm 13)).bind fun v12 => (rowN 26 3 s.hp b4).bind fun l14 => (intO .u32 (gt l14 0)).bind fun v16 => (vtO (.pair (.int .u32) (.pair (.int .u32) (.pair (.pair .bool (.pair .bool (.pair .bool .unit))) (.pair (.vec (.int .u8)) .unit)))) (gt l14 1)).bind fun v18 => (vtO (.pair .str (.pair (.int .u32) .unit)) (gt l14 2)).bind fun v20 => (distO [some b4]).bind fun _ => F (v2, v6, v8, v10, v12, v16, v18, v20)
  st x := ⟨sparseT [(1, (.val (.int .u32 x.1))), (2, (.ptr 0 0)), (7, (.val (.int .i64 x.2.1))), (11, (.vt (.pair .str (.pair (.int .u32) .unit)) x.2.2.1)), (12, (.val (.int .i64 x.2.2.2.1))), (13, (.val (.int .i64 x.2.2.2.2.1)))] 55 0, [.row [(.val (.int .u32 x.2.2.2.2.2.1)), (.vt (.pair (.int .u32) (.pair (.int .u32) (.pair (.pair .bool (.pair .bool (.pair .bool .unit))) (.pair (.vec (.int .u8)) .unit)))) x.2.2.2.2.2.2.1), (.vt (.pair .str (.pair (.int .u32) .unit)) x.2.2.2.2.2.2.2)] 26 true]⟩
  ok γ s F r h := by
    obtain ⟨_, hz, h⟩ := Option.bind_eq_some_iff.1 h
    obtain ⟨v2, h1, h⟩ := Option.bind_eq_some_iff.1 h
    obtain ⟨b4, h3, h⟩ := Option.bind_eq_some_iff.1 h
    obtain ⟨v6, h5, h⟩ := Option.bind_eq_some_iff.1 h
    obtain ⟨v8, h7, h⟩ := Option.bind_eq_some_iff.1 h
    obtain ⟨v10, h9, h⟩ := Option.bind_eq_some_iff.1 h
    obtain ⟨v12, h11, h⟩ := Option.bind_eq_some_iff.1 h
    obtain ⟨l14, h13, h⟩ := Option.bind_eq_some_iff.1 h
    obtain ⟨v16, h15, h⟩ := Option.bind_eq_some_iff.1 h
    obtain ⟨v18, h17, h⟩ := Option.bind_eq_some_iff.1 h
    obtain ⟨v20, h19, h⟩ := Option.bind_eq_some_iff.1 h
    obtain ⟨_, h21, h⟩ := Option.bind_eq_some_iff.1 h
    exact ⟨_, h, weak_ren (l := [some b4]) (sizedN_ok hz) (distO_ok h21) (LiveR.cons (RefsR.plain (Refs.of_eq (intO_eq h1)) rfl) (LiveR.cons (RefsR.ptr (l := [some b4]) (i := 0) rfl (ptrN_eq h3)) (LiveR.cons (RefsR.plain (Refs.of_eq (intO_eq h5)) rfl) (LiveR.cons (RefsR.plain (vtO_refs h7) rfl) (LiveR.cons (RefsR.plain (Refs.of_eq (intO_eq h9)) rfl) (LiveR.cons (RefsR.plain (Refs.of_eq (intO_eq h11)) rfl) LiveR.nil)))))) (BlksR.cons (rowN_refs h13 rfl (GtRefsR.cons (RefsR.plain (Refs.of_eq (intO_eq h15)) rfl) (GtRefsR.cons (RefsR.plain (vtO_refs h17) rfl) (GtRefsR.cons (RefsR.plain (vtO_refs h19) rfl) GtRefsR.nil))) rfl) BlksR.nil)⟩

def elf_Near.q0.x0 : Head (Int × Int × Int × (List (Int × Int × (Bool × Bool × Bool × Unit) × (List Int) × Unit)) × (List (ByteArray × Int × Unit))) where
  k γ s F := (sizedN 55 s).bind fun _ => (intO .u32 (gt s.tm 1)).bind fun v2 => (ptrN 0 (gt s.tm 2)).bind fun b4 => (intO .i64 (gt s.tm 7)).bind fun v6 => (rowN 26 3 s.hp b4).bind fun l8 => (intO .u32 (gt l8 0)).bind fun v10 => (vtO (.pair (.int .u32) (.pair (.int .u32) (.pair (.pair .bool (.pair .bool (.pair .bool .unit))) (.pair (.vec (.int .u8)) .unit)))) (gt l8 1)).bind fun v12 => (vtO (.pair .str (.pair (.int .u32) .unit)) (gt l8 2)).bind fun v14 => (distO [some b4]).bind fun _ => F (v2, v6, v10, v12, v14)
  st x := ⟨sparseT [(1, (.val (.int .u32 x.1))), (2, (.ptr 0 0)), (7, (.val (.int .i64 x.2.1)))] 55 0, [.row [(.val (.int .u32 x.2.2.1)), (.vt (.pair (.int .u32) (.pair (.int .u32) (.pair (.pair .bool (.pair .bool (.pair .bool .unit))) (.pair (.vec (.int .u8)) .unit)))) x.2.2.2.1), (.vt (.pair .str (.pair (.int .u32) .unit)) x.2.2.2.2)] 26 true]⟩
  ok γ s F r h := by
    obtain ⟨_, hz, h⟩ := Option.bind_eq_some_iff.1 h
    obtain ⟨v2, h1, h⟩ := Option.bind_eq_some_iff.1 h
    obtain ⟨b4, h3, h⟩ := Option.bind_eq_some_iff.1 h
    obtain ⟨v6, h5, h⟩ := Option.bind_eq_some_iff.1 h
    obtain ⟨l8, h7, h⟩ := Option.bind_eq_some_iff.1 h
    obtain ⟨v10, h9, h⟩ := Option.bind_eq_some_iff.1 h
    obtain ⟨v12, h11, h⟩ := Option.bind_eq_some_iff.1 h
    obtain ⟨v14, h13, h⟩ := Option.bind_eq_some_iff.1 h
    obtain ⟨_, h15, h⟩ := Option.bind_eq_some_iff.1 h
    exact ⟨_, h, weak_ren (l := [some b4]) (sizedN_ok hz) (distO_ok h15) (LiveR.cons (RefsR.plain (Refs.of_eq (intO_eq h1)) rfl) (LiveR.cons (RefsR.ptr (l := [some b4]) (i := 0) rfl (ptrN_eq h3)) (LiveR.cons (RefsR.plain (Refs.of_eq (intO_eq h5)) rfl) LiveR.nil))) (BlksR.cons (rowN_refs h7 rfl (GtRefsR.cons (RefsR.plain (Refs.of_eq (intO_eq h9)) rfl) (GtRefsR.cons (RefsR.plain (vtO_refs h11) rfl) (GtRefsR.cons (RefsR.plain (vtO_refs h13) rfl) GtRefsR.nil))) rfl) BlksR.nil)⟩

def elf_Near.q0.t : Tail (Int × Int × Int × (List (Int × Int × (Bool × Bool × Bool × Unit) × (List Int) × Unit)) × (List (ByteArray × Int × Unit))) := Tail.one (.exit 0) elf_Near.q0.x0
theorem elf_Near.q0.np (y : (Int × Int × Int × (List (Int × Int × (Bool × Bool × Bool × Unit) × (List Int) × Unit)) × (List (ByteArray × Int × Unit)))) (v : AV) : (elf_Near.q0.t.out y).1 ≠ .panic v := fun h => by cases h
theorem elf_Near.q0.nn (y : (Int × Int × Int × (List (Int × Int × (Bool × Bool × Bool × Unit) × (List Int) × Unit)) × (List (ByteArray × Int × Unit)))) : (elf_Near.q0.t.out y).1 ≠ .normal := fun h => by cases h
def elf_Near.q0.l (k : Nat) : Nat → (Int × Int × (List (ByteArray × Int × Unit)) × Int × Int × Int × (List (Int × Int × (Bool × Bool × Bool × Unit) × (List Int) × Unit)) × (List (ByteArray × Int × Unit))) → Option (Int × Int × Int × (List (Int × Int × (Bool × Bool × Bool × Unit) × (List Int) × Unit)) × (List (ByteArray × Int × Unit)))
  | 0, _ => none
  | n + 1, x => (bif (decide (x.2.2.2.2.1 < x.2.2.2.1)) then (bif (decide (0 ≤ x.2.2.2.2.1) && decide (x.2.2.2.2.1 < ((x.2.2.1.length : Nat) : Int))) then (bif (decide (((x.2.2.1.getD (x.2.2.2.2.1).toNat (ByteArray.empty, 0, ())).2.1) ≤ x.1)) then (bif (decide (x.2.1 < 0)) then (elf_Near.q0.l k n (x.1, x.2.2.2.2.1, x.2.2.1, x.2.2.2.1, (IntKind.wrap .i64 (x.2.2.2.2.1 + 1)), x.2.2.2.2.2.1, x.2.2.2.2.2.2.1, x.2.2.2.2.2.2.2)) else (bif (decide (0 ≤ x.2.1) && decide (x.2.1 < ((x.2.2.2.2.2.2.2.length : Nat) : Int))) then (bif (decide (((x.2.2.1.getD (x.2.2.2.2.1).toNat (ByteArray.empty, 0, ())).2.1) > ((x.2.2.2.2.2.2.2.getD (x.2.1).toNat (ByteArray.empty, 0, ())).2.1))) then (elf_Near.q0.l k n (x.1, x.2.2.2.2.1, x.2.2.1, x.2.2.2.1, (IntKind.wrap .i64 (x.2.2.2.2.1 + 1)), x.2.2.2.2.2.1, x.2.2.2.2.2.2.1, x.2.2.2.2.2.2.2)) else (elf_Near.q0.l k n (x.1, x.2.1, x.2.2.1, x.2.2.2.1, (IntKind.wrap .i64 (x.2.2.2.2.1 + 1)), x.2.2.2.2.2.1, x.2.2.2.2.2.2.1, x.2.2.2.2.2.2.2))) else none)) else (elf_Near.q0.l k n (x.1, x.2.1, x.2.2.1, x.2.2.2.1, (IntKind.wrap .i64 (x.2.2.2.2.1 + 1)), x.2.2.2.2.2.1, x.2.2.2.2.2.2.1, x.2.2.2.2.2.2.2))) else none) else (some (x.1, x.2.1, x.2.2.2.2.2.1, x.2.2.2.2.2.2.1, x.2.2.2.2.2.2.2)))
theorem elf_Near.q0.z (k : Nat) (x : (Int × Int × (List (ByteArray × Int × Unit)) × Int × Int × Int × (List (Int × Int × (Bool × Bool × Bool × Unit) × (List Int) × Unit)) × (List (ByteArray × Int × Unit)))) : elf_Near.q0.l k 0 x = none := rfl
theorem elf_Near.q0.at : codeAt (bodyOf Try.f13) [false, true, false, true, true] = some (.loop (loopBody (bodyOf Try.f13) [false, true, false, true, true])) := by kernel_rfl
theorem elf_Near.q0.goes (k n : Nat) (x : (Int × Int × (List (ByteArray × Int × Unit)) × Int × Int × Int × (List (Int × Int × (Bool × Bool × Bool × Unit) × (List Int) × Unit)) × (List (ByteArray × Int × Unit)))) : E Try.prog (gamOf []) (lamOf []) (loopBody (bodyOf Try.f13) [false, true, false, true, true]) (false :: [false, true, false, true, true]) (elf_Near.q0.h.st x) (contD elf_Near.q0.h elf_Near.q0.t (elf_Near.q0.l k n) some) = elf_Near.q0.l k (n + 1) x := by
  kernel_rfl
theorem elf_Near.q0.ok_ (k : Nat) : PieceOk Try.prog (bodyOf Try.f13) ⟨[false, true, false, true, true], _, _, elf_Near.q0.h, elf_Near.q0.t, elf_Near.q0.l k k⟩ :=
  piece_loop (gamOf_nil _) (lamOf_nil _ _) mixed elf_Near.q0.at elf_Near.q0.np elf_Near.q0.nn (elf_Near.q0.z k) (elf_Near.q0.goes k) k
def elf_Near.q0.p (k : Nat) : Piece := ⟨[false, true, false, true, true], _, _, elf_Near.q0.h, elf_Near.q0.t, elf_Near.q0.l k k⟩
theorem elf_Near.q0.ok (k : Nat) : PieceOk Try.prog (bodyOf Try.f13) (elf_Near.q0.p k) := elf_Near.q0.ok_ k
def elf_Near.f (k : Nat) (x0 : T25) (x1 : Int) : Option (ByteArray × Int × Bool) := ((elf_Near.q0.l k k (x1, (-1), x0.f2_Symbols, ((x0.f2_Symbols.length : Nat) : Int), 0, x0.f0_Entry, x0.f1_Segments, x0.f2_Symbols)).bind fun r1 => (bif (decide (r1.2.1 < 0)) then (some ((⟨#[]⟩ : ByteArray), 0, false)) else (bif (decide (0 ≤ r1.2.1) && decide (r1.2.1 < ((r1.2.2.2.2.length : Nat) : Int))) then (bif (decide (0 ≤ r1.2.1) && decide (r1.2.1 < ((r1.2.2.2.2.length : Nat) : Int))) then (some ((r1.2.2.2.2.getD (r1.2.1).toNat (ByteArray.empty, 0, ())).1, (IntKind.wrap .u32 (r1.1 - ((r1.2.2.2.2.getD (r1.2.1).toNat (ByteArray.empty, 0, ())).2.1))), true)) else none) else none)))
theorem elf_Near.run (k : Nat) (x0 : T25) (x1 : Int) : runF Try.prog (gamOf []) (lamOf [elf_Near.q0.p k]) Try.f13 [(T25.av x0), (.val (.int .u32 x1))] some = (elf_Near.f k x0 x1).bind fun r => some (.ret (.tup [(.val (.string r.1)), (.val (.int .u32 r.2.1)), (.val (.bool r.2.2))])) := by
  unfold elf_Near.f
  try simp only [cond_bind, elim_bind, Option.bind_some, Option.bind_none, Option.bind_assoc]
  kernel_rfl
def elf_Near.g (k : Nat) : GFun := fun β args K => match args with
  | [a0, a1] => (T25.of a0).bind fun x0 => (intO .u32 a1).bind fun x1 => (elf_Near.f k x0 x1).bind fun r => K (.ret (.tup [(.val (.string r.1)), (.val (.int .u32 r.2.1)), (.val (.bool r.2.2))]))
  | _ => none
theorem elf_Near.callable : callable Try.prog 13 = true := callable_of Try.func13 (by kernel_rfl)
theorem elf_Near.ok (k : Nat) : GOk Try.prog 13 (elf_Near.g k) := by
  intro β args K r h
  unfold elf_Near.g at h
  split at h
  · obtain ⟨x0, e0, h⟩ := Option.bind_eq_some_iff.1 h
    obtain ⟨x1, e1, h⟩ := Option.bind_eq_some_iff.1 h
    obtain ⟨y, hy, hK⟩ := Option.bind_eq_some_iff.1 h
    have hrun := elf_Near.run k x0 x1
    rw [hy] at hrun
    obtain ⟨out, e, hs⟩ := sim_of_run Try.func13 (by kernel_rfl) mixed (gamOf_nil _) (lamOf_cons (elf_Near.q0.ok k) (lamOf_nil _ _)) (args' := [(T25.av x0), (.val (.int .u32 x1))]) (RefsL.cons (T25.refs e0) (RefsL.cons (Refs.of_eq (intO_eq e1)) RefsL.nil)) hrun
    simp only [Option.some.injEq] at e
    subst e
    exact ⟨_, hK, hs⟩
  · cases h
/-! ### atlas/atlasref23.Near: function 14 -/
def atlasref23_Near.q0.h : Head (Int × Int × Int × Int × (List (Int × Int × (Bool × Bool × Bool × Unit) × (List Int) × Unit)) × (List (ByteArray × Int × Unit))) where
  k γ s F := (sizedN 57 s).bind fun _ => (intO .u32 (gt s.tm 1)).bind fun v2 => (ptrN 0 (gt s.tm 2)).bind fun b4 => (intO .i64 (gt s.tm 7)).bind fun v6 => (intO .i64 (gt s.tm 8)).bind fun v8 => (rowN 26 3 s.hp b4).bind fun l10 => (intO .u32 (gt l10 0)).bind fun v12 => (vtO (.pair (.int .u32) (.pair (.int .u32) (.pair (.pair .bool (.pair .bool (.pair .bool .unit))) (.pair (.vec (.int .u8)) .unit)))) (gt l10 1)).bind fun v14 => (vtO (.pair .str (.pair (.int .u32) .unit)) (gt l10 2)).bind fun v16 => (distO [some b4]).bind fun _ => F (v2, v6, v8, v12, v14, v16)
  st x := ⟨sparseT [(1, (.val (.int .u32 x.1))), (2, (.ptr 0 0)), (7, (.val (.int .i64 x.2.1))), (8, (.val (.int .i64 x.2.2.1)))] 57 0, [.row [(.val (.int .u32 x.2.2.2.1)), (.vt (.pair (.int .u32) (.pair (.int .u32) (.pair (.pair .bool (.pair .bool (.pair .bool .unit))) (.pair (.vec (.int .u8)) .unit)))) x.2.2.2.2.1), (.vt (.pair .str (.pair (.int .u32) .unit)) x.2.2.2.2.2)] 26 true]⟩
  ok γ s F r h := by
    obtain ⟨_, hz, h⟩ := Option.bind_eq_some_iff.1 h
    obtain ⟨v2, h1, h⟩ := Option.bind_eq_some_iff.1 h
    obtain ⟨b4, h3, h⟩ := Option.bind_eq_some_iff.1 h
    obtain ⟨v6, h5, h⟩ := Option.bind_eq_some_iff.1 h
    obtain ⟨v8, h7, h⟩ := Option.bind_eq_some_iff.1 h
    obtain ⟨l10, h9, h⟩ := Option.bind_eq_some_iff.1 h
    obtain ⟨v12, h11, h⟩ := Option.bind_eq_some_iff.1 h
    obtain ⟨v14, h13, h⟩ := Option.bind_eq_some_iff.1 h
    obtain ⟨v16, h15, h⟩ := Option.bind_eq_some_iff.1 h
    obtain ⟨_, h17, h⟩ := Option.bind_eq_some_iff.1 h
    exact ⟨_, h, weak_ren (l := [some b4]) (sizedN_ok hz) (distO_ok h17) (LiveR.cons (RefsR.plain (Refs.of_eq (intO_eq h1)) rfl) (LiveR.cons (RefsR.ptr (l := [some b4]) (i := 0) rfl (ptrN_eq h3)) (LiveR.cons (RefsR.plain (Refs.of_eq (intO_eq h5)) rfl) (LiveR.cons (RefsR.plain (Refs.of_eq (intO_eq h7)) rfl) LiveR.nil)))) (BlksR.cons (rowN_refs h9 rfl (GtRefsR.cons (RefsR.plain (Refs.of_eq (intO_eq h11)) rfl) (GtRefsR.cons (RefsR.plain (vtO_refs h13) rfl) (GtRefsR.cons (RefsR.plain (vtO_refs h15) rfl) GtRefsR.nil))) rfl) BlksR.nil)⟩

def atlasref23_Near.q0.x0 : Head (Int × Int × Int × (List (Int × Int × (Bool × Bool × Bool × Unit) × (List Int) × Unit)) × (List (ByteArray × Int × Unit))) where
  k γ s F := (sizedN 57 s).bind fun _ => (intO .u32 (gt s.tm 1)).bind fun v2 => (ptrN 0 (gt s.tm 2)).bind fun b4 => (intO .i64 (gt s.tm 7)).bind fun v6 => (rowN 26 3 s.hp b4).bind fun l8 => (intO .u32 (gt l8 0)).bind fun v10 => (vtO (.pair (.int .u32) (.pair (.int .u32) (.pair (.pair .bool (.pair .bool (.pair .bool .unit))) (.pair (.vec (.int .u8)) .unit)))) (gt l8 1)).bind fun v12 => (vtO (.pair .str (.pair (.int .u32) .unit)) (gt l8 2)).bind fun v14 => (distO [some b4]).bind fun _ => F (v2, v6, v10, v12, v14)
  st x := ⟨sparseT [(1, (.val (.int .u32 x.1))), (2, (.ptr 0 0)), (7, (.val (.int .i64 x.2.1)))] 57 0, [.row [(.val (.int .u32 x.2.2.1)), (.vt (.pair (.int .u32) (.pair (.int .u32) (.pair (.pair .bool (.pair .bool (.pair .bool .unit))) (.pair (.vec (.int .u8)) .unit)))) x.2.2.2.1), (.vt (.pair .str (.pair (.int .u32) .unit)) x.2.2.2.2)] 26 true]⟩
  ok γ s F r h := by
    obtain ⟨_, hz, h⟩ := Option.bind_eq_some_iff.1 h
    obtain ⟨v2, h1, h⟩ := Option.bind_eq_some_iff.1 h
    obtain ⟨b4, h3, h⟩ := Option.bind_eq_some_iff.1 h
    obtain ⟨v6, h5, h⟩ := Option.bind_eq_some_iff.1 h
    obtain ⟨l8, h7, h⟩ := Option.bind_eq_some_iff.1 h
    obtain ⟨v10, h9, h⟩ := Option.bind_eq_some_iff.1 h
    obtain ⟨v12, h11, h⟩ := Option.bind_eq_some_iff.1 h
    obtain ⟨v14, h13, h⟩ := Option.bind_eq_some_iff.1 h
    obtain ⟨_, h15, h⟩ := Option.bind_eq_some_iff.1 h
    exact ⟨_, h, weak_ren (l := [some b4]) (sizedN_ok hz) (distO_ok h15) (LiveR.cons (RefsR.plain (Refs.of_eq (intO_eq h1)) rfl) (LiveR.cons (RefsR.ptr (l := [some b4]) (i := 0) rfl (ptrN_eq h3)) (LiveR.cons (RefsR.plain (Refs.of_eq (intO_eq h5)) rfl) LiveR.nil))) (BlksR.cons (rowN_refs h7 rfl (GtRefsR.cons (RefsR.plain (Refs.of_eq (intO_eq h9)) rfl) (GtRefsR.cons (RefsR.plain (vtO_refs h11) rfl) (GtRefsR.cons (RefsR.plain (vtO_refs h13) rfl) GtRefsR.nil))) rfl) BlksR.nil)⟩

def atlasref23_Near.q0.t : Tail (Int × Int × Int × (List (Int × Int × (Bool × Bool × Bool × Unit) × (List Int) × Unit)) × (List (ByteArray × Int × Unit))) := Tail.one (.exit 0) atlasref23_Near.q0.x0
theorem atlasref23_Near.q0.np (y : (Int × Int × Int × (List (Int × Int × (Bool × Bool × Bool × Unit) × (List Int) × Unit)) × (List (ByteArray × Int × Unit)))) (v : AV) : (atlasref23_Near.q0.t.out y).1 ≠ .panic v := fun h => by cases h
theorem atlasref23_Near.q0.nn (y : (Int × Int × Int × (List (Int × Int × (Bool × Bool × Bool × Unit) × (List Int) × Unit)) × (List (ByteArray × Int × Unit)))) : (atlasref23_Near.q0.t.out y).1 ≠ .normal := fun h => by cases h
def atlasref23_Near.q0.l (k : Nat) : Nat → (Int × Int × Int × Int × (List (Int × Int × (Bool × Bool × Bool × Unit) × (List Int) × Unit)) × (List (ByteArray × Int × Unit))) → Option (Int × Int × Int × (List (Int × Int × (Bool × Bool × Bool × Unit) × (List Int) × Unit)) × (List (ByteArray × Int × Unit)))
  | 0, _ => none
  | n + 1, x => (bif (decide (x.2.2.1 < ((x.2.2.2.2.2.length : Nat) : Int))) then (bif (decide (0 ≤ x.2.2.1) && decide (x.2.2.1 < ((x.2.2.2.2.2.length : Nat) : Int))) then (bif (decide (((x.2.2.2.2.2.getD (x.2.2.1).toNat (ByteArray.empty, 0, ())).2.1) ≤ x.1)) then (bif (decide (x.2.1 < 0)) then (atlasref23_Near.q0.l k n (x.1, x.2.2.1, (IntKind.wrap .i64 (x.2.2.1 + 1)), x.2.2.2.1, x.2.2.2.2.1, x.2.2.2.2.2)) else (bif (decide (0 ≤ x.2.1) && decide (x.2.1 < ((x.2.2.2.2.2.length : Nat) : Int))) then (bif (decide (((x.2.2.2.2.2.getD (x.2.2.1).toNat (ByteArray.empty, 0, ())).2.1) > ((x.2.2.2.2.2.getD (x.2.1).toNat (ByteArray.empty, 0, ())).2.1))) then (atlasref23_Near.q0.l k n (x.1, x.2.2.1, (IntKind.wrap .i64 (x.2.2.1 + 1)), x.2.2.2.1, x.2.2.2.2.1, x.2.2.2.2.2)) else (atlasref23_Near.q0.l k n (x.1, x.2.1, (IntKind.wrap .i64 (x.2.2.1 + 1)), x.2.2.2.1, x.2.2.2.2.1, x.2.2.2.2.2))) else none)) else (atlasref23_Near.q0.l k n (x.1, x.2.1, (IntKind.wrap .i64 (x.2.2.1 + 1)), x.2.2.2.1, x.2.2.2.2.1, x.2.2.2.2.2))) else none) else (some (x.1, x.2.1, x.2.2.2.1, x.2.2.2.2.1, x.2.2.2.2.2)))
theorem atlasref23_Near.q0.z (k : Nat) (x : (Int × Int × Int × Int × (List (Int × Int × (Bool × Bool × Bool × Unit) × (List Int) × Unit)) × (List (ByteArray × Int × Unit)))) : atlasref23_Near.q0.l k 0 x = none := rfl
theorem atlasref23_Near.q0.at : codeAt (bodyOf Try.f14) [false, true, false, true, true] = some (.loop (loopBody (bodyOf Try.f14) [false, true, false, true, true])) := by kernel_rfl
theorem atlasref23_Near.q0.goes (k n : Nat) (x : (Int × Int × Int × Int × (List (Int × Int × (Bool × Bool × Bool × Unit) × (List Int) × Unit)) × (List (ByteArray × Int × Unit)))) : E Try.prog (gamOf []) (lamOf []) (loopBody (bodyOf Try.f14) [false, true, false, true, true]) (false :: [false, true, false, true, true]) (atlasref23_Near.q0.h.st x) (contD atlasref23_Near.q0.h atlasref23_Near.q0.t (atlasref23_Near.q0.l k n) some) = atlasref23_Near.q0.l k (n + 1) x := by
  kernel_rfl
theorem atlasref23_Near.q0.ok_ (k : Nat) : PieceOk Try.prog (bodyOf Try.f14) ⟨[false, true, false, true, true], _, _, atlasref23_Near.q0.h, atlasref23_Near.q0.t, atlasref23_Near.q0.l k k⟩ :=
  piece_loop (gamOf_nil _) (lamOf_nil _ _) mixed atlasref23_Near.q0.at atlasref23_Near.q0.np atlasref23_Near.q0.nn (atlasref23_Near.q0.z k) (atlasref23_Near.q0.goes k) k
def atlasref23_Near.q0.p (k : Nat) : Piece := ⟨[false, true, false, true, true], _, _, atlasref23_Near.q0.h, atlasref23_Near.q0.t, atlasref23_Near.q0.l k k⟩
theorem atlasref23_Near.q0.ok (k : Nat) : PieceOk Try.prog (bodyOf Try.f14) (atlasref23_Near.q0.p k) := atlasref23_Near.q0.ok_ k
def atlasref23_Near.f (k : Nat) (x0 : T25) (x1 : Int) : Option (ByteArray × Int × Bool) := ((atlasref23_Near.q0.l k k (x1, (-1), 0, x0.f0_Entry, x0.f1_Segments, x0.f2_Symbols)).bind fun r1 => (bif (decide (r1.2.1 < 0)) then (some ((⟨#[]⟩ : ByteArray), 0, false)) else (bif (decide (0 ≤ r1.2.1) && decide (r1.2.1 < ((r1.2.2.2.2.length : Nat) : Int))) then (bif (decide (0 ≤ r1.2.1) && decide (r1.2.1 < ((r1.2.2.2.2.length : Nat) : Int))) then (some ((r1.2.2.2.2.getD (r1.2.1).toNat (ByteArray.empty, 0, ())).1, (IntKind.wrap .u32 (r1.1 - ((r1.2.2.2.2.getD (r1.2.1).toNat (ByteArray.empty, 0, ())).2.1))), true)) else none) else none)))
theorem atlasref23_Near.run (k : Nat) (x0 : T25) (x1 : Int) : runF Try.prog (gamOf []) (lamOf [atlasref23_Near.q0.p k]) Try.f14 [(T25.av x0), (.val (.int .u32 x1))] some = (atlasref23_Near.f k x0 x1).bind fun r => some (.ret (.tup [(.val (.string r.1)), (.val (.int .u32 r.2.1)), (.val (.bool r.2.2))])) := by
  unfold atlasref23_Near.f
  try simp only [cond_bind, elim_bind, Option.bind_some, Option.bind_none, Option.bind_assoc]
  kernel_rfl
def atlasref23_Near.g (k : Nat) : GFun := fun β args K => match args with
  | [a0, a1] => (T25.of a0).bind fun x0 => (intO .u32 a1).bind fun x1 => (atlasref23_Near.f k x0 x1).bind fun r => K (.ret (.tup [(.val (.string r.1)), (.val (.int .u32 r.2.1)), (.val (.bool r.2.2))]))
  | _ => none
theorem atlasref23_Near.callable : callable Try.prog 14 = true := callable_of Try.func14 (by kernel_rfl)
theorem atlasref23_Near.ok (k : Nat) : GOk Try.prog 14 (atlasref23_Near.g k) := by
  intro β args K r h
  unfold atlasref23_Near.g at h
  split at h
  · obtain ⟨x0, e0, h⟩ := Option.bind_eq_some_iff.1 h
    obtain ⟨x1, e1, h⟩ := Option.bind_eq_some_iff.1 h
    obtain ⟨y, hy, hK⟩ := Option.bind_eq_some_iff.1 h
    have hrun := atlasref23_Near.run k x0 x1
    rw [hy] at hrun
    obtain ⟨out, e, hs⟩ := sim_of_run Try.func14 (by kernel_rfl) mixed (gamOf_nil _) (lamOf_cons (atlasref23_Near.q0.ok k) (lamOf_nil _ _)) (args' := [(T25.av x0), (.val (.int .u32 x1))]) (RefsL.cons (T25.refs e0) (RefsL.cons (Refs.of_eq (intO_eq e1)) RefsL.nil)) hrun
    simp only [Option.some.injEq] at e
    subst e
    exact ⟨_, hK, hs⟩
  · cases h
/-! ### atlas/atlaslaw23.ElfFinds: function 3 -/
def atlaslaw23_ElfFinds.f (k : Nat) (x0 : T25) (x1 : ByteArray) (x2 : Int) : Option (Bool) := ((atlaslaw23_own.f k (⟨x0.f0_Entry, x0.f1_Segments, x0.f2_Symbols⟩ : T25)).bind fun r1 => ((elf_Find.f k (⟨r1.f0_Entry, r1.f1_Segments, r1.f2_Symbols⟩ : T25) x1).bind fun r2 => ((atlasref23_Find.f k (⟨x0.f0_Entry, x0.f1_Segments, x0.f2_Symbols⟩ : T25) x1).bind fun r3 => ((atlaslaw23_own.f k (⟨x0.f0_Entry, x0.f1_Segments, x0.f2_Symbols⟩ : T25)).bind fun r4 => ((elf_Near.f k (⟨r4.f0_Entry, r4.f1_Segments, r4.f2_Symbols⟩ : T25) x2).bind fun r5 => ((atlasref23_Near.f k (⟨x0.f0_Entry, x0.f1_Segments, x0.f2_Symbols⟩ : T25) x2).bind fun r6 => (bif (r2.1 == r3.1) then (bif (r2.2 == r3.2) then (bif (r5.1.toList == r6.1.toList) then (bif (r5.2.1 == r6.2.1) then (some (r5.2.2 == r6.2.2)) else (some false)) else (some false)) else (some false)) else (some false))))))))
theorem atlaslaw23_ElfFinds.run (k : Nat) (x0 : T25) (x1 : ByteArray) (x2 : Int) : runF Try.prog (gamOf [(11, atlaslaw23_own.g k), (10, elf_Find.g k), (12, atlasref23_Find.g k), (13, elf_Near.g k), (14, atlasref23_Near.g k)]) noLam Try.f3 [(T25.av x0), (.val (.string x1)), (.val (.int .u32 x2))] some = (atlaslaw23_ElfFinds.f k x0 x1 x2).bind fun r => some (.ret (.val (.bool r))) := by
  unfold atlaslaw23_ElfFinds.f
  try simp only [cond_bind, elim_bind, Option.bind_some, Option.bind_none, Option.bind_assoc]
  kernel_rfl
def atlaslaw23_ElfFinds.g (k : Nat) : GFun := fun β args K => match args with
  | [a0, a1, a2] => (T25.of a0).bind fun x0 => (strO a1).bind fun x1 => (intO .u32 a2).bind fun x2 => (atlaslaw23_ElfFinds.f k x0 x1 x2).bind fun r => K (.ret (.val (.bool r)))
  | _ => none
theorem atlaslaw23_ElfFinds.callable : callable Try.prog 3 = true := callable_of Try.func3 (by kernel_rfl)
theorem atlaslaw23_ElfFinds.ok (k : Nat) : GOk Try.prog 3 (atlaslaw23_ElfFinds.g k) := by
  intro β args K r h
  unfold atlaslaw23_ElfFinds.g at h
  split at h
  · obtain ⟨x0, e0, h⟩ := Option.bind_eq_some_iff.1 h
    obtain ⟨x1, e1, h⟩ := Option.bind_eq_some_iff.1 h
    obtain ⟨x2, e2, h⟩ := Option.bind_eq_some_iff.1 h
    obtain ⟨y, hy, hK⟩ := Option.bind_eq_some_iff.1 h
    have hrun := atlaslaw23_ElfFinds.run k x0 x1 x2
    rw [hy] at hrun
    obtain ⟨out, e, hs⟩ := sim_of_run Try.func3 (by kernel_rfl) mixed (gamOf_cons (atlaslaw23_own.ok k) atlaslaw23_own.callable (gamOf_cons (elf_Find.ok k) elf_Find.callable (gamOf_cons (atlasref23_Find.ok k) atlasref23_Find.callable (gamOf_cons (elf_Near.ok k) elf_Near.callable (gamOf_cons (atlasref23_Near.ok k) atlasref23_Near.callable (gamOf_nil _)))))) (noLam_ok _ _) (args' := [(T25.av x0), (.val (.string x1)), (.val (.int .u32 x2))]) (RefsL.cons (T25.refs e0) (RefsL.cons (Refs.of_eq (strO_eq e1)) (RefsL.cons (Refs.of_eq (intO_eq e2)) RefsL.nil))) hrun
    simp only [Option.some.injEq] at e
    subst e
    exact ⟨_, hK, hs⟩
  · cases h
end Go.Va
