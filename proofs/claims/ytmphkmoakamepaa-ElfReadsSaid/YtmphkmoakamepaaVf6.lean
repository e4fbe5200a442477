-- Written by a program of this session (wip/va/vaprint.py). Not trusted: Lean checks it.
import Derived.Test.YtmphkmoakamepaaVaTy
import Derived.Test.YtmphkmoakamepaaVf0
import Derived.Test.YtmphkmoakamepaaVf3
import Derived.Test.YtmphkmoakamepaaVf4
import Derived.Test.YtmphkmoakamepaaVf5
set_option linter.unusedVariables false
set_option linter.unusedSimpArgs false
set_option autoImplicit false
set_option maxRecDepth 100000
namespace Go.Va
open Go.Proofs
/-! ### atlas/atlasref23.symbols: function 53 -/
def atlasref23_symbols.q0.h : Head ((List Int) × Int × Int × Int) where
  k γ s F := (sizedN 34 s).bind fun _ => (vtO (.int .u8) (gt s.tm 0)).bind fun v2 => (intO .u64 (gt s.tm 4)).bind fun v4 => (intO .u64 (gt s.tm 5)).bind fun v6 => (intO .u64 (gt s.tm 6)).bind fun v8 => (distO []).bind fun _ => F (v2, v4, v6, v8)
  st x := ⟨sparseT [(0, (.vt (.int .u8) x.1)), (4, (.val (.int .u64 x.2.1))), (5, (.val (.int .u64 x.2.2.1))), (6, (.val (.int .u64 x.2.2.2)))] 34 0, []⟩
  ok γ s F r h := by
    obtain ⟨_, hz, h⟩ := Option.bind_eq_some_iff.1 h
    obtain ⟨v2, h1, h⟩ := Option.bind_eq_some_iff.1 h
    obtain ⟨v4, h3, h⟩ := Option.bind_eq_some_iff.1 h
    obtain ⟨v6, h5, h⟩ := Option.bind_eq_some_iff.1 h
    obtain ⟨v8, h7, h⟩ := Option.bind_eq_some_iff.1 h
    obtain ⟨_, h9, h⟩ := Option.bind_eq_some_iff.1 h
    exact ⟨_, h, weak_ren (l := []) (sizedN_ok hz) (distO_ok h9) (LiveR.cons (RefsR.plain (vtO_refs h1) rfl) (LiveR.cons (RefsR.plain (Refs.of_eq (intO_eq h3)) rfl) (LiveR.cons (RefsR.plain (Refs.of_eq (intO_eq h5)) rfl) (LiveR.cons (RefsR.plain (Refs.of_eq (intO_eq h7)) rfl) LiveR.nil)))) BlksR.nil⟩

def atlasref23_symbols.q0.x0 : Head ((List (ByteArray × Int × Unit)) × Bool) where
  k γ s F := (sizedN 34 s).bind fun _ => (vtO (.pair .str (.pair (.int .u32) .unit)) (gt s.tm 2)).bind fun v2 => (boolO (gt s.tm 3)).bind fun v4 => (distO []).bind fun _ => F (v2, v4)
  st x := ⟨sparseT [(2, (.vt (.pair .str (.pair (.int .u32) .unit)) x.1)), (3, (.val (.bool x.2)))] 34 0, []⟩
  ok γ s F r h := by
    obtain ⟨_, hz, h⟩ := Option.bind_eq_some_iff.1 h
    obtain ⟨v2, h1, h⟩ := Option.bind_eq_some_iff.1 h
    obtain ⟨v4, h3, h⟩ := Option.bind_eq_some_iff.1 h
    obtain ⟨_, h5, h⟩ := Option.bind_eq_some_iff.1 h
    exact ⟨_, h, weak_ren (l := []) (sizedN_ok hz) (distO_ok h5) (LiveR.cons (RefsR.plain (vtO_refs h1) rfl) (LiveR.cons (RefsR.plain (Refs.of_eq (boolO_eq h3)) rfl) LiveR.nil)) BlksR.nil⟩

def atlasref23_symbols.q0.x1 : Head (Unit) where
  k γ s F := (sizedN 34 s).bind fun _ => (distO []).bind fun _ => F ()
  st x := ⟨sparseT [] 34 0, []⟩
  ok γ s F r h := by
    obtain ⟨_, hz, h⟩ := Option.bind_eq_some_iff.1 h
    obtain ⟨_, h1, h⟩ := Option.bind_eq_some_iff.1 h
    exact ⟨_, h, weak_ren (l := []) (sizedN_ok hz) (distO_ok h1) LiveR.nil BlksR.nil⟩

def atlasref23_symbols.q0.t : Tail (((List (ByteArray × Int × Unit)) × Bool) ⊕ (Unit)) := Tail.or .ret atlasref23_symbols.q0.x0 (Tail.one (.exit 0) atlasref23_symbols.q0.x1)
theorem atlasref23_symbols.q0.np (y : (((List (ByteArray × Int × Unit)) × Bool) ⊕ (Unit))) (v : AV) : (atlasref23_symbols.q0.t.out y).1 = .panic v → nomem v = true := fun h => by rcases y with _ | y <;> first | (cases h; done) | (cases h; rfl) | (cases h)
theorem atlasref23_symbols.q0.nn (y : (((List (ByteArray × Int × Unit)) × Bool) ⊕ (Unit))) : (atlasref23_symbols.q0.t.out y).1 ≠ .normal := fun h => by rcases y with _ | y <;> first | (cases h; done) | (cases h; rfl) | (cases h)
def atlasref23_symbols.q0.l (k : Nat) : Nat → ((List Int) × Int × Int × Int) → Option (((List (ByteArray × Int × Unit)) × Bool) ⊕ (Unit))
  | 0, _ => none
  | n + 1, x => (bif (decide (x.2.2.2 < x.2.2.1)) then ((atlasref23_word.f k x.1 (IntKind.wrap .u64 (x.2.1 + (IntKind.wrap .u64 (40 * x.2.2.2)))) 1).bind fun r3 => (bif (r3 == 2) then ((atlasref23_table.f k x.1 x.2.1 x.2.2.1 (IntKind.wrap .u64 (x.2.1 + (IntKind.wrap .u64 (40 * x.2.2.2))))).bind fun r4 => (some (Sum.inl (r4.1, r4.2)))) else (atlasref23_symbols.q0.l k n (x.1, x.2.1, x.2.2.1, (IntKind.wrap .u64 (x.2.2.2 + 1)))))) else (some (Sum.inr ())))
theorem atlasref23_symbols.q0.z (k : Nat) (x : ((List Int) × Int × Int × Int)) : atlasref23_symbols.q0.l k 0 x = none := rfl
theorem atlasref23_symbols.q0.at : codeAt (bodyOf Try.f53) [false, true, false, true, true, true, true] = some (.loop (loopBody (bodyOf Try.f53) [false, true, false, true, true, true, true])) := by kernel_rfl
theorem atlasref23_symbols.q0.goes (k n : Nat) (x : ((List Int) × Int × Int × Int)) : E Try.prog (gamOf [(50, atlasref23_num.g k), (51, atlasref23_word.g k), (66, atlasref23_table.g k)]) (lamOf []) (loopBody (bodyOf Try.f53) [false, true, false, true, true, true, true]) (false :: [false, true, false, true, true, true, true]) (atlasref23_symbols.q0.h.st x) (contD atlasref23_symbols.q0.h atlasref23_symbols.q0.t (atlasref23_symbols.q0.l k n) some) = atlasref23_symbols.q0.l k (n + 1) x := by
  kernel_rfl
theorem atlasref23_symbols.q0.ok_ (k : Nat) : PieceOk Try.prog (bodyOf Try.f53) ⟨[false, true, false, true, true, true, true], _, _, atlasref23_symbols.q0.h, atlasref23_symbols.q0.t, atlasref23_symbols.q0.l k k⟩ :=
  piece_loop (gamOf_cons (atlasref23_num.ok k) atlasref23_num.callable (gamOf_cons (atlasref23_word.ok k) atlasref23_word.callable (gamOf_cons (atlasref23_table.ok k) atlasref23_table.callable (gamOf_nil _)))) (lamOf_nil _ _) mixed atlasref23_symbols.q0.at atlasref23_symbols.q0.np atlasref23_symbols.q0.nn (atlasref23_symbols.q0.z k) (atlasref23_symbols.q0.goes k) k
def atlasref23_symbols.q0.p (k : Nat) : Piece := ⟨[false, true, false, true, true, true, true], _, _, atlasref23_symbols.q0.h, atlasref23_symbols.q0.t, atlasref23_symbols.q0.l k k⟩
theorem atlasref23_symbols.q0.ok (k : Nat) : PieceOk Try.prog (bodyOf Try.f53) (atlasref23_symbols.q0.p k) := atlasref23_symbols.q0.ok_ k
def atlasref23_symbols.f (k : Nat) (x0 : (List Int)) : Option ((List (ByteArray × Int × Unit)) × Bool) := ((atlasref23_num.f k x0 32 4).bind fun r1 => ((atlasref23_num.f k x0 48 2).bind fun r2 => (bif (r1 == 0) then (some (([] : List (ByteArray × Int × Unit)), true)) else ((atlasref23_symbols.q0.l k k (x0, r1, r2, 0)).bind fun r5 => (Sum.elim (fun r6 => (some (r6.1, r6.2))) (fun r7 => (some (([] : List (ByteArray × Int × Unit)), true))) r5)))))
theorem atlasref23_symbols.run (k : Nat) (x0 : (List Int)) : runF Try.prog (gamOf [(50, atlasref23_num.g k), (51, atlasref23_word.g k), (66, atlasref23_table.g k)]) (lamOf [atlasref23_symbols.q0.p k]) Try.f53 [(.vt (.int .u8) x0)] some = (atlasref23_symbols.f k x0).bind fun r => some (.ret (.tup [(.vt (.pair .str (.pair (.int .u32) .unit)) r.1), (.val (.bool r.2))])) := by
  unfold atlasref23_symbols.f
  try simp only [cond_bind, elim_bind, Option.bind_some, Option.bind_none, Option.bind_assoc, Sum.elim_inl, Sum.elim_inr]
  kernel_rfl
def atlasref23_symbols.g (k : Nat) : GFun := fun β args K => match args with
  | [a0] => (vtO (.int .u8) a0).bind fun x0 => (atlasref23_symbols.f k x0).bind fun r => K (.ret (.tup [(.vt (.pair .str (.pair (.int .u32) .unit)) r.1), (.val (.bool r.2))]))
  | _ => none
theorem atlasref23_symbols.callable : callable Try.prog 53 = true := callable_of Try.func53 (by kernel_rfl)
theorem atlasref23_symbols.ok (k : Nat) : GOk Try.prog 53 (atlasref23_symbols.g k) := by
  intro β args K r h
  unfold atlasref23_symbols.g at h
  split at h
  · obtain ⟨x0, e0, h⟩ := Option.bind_eq_some_iff.1 h
    obtain ⟨y, hy, hK⟩ := Option.bind_eq_some_iff.1 h
    have hrun := atlasref23_symbols.run k x0
    rw [hy] at hrun
    obtain ⟨out, e, hs⟩ := sim_of_run Try.func53 (by kernel_rfl) mixed (gamOf_cons (atlasref23_num.ok k) atlasref23_num.callable (gamOf_cons (atlasref23_word.ok k) atlasref23_word.callable (gamOf_cons (atlasref23_table.ok k) atlasref23_table.callable (gamOf_nil _)))) (lamOf_cons (atlasref23_symbols.q0.ok k) (lamOf_nil _ _)) (args' := [(.vt (.int .u8) x0)]) (RefsL.cons (vtO_refs e0) RefsL.nil) hrun
    simp only [Option.some.injEq] at e
    subst e
    exact ⟨_, hK, hs⟩
  · cases h
/-! ### atlas/atlasref23.Read: function 21 -/
def atlasref23_Read.q0.h : Head ((List Int) × Int × Int × Int × (List (Int × Int × (Bool × Bool × Bool × Unit) × (List Int) × Unit)) × (List (ByteArray × Int × Unit)) × (List (Int × Int × (Bool × Bool × Bool × Unit) × (List Int) × Unit)) × (List (ByteArray × Int × Unit))) where
  k γ s F := (sizedN 85 s).bind fun _ => (vtO (.int .u8) (gt s.tm 0)).bind fun v2 => (ptrN 0 (gt s.tm 2)).bind fun b4 => (ptrN 0 (gt s.tm 5)).bind fun b6 => (intO .u64 (gt s.tm 6)).bind fun v8 => (rowN 26 3 s.hp b4).bind fun l10 => (intO .u32 (gt l10 0)).bind fun v12 => (soN 6 s.hp (gt l10 1)).bind fun b14 => (soN 2 s.hp (gt l10 2)).bind fun b16 => (rowN 26 3 s.hp b6).bind fun l18 => (intO .u32 (gt l18 0)).bind fun v20 => (soN 6 s.hp (gt l18 1)).bind fun b22 => (soN 2 s.hp (gt l18 2)).bind fun b24 => (rtN (.pair (.int .u32) (.pair (.int .u32) (.pair (.pair .bool (.pair .bool (.pair .bool .unit))) (.pair (.vec (.int .u8)) .unit)))) 46 s.hp b14).bind fun v26 => (rtN (.pair .str (.pair (.int .u32) .unit)) 48 s.hp b16).bind fun v28 => (rtN (.pair (.int .u32) (.pair (.int .u32) (.pair (.pair .bool (.pair .bool (.pair .bool .unit))) (.pair (.vec (.int .u8)) .unit)))) 46 s.hp b22).bind fun v30 => (rtN (.pair .str (.pair (.int .u32) .unit)) 48 s.hp b24).bind fun v32 => (distO [some b4, some b6, b14, b16, b22, b24]).bind fun _ => F (v2, v8, v12, v20, v26, v28, v30, v32)
  st x := ⟨sparseT [(0, (.vt (.int .u8) x.1)), (2, (.ptr 0 0)), (5, (.ptr 1 0)), (6, (.val (.int .u64 x.2.1)))] 85 0, [.row [(.val (.int .u32 x.2.2.1)), (.so 2 6), (.so 3 2)] 26 false, .row [(.val (.int .u32 x.2.2.2.1)), (.so 4 6), (.so 5 2)] 26 false, .rt (.pair (.int .u32) (.pair (.int .u32) (.pair (.pair .bool (.pair .bool (.pair .bool .unit))) (.pair (.vec (.int .u8)) .unit)))) x.2.2.2.2.1 46, .rt (.pair .str (.pair (.int .u32) .unit)) x.2.2.2.2.2.1 48, .rt (.pair (.int .u32) (.pair (.int .u32) (.pair (.pair .bool (.pair .bool (.pair .bool .unit))) (.pair (.vec (.int .u8)) .unit)))) x.2.2.2.2.2.2.1 46, .rt (.pair .str (.pair (.int .u32) .unit)) x.2.2.2.2.2.2.2 48]⟩
  ok γ s F r h := by
    obtain ⟨_, hz, h⟩ := Option.bind_eq_some_iff.1 h
    obtain ⟨v2, h1, h⟩ := Option.bind_eq_some_iff.1 h
    obtain ⟨b4, h3, h⟩ := Option.bind_eq_some_iff.1 h
    obtain ⟨b6, h5, h⟩ := Option.bind_eq_some_iff.1 h
    obtain ⟨v8, h7, h⟩ := Option.bind_eq_some_iff.1 h
    obtain ⟨l10, h9, h⟩ := Option.bind_eq_some_iff.1 h
    obtain ⟨v12, h11, h⟩ := Option.bind_eq_some_iff.1 h
    obtain ⟨b14, h13, h⟩ := Option.bind_eq_some_iff.1 h
    obtain ⟨b16, h15, h⟩ := Option.bind_eq_some_iff.1 h
    obtain ⟨l18, h17, h⟩ := Option.bind_eq_some_iff.1 h
    obtain ⟨v20, h19, h⟩ := Option.bind_eq_some_iff.1 h
    obtain ⟨b22, h21, h⟩ := Option.bind_eq_some_iff.1 h
    obtain ⟨b24, h23, h⟩ := Option.bind_eq_some_iff.1 h
    obtain ⟨v26, h25, h⟩ := Option.bind_eq_some_iff.1 h
    obtain ⟨v28, h27, h⟩ := Option.bind_eq_some_iff.1 h
    obtain ⟨v30, h29, h⟩ := Option.bind_eq_some_iff.1 h
    obtain ⟨v32, h31, h⟩ := Option.bind_eq_some_iff.1 h
    obtain ⟨_, h33, h⟩ := Option.bind_eq_some_iff.1 h
    exact ⟨_, h, weak_ren (l := [some b4, some b6, b14, b16, b22, b24]) (sizedN_ok hz) (distO_ok h33) (LiveR.cons (RefsR.plain (vtO_refs h1) rfl) (LiveR.cons (RefsR.ptr (l := [some b4, some b6, b14, b16, b22, b24]) (i := 0) rfl (ptrN_eq h3)) (LiveR.cons (RefsR.ptr (l := [some b4, some b6, b14, b16, b22, b24]) (i := 1) rfl (ptrN_eq h5)) (LiveR.cons (RefsR.plain (Refs.of_eq (intO_eq h7)) rfl) LiveR.nil)))) (BlksR.cons (rowN_refs h9 rfl (GtRefsR.cons (RefsR.plain (Refs.of_eq (intO_eq h11)) rfl) (GtRefsR.cons (RefsR.so (l := [some b4, some b6, b14, b16, b22, b24]) (i := 2) rfl (Nat.le_of_ble_eq_true rfl) h13) (GtRefsR.cons (RefsR.so (l := [some b4, some b6, b14, b16, b22, b24]) (i := 3) rfl (Nat.le_of_ble_eq_true rfl) h15) GtRefsR.nil))) rfl) (BlksR.cons (rowN_refs h17 rfl (GtRefsR.cons (RefsR.plain (Refs.of_eq (intO_eq h19)) rfl) (GtRefsR.cons (RefsR.so (l := [some b4, some b6, b14, b16, b22, b24]) (i := 4) rfl (Nat.le_of_ble_eq_true rfl) h21) (GtRefsR.cons (RefsR.so (l := [some b4, some b6, b14, b16, b22, b24]) (i := 5) rfl (Nat.le_of_ble_eq_true rfl) h23) GtRefsR.nil))) rfl) (BlksR.cons (rtN_blk h25) (BlksR.cons (rtN_blk h27) (BlksR.cons (rtN_blk h29) (BlksR.cons (rtN_blk h31) BlksR.nil))))))⟩

def atlasref23_Read.q0.x0 : Head (Int × Int × (List (Int × Int × (Bool × Bool × Bool × Unit) × (List Int) × Unit)) × (List (ByteArray × Int × Unit))) where
  k γ s F := (sizedN 85 s).bind fun _ => (ptrN 0 (gt s.tm 2)).bind fun b2 => (intO .i64 (gt s.tm 3)).bind fun v4 => (rowN 26 3 s.hp b2).bind fun l6 => (intO .u32 (gt l6 0)).bind fun v8 => (soN 6 s.hp (gt l6 1)).bind fun b10 => (soN 2 s.hp (gt l6 2)).bind fun b12 => (rtN (.pair (.int .u32) (.pair (.int .u32) (.pair (.pair .bool (.pair .bool (.pair .bool .unit))) (.pair (.vec (.int .u8)) .unit)))) 46 s.hp b10).bind fun v14 => (rtN (.pair .str (.pair (.int .u32) .unit)) 48 s.hp b12).bind fun v16 => (distO [some b2, b10, b12]).bind fun _ => F (v4, v8, v14, v16)
  st x := ⟨sparseT [(2, (.ptr 0 0)), (3, (.val (.int .i64 x.1)))] 85 0, [.row [(.val (.int .u32 x.2.1)), (.so 1 6), (.so 2 2)] 26 false, .rt (.pair (.int .u32) (.pair (.int .u32) (.pair (.pair .bool (.pair .bool (.pair .bool .unit))) (.pair (.vec (.int .u8)) .unit)))) x.2.2.1 46, .rt (.pair .str (.pair (.int .u32) .unit)) x.2.2.2 48]⟩
  ok γ s F r h := by
    obtain ⟨_, hz, h⟩ := Option.bind_eq_some_iff.1 h
    obtain ⟨b2, h1, h⟩ := Option.bind_eq_some_iff.1 h
    obtain ⟨v4, h3, h⟩ := Option.bind_eq_some_iff.1 h
    obtain ⟨l6, h5, h⟩ := Option.bind_eq_some_iff.1 h
    obtain ⟨v8, h7, h⟩ := Option.bind_eq_some_iff.1 h
    obtain ⟨b10, h9, h⟩ := Option.bind_eq_some_iff.1 h
    obtain ⟨b12, h11, h⟩ := Option.bind_eq_some_iff.1 h
    obtain ⟨v14, h13, h⟩ := Option.bind_eq_some_iff.1 h
    obtain ⟨v16, h15, h⟩ := Option.bind_eq_some_iff.1 h
    obtain ⟨_, h17, h⟩ := Option.bind_eq_some_iff.1 h
    exact ⟨_, h, weak_ren (l := [some b2, b10, b12]) (sizedN_ok hz) (distO_ok h17) (LiveR.cons (RefsR.ptr (l := [some b2, b10, b12]) (i := 0) rfl (ptrN_eq h1)) (LiveR.cons (RefsR.plain (Refs.of_eq (intO_eq h3)) rfl) LiveR.nil)) (BlksR.cons (rowN_refs h5 rfl (GtRefsR.cons (RefsR.plain (Refs.of_eq (intO_eq h7)) rfl) (GtRefsR.cons (RefsR.so (l := [some b2, b10, b12]) (i := 1) rfl (Nat.le_of_ble_eq_true rfl) h9) (GtRefsR.cons (RefsR.so (l := [some b2, b10, b12]) (i := 2) rfl (Nat.le_of_ble_eq_true rfl) h11) GtRefsR.nil))) rfl) (BlksR.cons (rtN_blk h13) (BlksR.cons (rtN_blk h15) BlksR.nil)))⟩

def atlasref23_Read.q0.x1 : Head ((List Int) × Int × Int × (List (Int × Int × (Bool × Bool × Bool × Unit) × (List Int) × Unit)) × (List (ByteArray × Int × Unit)) × (List (Int × Int × (Bool × Bool × Bool × Unit) × (List Int) × Unit)) × (List (ByteArray × Int × Unit))) where
  k γ s F := (sizedN 85 s).bind fun _ => (vtO (.int .u8) (gt s.tm 0)).bind fun v2 => (ptrN 0 (gt s.tm 2)).bind fun b4 => (ptrN 0 (gt s.tm 5)).bind fun b6 => (rowN 26 3 s.hp b4).bind fun l8 => (intO .u32 (gt l8 0)).bind fun v10 => (soN 6 s.hp (gt l8 1)).bind fun b12 => (soN 2 s.hp (gt l8 2)).bind fun b14 => (rowN 26 3 s.hp b6).bind fun l16 => (intO .u32 (gt l16 0)).bind fun v18 => (soN 6 s.hp (gt l16 1)).bind fun b20 => (soN 2 s.hp (gt l16 2)).bind fun b22 => (rtN (.pair (.int .u32) (.pair (.int .u32) (.pair (.pair .bool (.pair .bool (.pair .bool .unit))) (.pair (.vec (.int .u8)) .unit)))) 46 s.hp b12).bind fun v24 => (rtN (.pair .str (.pair (.int .u32) .unit)) 48 s.hp b14).bind fun v26 => (rtN (.pair (.int .u32) (.pair (.int .u32) (.pair (.pair .bool (.pair .bool (.pair .bool .unit))) (.pair (.vec (.int .u8)) .unit)))) 46 s.hp b20).bind fun v28 => (rtN (.pair .str (.pair (.int .u32) .unit)) 48 s.hp b22).bind fun v30 => (distO [some b4, some b6, b12, b14, b20, b22]).bind fun _ => F (v2, v10, v18, v24, v26, v28, v30)
  st x := ⟨sparseT [(0, (.vt (.int .u8) x.1)), (2, (.ptr 0 0)), (5, (.ptr 1 0))] 85 0, [.row [(.val (.int .u32 x.2.1)), (.so 2 6), (.so 3 2)] 26 false, .row [(.val (.int .u32 x.2.2.1)), (.so 4 6), (.so 5 2)] 26 false, .rt (.pair (.int .u32) (.pair (.int .u32) (.pair (.pair .bool (.pair .bool (.pair .bool .unit))) (.pair (.vec (.int .u8)) .unit)))) x.2.2.2.1 46, .rt (.pair .str (.pair (.int .u32) .unit)) x.2.2.2.2.1 48, .rt (.pair (.int .u32) (.pair (.int .u32) (.pair (.pair .bool (.pair .bool (.pair .bool .unit))) (.pair (.vec (.int .u8)) .unit)))) x.2.2.2.2.2.1 46, .rt (.pair .str (.pair (.int .u32) .unit)) x.2.2.2.2.2.2 48]⟩
  ok γ s F r h := by
    obtain ⟨_, hz, h⟩ := Option.bind_eq_some_iff.1 h
    obtain ⟨v2, h1, h⟩ := Option.bind_eq_some_iff.1 h
    obtain ⟨b4, h3, h⟩ := Option.bind_eq_some_iff.1 h
    obtain ⟨b6, h5, h⟩ := Option.bind_eq_some_iff.1 h
    obtain ⟨l8, h7, h⟩ := Option.bind_eq_some_iff.1 h
    obtain ⟨v10, h9, h⟩ := Option.bind_eq_some_iff.1 h
    obtain ⟨b12, h11, h⟩ := Option.bind_eq_some_iff.1 h
    obtain ⟨b14, h13, h⟩ := Option.bind_eq_some_iff.1 h
    obtain ⟨l16, h15, h⟩ := Option.bind_eq_some_iff.1 h
    obtain ⟨v18, h17, h⟩ := Option.bind_eq_some_iff.1 h
    obtain ⟨b20, h19, h⟩ := Option.bind_eq_some_iff.1 h
    obtain ⟨b22, h21, h⟩ := Option.bind_eq_some_iff.1 h
    obtain ⟨v24, h23, h⟩ := Option.bind_eq_some_iff.1 h
    obtain ⟨v26, h25, h⟩ := Option.bind_eq_some_iff.1 h
    obtain ⟨v28, h27, h⟩ := Option.bind_eq_some_iff.1 h
    obtain ⟨v30, h29, h⟩ := Option.bind_eq_some_iff.1 h
    obtain ⟨_, h31, h⟩ := Option.bind_eq_some_iff.1 h
    exact ⟨_, h, weak_ren (l := [some b4, some b6, b12, b14, b20, b22]) (sizedN_ok hz) (distO_ok h31) (LiveR.cons (RefsR.plain (vtO_refs h1) rfl) (LiveR.cons (RefsR.ptr (l := [some b4, some b6, b12, b14, b20, b22]) (i := 0) rfl (ptrN_eq h3)) (LiveR.cons (RefsR.ptr (l := [some b4, some b6, b12, b14, b20, b22]) (i := 1) rfl (ptrN_eq h5)) LiveR.nil))) (BlksR.cons (rowN_refs h7 rfl (GtRefsR.cons (RefsR.plain (Refs.of_eq (intO_eq h9)) rfl) (GtRefsR.cons (RefsR.so (l := [some b4, some b6, b12, b14, b20, b22]) (i := 2) rfl (Nat.le_of_ble_eq_true rfl) h11) (GtRefsR.cons (RefsR.so (l := [some b4, some b6, b12, b14, b20, b22]) (i := 3) rfl (Nat.le_of_ble_eq_true rfl) h13) GtRefsR.nil))) rfl) (BlksR.cons (rowN_refs h15 rfl (GtRefsR.cons (RefsR.plain (Refs.of_eq (intO_eq h17)) rfl) (GtRefsR.cons (RefsR.so (l := [some b4, some b6, b12, b14, b20, b22]) (i := 4) rfl (Nat.le_of_ble_eq_true rfl) h19) (GtRefsR.cons (RefsR.so (l := [some b4, some b6, b12, b14, b20, b22]) (i := 5) rfl (Nat.le_of_ble_eq_true rfl) h21) GtRefsR.nil))) rfl) (BlksR.cons (rtN_blk h23) (BlksR.cons (rtN_blk h25) (BlksR.cons (rtN_blk h27) (BlksR.cons (rtN_blk h29) BlksR.nil))))))⟩

def atlasref23_Read.q0.t : Tail ((Int × Int × (List (Int × Int × (Bool × Bool × Bool × Unit) × (List Int) × Unit)) × (List (ByteArray × Int × Unit))) ⊕ ((List Int) × Int × Int × (List (Int × Int × (Bool × Bool × Bool × Unit) × (List Int) × Unit)) × (List (ByteArray × Int × Unit)) × (List (Int × Int × (Bool × Bool × Bool × Unit) × (List Int) × Unit)) × (List (ByteArray × Int × Unit)))) := Tail.or .ret atlasref23_Read.q0.x0 (Tail.one (.exit 0) atlasref23_Read.q0.x1)
theorem atlasref23_Read.q0.np (y : ((Int × Int × (List (Int × Int × (Bool × Bool × Bool × Unit) × (List Int) × Unit)) × (List (ByteArray × Int × Unit))) ⊕ ((List Int) × Int × Int × (List (Int × Int × (Bool × Bool × Bool × Unit) × (List Int) × Unit)) × (List (ByteArray × Int × Unit)) × (List (Int × Int × (Bool × Bool × Bool × Unit) × (List Int) × Unit)) × (List (ByteArray × Int × Unit))))) (v : AV) : (atlasref23_Read.q0.t.out y).1 = .panic v → nomem v = true := fun h => by rcases y with _ | y <;> first | (cases h; done) | (cases h; rfl) | (cases h)
theorem atlasref23_Read.q0.nn (y : ((Int × Int × (List (Int × Int × (Bool × Bool × Bool × Unit) × (List Int) × Unit)) × (List (ByteArray × Int × Unit))) ⊕ ((List Int) × Int × Int × (List (Int × Int × (Bool × Bool × Bool × Unit) × (List Int) × Unit)) × (List (ByteArray × Int × Unit)) × (List (Int × Int × (Bool × Bool × Bool × Unit) × (List Int) × Unit)) × (List (ByteArray × Int × Unit))))) : (atlasref23_Read.q0.t.out y).1 ≠ .normal := fun h => by rcases y with _ | y <;> first | (cases h; done) | (cases h; rfl) | (cases h)
def atlasref23_Read.q0.l (k : Nat) : Nat → ((List Int) × Int × Int × Int × (List (Int × Int × (Bool × Bool × Bool × Unit) × (List Int) × Unit)) × (List (ByteArray × Int × Unit)) × (List (Int × Int × (Bool × Bool × Bool × Unit) × (List Int) × Unit)) × (List (ByteArray × Int × Unit))) → Option ((Int × Int × (List (Int × Int × (Bool × Bool × Bool × Unit) × (List Int) × Unit)) × (List (ByteArray × Int × Unit))) ⊕ ((List Int) × Int × Int × (List (Int × Int × (Bool × Bool × Bool × Unit) × (List Int) × Unit)) × (List (ByteArray × Int × Unit)) × (List (Int × Int × (Bool × Bool × Bool × Unit) × (List Int) × Unit)) × (List (ByteArray × Int × Unit))))
  | 0, _ => none
  | n + 1, x => ((atlasref23_num.f k x.1 44 2).bind fun r3 => (bif (decide (x.2.1 < r3)) then ((atlasref23_num.f k x.1 28 4).bind fun r4 => ((atlasref23_word.f k x.1 (IntKind.wrap .u64 (r4 + (IntKind.wrap .u64 (32 * x.2.1)))) 0).bind fun r5 => (bif (r5 != 1) then (atlasref23_Read.q0.l k n (x.1, (IntKind.wrap .u64 (x.2.1 + 1)), x.2.2.1, x.2.2.2.1, x.2.2.2.2.1, x.2.2.2.2.2.1, x.2.2.2.2.2.2.1, x.2.2.2.2.2.2.2)) else ((atlasref23_load.f k x.1 (IntKind.wrap .u64 (r4 + (IntKind.wrap .u64 (32 * x.2.1))))).bind fun r6 => (bif (!r6.2) then (some (Sum.inl (235, 0, ([] : List (Int × Int × (Bool × Bool × Bool × Unit) × (List Int) × Unit)), ([] : List (ByteArray × Int × Unit))))) else (bif (decide ((x.2.2.2.2.2.2.1 ++ ([(r6.1.f0_VA, r6.1.f1_Size, (r6.1.f2_Rights_Read, r6.1.f3_Rights_Write, r6.1.f4_Rights_Exec, ()), r6.1.f5_Data, ())] : List (Int × Int × (Bool × Bool × Bool × Unit) × (List Int) × Unit))).length ≤ maxLen) && decide ((x.2.2.2.2.2.2.1 ++ ([(r6.1.f0_VA, r6.1.f1_Size, (r6.1.f2_Rights_Read, r6.1.f3_Rights_Write, r6.1.f4_Rights_Exec, ()), r6.1.f5_Data, ())] : List (Int × Int × (Bool × Bool × Bool × Unit) × (List Int) × Unit))).length * 40 ≤ 140737488355328)) then (bif (decide ((((x.2.2.2.2.2.2.1 ++ ([(r6.1.f0_VA, r6.1.f1_Size, (r6.1.f2_Rights_Read, r6.1.f3_Rights_Write, r6.1.f4_Rights_Exec, ()), r6.1.f5_Data, ())] : List (Int × Int × (Bool × Bool × Bool × Unit) × (List Int) × Unit))).length : Nat) : Int) > 16)) then (some (Sum.inl (235, 0, ([] : List (Int × Int × (Bool × Bool × Bool × Unit) × (List Int) × Unit)), ([] : List (ByteArray × Int × Unit))))) else (atlasref23_Read.q0.l k n (x.1, (IntKind.wrap .u64 (x.2.1 + 1)), x.2.2.1, x.2.2.2.1, x.2.2.2.2.1, x.2.2.2.2.2.1, (x.2.2.2.2.2.2.1 ++ ([(r6.1.f0_VA, r6.1.f1_Size, (r6.1.f2_Rights_Read, r6.1.f3_Rights_Write, r6.1.f4_Rights_Exec, ()), r6.1.f5_Data, ())] : List (Int × Int × (Bool × Bool × Bool × Unit) × (List Int) × Unit))), x.2.2.2.2.2.2.2))) else none)))))) else (some (Sum.inr (x.1, x.2.2.1, x.2.2.2.1, x.2.2.2.2.1, x.2.2.2.2.2.1, x.2.2.2.2.2.2.1, x.2.2.2.2.2.2.2)))))
theorem atlasref23_Read.q0.z (k : Nat) (x : ((List Int) × Int × Int × Int × (List (Int × Int × (Bool × Bool × Bool × Unit) × (List Int) × Unit)) × (List (ByteArray × Int × Unit)) × (List (Int × Int × (Bool × Bool × Bool × Unit) × (List Int) × Unit)) × (List (ByteArray × Int × Unit)))) : atlasref23_Read.q0.l k 0 x = none := rfl
theorem atlasref23_Read.q0.at : codeAt (bodyOf Try.f21) [false, true, false, true, true, true, true] = some (.loop (loopBody (bodyOf Try.f21) [false, true, false, true, true, true, true])) := by kernel_rfl
theorem atlasref23_Read.q0.goes (k n : Nat) (x : ((List Int) × Int × Int × Int × (List (Int × Int × (Bool × Bool × Bool × Unit) × (List Int) × Unit)) × (List (ByteArray × Int × Unit)) × (List (Int × Int × (Bool × Bool × Bool × Unit) × (List Int) × Unit)) × (List (ByteArray × Int × Unit)))) : E Try.prog (gamOf [(49, atlasref23_head.g k), (50, atlasref23_num.g k), (51, atlasref23_word.g k), (52, atlasref23_load.g k)]) (lamOf []) (loopBody (bodyOf Try.f21) [false, true, false, true, true, true, true]) (false :: [false, true, false, true, true, true, true]) (atlasref23_Read.q0.h.st x) (contD atlasref23_Read.q0.h atlasref23_Read.q0.t (atlasref23_Read.q0.l k n) some) = atlasref23_Read.q0.l k (n + 1) x := by
  kernel_rfl
theorem atlasref23_Read.q0.ok_ (k : Nat) : PieceOk Try.prog (bodyOf Try.f21) ⟨[false, true, false, true, true, true, true], _, _, atlasref23_Read.q0.h, atlasref23_Read.q0.t, atlasref23_Read.q0.l k k⟩ :=
  piece_loop (gamOf_cons (atlasref23_head.ok k) atlasref23_head.callable (gamOf_cons (atlasref23_num.ok k) atlasref23_num.callable (gamOf_cons (atlasref23_word.ok k) atlasref23_word.callable (gamOf_cons (atlasref23_load.ok k) atlasref23_load.callable (gamOf_nil _))))) (lamOf_nil _ _) mixed atlasref23_Read.q0.at atlasref23_Read.q0.np atlasref23_Read.q0.nn (atlasref23_Read.q0.z k) (atlasref23_Read.q0.goes k) k
def atlasref23_Read.q0.p (k : Nat) : Piece := ⟨[false, true, false, true, true, true, true], _, _, atlasref23_Read.q0.h, atlasref23_Read.q0.t, atlasref23_Read.q0.l k k⟩
theorem atlasref23_Read.q0.ok (k : Nat) : PieceOk Try.prog (bodyOf Try.f21) (atlasref23_Read.q0.p k) := atlasref23_Read.q0.ok_ k
def atlasref23_Read.f (k : Nat) (x0 : (List Int)) : Option (T25 × Int) := ((atlasref23_head.f k x0).bind fun r1 => (bif (r1 != 0) then (some ((⟨0, ([] : List (Int × Int × (Bool × Bool × Bool × Unit) × (List Int) × Unit)), ([] : List (ByteArray × Int × Unit))⟩ : T25), r1)) else ((atlasref23_num.f k x0 24 4).bind fun r2 => ((atlasref23_Read.q0.l k k (x0, 0, 0, (IntKind.wrap .u32 r2), ([] : List (Int × Int × (Bool × Bool × Bool × Unit) × (List Int) × Unit)), ([] : List (ByteArray × Int × Unit)), ([] : List (Int × Int × (Bool × Bool × Bool × Unit) × (List Int) × Unit)), ([] : List (ByteArray × Int × Unit)))).bind fun r7 => (Sum.elim (fun r8 => (some ((⟨r8.2.1, r8.2.2.1, r8.2.2.2⟩ : T25), r8.1))) (fun r9 => (bif (decide (((r9.2.2.2.2.2.1.length : Nat) : Int) < 1)) then (some ((⟨0, ([] : List (Int × Int × (Bool × Bool × Bool × Unit) × (List Int) × Unit)), ([] : List (ByteArray × Int × Unit))⟩ : T25), 235)) else ((atlasref23_rise.f k r9.2.2.2.2.2.1).bind fun r10 => (bif (!r10) then (some ((⟨0, ([] : List (Int × Int × (Bool × Bool × Bool × Unit) × (List Int) × Unit)), ([] : List (ByteArray × Int × Unit))⟩ : T25), 236)) else ((atlasref23_start.f k r9.2.2.2.2.2.1 r9.2.2.1).bind fun r11 => (bif (!r11) then (some ((⟨0, ([] : List (Int × Int × (Bool × Bool × Bool × Unit) × (List Int) × Unit)), ([] : List (ByteArray × Int × Unit))⟩ : T25), 237)) else ((atlasref23_symbols.f k r9.1).bind fun r12 => (bif (!r12.2) then (some ((⟨0, ([] : List (Int × Int × (Bool × Bool × Bool × Unit) × (List Int) × Unit)), ([] : List (ByteArray × Int × Unit))⟩ : T25), 238)) else (some ((⟨r9.2.2.1, r9.2.2.2.2.2.1, r12.1⟩ : T25), 0)))))))))) r7)))))
theorem atlasref23_Read.run (k : Nat) (x0 : (List Int)) : runF Try.prog (gamOf [(49, atlasref23_head.g k), (50, atlasref23_num.g k), (51, atlasref23_word.g k), (52, atlasref23_load.g k), (29, atlasref23_rise.g k), (30, atlasref23_start.g k), (53, atlasref23_symbols.g k)]) (lamOf [atlasref23_Read.q0.p k]) Try.f21 [(.vt (.int .u8) x0)] some = (atlasref23_Read.f k x0).bind fun r => some (.ret (.tup [(T25.av r.1), (.val (.int .i64 r.2))])) := by
  unfold atlasref23_Read.f
  try simp only [cond_bind, elim_bind, Option.bind_some, Option.bind_none, Option.bind_assoc, Sum.elim_inl, Sum.elim_inr]
  kernel_rfl
def atlasref23_Read.g (k : Nat) : GFun := fun β args K => match args with
  | [a0] => (vtO (.int .u8) a0).bind fun x0 => (atlasref23_Read.f k x0).bind fun r => K (.ret (.tup [(T25.av r.1), (.val (.int .i64 r.2))]))
  | _ => none
theorem atlasref23_Read.callable : callable Try.prog 21 = true := callable_of Try.func21 (by kernel_rfl)
theorem atlasref23_Read.ok (k : Nat) : GOk Try.prog 21 (atlasref23_Read.g k) := by
  intro β args K r h
  unfold atlasref23_Read.g at h
  split at h
  · obtain ⟨x0, e0, h⟩ := Option.bind_eq_some_iff.1 h
    obtain ⟨y, hy, hK⟩ := Option.bind_eq_some_iff.1 h
    have hrun := atlasref23_Read.run k x0
    rw [hy] at hrun
    obtain ⟨out, e, hs⟩ := sim_of_run Try.func21 (by kernel_rfl) mixed (gamOf_cons (atlasref23_head.ok k) atlasref23_head.callable (gamOf_cons (atlasref23_num.ok k) atlasref23_num.callable (gamOf_cons (atlasref23_word.ok k) atlasref23_word.callable (gamOf_cons (atlasref23_load.ok k) atlasref23_load.callable (gamOf_cons (atlasref23_rise.ok k) atlasref23_rise.callable (gamOf_cons (atlasref23_start.ok k) atlasref23_start.callable (gamOf_cons (atlasref23_symbols.ok k) atlasref23_symbols.callable (gamOf_nil _)))))))) (lamOf_cons (atlasref23_Read.q0.ok k) (lamOf_nil _ _)) (args' := [(.vt (.int .u8) x0)]) (RefsL.cons (vtO_refs e0) RefsL.nil) hrun
    simp only [Option.some.injEq] at e
    subst e
    exact ⟨_, hK, hs⟩
  · cases h
/-! ### atlas/atlaslaw23.ElfReads: function 6 -/
def atlaslaw23_ElfReads.f (k : Nat) (x0 : (List Int)) : Option (Bool) := (bif (decide ((([] : List Int) ++ x0).length ≤ maxLen) && decide ((([] : List Int) ++ x0).length * 1 ≤ 140737488355328)) then ((elf_Read.f k (([] : List Int) ++ x0)).bind fun r1 => ((atlasref23_Read.f k x0).bind fun r2 => ((atlaslaw23_same.f k (⟨r1.1.f0_Entry, r1.1.f1_Segments, r1.1.f2_Symbols⟩ : T25) (⟨r2.1.f0_Entry, r2.1.f1_Segments, r2.1.f2_Symbols⟩ : T25)).bind fun r3 => (bif r3 then (bif (r1.2 == r2.2) then (bif (([] : List Int) ++ x0).all (fun b => decide (0 ≤ b) && decide (b < 256)) then (bif x0.all (fun b => decide (0 ≤ b) && decide (b < 256)) then (some ((bytesO (([] : List Int) ++ x0)).toList == (bytesO x0).toList)) else none) else none) else (some false)) else (some false))))) else none)
theorem atlaslaw23_ElfReads.run (k : Nat) (x0 : (List Int)) : runF Try.prog (gamOf [(20, elf_Read.g k), (21, atlasref23_Read.g k), (19, atlaslaw23_same.g k)]) noLam Try.f6 [(.vt (.int .u8) x0)] some = (atlaslaw23_ElfReads.f k x0).bind fun r => some (.ret (.val (.bool r))) := by
  unfold atlaslaw23_ElfReads.f
  try simp only [cond_bind, elim_bind, Option.bind_some, Option.bind_none, Option.bind_assoc, Sum.elim_inl, Sum.elim_inr]
  kernel_rfl
def atlaslaw23_ElfReads.g (k : Nat) : GFun := fun β args K => match args with
  | [a0] => (vtO (.int .u8) a0).bind fun x0 => (atlaslaw23_ElfReads.f k x0).bind fun r => K (.ret (.val (.bool r)))
  | _ => none
theorem atlaslaw23_ElfReads.callable : callable Try.prog 6 = true := callable_of Try.func6 (by kernel_rfl)
theorem atlaslaw23_ElfReads.ok (k : Nat) : GOk Try.prog 6 (atlaslaw23_ElfReads.g k) := by
  intro β args K r h
  unfold atlaslaw23_ElfReads.g at h
  split at h
  · obtain ⟨x0, e0, h⟩ := Option.bind_eq_some_iff.1 h
    obtain ⟨y, hy, hK⟩ := Option.bind_eq_some_iff.1 h
    have hrun := atlaslaw23_ElfReads.run k x0
    rw [hy] at hrun
    obtain ⟨out, e, hs⟩ := sim_of_run Try.func6 (by kernel_rfl) mixed (gamOf_cons (elf_Read.ok k) elf_Read.callable (gamOf_cons (atlasref23_Read.ok k) atlasref23_Read.callable (gamOf_cons (atlaslaw23_same.ok k) atlaslaw23_same.callable (gamOf_nil _)))) (noLam_ok _ _) (args' := [(.vt (.int .u8) x0)]) (RefsL.cons (vtO_refs e0) RefsL.nil) hrun
    simp only [Option.some.injEq] at e
    subst e
    exact ⟨_, hK, hs⟩
  · cases h
end Go.Va
