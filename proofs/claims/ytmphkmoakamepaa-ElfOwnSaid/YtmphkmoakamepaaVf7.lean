-- Written by a program of this session (wip/va/vaprint.py). Not trusted: Lean checks it.
import Derived.Test.YtmphkmoakamepaaVaTy
import Derived.Test.YtmphkmoakamepaaVf3
import Derived.Test.YtmphkmoakamepaaVf6
set_option linter.unusedVariables false
set_option linter.unusedSimpArgs false
set_option autoImplicit false
set_option maxRecDepth 100000
namespace Go.Va
open Go.Proofs
/-! ### atlas/atlaslaw23.alive: function 22 -/
def atlaslaw23_alive.f (k : Nat)  : Option (Bool) := ((elf_Write.f k (⟨32768, ([(32768, 8, (true, false, true, ()), ([30, 255, 47, 225] : List Int), ())] : List SgT), ([((⟨#[109, 97, 105, 110]⟩ : ByteArray), 32768, ())] : List (ByteArray × Int × Unit))⟩ : T25)).bind fun r1 => ((elf_Read.f k r1.1).bind fun r2 => (bif (r1.2 == 0) then (bif (r2.2 == 0) then (bif (((r1.1.length : Nat) : Int) == 4328) then ((atlaslaw23_same.f k (⟨32768, ([(32768, 8, (true, false, true, ()), ([30, 255, 47, 225] : List Int), ())] : List SgT), ([((⟨#[109, 97, 105, 110]⟩ : ByteArray), 32768, ())] : List (ByteArray × Int × Unit))⟩ : T25) (⟨r2.1.f0_Entry, r2.1.f1_Segments, r2.1.f2_Symbols⟩ : T25)).bind fun r3 => (some r3)) else (some false)) else (some false)) else (some false))))
theorem atlaslaw23_alive.run (k : Nat)  : runF Try.prog (gamOf [(17, elf_Write.g k), (20, elf_Read.g k), (19, atlaslaw23_same.g k)]) noLam Try.f22 [] some = (atlaslaw23_alive.f k ).bind fun r => some (.ret (.val (.bool r))) := by
  unfold atlaslaw23_alive.f
  try simp only [cond_bind, elim_bind, Option.bind_some, Option.bind_none, Option.bind_assoc, Sum.elim_inl, Sum.elim_inr]
  kernel_rfl
def atlaslaw23_alive.g (k : Nat) : GFun := fun β args K => match args with
  | [] => (atlaslaw23_alive.f k ).bind fun r => K (.ret (.val (.bool r)))
  | _ => none
theorem atlaslaw23_alive.callable : callable Try.prog 22 = true := callable_of Try.func22 (by kernel_rfl)
theorem atlaslaw23_alive.ok (k : Nat) : GOk Try.prog 22 (atlaslaw23_alive.g k) := by
  intro β args K r h
  unfold atlaslaw23_alive.g at h
  split at h
  · obtain ⟨y, hy, hK⟩ := bs h
    have hrun := atlaslaw23_alive.run k 
    rw [hy] at hrun
    obtain ⟨out, e, hs⟩ := sim_of_run Try.func22 (by kernel_rfl) mixed (gamOf_cons (elf_Write.ok k) elf_Write.callable (gamOf_cons (elf_Read.ok k) elf_Read.callable (gamOf_cons (atlaslaw23_same.ok k) atlaslaw23_same.callable (gamOf_nil _)))) (noLam_ok _ _) (args' := []) RefsL.nil hrun
    simp only [Option.some.injEq] at e
    subst e
    exact ⟨_, hK, hs⟩
  · cases h
/-! ### atlas/atlaslaw23.own: function 11 -/
def atlaslaw23_own.q0.h : Head (Int × Int × SgL × SyL × Int × Int × SgL × SyL × SgL × SyL) where
  k γ s F := (sizedN 39 s).bind fun _ => (ptrN 0 (gt s.tm 1)).bind fun b2 => (ptrN 0 (gt s.tm 2)).bind fun b4 => (ptrN 0 (gt s.tm 3)).bind fun b6 => (intO .i64 (gt s.tm 4)).bind fun v8 => (rowN 26 3 s.hp b2).bind fun l10 => (intO .u32 (gt l10 0)).bind fun v12 => (vtO SgC (gt l10 1)).bind fun v14 => (vtO SyC (gt l10 2)).bind fun v16 => (rowN 26 3 s.hp b4).bind fun l18 => (intO .u32 (gt l18 0)).bind fun v20 => (soN 6 s.hp (gt l18 1)).bind fun b22 => (soN 2 s.hp (gt l18 2)).bind fun b24 => (rowN 26 3 s.hp b6).bind fun l26 => (intO .u32 (gt l26 0)).bind fun v28 => (soN 6 s.hp (gt l26 1)).bind fun b30 => (soN 2 s.hp (gt l26 2)).bind fun b32 => (rtN SgC 46 s.hp b22).bind fun v34 => (rtN SyC 48 s.hp b24).bind fun v36 => (rtN SgC 46 s.hp b30).bind fun v38 => (rtN SyC 48 s.hp b32).bind fun v40 => (distO [some b2, some b4, some b6, b22, b24, b30, b32]).bind fun _ => F (v8, v12, v14, v16, v20, v28, v34, v36, v38, v40)
  st x := ⟨sparseT [(1, (.ptr 0 0)), (2, (.ptr 1 0)), (3, (.ptr 2 0)), (4, (.val (.int .i64 x.1)))] 39 0, [.row [(.val (.int .u32 x.2.1)), (.vt SgC x.2.2.1), (.vt SyC x.2.2.2.1)] 26 true, .row [(.val (.int .u32 x.2.2.2.2.1)), (.so 3 6), (.so 4 2)] 26 false, .row [(.val (.int .u32 x.2.2.2.2.2.1)), (.so 5 6), (.so 6 2)] 26 false, .rt SgC x.2.2.2.2.2.2.1 46, .rt SyC x.2.2.2.2.2.2.2.1 48, .rt SgC x.2.2.2.2.2.2.2.2.1 46, .rt SyC x.2.2.2.2.2.2.2.2.2 48]⟩
  ok γ s F r h := by
    have ⟨_, hz, h⟩ := bs h
    have ⟨b2, h1, h⟩ := bs h
    have ⟨b4, h3, h⟩ := bs h
    have ⟨b6, h5, h⟩ := bs h
    have ⟨v8, h7, h⟩ := bs h
    have ⟨l10, h9, h⟩ := bs h
    have ⟨v12, h11, h⟩ := bs h
    have ⟨v14, h13, h⟩ := bs h
    have ⟨v16, h15, h⟩ := bs h
    have ⟨l18, h17, h⟩ := bs h
    have ⟨v20, h19, h⟩ := bs h
    have ⟨b22, h21, h⟩ := bs h
    have ⟨b24, h23, h⟩ := bs h
    have ⟨l26, h25, h⟩ := bs h
    have ⟨v28, h27, h⟩ := bs h
    have ⟨b30, h29, h⟩ := bs h
    have ⟨b32, h31, h⟩ := bs h
    have ⟨v34, h33, h⟩ := bs h
    have ⟨v36, h35, h⟩ := bs h
    have ⟨v38, h37, h⟩ := bs h
    have ⟨v40, h39, h⟩ := bs h
    have ⟨_, h41, h⟩ := bs h
    exact ⟨_, h, weak_ren (l := [some b2, some b4, some b6, b22, b24, b30, b32]) (sizedN_ok hz) (distO_ok h41) (LiveR.cons (RefsR.ptr (l := [some b2, some b4, some b6, b22, b24, b30, b32]) (i := 0) rfl (ptrN_eq h1)) (LiveR.cons (RefsR.ptr (l := [some b2, some b4, some b6, b22, b24, b30, b32]) (i := 1) rfl (ptrN_eq h3)) (LiveR.cons (RefsR.ptr (l := [some b2, some b4, some b6, b22, b24, b30, b32]) (i := 2) rfl (ptrN_eq h5)) (LiveR.cons (pI h7) LiveR.nil)))) (BlksR.cons (rowN_refs h9 rfl (GtRefsR.cons (pI h11) (GtRefsR.cons (pV h13) (GtRefsR.cons (pV h15) GtRefsR.nil))) rfl) (BlksR.cons (rowN_refs h17 rfl (GtRefsR.cons (pI h19) (GtRefsR.cons (RefsR.so (l := [some b2, some b4, some b6, b22, b24, b30, b32]) (i := 3) rfl (Nat.le_of_ble_eq_true rfl) h21) (GtRefsR.cons (RefsR.so (l := [some b2, some b4, some b6, b22, b24, b30, b32]) (i := 4) rfl (Nat.le_of_ble_eq_true rfl) h23) GtRefsR.nil))) rfl) (BlksR.cons (rowN_refs h25 rfl (GtRefsR.cons (pI h27) (GtRefsR.cons (RefsR.so (l := [some b2, some b4, some b6, b22, b24, b30, b32]) (i := 5) rfl (Nat.le_of_ble_eq_true rfl) h29) (GtRefsR.cons (RefsR.so (l := [some b2, some b4, some b6, b22, b24, b30, b32]) (i := 6) rfl (Nat.le_of_ble_eq_true rfl) h31) GtRefsR.nil))) rfl) (BlksR.cons (rtN_blk h33) (BlksR.cons (rtN_blk h35) (BlksR.cons (rtN_blk h37) (BlksR.cons (rtN_blk h39) BlksR.nil)))))))⟩

def atlaslaw23_own.q0.x0 : Head (Int × SgL × SyL × Int × Int × SgL × SyL × SgL × SyL) where
  k γ s F := (sizedN 39 s).bind fun _ => (ptrN 0 (gt s.tm 1)).bind fun b2 => (ptrN 0 (gt s.tm 2)).bind fun b4 => (ptrN 0 (gt s.tm 3)).bind fun b6 => (rowN 26 3 s.hp b2).bind fun l8 => (intO .u32 (gt l8 0)).bind fun v10 => (vtO SgC (gt l8 1)).bind fun v12 => (vtO SyC (gt l8 2)).bind fun v14 => (rowN 26 3 s.hp b4).bind fun l16 => (intO .u32 (gt l16 0)).bind fun v18 => (soN 6 s.hp (gt l16 1)).bind fun b20 => (soN 2 s.hp (gt l16 2)).bind fun b22 => (rowN 26 3 s.hp b6).bind fun l24 => (intO .u32 (gt l24 0)).bind fun v26 => (soN 6 s.hp (gt l24 1)).bind fun b28 => (soN 2 s.hp (gt l24 2)).bind fun b30 => (rtN SgC 46 s.hp b20).bind fun v32 => (rtN SyC 48 s.hp b22).bind fun v34 => (rtN SgC 46 s.hp b28).bind fun v36 => (rtN SyC 48 s.hp b30).bind fun v38 => (distO [some b2, some b4, some b6, b20, b22, b28, b30]).bind fun _ => F (v10, v12, v14, v18, v26, v32, v34, v36, v38)
  st x := ⟨sparseT [(1, (.ptr 0 0)), (2, (.ptr 1 0)), (3, (.ptr 2 0))] 39 0, [.row [(.val (.int .u32 x.1)), (.vt SgC x.2.1), (.vt SyC x.2.2.1)] 26 true, .row [(.val (.int .u32 x.2.2.2.1)), (.so 3 6), (.so 4 2)] 26 false, .row [(.val (.int .u32 x.2.2.2.2.1)), (.so 5 6), (.so 6 2)] 26 false, .rt SgC x.2.2.2.2.2.1 46, .rt SyC x.2.2.2.2.2.2.1 48, .rt SgC x.2.2.2.2.2.2.2.1 46, .rt SyC x.2.2.2.2.2.2.2.2 48]⟩
  ok γ s F r h := by
    have ⟨_, hz, h⟩ := bs h
    have ⟨b2, h1, h⟩ := bs h
    have ⟨b4, h3, h⟩ := bs h
    have ⟨b6, h5, h⟩ := bs h
    have ⟨l8, h7, h⟩ := bs h
    have ⟨v10, h9, h⟩ := bs h
    have ⟨v12, h11, h⟩ := bs h
    have ⟨v14, h13, h⟩ := bs h
    have ⟨l16, h15, h⟩ := bs h
    have ⟨v18, h17, h⟩ := bs h
    have ⟨b20, h19, h⟩ := bs h
    have ⟨b22, h21, h⟩ := bs h
    have ⟨l24, h23, h⟩ := bs h
    have ⟨v26, h25, h⟩ := bs h
    have ⟨b28, h27, h⟩ := bs h
    have ⟨b30, h29, h⟩ := bs h
    have ⟨v32, h31, h⟩ := bs h
    have ⟨v34, h33, h⟩ := bs h
    have ⟨v36, h35, h⟩ := bs h
    have ⟨v38, h37, h⟩ := bs h
    have ⟨_, h39, h⟩ := bs h
    exact ⟨_, h, weak_ren (l := [some b2, some b4, some b6, b20, b22, b28, b30]) (sizedN_ok hz) (distO_ok h39) (LiveR.cons (RefsR.ptr (l := [some b2, some b4, some b6, b20, b22, b28, b30]) (i := 0) rfl (ptrN_eq h1)) (LiveR.cons (RefsR.ptr (l := [some b2, some b4, some b6, b20, b22, b28, b30]) (i := 1) rfl (ptrN_eq h3)) (LiveR.cons (RefsR.ptr (l := [some b2, some b4, some b6, b20, b22, b28, b30]) (i := 2) rfl (ptrN_eq h5)) LiveR.nil))) (BlksR.cons (rowN_refs h7 rfl (GtRefsR.cons (pI h9) (GtRefsR.cons (pV h11) (GtRefsR.cons (pV h13) GtRefsR.nil))) rfl) (BlksR.cons (rowN_refs h15 rfl (GtRefsR.cons (pI h17) (GtRefsR.cons (RefsR.so (l := [some b2, some b4, some b6, b20, b22, b28, b30]) (i := 3) rfl (Nat.le_of_ble_eq_true rfl) h19) (GtRefsR.cons (RefsR.so (l := [some b2, some b4, some b6, b20, b22, b28, b30]) (i := 4) rfl (Nat.le_of_ble_eq_true rfl) h21) GtRefsR.nil))) rfl) (BlksR.cons (rowN_refs h23 rfl (GtRefsR.cons (pI h25) (GtRefsR.cons (RefsR.so (l := [some b2, some b4, some b6, b20, b22, b28, b30]) (i := 5) rfl (Nat.le_of_ble_eq_true rfl) h27) (GtRefsR.cons (RefsR.so (l := [some b2, some b4, some b6, b20, b22, b28, b30]) (i := 6) rfl (Nat.le_of_ble_eq_true rfl) h29) GtRefsR.nil))) rfl) (BlksR.cons (rtN_blk h31) (BlksR.cons (rtN_blk h33) (BlksR.cons (rtN_blk h35) (BlksR.cons (rtN_blk h37) BlksR.nil)))))))⟩

def atlaslaw23_own.q0.t : Tail (Int × SgL × SyL × Int × Int × SgL × SyL × SgL × SyL) := Tail.one (.exit 0) atlaslaw23_own.q0.x0
theorem atlaslaw23_own.q0.np (y : (Int × SgL × SyL × Int × Int × SgL × SyL × SgL × SyL)) (v : AV) : (atlaslaw23_own.q0.t.out y).1 = .panic v → nomem v = true := fun h => by cases h
theorem atlaslaw23_own.q0.nn (y : (Int × SgL × SyL × Int × Int × SgL × SyL × SgL × SyL)) : (atlaslaw23_own.q0.t.out y).1 ≠ .normal := fun h => by cases h
def atlaslaw23_own.q0.l (k : Nat) : Nat → (Int × Int × SgL × SyL × Int × Int × SgL × SyL × SgL × SyL) → Option (Int × SgL × SyL × Int × Int × SgL × SyL × SgL × SyL)
  | 0, _ => none
  | n + 1, x => (bif (decide (x.1 < ((x.2.2.1.length : Nat) : Int))) then (bif (decide (0 ≤ x.1) && decide (x.1 < ((x.2.2.1.length : Nat) : Int))) then (bif (decide ((([] : List Int) ++ (x.2.2.1.getD (x.1).toNat (0, 0, (false, false, false, ()), [], ())).2.2.2.1).length ≤ maxLen) && decide ((([] : List Int) ++ (x.2.2.1.getD (x.1).toNat (0, 0, (false, false, false, ()), [], ())).2.2.2.1).length * 1 ≤ 211106232532992)) then (bif (decide ((x.2.2.2.2.2.2.2.2.1 ++ ([((x.2.2.1.getD (x.1).toNat (0, 0, (false, false, false, ()), [], ())).1, (x.2.2.1.getD (x.1).toNat (0, 0, (false, false, false, ()), [], ())).2.1, ((x.2.2.1.getD (x.1).toNat (0, 0, (false, false, false, ()), [], ())).2.2.1.1, (x.2.2.1.getD (x.1).toNat (0, 0, (false, false, false, ()), [], ())).2.2.1.2.1, (x.2.2.1.getD (x.1).toNat (0, 0, (false, false, false, ()), [], ())).2.2.1.2.2.1, ()), (([] : List Int) ++ (x.2.2.1.getD (x.1).toNat (0, 0, (false, false, false, ()), [], ())).2.2.2.1), ())] : List SgT)).length ≤ maxLen) && decide ((x.2.2.2.2.2.2.2.2.1 ++ ([((x.2.2.1.getD (x.1).toNat (0, 0, (false, false, false, ()), [], ())).1, (x.2.2.1.getD (x.1).toNat (0, 0, (false, false, false, ()), [], ())).2.1, ((x.2.2.1.getD (x.1).toNat (0, 0, (false, false, false, ()), [], ())).2.2.1.1, (x.2.2.1.getD (x.1).toNat (0, 0, (false, false, false, ()), [], ())).2.2.1.2.1, (x.2.2.1.getD (x.1).toNat (0, 0, (false, false, false, ()), [], ())).2.2.1.2.2.1, ()), (([] : List Int) ++ (x.2.2.1.getD (x.1).toNat (0, 0, (false, false, false, ()), [], ())).2.2.2.1), ())] : List SgT)).length * 40 ≤ 211106232532992)) then (atlaslaw23_own.q0.l k n ((IntKind.wrap .i64 (x.1 + 1)), x.2.1, x.2.2.1, x.2.2.2.1, x.2.2.2.2.1, x.2.2.2.2.2.1, x.2.2.2.2.2.2.1, x.2.2.2.2.2.2.2.1, (x.2.2.2.2.2.2.2.2.1 ++ ([((x.2.2.1.getD (x.1).toNat (0, 0, (false, false, false, ()), [], ())).1, (x.2.2.1.getD (x.1).toNat (0, 0, (false, false, false, ()), [], ())).2.1, ((x.2.2.1.getD (x.1).toNat (0, 0, (false, false, false, ()), [], ())).2.2.1.1, (x.2.2.1.getD (x.1).toNat (0, 0, (false, false, false, ()), [], ())).2.2.1.2.1, (x.2.2.1.getD (x.1).toNat (0, 0, (false, false, false, ()), [], ())).2.2.1.2.2.1, ()), (([] : List Int) ++ (x.2.2.1.getD (x.1).toNat (0, 0, (false, false, false, ()), [], ())).2.2.2.1), ())] : List SgT)), x.2.2.2.2.2.2.2.2.2)) else none) else none) else none) else (some (x.2.1, x.2.2.1, x.2.2.2.1, x.2.2.2.2.1, x.2.2.2.2.2.1, x.2.2.2.2.2.2.1, x.2.2.2.2.2.2.2.1, x.2.2.2.2.2.2.2.2.1, x.2.2.2.2.2.2.2.2.2)))
theorem atlaslaw23_own.q0.z (k : Nat) (x : (Int × Int × SgL × SyL × Int × Int × SgL × SyL × SgL × SyL)) : atlaslaw23_own.q0.l k 0 x = none := rfl
theorem atlaslaw23_own.q0.at : codeAt (bodyOf Try.f11) [false, true, false, true, true] = some (.loop (loopBody (bodyOf Try.f11) [false, true, false, true, true])) := by kernel_rfl
theorem atlaslaw23_own.q0.goes (k n : Nat) (x : (Int × Int × SgL × SyL × Int × Int × SgL × SyL × SgL × SyL)) : E Try.prog (gamOf []) (lamOf []) (loopBody (bodyOf Try.f11) [false, true, false, true, true]) (false :: [false, true, false, true, true]) (atlaslaw23_own.q0.h.st x) (contD atlaslaw23_own.q0.h atlaslaw23_own.q0.t (atlaslaw23_own.q0.l k n) some) = atlaslaw23_own.q0.l k (n + 1) x := by
  kernel_rfl
theorem atlaslaw23_own.q0.ok_ (k : Nat) : PieceOk Try.prog (bodyOf Try.f11) ⟨[false, true, false, true, true], _, _, atlaslaw23_own.q0.h, atlaslaw23_own.q0.t, atlaslaw23_own.q0.l k k⟩ :=
  piece_loop (gamOf_nil _) (lamOf_nil _ _) mixed atlaslaw23_own.q0.at atlaslaw23_own.q0.np atlaslaw23_own.q0.nn (atlaslaw23_own.q0.z k) (atlaslaw23_own.q0.goes k) k
def atlaslaw23_own.q0.p (k : Nat) : Piece := ⟨[false, true, false, true, true], _, _, atlaslaw23_own.q0.h, atlaslaw23_own.q0.t, atlaslaw23_own.q0.l k k⟩
theorem atlaslaw23_own.q0.ok (k : Nat) : PieceOk Try.prog (bodyOf Try.f11) (atlaslaw23_own.q0.p k) := atlaslaw23_own.q0.ok_ k
def atlaslaw23_own.f (k : Nat) (x0 : T25) : Option (T25) := ((atlaslaw23_own.q0.l k k (0, x0.f0_Entry, x0.f1_Segments, x0.f2_Symbols, 0, x0.f0_Entry, ([] : List SgT), ([] : List (ByteArray × Int × Unit)), ([] : List SgT), ([] : List (ByteArray × Int × Unit)))).bind fun r1 => (bif (decide ((r1.2.2.2.2.2.2.2.2 ++ r1.2.2.1).length ≤ maxLen) && decide ((r1.2.2.2.2.2.2.2.2 ++ r1.2.2.1).length * 24 ≤ 211106232532992)) then (some (⟨r1.2.2.2.2.1, r1.2.2.2.2.2.2.2.1, (r1.2.2.2.2.2.2.2.2 ++ r1.2.2.1)⟩ : T25)) else none))
theorem atlaslaw23_own.run (k : Nat) (x0 : T25) : runF Try.prog (gamOf []) (lamOf [atlaslaw23_own.q0.p k]) Try.f11 [(T25.av x0)] some = (atlaslaw23_own.f k x0).bind fun r => some (.ret (T25.av r)) := by
  unfold atlaslaw23_own.f
  try simp only [cond_bind, elim_bind, Option.bind_some, Option.bind_none, Option.bind_assoc, Sum.elim_inl, Sum.elim_inr]
  kernel_rfl
def atlaslaw23_own.g (k : Nat) : GFun := fun β args K => match args with
  | [a0] => (T25.of a0).bind fun x0 => (atlaslaw23_own.f k x0).bind fun r => K (.ret (T25.av r))
  | _ => none
theorem atlaslaw23_own.callable : callable Try.prog 11 = true := callable_of Try.func11 (by kernel_rfl)
theorem atlaslaw23_own.ok (k : Nat) : GOk Try.prog 11 (atlaslaw23_own.g k) := by
  intro β args K r h
  unfold atlaslaw23_own.g at h
  split at h
  · obtain ⟨x0, e0, h⟩ := bs h
    obtain ⟨y, hy, hK⟩ := bs h
    have hrun := atlaslaw23_own.run k x0
    rw [hy] at hrun
    obtain ⟨out, e, hs⟩ := sim_of_run Try.func11 (by kernel_rfl) mixed (gamOf_nil _) (lamOf_cons (atlaslaw23_own.q0.ok k) (lamOf_nil _ _)) (args' := [(T25.av x0)]) (RefsL.cons (T25.refs e0) RefsL.nil) hrun
    simp only [Option.some.injEq] at e
    subst e
    exact ⟨_, hK, hs⟩
  · cases h
/-! ### atlas/atlasref23.Find: function 12 -/
def atlasref23_Find.q0.h : Head (ByteArray × Int × Int × SgL × SyL) where
  k γ s F := (sizedN 28 s).bind fun _ => (strO (gt s.tm 1)).bind fun v2 => (ptrN 0 (gt s.tm 2)).bind fun b4 => (intO .i64 (gt s.tm 6)).bind fun v6 => (rowN 26 3 s.hp b4).bind fun l8 => (intO .u32 (gt l8 0)).bind fun v10 => (vtO SgC (gt l8 1)).bind fun v12 => (vtO SyC (gt l8 2)).bind fun v14 => (distO [some b4]).bind fun _ => F (v2, v6, v10, v12, v14)
  st x := ⟨sparseT [(1, (.val (.string x.1))), (2, (.ptr 0 0)), (6, (.val (.int .i64 x.2.1)))] 28 0, [.row [(.val (.int .u32 x.2.2.1)), (.vt SgC x.2.2.2.1), (.vt SyC x.2.2.2.2)] 26 true]⟩
  ok γ s F r h := by
    have ⟨_, hz, h⟩ := bs h
    have ⟨v2, h1, h⟩ := bs h
    have ⟨b4, h3, h⟩ := bs h
    have ⟨v6, h5, h⟩ := bs h
    have ⟨l8, h7, h⟩ := bs h
    have ⟨v10, h9, h⟩ := bs h
    have ⟨v12, h11, h⟩ := bs h
    have ⟨v14, h13, h⟩ := bs h
    have ⟨_, h15, h⟩ := bs h
    exact ⟨_, h, weak_ren (l := [some b4]) (sizedN_ok hz) (distO_ok h15) (LiveR.cons (pS h1) (LiveR.cons (RefsR.ptr (l := [some b4]) (i := 0) rfl (ptrN_eq h3)) (LiveR.cons (pI h5) LiveR.nil))) (BlksR.cons (rowN_refs h7 rfl (GtRefsR.cons (pI h9) (GtRefsR.cons (pV h11) (GtRefsR.cons (pV h13) GtRefsR.nil))) rfl) BlksR.nil)⟩

def atlasref23_Find.q0.x0 : Head (Int × Bool) where
  k γ s F := (sizedN 28 s).bind fun _ => (intO .u32 (gt s.tm 4)).bind fun v2 => (boolO (gt s.tm 5)).bind fun v4 => (distO []).bind fun _ => F (v2, v4)
  st x := ⟨sparseT [(4, (.val (.int .u32 x.1))), (5, (.val (.bool x.2)))] 28 0, []⟩
  ok γ s F r h := by
    have ⟨_, hz, h⟩ := bs h
    have ⟨v2, h1, h⟩ := bs h
    have ⟨v4, h3, h⟩ := bs h
    have ⟨_, h5, h⟩ := bs h
    exact ⟨_, h, weak_ren (l := []) (sizedN_ok hz) (distO_ok h5) (LiveR.cons (pI h1) (LiveR.cons (pB h3) LiveR.nil)) BlksR.nil⟩

def atlasref23_Find.q0.x1 : Head (Unit) where
  k γ s F := (sizedN 28 s).bind fun _ => (distO []).bind fun _ => F ()
  st x := ⟨sparseT [] 28 0, []⟩
  ok γ s F r h := by
    have ⟨_, hz, h⟩ := bs h
    have ⟨_, h1, h⟩ := bs h
    exact ⟨_, h, weak_ren (l := []) (sizedN_ok hz) (distO_ok h1) LiveR.nil BlksR.nil⟩

def atlasref23_Find.q0.t : Tail ((Int × Bool) ⊕ (Unit)) := Tail.or .ret atlasref23_Find.q0.x0 (Tail.one (.exit 0) atlasref23_Find.q0.x1)
theorem atlasref23_Find.q0.np (y : ((Int × Bool) ⊕ (Unit))) (v : AV) : (atlasref23_Find.q0.t.out y).1 = .panic v → nomem v = true := fun h => by rcases y with _ | y <;> first | (cases h; done) | (cases h; rfl) | (cases h)
theorem atlasref23_Find.q0.nn (y : ((Int × Bool) ⊕ (Unit))) : (atlasref23_Find.q0.t.out y).1 ≠ .normal := fun h => by rcases y with _ | y <;> first | (cases h; done) | (cases h; rfl) | (cases h)
def atlasref23_Find.q0.l (k : Nat) : Nat → (ByteArray × Int × Int × SgL × SyL) → Option ((Int × Bool) ⊕ (Unit))
  | 0, _ => none
  | n + 1, x => (bif (decide (x.2.1 < ((x.2.2.2.2.length : Nat) : Int))) then (bif (decide (0 ≤ x.2.1) && decide (x.2.1 < ((x.2.2.2.2.length : Nat) : Int))) then (bif (((x.2.2.2.2.getD (x.2.1).toNat (ByteArray.empty, 0, ())).1).toList == x.1.toList) then (bif (decide (0 ≤ x.2.1) && decide (x.2.1 < ((x.2.2.2.2.length : Nat) : Int))) then (some (Sum.inl ((x.2.2.2.2.getD (x.2.1).toNat (ByteArray.empty, 0, ())).2.1, true))) else none) else (atlasref23_Find.q0.l k n (x.1, (IntKind.wrap .i64 (x.2.1 + 1)), x.2.2.1, x.2.2.2.1, x.2.2.2.2))) else none) else (some (Sum.inr ())))
theorem atlasref23_Find.q0.z (k : Nat) (x : (ByteArray × Int × Int × SgL × SyL)) : atlasref23_Find.q0.l k 0 x = none := rfl
theorem atlasref23_Find.q0.at : codeAt (bodyOf Try.f12) [false, true, false, true] = some (.loop (loopBody (bodyOf Try.f12) [false, true, false, true])) := by kernel_rfl
theorem atlasref23_Find.q0.goes (k n : Nat) (x : (ByteArray × Int × Int × SgL × SyL)) : E Try.prog (gamOf []) (lamOf []) (loopBody (bodyOf Try.f12) [false, true, false, true]) (false :: [false, true, false, true]) (atlasref23_Find.q0.h.st x) (contD atlasref23_Find.q0.h atlasref23_Find.q0.t (atlasref23_Find.q0.l k n) some) = atlasref23_Find.q0.l k (n + 1) x := by
  kernel_rfl
theorem atlasref23_Find.q0.ok_ (k : Nat) : PieceOk Try.prog (bodyOf Try.f12) ⟨[false, true, false, true], _, _, atlasref23_Find.q0.h, atlasref23_Find.q0.t, atlasref23_Find.q0.l k k⟩ :=
  piece_loop (gamOf_nil _) (lamOf_nil _ _) mixed atlasref23_Find.q0.at atlasref23_Find.q0.np atlasref23_Find.q0.nn (atlasref23_Find.q0.z k) (atlasref23_Find.q0.goes k) k
def atlasref23_Find.q0.p (k : Nat) : Piece := ⟨[false, true, false, true], _, _, atlasref23_Find.q0.h, atlasref23_Find.q0.t, atlasref23_Find.q0.l k k⟩
theorem atlasref23_Find.q0.ok (k : Nat) : PieceOk Try.prog (bodyOf Try.f12) (atlasref23_Find.q0.p k) := atlasref23_Find.q0.ok_ k
def atlasref23_Find.f (k : Nat) (x0 : T25) (x1 : ByteArray) : Option (Int × Bool) := ((atlasref23_Find.q0.l k k (x1, 0, x0.f0_Entry, x0.f1_Segments, x0.f2_Symbols)).bind fun r1 => (Sum.elim (fun r2 => (some (r2.1, r2.2))) (fun r3 => (some (0, false))) r1))
theorem atlasref23_Find.run (k : Nat) (x0 : T25) (x1 : ByteArray) : runF Try.prog (gamOf []) (lamOf [atlasref23_Find.q0.p k]) Try.f12 [(T25.av x0), (.val (.string x1))] some = (atlasref23_Find.f k x0 x1).bind fun r => some (.ret (.tup [(.val (.int .u32 r.1)), (.val (.bool r.2))])) := by
  unfold atlasref23_Find.f
  try simp only [cond_bind, elim_bind, Option.bind_some, Option.bind_none, Option.bind_assoc, Sum.elim_inl, Sum.elim_inr]
  kernel_rfl
def atlasref23_Find.g (k : Nat) : GFun := fun β args K => match args with
  | [a0, a1] => (T25.of a0).bind fun x0 => (strO a1).bind fun x1 => (atlasref23_Find.f k x0 x1).bind fun r => K (.ret (.tup [(.val (.int .u32 r.1)), (.val (.bool r.2))]))
  | _ => none
theorem atlasref23_Find.callable : callable Try.prog 12 = true := callable_of Try.func12 (by kernel_rfl)
theorem atlasref23_Find.ok (k : Nat) : GOk Try.prog 12 (atlasref23_Find.g k) := by
  intro β args K r h
  unfold atlasref23_Find.g at h
  split at h
  · obtain ⟨x0, e0, h⟩ := bs h
    have ⟨x1, e1, h⟩ := bs h
    obtain ⟨y, hy, hK⟩ := bs h
    have hrun := atlasref23_Find.run k x0 x1
    rw [hy] at hrun
    obtain ⟨out, e, hs⟩ := sim_of_run Try.func12 (by kernel_rfl) mixed (gamOf_nil _) (lamOf_cons (atlasref23_Find.q0.ok k) (lamOf_nil _ _)) (args' := [(T25.av x0), (.val (.string x1))]) (RefsL.cons (T25.refs e0) (RefsL.cons (Refs.of_eq (strO_eq e1)) RefsL.nil)) hrun
    simp only [Option.some.injEq] at e
    subst e
    exact ⟨_, hK, hs⟩
  · cases h
/-! ### atlas/atlasref23.segment: function 27 -/
def atlasref23_segment.q0.h : Head (Bool × Int × Int × Bool × Bool × Bool × (List Int)) where
  k γ s F := (sizedN 44 s).bind fun _ => (ptrN 0 (gt s.tm 1)).bind fun b2 => (boolO (gt s.tm 3)).bind fun v4 => (rowN 46 6 s.hp b2).bind fun l6 => (intO .u32 (gt l6 0)).bind fun v8 => (intO .u32 (gt l6 1)).bind fun v10 => (boolO (gt l6 2)).bind fun v12 => (boolO (gt l6 3)).bind fun v14 => (boolO (gt l6 4)).bind fun v16 => (vtO (.int .u8) (gt l6 5)).bind fun v18 => (distO [some b2]).bind fun _ => F (v4, v8, v10, v12, v14, v16, v18)
  st x := ⟨sparseT [(1, (.ptr 0 0)), (3, (.val (.bool x.1)))] 44 0, [.row [(.val (.int .u32 x.2.1)), (.val (.int .u32 x.2.2.1)), (.val (.bool x.2.2.2.1)), (.val (.bool x.2.2.2.2.1)), (.val (.bool x.2.2.2.2.2.1)), (.vt (.int .u8) x.2.2.2.2.2.2)] 46 true]⟩
  ok γ s F r h := by
    have ⟨_, hz, h⟩ := bs h
    have ⟨b2, h1, h⟩ := bs h
    have ⟨v4, h3, h⟩ := bs h
    have ⟨l6, h5, h⟩ := bs h
    have ⟨v8, h7, h⟩ := bs h
    have ⟨v10, h9, h⟩ := bs h
    have ⟨v12, h11, h⟩ := bs h
    have ⟨v14, h13, h⟩ := bs h
    have ⟨v16, h15, h⟩ := bs h
    have ⟨v18, h17, h⟩ := bs h
    have ⟨_, h19, h⟩ := bs h
    exact ⟨_, h, weak_ren (l := [some b2]) (sizedN_ok hz) (distO_ok h19) (LiveR.cons (RefsR.ptr (l := [some b2]) (i := 0) rfl (ptrN_eq h1)) (LiveR.cons (pB h3) LiveR.nil)) (BlksR.cons (rowN_refs h5 rfl (GtRefsR.cons (pI h7) (GtRefsR.cons (pI h9) (GtRefsR.cons (pB h11) (GtRefsR.cons (pB h13) (GtRefsR.cons (pB h15) (GtRefsR.cons (pV h17) GtRefsR.nil)))))) rfl) BlksR.nil)⟩

def atlasref23_segment.q0.x0 : Head (Bool) where
  k γ s F := (sizedN 44 s).bind fun _ => (boolO (gt s.tm 2)).bind fun v2 => (distO []).bind fun _ => F (v2)
  st x := ⟨sparseT [(2, (.val (.bool x)))] 44 0, []⟩
  ok γ s F r h := by
    have ⟨_, hz, h⟩ := bs h
    have ⟨v2, h1, h⟩ := bs h
    have ⟨_, h3, h⟩ := bs h
    exact ⟨_, h, weak_ren (l := []) (sizedN_ok hz) (distO_ok h3) (LiveR.cons (pB h1) LiveR.nil) BlksR.nil⟩

def atlasref23_segment.q0.t : Tail (Bool) := Tail.one .ret atlasref23_segment.q0.x0
theorem atlasref23_segment.q0.np (y : (Bool)) (v : AV) : (atlasref23_segment.q0.t.out y).1 = .panic v → nomem v = true := fun h => by cases h
def atlasref23_segment.q0.l (k : Nat) (x : (Bool × Int × Int × Bool × Bool × Bool × (List Int))) : Option (Bool) := (bif x.1 then (bif (decide ((IntKind.wrap .u64 ((x.2.2.2.2.2.2.length : Nat) : Int)) ≤ (IntKind.wrap .u64 x.2.2.1))) then (some x.2.2.2.1) else (some false)) else (some false))
theorem atlasref23_segment.q0.at : codeAt (bodyOf Try.f27) [true, true] = some (codeOf (bodyOf Try.f27) [true, true]) := by kernel_rfl
theorem atlasref23_segment.q0.goes (k : Nat) (x : (Bool × Int × Int × Bool × Bool × Bool × (List Int))) : E Try.prog (gamOf []) (lamOf []) (codeOf (bodyOf Try.f27) [true, true]) [true, true] (atlasref23_segment.q0.h.st x) (fun ex t => atlasref23_segment.q0.t.d _ ex t some) = atlasref23_segment.q0.l k x := by
  kernel_rfl
theorem atlasref23_segment.q0.ok_ (k : Nat) : PieceOk Try.prog (bodyOf Try.f27) ⟨[true, true], _, _, atlasref23_segment.q0.h, atlasref23_segment.q0.t, atlasref23_segment.q0.l k⟩ :=
  piece_code (gamOf_nil _) (lamOf_nil _ _) mixed atlasref23_segment.q0.at atlasref23_segment.q0.np (atlasref23_segment.q0.goes k)
def atlasref23_segment.q0.p (k : Nat) : Piece := ⟨[true, true], _, _, atlasref23_segment.q0.h, atlasref23_segment.q0.t, atlasref23_segment.q0.l k⟩
theorem atlasref23_segment.q0.ok (k : Nat) : PieceOk Try.prog (bodyOf Try.f27) (atlasref23_segment.q0.p k) := atlasref23_segment.q0.ok_ k
def atlasref23_segment.f (k : Nat) (x0 : T45) : Option (Bool) := (bif ((Int.tmod x0.f0_VA 4096) == 0) then (bif (decide (x0.f1_Size ≥ 1)) then (bif (decide (x0.f1_Size ≤ 16777216)) then ((atlasref23_segment.q0.l k ((decide ((IntKind.wrap .u64 ((IntKind.wrap .u64 x0.f0_VA) + (IntKind.wrap .u64 x0.f1_Size))) ≤ 4294967296)), x0.f0_VA, x0.f1_Size, x0.f2_Rights_Read, x0.f3_Rights_Write, x0.f4_Rights_Exec, x0.f5_Data)).bind fun r1 => (some r1)) else ((atlasref23_segment.q0.l k (false, x0.f0_VA, x0.f1_Size, x0.f2_Rights_Read, x0.f3_Rights_Write, x0.f4_Rights_Exec, x0.f5_Data)).bind fun r2 => (some r2))) else ((atlasref23_segment.q0.l k (false, x0.f0_VA, x0.f1_Size, x0.f2_Rights_Read, x0.f3_Rights_Write, x0.f4_Rights_Exec, x0.f5_Data)).bind fun r3 => (some r3))) else ((atlasref23_segment.q0.l k (false, x0.f0_VA, x0.f1_Size, x0.f2_Rights_Read, x0.f3_Rights_Write, x0.f4_Rights_Exec, x0.f5_Data)).bind fun r4 => (some r4)))
theorem atlasref23_segment.run (k : Nat) (x0 : T45) : runF Try.prog (gamOf []) (lamOf [atlasref23_segment.q0.p k]) Try.f27 [(T45.av x0)] some = (atlasref23_segment.f k x0).bind fun r => some (.ret (.val (.bool r))) := by
  unfold atlasref23_segment.f
  try simp only [cond_bind, elim_bind, Option.bind_some, Option.bind_none, Option.bind_assoc, Sum.elim_inl, Sum.elim_inr]
  kernel_rfl
def atlasref23_segment.g (k : Nat) : GFun := fun β args K => match args with
  | [a0] => (T45.of a0).bind fun x0 => (atlasref23_segment.f k x0).bind fun r => K (.ret (.val (.bool r)))
  | _ => none
theorem atlasref23_segment.callable : callable Try.prog 27 = true := callable_of Try.func27 (by kernel_rfl)
theorem atlasref23_segment.ok (k : Nat) : GOk Try.prog 27 (atlasref23_segment.g k) := by
  intro β args K r h
  unfold atlasref23_segment.g at h
  split at h
  · obtain ⟨x0, e0, h⟩ := bs h
    obtain ⟨y, hy, hK⟩ := bs h
    have hrun := atlasref23_segment.run k x0
    rw [hy] at hrun
    obtain ⟨out, e, hs⟩ := sim_of_run Try.func27 (by kernel_rfl) mixed (gamOf_nil _) (lamOf_cons (atlasref23_segment.q0.ok k) (lamOf_nil _ _)) (args' := [(T45.av x0)]) (RefsL.cons (T45.refs e0) RefsL.nil) hrun
    simp only [Option.some.injEq] at e
    subst e
    exact ⟨_, hK, hs⟩
  · cases h
/-! ### atlas/atlasref01.tail: function 68 -/
def atlasref01_tail.f (x0 : ByteArray) (x1 : Int) : Option (Bool) := (bif (decide (x1 < ((x0).size : Int))) then (bif (decide (0 ≤ x1) && decide (x1 < ((x0).size : Int))) then (bif (decide ((byteAt x0 x1) ≥ 128)) then (bif (decide (0 ≤ x1) && decide (x1 < ((x0).size : Int))) then (some (decide ((byteAt x0 x1) ≤ 191))) else none) else (some false)) else none) else (some false))
theorem atlasref01_tail.run (x0 : ByteArray) (x1 : Int) : runF Try.prog (gamOf []) noLam Try.f68 [(.val (.string x0)), (.val (.int .i64 x1))] some = (atlasref01_tail.f x0 x1).bind fun r => some (.ret (.val (.bool r))) := by
  unfold atlasref01_tail.f
  try simp only [cond_bind, elim_bind, Option.bind_some, Option.bind_none, Option.bind_assoc, Sum.elim_inl, Sum.elim_inr]
  kernel_rfl
def atlasref01_tail.g : GFun := fun β args K => match args with
  | [a0, a1] => (strO a0).bind fun x0 => (intO .i64 a1).bind fun x1 => (atlasref01_tail.f x0 x1).bind fun r => K (.ret (.val (.bool r)))
  | _ => none
theorem atlasref01_tail.callable : callable Try.prog 68 = true := callable_of Try.func68 (by kernel_rfl)
theorem atlasref01_tail.ok : GOk Try.prog 68 (atlasref01_tail.g) := by
  intro β args K r h
  unfold atlasref01_tail.g at h
  split at h
  · obtain ⟨x0, e0, h⟩ := bs h
    have ⟨x1, e1, h⟩ := bs h
    obtain ⟨y, hy, hK⟩ := bs h
    have hrun := atlasref01_tail.run x0 x1
    rw [hy] at hrun
    obtain ⟨out, e, hs⟩ := sim_of_run Try.func68 (by kernel_rfl) mixed (gamOf_nil _) (noLam_ok _ _) (args' := [(.val (.string x0)), (.val (.int .i64 x1))]) (RefsL.cons (Refs.of_eq (strO_eq e0)) (RefsL.cons (Refs.of_eq (intO_eq e1)) RefsL.nil)) hrun
    simp only [Option.some.injEq] at e
    subst e
    exact ⟨_, hK, hs⟩
  · cases h
/-! ### atlas/atlasref01.Rune: function 59 -/
def atlasref01_Rune.f (x0 : ByteArray) (x1 : Int) : Option (Int × Int) := (bif (decide (0 ≤ x1) && decide (x1 < ((x0).size : Int))) then (bif (decide ((IntKind.wrap .i64 (byteAt x0 x1)) < 128)) then (some ((IntKind.wrap .i64 (byteAt x0 x1)), 1)) else (bif (decide ((IntKind.wrap .i64 (byteAt x0 x1)) ≥ 194)) then (bif (decide ((IntKind.wrap .i64 (byteAt x0 x1)) ≤ 223)) then ((atlasref01_tail.f x0 (IntKind.wrap .i64 (x1 + 1))).bind fun r1 => (bif r1 then (bif (decide (0 ≤ (IntKind.wrap .i64 (x1 + 1))) && decide ((IntKind.wrap .i64 (x1 + 1)) < ((x0).size : Int))) then (some ((IntKind.wrap .i64 ((IntKind.wrap .i64 ((IntKind.wrap .i64 ((IntKind.wrap .i64 ((IntKind.wrap .i64 (byteAt x0 x1)) - 192)) * 64)) + (IntKind.wrap .i64 (byteAt x0 (IntKind.wrap .i64 (x1 + 1)))))) - 128)), 2)) else none) else (some ((-1), 1)))) else (bif (decide ((IntKind.wrap .i64 (byteAt x0 x1)) ≥ 224)) then (bif (decide ((IntKind.wrap .i64 (byteAt x0 x1)) ≤ 239)) then ((atlasref01_tail.f x0 (IntKind.wrap .i64 (x1 + 1))).bind fun r2 => (bif r2 then ((atlasref01_tail.f x0 (IntKind.wrap .i64 (x1 + 2))).bind fun r3 => (bif r3 then (bif (decide (0 ≤ (IntKind.wrap .i64 (x1 + 1))) && decide ((IntKind.wrap .i64 (x1 + 1)) < ((x0).size : Int))) then (bif (decide (0 ≤ (IntKind.wrap .i64 (x1 + 2))) && decide ((IntKind.wrap .i64 (x1 + 2)) < ((x0).size : Int))) then (bif (decide ((IntKind.wrap .i64 ((IntKind.wrap .i64 ((IntKind.wrap .i64 ((IntKind.wrap .i64 ((IntKind.wrap .i64 ((IntKind.wrap .i64 (byteAt x0 x1)) - 224)) * 4096)) + (IntKind.wrap .i64 ((IntKind.wrap .i64 ((IntKind.wrap .i64 (byteAt x0 (IntKind.wrap .i64 (x1 + 1)))) - 128)) * 64)))) + (IntKind.wrap .i64 (byteAt x0 (IntKind.wrap .i64 (x1 + 2)))))) - 128)) ≥ 2048)) then (bif (decide ((IntKind.wrap .i64 ((IntKind.wrap .i64 ((IntKind.wrap .i64 ((IntKind.wrap .i64 ((IntKind.wrap .i64 ((IntKind.wrap .i64 (byteAt x0 x1)) - 224)) * 4096)) + (IntKind.wrap .i64 ((IntKind.wrap .i64 ((IntKind.wrap .i64 (byteAt x0 (IntKind.wrap .i64 (x1 + 1)))) - 128)) * 64)))) + (IntKind.wrap .i64 (byteAt x0 (IntKind.wrap .i64 (x1 + 2)))))) - 128)) < 55296)) then (some ((IntKind.wrap .i64 ((IntKind.wrap .i64 ((IntKind.wrap .i64 ((IntKind.wrap .i64 ((IntKind.wrap .i64 ((IntKind.wrap .i64 (byteAt x0 x1)) - 224)) * 4096)) + (IntKind.wrap .i64 ((IntKind.wrap .i64 ((IntKind.wrap .i64 (byteAt x0 (IntKind.wrap .i64 (x1 + 1)))) - 128)) * 64)))) + (IntKind.wrap .i64 (byteAt x0 (IntKind.wrap .i64 (x1 + 2)))))) - 128)), 3)) else (bif (decide ((IntKind.wrap .i64 ((IntKind.wrap .i64 ((IntKind.wrap .i64 ((IntKind.wrap .i64 ((IntKind.wrap .i64 ((IntKind.wrap .i64 (byteAt x0 x1)) - 224)) * 4096)) + (IntKind.wrap .i64 ((IntKind.wrap .i64 ((IntKind.wrap .i64 (byteAt x0 (IntKind.wrap .i64 (x1 + 1)))) - 128)) * 64)))) + (IntKind.wrap .i64 (byteAt x0 (IntKind.wrap .i64 (x1 + 2)))))) - 128)) > 57343)) then (some ((IntKind.wrap .i64 ((IntKind.wrap .i64 ((IntKind.wrap .i64 ((IntKind.wrap .i64 ((IntKind.wrap .i64 ((IntKind.wrap .i64 (byteAt x0 x1)) - 224)) * 4096)) + (IntKind.wrap .i64 ((IntKind.wrap .i64 ((IntKind.wrap .i64 (byteAt x0 (IntKind.wrap .i64 (x1 + 1)))) - 128)) * 64)))) + (IntKind.wrap .i64 (byteAt x0 (IntKind.wrap .i64 (x1 + 2)))))) - 128)), 3)) else (some ((-1), 1)))) else (some ((-1), 1))) else none) else none) else (some ((-1), 1)))) else (some ((-1), 1)))) else (bif (decide ((IntKind.wrap .i64 (byteAt x0 x1)) ≥ 240)) then (bif (decide ((IntKind.wrap .i64 (byteAt x0 x1)) ≤ 244)) then ((atlasref01_tail.f x0 (IntKind.wrap .i64 (x1 + 1))).bind fun r4 => (bif r4 then ((atlasref01_tail.f x0 (IntKind.wrap .i64 (x1 + 2))).bind fun r5 => (bif r5 then ((atlasref01_tail.f x0 (IntKind.wrap .i64 (x1 + 3))).bind fun r6 => (bif r6 then (bif (decide (0 ≤ (IntKind.wrap .i64 (x1 + 1))) && decide ((IntKind.wrap .i64 (x1 + 1)) < ((x0).size : Int))) then (bif (decide (0 ≤ (IntKind.wrap .i64 (x1 + 2))) && decide ((IntKind.wrap .i64 (x1 + 2)) < ((x0).size : Int))) then (bif (decide (0 ≤ (IntKind.wrap .i64 (x1 + 3))) && decide ((IntKind.wrap .i64 (x1 + 3)) < ((x0).size : Int))) then (bif (decide ((IntKind.wrap .i64 ((IntKind.wrap .i64 ((IntKind.wrap .i64 ((IntKind.wrap .i64 ((IntKind.wrap .i64 ((IntKind.wrap .i64 ((IntKind.wrap .i64 (byteAt x0 x1)) - 240)) * 262144)) + (IntKind.wrap .i64 ((IntKind.wrap .i64 ((IntKind.wrap .i64 (byteAt x0 (IntKind.wrap .i64 (x1 + 1)))) - 128)) * 4096)))) + (IntKind.wrap .i64 ((IntKind.wrap .i64 ((IntKind.wrap .i64 (byteAt x0 (IntKind.wrap .i64 (x1 + 2)))) - 128)) * 64)))) + (IntKind.wrap .i64 (byteAt x0 (IntKind.wrap .i64 (x1 + 3)))))) - 128)) ≥ 65536)) then (bif (decide ((IntKind.wrap .i64 ((IntKind.wrap .i64 ((IntKind.wrap .i64 ((IntKind.wrap .i64 ((IntKind.wrap .i64 ((IntKind.wrap .i64 ((IntKind.wrap .i64 (byteAt x0 x1)) - 240)) * 262144)) + (IntKind.wrap .i64 ((IntKind.wrap .i64 ((IntKind.wrap .i64 (byteAt x0 (IntKind.wrap .i64 (x1 + 1)))) - 128)) * 4096)))) + (IntKind.wrap .i64 ((IntKind.wrap .i64 ((IntKind.wrap .i64 (byteAt x0 (IntKind.wrap .i64 (x1 + 2)))) - 128)) * 64)))) + (IntKind.wrap .i64 (byteAt x0 (IntKind.wrap .i64 (x1 + 3)))))) - 128)) ≤ 1114111)) then (some ((IntKind.wrap .i64 ((IntKind.wrap .i64 ((IntKind.wrap .i64 ((IntKind.wrap .i64 ((IntKind.wrap .i64 ((IntKind.wrap .i64 ((IntKind.wrap .i64 (byteAt x0 x1)) - 240)) * 262144)) + (IntKind.wrap .i64 ((IntKind.wrap .i64 ((IntKind.wrap .i64 (byteAt x0 (IntKind.wrap .i64 (x1 + 1)))) - 128)) * 4096)))) + (IntKind.wrap .i64 ((IntKind.wrap .i64 ((IntKind.wrap .i64 (byteAt x0 (IntKind.wrap .i64 (x1 + 2)))) - 128)) * 64)))) + (IntKind.wrap .i64 (byteAt x0 (IntKind.wrap .i64 (x1 + 3)))))) - 128)), 4)) else (some ((-1), 1))) else (some ((-1), 1))) else none) else none) else none) else (some ((-1), 1)))) else (some ((-1), 1)))) else (some ((-1), 1)))) else (some ((-1), 1))) else (some ((-1), 1)))) else (bif (decide ((IntKind.wrap .i64 (byteAt x0 x1)) ≥ 240)) then (bif (decide ((IntKind.wrap .i64 (byteAt x0 x1)) ≤ 244)) then ((atlasref01_tail.f x0 (IntKind.wrap .i64 (x1 + 1))).bind fun r7 => (bif r7 then ((atlasref01_tail.f x0 (IntKind.wrap .i64 (x1 + 2))).bind fun r8 => (bif r8 then ((atlasref01_tail.f x0 (IntKind.wrap .i64 (x1 + 3))).bind fun r9 => (bif r9 then (bif (decide (0 ≤ (IntKind.wrap .i64 (x1 + 1))) && decide ((IntKind.wrap .i64 (x1 + 1)) < ((x0).size : Int))) then (bif (decide (0 ≤ (IntKind.wrap .i64 (x1 + 2))) && decide ((IntKind.wrap .i64 (x1 + 2)) < ((x0).size : Int))) then (bif (decide (0 ≤ (IntKind.wrap .i64 (x1 + 3))) && decide ((IntKind.wrap .i64 (x1 + 3)) < ((x0).size : Int))) then (bif (decide ((IntKind.wrap .i64 ((IntKind.wrap .i64 ((IntKind.wrap .i64 ((IntKind.wrap .i64 ((IntKind.wrap .i64 ((IntKind.wrap .i64 ((IntKind.wrap .i64 (byteAt x0 x1)) - 240)) * 262144)) + (IntKind.wrap .i64 ((IntKind.wrap .i64 ((IntKind.wrap .i64 (byteAt x0 (IntKind.wrap .i64 (x1 + 1)))) - 128)) * 4096)))) + (IntKind.wrap .i64 ((IntKind.wrap .i64 ((IntKind.wrap .i64 (byteAt x0 (IntKind.wrap .i64 (x1 + 2)))) - 128)) * 64)))) + (IntKind.wrap .i64 (byteAt x0 (IntKind.wrap .i64 (x1 + 3)))))) - 128)) ≥ 65536)) then (bif (decide ((IntKind.wrap .i64 ((IntKind.wrap .i64 ((IntKind.wrap .i64 ((IntKind.wrap .i64 ((IntKind.wrap .i64 ((IntKind.wrap .i64 ((IntKind.wrap .i64 (byteAt x0 x1)) - 240)) * 262144)) + (IntKind.wrap .i64 ((IntKind.wrap .i64 ((IntKind.wrap .i64 (byteAt x0 (IntKind.wrap .i64 (x1 + 1)))) - 128)) * 4096)))) + (IntKind.wrap .i64 ((IntKind.wrap .i64 ((IntKind.wrap .i64 (byteAt x0 (IntKind.wrap .i64 (x1 + 2)))) - 128)) * 64)))) + (IntKind.wrap .i64 (byteAt x0 (IntKind.wrap .i64 (x1 + 3)))))) - 128)) ≤ 1114111)) then (some ((IntKind.wrap .i64 ((IntKind.wrap .i64 ((IntKind.wrap .i64 ((IntKind.wrap .i64 ((IntKind.wrap .i64 ((IntKind.wrap .i64 ((IntKind.wrap .i64 (byteAt x0 x1)) - 240)) * 262144)) + (IntKind.wrap .i64 ((IntKind.wrap .i64 ((IntKind.wrap .i64 (byteAt x0 (IntKind.wrap .i64 (x1 + 1)))) - 128)) * 4096)))) + (IntKind.wrap .i64 ((IntKind.wrap .i64 ((IntKind.wrap .i64 (byteAt x0 (IntKind.wrap .i64 (x1 + 2)))) - 128)) * 64)))) + (IntKind.wrap .i64 (byteAt x0 (IntKind.wrap .i64 (x1 + 3)))))) - 128)), 4)) else (some ((-1), 1))) else (some ((-1), 1))) else none) else none) else none) else (some ((-1), 1)))) else (some ((-1), 1)))) else (some ((-1), 1)))) else (some ((-1), 1))) else (some ((-1), 1))))) else (bif (decide ((IntKind.wrap .i64 (byteAt x0 x1)) ≥ 224)) then (bif (decide ((IntKind.wrap .i64 (byteAt x0 x1)) ≤ 239)) then ((atlasref01_tail.f x0 (IntKind.wrap .i64 (x1 + 1))).bind fun r10 => (bif r10 then ((atlasref01_tail.f x0 (IntKind.wrap .i64 (x1 + 2))).bind fun r11 => (bif r11 then (bif (decide (0 ≤ (IntKind.wrap .i64 (x1 + 1))) && decide ((IntKind.wrap .i64 (x1 + 1)) < ((x0).size : Int))) then (bif (decide (0 ≤ (IntKind.wrap .i64 (x1 + 2))) && decide ((IntKind.wrap .i64 (x1 + 2)) < ((x0).size : Int))) then (bif (decide ((IntKind.wrap .i64 ((IntKind.wrap .i64 ((IntKind.wrap .i64 ((IntKind.wrap .i64 ((IntKind.wrap .i64 ((IntKind.wrap .i64 (byteAt x0 x1)) - 224)) * 4096)) + (IntKind.wrap .i64 ((IntKind.wrap .i64 ((IntKind.wrap .i64 (byteAt x0 (IntKind.wrap .i64 (x1 + 1)))) - 128)) * 64)))) + (IntKind.wrap .i64 (byteAt x0 (IntKind.wrap .i64 (x1 + 2)))))) - 128)) ≥ 2048)) then (bif (decide ((IntKind.wrap .i64 ((IntKind.wrap .i64 ((IntKind.wrap .i64 ((IntKind.wrap .i64 ((IntKind.wrap .i64 ((IntKind.wrap .i64 (byteAt x0 x1)) - 224)) * 4096)) + (IntKind.wrap .i64 ((IntKind.wrap .i64 ((IntKind.wrap .i64 (byteAt x0 (IntKind.wrap .i64 (x1 + 1)))) - 128)) * 64)))) + (IntKind.wrap .i64 (byteAt x0 (IntKind.wrap .i64 (x1 + 2)))))) - 128)) < 55296)) then (some ((IntKind.wrap .i64 ((IntKind.wrap .i64 ((IntKind.wrap .i64 ((IntKind.wrap .i64 ((IntKind.wrap .i64 ((IntKind.wrap .i64 (byteAt x0 x1)) - 224)) * 4096)) + (IntKind.wrap .i64 ((IntKind.wrap .i64 ((IntKind.wrap .i64 (byteAt x0 (IntKind.wrap .i64 (x1 + 1)))) - 128)) * 64)))) + (IntKind.wrap .i64 (byteAt x0 (IntKind.wrap .i64 (x1 + 2)))))) - 128)), 3)) else (bif (decide ((IntKind.wrap .i64 ((IntKind.wrap .i64 ((IntKind.wrap .i64 ((IntKind.wrap .i64 ((IntKind.wrap .i64 ((IntKind.wrap .i64 (byteAt x0 x1)) - 224)) * 4096)) + (IntKind.wrap .i64 ((IntKind.wrap .i64 ((IntKind.wrap .i64 (byteAt x0 (IntKind.wrap .i64 (x1 + 1)))) - 128)) * 64)))) + (IntKind.wrap .i64 (byteAt x0 (IntKind.wrap .i64 (x1 + 2)))))) - 128)) > 57343)) then (some ((IntKind.wrap .i64 ((IntKind.wrap .i64 ((IntKind.wrap .i64 ((IntKind.wrap .i64 ((IntKind.wrap .i64 ((IntKind.wrap .i64 (byteAt x0 x1)) - 224)) * 4096)) + (IntKind.wrap .i64 ((IntKind.wrap .i64 ((IntKind.wrap .i64 (byteAt x0 (IntKind.wrap .i64 (x1 + 1)))) - 128)) * 64)))) + (IntKind.wrap .i64 (byteAt x0 (IntKind.wrap .i64 (x1 + 2)))))) - 128)), 3)) else (some ((-1), 1)))) else (some ((-1), 1))) else none) else none) else (some ((-1), 1)))) else (some ((-1), 1)))) else (bif (decide ((IntKind.wrap .i64 (byteAt x0 x1)) ≥ 240)) then (bif (decide ((IntKind.wrap .i64 (byteAt x0 x1)) ≤ 244)) then ((atlasref01_tail.f x0 (IntKind.wrap .i64 (x1 + 1))).bind fun r12 => (bif r12 then ((atlasref01_tail.f x0 (IntKind.wrap .i64 (x1 + 2))).bind fun r13 => (bif r13 then ((atlasref01_tail.f x0 (IntKind.wrap .i64 (x1 + 3))).bind fun r14 => (bif r14 then (bif (decide (0 ≤ (IntKind.wrap .i64 (x1 + 1))) && decide ((IntKind.wrap .i64 (x1 + 1)) < ((x0).size : Int))) then (bif (decide (0 ≤ (IntKind.wrap .i64 (x1 + 2))) && decide ((IntKind.wrap .i64 (x1 + 2)) < ((x0).size : Int))) then (bif (decide (0 ≤ (IntKind.wrap .i64 (x1 + 3))) && decide ((IntKind.wrap .i64 (x1 + 3)) < ((x0).size : Int))) then (bif (decide ((IntKind.wrap .i64 ((IntKind.wrap .i64 ((IntKind.wrap .i64 ((IntKind.wrap .i64 ((IntKind.wrap .i64 ((IntKind.wrap .i64 ((IntKind.wrap .i64 (byteAt x0 x1)) - 240)) * 262144)) + (IntKind.wrap .i64 ((IntKind.wrap .i64 ((IntKind.wrap .i64 (byteAt x0 (IntKind.wrap .i64 (x1 + 1)))) - 128)) * 4096)))) + (IntKind.wrap .i64 ((IntKind.wrap .i64 ((IntKind.wrap .i64 (byteAt x0 (IntKind.wrap .i64 (x1 + 2)))) - 128)) * 64)))) + (IntKind.wrap .i64 (byteAt x0 (IntKind.wrap .i64 (x1 + 3)))))) - 128)) ≥ 65536)) then (bif (decide ((IntKind.wrap .i64 ((IntKind.wrap .i64 ((IntKind.wrap .i64 ((IntKind.wrap .i64 ((IntKind.wrap .i64 ((IntKind.wrap .i64 ((IntKind.wrap .i64 (byteAt x0 x1)) - 240)) * 262144)) + (IntKind.wrap .i64 ((IntKind.wrap .i64 ((IntKind.wrap .i64 (byteAt x0 (IntKind.wrap .i64 (x1 + 1)))) - 128)) * 4096)))) + (IntKind.wrap .i64 ((IntKind.wrap .i64 ((IntKind.wrap .i64 (byteAt x0 (IntKind.wrap .i64 (x1 + 2)))) - 128)) * 64)))) + (IntKind.wrap .i64 (byteAt x0 (IntKind.wrap .i64 (x1 + 3)))))) - 128)) ≤ 1114111)) then (some ((IntKind.wrap .i64 ((IntKind.wrap .i64 ((IntKind.wrap .i64 ((IntKind.wrap .i64 ((IntKind.wrap .i64 ((IntKind.wrap .i64 ((IntKind.wrap .i64 (byteAt x0 x1)) - 240)) * 262144)) + (IntKind.wrap .i64 ((IntKind.wrap .i64 ((IntKind.wrap .i64 (byteAt x0 (IntKind.wrap .i64 (x1 + 1)))) - 128)) * 4096)))) + (IntKind.wrap .i64 ((IntKind.wrap .i64 ((IntKind.wrap .i64 (byteAt x0 (IntKind.wrap .i64 (x1 + 2)))) - 128)) * 64)))) + (IntKind.wrap .i64 (byteAt x0 (IntKind.wrap .i64 (x1 + 3)))))) - 128)), 4)) else (some ((-1), 1))) else (some ((-1), 1))) else none) else none) else none) else (some ((-1), 1)))) else (some ((-1), 1)))) else (some ((-1), 1)))) else (some ((-1), 1))) else (some ((-1), 1)))) else (bif (decide ((IntKind.wrap .i64 (byteAt x0 x1)) ≥ 240)) then (bif (decide ((IntKind.wrap .i64 (byteAt x0 x1)) ≤ 244)) then ((atlasref01_tail.f x0 (IntKind.wrap .i64 (x1 + 1))).bind fun r15 => (bif r15 then ((atlasref01_tail.f x0 (IntKind.wrap .i64 (x1 + 2))).bind fun r16 => (bif r16 then ((atlasref01_tail.f x0 (IntKind.wrap .i64 (x1 + 3))).bind fun r17 => (bif r17 then (bif (decide (0 ≤ (IntKind.wrap .i64 (x1 + 1))) && decide ((IntKind.wrap .i64 (x1 + 1)) < ((x0).size : Int))) then (bif (decide (0 ≤ (IntKind.wrap .i64 (x1 + 2))) && decide ((IntKind.wrap .i64 (x1 + 2)) < ((x0).size : Int))) then (bif (decide (0 ≤ (IntKind.wrap .i64 (x1 + 3))) && decide ((IntKind.wrap .i64 (x1 + 3)) < ((x0).size : Int))) then (bif (decide ((IntKind.wrap .i64 ((IntKind.wrap .i64 ((IntKind.wrap .i64 ((IntKind.wrap .i64 ((IntKind.wrap .i64 ((IntKind.wrap .i64 ((IntKind.wrap .i64 (byteAt x0 x1)) - 240)) * 262144)) + (IntKind.wrap .i64 ((IntKind.wrap .i64 ((IntKind.wrap .i64 (byteAt x0 (IntKind.wrap .i64 (x1 + 1)))) - 128)) * 4096)))) + (IntKind.wrap .i64 ((IntKind.wrap .i64 ((IntKind.wrap .i64 (byteAt x0 (IntKind.wrap .i64 (x1 + 2)))) - 128)) * 64)))) + (IntKind.wrap .i64 (byteAt x0 (IntKind.wrap .i64 (x1 + 3)))))) - 128)) ≥ 65536)) then (bif (decide ((IntKind.wrap .i64 ((IntKind.wrap .i64 ((IntKind.wrap .i64 ((IntKind.wrap .i64 ((IntKind.wrap .i64 ((IntKind.wrap .i64 ((IntKind.wrap .i64 (byteAt x0 x1)) - 240)) * 262144)) + (IntKind.wrap .i64 ((IntKind.wrap .i64 ((IntKind.wrap .i64 (byteAt x0 (IntKind.wrap .i64 (x1 + 1)))) - 128)) * 4096)))) + (IntKind.wrap .i64 ((IntKind.wrap .i64 ((IntKind.wrap .i64 (byteAt x0 (IntKind.wrap .i64 (x1 + 2)))) - 128)) * 64)))) + (IntKind.wrap .i64 (byteAt x0 (IntKind.wrap .i64 (x1 + 3)))))) - 128)) ≤ 1114111)) then (some ((IntKind.wrap .i64 ((IntKind.wrap .i64 ((IntKind.wrap .i64 ((IntKind.wrap .i64 ((IntKind.wrap .i64 ((IntKind.wrap .i64 ((IntKind.wrap .i64 (byteAt x0 x1)) - 240)) * 262144)) + (IntKind.wrap .i64 ((IntKind.wrap .i64 ((IntKind.wrap .i64 (byteAt x0 (IntKind.wrap .i64 (x1 + 1)))) - 128)) * 4096)))) + (IntKind.wrap .i64 ((IntKind.wrap .i64 ((IntKind.wrap .i64 (byteAt x0 (IntKind.wrap .i64 (x1 + 2)))) - 128)) * 64)))) + (IntKind.wrap .i64 (byteAt x0 (IntKind.wrap .i64 (x1 + 3)))))) - 128)), 4)) else (some ((-1), 1))) else (some ((-1), 1))) else none) else none) else none) else (some ((-1), 1)))) else (some ((-1), 1)))) else (some ((-1), 1)))) else (some ((-1), 1))) else (some ((-1), 1)))))) else none)
theorem atlasref01_Rune.run (x0 : ByteArray) (x1 : Int) : runF Try.prog (gamOf [(68, atlasref01_tail.g)]) noLam Try.f59 [(.val (.string x0)), (.val (.int .i64 x1))] some = (atlasref01_Rune.f x0 x1).bind fun r => some (.ret (.tup [(.val (.int .i64 r.1)), (.val (.int .i64 r.2))])) := by
  unfold atlasref01_Rune.f
  try simp only [cond_bind, elim_bind, Option.bind_some, Option.bind_none, Option.bind_assoc, Sum.elim_inl, Sum.elim_inr]
  kernel_rfl
def atlasref01_Rune.g : GFun := fun β args K => match args with
  | [a0, a1] => (strO a0).bind fun x0 => (intO .i64 a1).bind fun x1 => (atlasref01_Rune.f x0 x1).bind fun r => K (.ret (.tup [(.val (.int .i64 r.1)), (.val (.int .i64 r.2))]))
  | _ => none
theorem atlasref01_Rune.callable : callable Try.prog 59 = true := callable_of Try.func59 (by kernel_rfl)
theorem atlasref01_Rune.ok : GOk Try.prog 59 (atlasref01_Rune.g) := by
  intro β args K r h
  unfold atlasref01_Rune.g at h
  split at h
  · obtain ⟨x0, e0, h⟩ := bs h
    have ⟨x1, e1, h⟩ := bs h
    obtain ⟨y, hy, hK⟩ := bs h
    have hrun := atlasref01_Rune.run x0 x1
    rw [hy] at hrun
    obtain ⟨out, e, hs⟩ := sim_of_run Try.func59 (by kernel_rfl) mixed (gamOf_cons (atlasref01_tail.ok) atlasref01_tail.callable (gamOf_nil _)) (noLam_ok _ _) (args' := [(.val (.string x0)), (.val (.int .i64 x1))]) (RefsL.cons (Refs.of_eq (strO_eq e0)) (RefsL.cons (Refs.of_eq (intO_eq e1)) RefsL.nil)) hrun
    simp only [Option.some.injEq] at e
    subst e
    exact ⟨_, hK, hs⟩
  · cases h
end Go.Va
