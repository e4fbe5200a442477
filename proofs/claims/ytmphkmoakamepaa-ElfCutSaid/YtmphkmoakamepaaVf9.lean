-- Written by a program of this session (wip/va/vaprint.py). Not trusted: Lean checks it.
import Derived.Test.YtmphkmoakamepaaVaTy
set_option linter.unusedVariables false
set_option linter.unusedSimpArgs false
set_option autoImplicit false
set_option maxRecDepth 100000
namespace Go.Va
open Go.Proofs
/-! ### (*atlas/atlasref23.File).up: function 41, which writes through its first argument -/
def atlasref23_File_up.q0.h : Head (Int × (List Int)) where
  k γ s F := (sizedN 21 s).bind fun _ => (ppN 0 (gt s.tm 0)).bind fun b2 => (intO .i64 (gt s.tm 1)).bind fun v4 => (rowN 71 1 s.hp b2).bind fun l6 => (soN 1 s.hp (gt l6 0)).bind fun b8 => (rtN (.int .u8) 5 s.hp b8).bind fun v10 => (distO [some b2, b8]).bind fun _ => F (v4, v10)
  st x := ⟨sparseT [(0, (.pp 0 0)), (1, (.val (.int .i64 x.1)))] 21 0, [.row [(.so 1 1)] 71 false, .rt (.int .u8) x.2 5]⟩
  ok γ s F r h := by
    have ⟨_, hz, h⟩ := bs h
    have ⟨b2, h1, h⟩ := bs h
    have ⟨v4, h3, h⟩ := bs h
    have ⟨l6, h5, h⟩ := bs h
    have ⟨b8, h7, h⟩ := bs h
    have ⟨v10, h9, h⟩ := bs h
    have ⟨_, h11, h⟩ := bs h
    exact ⟨_, h, weak_ren (l := [some b2, b8]) (sizedN_ok hz) (distO_ok h11) (LiveR.cons (RefsR.pp (l := [some b2, b8]) (i := 0) rfl (ppN_eq h1)) (LiveR.cons (pI h3) LiveR.nil)) (BlksR.cons (rowN_refs h5 rfl (GtRefsR.cons (RefsR.so (l := [some b2, b8]) (i := 1) rfl (Nat.le_of_ble_eq_true rfl) h7) GtRefsR.nil) rfl) (BlksR.cons (rtN_blk h9) BlksR.nil))⟩

def atlasref23_File_up.q0.x0 : Head ((List Int)) where
  k γ s F := (sizedN 21 s).bind fun _ => (ppN 0 (gt s.tm 0)).bind fun b2 => (rowN 71 1 s.hp b2).bind fun l4 => (soN 1 s.hp (gt l4 0)).bind fun b6 => (rtN (.int .u8) 5 s.hp b6).bind fun v8 => (distO [some b2, b6]).bind fun _ => F (v8)
  st x := ⟨sparseT [(0, (.pp 0 0))] 21 0, [.row [(.so 1 1)] 71 false, .rt (.int .u8) x 5]⟩
  ok γ s F r h := by
    have ⟨_, hz, h⟩ := bs h
    have ⟨b2, h1, h⟩ := bs h
    have ⟨l4, h3, h⟩ := bs h
    have ⟨b6, h5, h⟩ := bs h
    have ⟨v8, h7, h⟩ := bs h
    have ⟨_, h9, h⟩ := bs h
    exact ⟨_, h, weak_ren (l := [some b2, b6]) (sizedN_ok hz) (distO_ok h9) (LiveR.cons (RefsR.pp (l := [some b2, b6]) (i := 0) rfl (ppN_eq h1)) LiveR.nil) (BlksR.cons (rowN_refs h3 rfl (GtRefsR.cons (RefsR.so (l := [some b2, b6]) (i := 1) rfl (Nat.le_of_ble_eq_true rfl) h5) GtRefsR.nil) rfl) (BlksR.cons (rtN_blk h7) BlksR.nil))⟩

def atlasref23_File_up.q0.t : Tail ((List Int)) := Tail.one (.exit 0) atlasref23_File_up.q0.x0
theorem atlasref23_File_up.q0.np (y : ((List Int))) (v : AV) : (atlasref23_File_up.q0.t.out y).1 = .panic v → nomem v = true := fun h => by cases h
theorem atlasref23_File_up.q0.nn (y : ((List Int))) : (atlasref23_File_up.q0.t.out y).1 ≠ .normal := fun h => by cases h
def atlasref23_File_up.q0.l (k : Nat) : Nat → (Int × (List Int)) → Option ((List Int))
  | 0, _ => none
  | n + 1, x => (bif decide (x.1 = 0) then none else (bif ((Int.tmod ((x.2.length : Nat) : Int) x.1) != 0) then (bif (decide ((x.2 ++ ([0] : List Int)).length ≤ maxLen) && decide ((x.2 ++ ([0] : List Int)).length * 1 ≤ 211106232532992)) then (atlasref23_File_up.q0.l k n (x.1, (x.2 ++ ([0] : List Int)))) else none) else (some x.2)))
theorem atlasref23_File_up.q0.z (k : Nat) (x : (Int × (List Int))) : atlasref23_File_up.q0.l k 0 x = none := rfl
theorem atlasref23_File_up.q0.at : codeAt (bodyOf Try.f41) [false] = some (.loop (loopBody (bodyOf Try.f41) [false])) := by kernel_rfl
theorem atlasref23_File_up.q0.goes (k n : Nat) (x : (Int × (List Int))) : E Try.prog (gamOf []) (lamOf []) (loopBody (bodyOf Try.f41) [false]) (false :: [false]) (atlasref23_File_up.q0.h.st x) (contD atlasref23_File_up.q0.h atlasref23_File_up.q0.t (atlasref23_File_up.q0.l k n) some) = atlasref23_File_up.q0.l k (n + 1) x := by
  kernel_rfl
theorem atlasref23_File_up.q0.ok_ (k : Nat) : PieceOk Try.prog (bodyOf Try.f41) ⟨[false], _, _, atlasref23_File_up.q0.h, atlasref23_File_up.q0.t, atlasref23_File_up.q0.l k k⟩ :=
  piece_loop (gamOf_nil _) (lamOf_nil _ _) mixed atlasref23_File_up.q0.at atlasref23_File_up.q0.np atlasref23_File_up.q0.nn (atlasref23_File_up.q0.z k) (atlasref23_File_up.q0.goes k) k
def atlasref23_File_up.q0.p (k : Nat) : Piece := ⟨[false], _, _, atlasref23_File_up.q0.h, atlasref23_File_up.q0.t, atlasref23_File_up.q0.l k k⟩
theorem atlasref23_File_up.q0.ok (k : Nat) : PieceOk Try.prog (bodyOf Try.f41) (atlasref23_File_up.q0.p k) := atlasref23_File_up.q0.ok_ k
def atlasref23_File_up.f (k : Nat) (x0 : List Int) (x1 : Int) : Option (List Int) := ((atlasref23_File_up.q0.l k k (x1, x0)).bind fun r1 => (some r1))
def atlasref23_File_up.x : Head ((List Int)) where
  k γ s F := (sizedN 21 s).bind fun _ => (ppN 0 (gt s.tm 0)).bind fun b2 => (rowN 71 1 s.hp b2).bind fun l4 => (soN 1 s.hp (gt l4 0)).bind fun b6 => (rtN (.int .u8) 5 s.hp b6).bind fun v8 => (distO [some b2, b6]).bind fun _ => F (v8)
  st x := ⟨sparseT [(0, (.pp 0 0))] 21 0, [.row [(.so 1 1)] 71 false, .rt (.int .u8) x 5]⟩
  ok γ s F r h := by
    have ⟨_, hz, h⟩ := bs h
    have ⟨b2, h1, h⟩ := bs h
    have ⟨l4, h3, h⟩ := bs h
    have ⟨b6, h5, h⟩ := bs h
    have ⟨v8, h7, h⟩ := bs h
    have ⟨_, h9, h⟩ := bs h
    exact ⟨_, h, weak_ren (l := [some b2, b6]) (sizedN_ok hz) (distO_ok h9) (LiveR.cons (RefsR.pp (l := [some b2, b6]) (i := 0) rfl (ppN_eq h1)) LiveR.nil) (BlksR.cons (rowN_refs h3 rfl (GtRefsR.cons (RefsR.so (l := [some b2, b6]) (i := 1) rfl (Nat.le_of_ble_eq_true rfl) h5) GtRefsR.nil) rfl) (BlksR.cons (rtN_blk h7) BlksR.nil))⟩

def atlasref23_File_up.w (k : Nat) : WFun where
  T := 71
  t := 5
  c := (.int .u8)
  α := Int
  rd l := match l with
    | [a0] => (intO .i64 a0).bind fun c0 => some (c0)
    | _ => none
  st a := [(.val (.int .i64 a))]
  ok := by
    intro l a h C m vs hc
    split at h
    · obtain ⟨c0, e0, h⟩ := bs h
      simp only [Option.some.injEq] at h
      subst h
      exact RefsL.cells (RefsL.cons (Refs.of_eq (intO_eq e0)) RefsL.nil) hc
    · cases h
  l x a := atlasref23_File_up.f k x a
theorem atlasref23_File_up.run (k : Nat) (x : List Int) (a : (atlasref23_File_up.w k).α) : E Try.prog (gamOf []) (lamOf [atlasref23_File_up.q0.p k]) (bodyOf Try.f41) [] (wSt (atlasref23_File_up.w k) Try.f41 x a) (wK atlasref23_File_up.x) = atlasref23_File_up.f k x a := by
  unfold atlasref23_File_up.f
  try simp only [cond_bind, elim_bind, Option.bind_some, Option.bind_none, Option.bind_assoc]
  kernel_rfl
theorem atlasref23_File_up.callable : callable Try.prog 41 = true := callable_of Try.func41 (by kernel_rfl)
theorem atlasref23_File_up.wok (k : Nat) : WOk Try.prog 41 (atlasref23_File_up.w k) := wok_of_run Try.func41 (by kernel_rfl) (by kernel_rfl) mixed (gamOf_nil _) (lamOf_cons (atlasref23_File_up.q0.ok k) (lamOf_nil _ _)) (atlasref23_File_up.w k) rfl atlasref23_File_up.x (fun y => ⟨rfl, rfl⟩) (fun x a => atlasref23_File_up.run k x a)
end Go.Va
