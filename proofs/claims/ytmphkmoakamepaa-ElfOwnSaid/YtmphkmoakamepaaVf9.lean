-- Written by a program of this session (wip/va/vaprint.py). Not trusted: Lean checks it.
import Derived.Test.YtmphkmoakamepaaVaTy
set_option linter.unusedVariables false
set_option linter.unusedSimpArgs false
set_option autoImplicit false
set_option maxRecDepth 100000
namespace Go.Va
open Go.Proofs
/-! ### atlas/atlasref23.places: function 37 -/
def atlasref23_places.q0.h : Head (Int × Int × Int × SgL × SyL × (List Int)) where
  k γ s F := (sizedN 46 s).bind fun _ => (ptrN 0 (gt s.tm 1)).bind fun b2 => (soN 1 s.hp (gt s.tm 4)).bind fun b4 => (intO .u64 (gt s.tm 5)).bind fun v6 => (intO .i64 (gt s.tm 6)).bind fun v8 => (rowN 26 3 s.hp b2).bind fun l10 => (intO .u32 (gt l10 0)).bind fun v12 => (vtO SgC (gt l10 1)).bind fun v14 => (vtO SyC (gt l10 2)).bind fun v16 => (rtN (.int .u64) 57 s.hp b4).bind fun v18 => (distO [some b2, b4]).bind fun _ => F (v6, v8, v12, v14, v16, v18)
  st x := ⟨sparseT [(1, (.ptr 0 0)), (4, (.so 1 1)), (5, (.val (.int .u64 x.1))), (6, (.val (.int .i64 x.2.1)))] 46 0, [.row [(.val (.int .u32 x.2.2.1)), (.vt SgC x.2.2.2.1), (.vt SyC x.2.2.2.2.1)] 26 true, .rt (.int .u64) x.2.2.2.2.2 57]⟩
  ok γ s F r h := by
    have ⟨_, hz, h⟩ := bs h
    have ⟨b2, h1, h⟩ := bs h
    have ⟨b4, h3, h⟩ := bs h
    have ⟨v6, h5, h⟩ := bs h
    have ⟨v8, h7, h⟩ := bs h
    have ⟨l10, h9, h⟩ := bs h
    have ⟨v12, h11, h⟩ := bs h
    have ⟨v14, h13, h⟩ := bs h
    have ⟨v16, h15, h⟩ := bs h
    have ⟨v18, h17, h⟩ := bs h
    have ⟨_, h19, h⟩ := bs h
    exact ⟨_, h, weak_ren (l := [some b2, b4]) (sizedN_ok hz) (distO_ok h19) (LiveR.cons (RefsR.ptr (l := [some b2, b4]) (i := 0) rfl (ptrN_eq h1)) (LiveR.cons (RefsR.so (l := [some b2, b4]) (i := 1) rfl (Nat.le_of_ble_eq_true rfl) h3) (LiveR.cons (pI h5) (LiveR.cons (pI h7) LiveR.nil)))) (BlksR.cons (rowN_refs h9 rfl (GtRefsR.cons (pI h11) (GtRefsR.cons (pV h13) (GtRefsR.cons (pV h15) GtRefsR.nil))) rfl) (BlksR.cons (rtN_blk h17) BlksR.nil))⟩

def atlasref23_places.q0.x0 : Head (Int × (List Int)) where
  k γ s F := (sizedN 46 s).bind fun _ => (soN 1 s.hp (gt s.tm 4)).bind fun b2 => (intO .u64 (gt s.tm 5)).bind fun v4 => (rtN (.int .u64) 57 s.hp b2).bind fun v6 => (distO [b2]).bind fun _ => F (v4, v6)
  st x := ⟨sparseT [(4, (.so 0 1)), (5, (.val (.int .u64 x.1)))] 46 0, [.rt (.int .u64) x.2 57]⟩
  ok γ s F r h := by
    have ⟨_, hz, h⟩ := bs h
    have ⟨b2, h1, h⟩ := bs h
    have ⟨v4, h3, h⟩ := bs h
    have ⟨v6, h5, h⟩ := bs h
    have ⟨_, h7, h⟩ := bs h
    exact ⟨_, h, weak_ren (l := [b2]) (sizedN_ok hz) (distO_ok h7) (LiveR.cons (RefsR.so (l := [b2]) (i := 0) rfl (Nat.le_of_ble_eq_true rfl) h1) (LiveR.cons (pI h3) LiveR.nil)) (BlksR.cons (rtN_blk h5) BlksR.nil)⟩

def atlasref23_places.q0.t : Tail (Int × (List Int)) := Tail.one (.exit 0) atlasref23_places.q0.x0
theorem atlasref23_places.q0.np (y : (Int × (List Int))) (v : AV) : (atlasref23_places.q0.t.out y).1 = .panic v → nomem v = true := fun h => by cases h
theorem atlasref23_places.q0.nn (y : (Int × (List Int))) : (atlasref23_places.q0.t.out y).1 ≠ .normal := fun h => by cases h
def atlasref23_places.q0.l (k : Nat) : Nat → (Int × Int × Int × SgL × SyL × (List Int)) → Option (Int × (List Int))
  | 0, _ => none
  | n + 1, x => (bif (decide (x.2.1 < ((x.2.2.2.1.length : Nat) : Int))) then (bif (decide ((x.2.2.2.2.2 ++ ([(IntKind.wrap .u64 ((IntKind.wrap .u64 (Int.tdiv (IntKind.wrap .u64 ((IntKind.wrap .u64 (x.1 + 4096)) - 1)) 4096)) * 4096))] : List Int)).length ≤ maxLen) && decide ((x.2.2.2.2.2 ++ ([(IntKind.wrap .u64 ((IntKind.wrap .u64 (Int.tdiv (IntKind.wrap .u64 ((IntKind.wrap .u64 (x.1 + 4096)) - 1)) 4096)) * 4096))] : List Int)).length * 8 ≤ 211106232532992)) then (bif (decide (0 ≤ x.2.1) && decide (x.2.1 < ((x.2.2.2.1.length : Nat) : Int))) then (bif (decide ((IntKind.wrap .u64 ((((x.2.2.2.1.getD (x.2.1).toNat (0, 0, (false, false, false, ()), [], ())).2.2.2.1).length : Nat) : Int)) > 0)) then (atlasref23_places.q0.l k n ((IntKind.wrap .u64 ((IntKind.wrap .u64 ((IntKind.wrap .u64 (Int.tdiv (IntKind.wrap .u64 ((IntKind.wrap .u64 (x.1 + 4096)) - 1)) 4096)) * 4096)) + (IntKind.wrap .u64 ((((x.2.2.2.1.getD (x.2.1).toNat (0, 0, (false, false, false, ()), [], ())).2.2.2.1).length : Nat) : Int)))), (IntKind.wrap .i64 (x.2.1 + 1)), x.2.2.1, x.2.2.2.1, x.2.2.2.2.1, (x.2.2.2.2.2 ++ ([(IntKind.wrap .u64 ((IntKind.wrap .u64 (Int.tdiv (IntKind.wrap .u64 ((IntKind.wrap .u64 (x.1 + 4096)) - 1)) 4096)) * 4096))] : List Int)))) else (atlasref23_places.q0.l k n (x.1, (IntKind.wrap .i64 (x.2.1 + 1)), x.2.2.1, x.2.2.2.1, x.2.2.2.2.1, (x.2.2.2.2.2 ++ ([(IntKind.wrap .u64 ((IntKind.wrap .u64 (Int.tdiv (IntKind.wrap .u64 ((IntKind.wrap .u64 (x.1 + 4096)) - 1)) 4096)) * 4096))] : List Int))))) else none) else none) else (some (x.1, x.2.2.2.2.2)))
theorem atlasref23_places.q0.z (k : Nat) (x : (Int × Int × Int × SgL × SyL × (List Int))) : atlasref23_places.q0.l k 0 x = none := rfl
theorem atlasref23_places.q0.at : codeAt (bodyOf Try.f37) [false, true, false, true, true, true] = some (.loop (loopBody (bodyOf Try.f37) [false, true, false, true, true, true])) := by kernel_rfl
theorem atlasref23_places.q0.goes (k n : Nat) (x : (Int × Int × Int × SgL × SyL × (List Int))) : E Try.prog (gamOf []) (lamOf []) (loopBody (bodyOf Try.f37) [false, true, false, true, true, true]) (false :: [false, true, false, true, true, true]) (atlasref23_places.q0.h.st x) (contD atlasref23_places.q0.h atlasref23_places.q0.t (atlasref23_places.q0.l k n) some) = atlasref23_places.q0.l k (n + 1) x := by
  kernel_rfl
theorem atlasref23_places.q0.ok_ (k : Nat) : PieceOk Try.prog (bodyOf Try.f37) ⟨[false, true, false, true, true, true], _, _, atlasref23_places.q0.h, atlasref23_places.q0.t, atlasref23_places.q0.l k k⟩ :=
  piece_loop (gamOf_nil _) (lamOf_nil _ _) mixed atlasref23_places.q0.at atlasref23_places.q0.np atlasref23_places.q0.nn (atlasref23_places.q0.z k) (atlasref23_places.q0.goes k) k
def atlasref23_places.q0.p (k : Nat) : Piece := ⟨[false, true, false, true, true, true], _, _, atlasref23_places.q0.h, atlasref23_places.q0.t, atlasref23_places.q0.l k k⟩
theorem atlasref23_places.q0.ok (k : Nat) : PieceOk Try.prog (bodyOf Try.f37) (atlasref23_places.q0.p k) := atlasref23_places.q0.ok_ k
def atlasref23_places.f (k : Nat) (x0 : T25) : Option ((List Int) × Int) := ((atlasref23_places.q0.l k k ((IntKind.wrap .u64 (IntKind.wrap .i64 (52 + (IntKind.wrap .i64 (32 * ((x0.f1_Segments.length : Nat) : Int)))))), 0, x0.f0_Entry, x0.f1_Segments, x0.f2_Symbols, ([] : List Int))).bind fun r1 => (some (r1.2, r1.1)))
theorem atlasref23_places.run (k : Nat) (x0 : T25) : runF Try.prog (gamOf []) (lamOf [atlasref23_places.q0.p k]) Try.f37 [(T25.av x0)] some = (atlasref23_places.f k x0).bind fun r => some (.ret (.tup [(.vt (.int .u64) r.1), (.val (.int .u64 r.2))])) := by
  unfold atlasref23_places.f
  try simp only [cond_bind, elim_bind, Option.bind_some, Option.bind_none, Option.bind_assoc, Sum.elim_inl, Sum.elim_inr]
  kernel_rfl
def atlasref23_places.g (k : Nat) : GFun := fun β args K => match args with
  | [a0] => (T25.of a0).bind fun x0 => (atlasref23_places.f k x0).bind fun r => K (.ret (.tup [(.vt (.int .u64) r.1), (.val (.int .u64 r.2))]))
  | _ => none
theorem atlasref23_places.callable : callable Try.prog 37 = true := callable_of Try.func37 (by kernel_rfl)
theorem atlasref23_places.ok (k : Nat) : GOk Try.prog 37 (atlasref23_places.g k) := by
  intro β args K r h
  unfold atlasref23_places.g at h
  split at h
  · obtain ⟨x0, e0, h⟩ := bs h
    obtain ⟨y, hy, hK⟩ := bs h
    have hrun := atlasref23_places.run k x0
    rw [hy] at hrun
    obtain ⟨out, e, hs⟩ := sim_of_run Try.func37 (by kernel_rfl) mixed (gamOf_nil _) (lamOf_cons (atlasref23_places.q0.ok k) (lamOf_nil _ _)) (args' := [(T25.av x0)]) (RefsL.cons (T25.refs e0) RefsL.nil) hrun
    simp only [Option.some.injEq] at e
    subst e
    exact ⟨_, hK, hs⟩
  · cases h
/-! ### (*atlas/atlasref23.File).lay: function 38, which writes through its first argument -/
def atlasref23_File_lay.q0.h : Head (Int × Int × Int × (List Int)) where
  k γ s F := (sizedN 25 s).bind fun _ => (ppN 0 (gt s.tm 0)).bind fun b2 => (intO .i64 (gt s.tm 1)).bind fun v4 => (intO .u64 (gt s.tm 2)).bind fun v6 => (intO .i64 (gt s.tm 6)).bind fun v8 => (rowN 71 1 s.hp b2).bind fun l10 => (soN 1 s.hp (gt l10 0)).bind fun b12 => (rtN (.int .u8) 5 s.hp b12).bind fun v14 => (distO [some b2, b12]).bind fun _ => F (v4, v6, v8, v14)
  st x := ⟨sparseT [(0, (.pp 0 0)), (1, (.val (.int .i64 x.1))), (2, (.val (.int .u64 x.2.1))), (6, (.val (.int .i64 x.2.2.1)))] 25 0, [.row [(.so 1 1)] 71 false, .rt (.int .u8) x.2.2.2 5]⟩
  ok γ s F r h := by
    have ⟨_, hz, h⟩ := bs h
    have ⟨b2, h1, h⟩ := bs h
    have ⟨v4, h3, h⟩ := bs h
    have ⟨v6, h5, h⟩ := bs h
    have ⟨v8, h7, h⟩ := bs h
    have ⟨l10, h9, h⟩ := bs h
    have ⟨b12, h11, h⟩ := bs h
    have ⟨v14, h13, h⟩ := bs h
    have ⟨_, h15, h⟩ := bs h
    exact ⟨_, h, weak_ren (l := [some b2, b12]) (sizedN_ok hz) (distO_ok h15) (LiveR.cons (RefsR.pp (l := [some b2, b12]) (i := 0) rfl (ppN_eq h1)) (LiveR.cons (pI h3) (LiveR.cons (pI h5) (LiveR.cons (pI h7) LiveR.nil)))) (BlksR.cons (rowN_refs h9 rfl (GtRefsR.cons (RefsR.so (l := [some b2, b12]) (i := 1) rfl (Nat.le_of_ble_eq_true rfl) h11) GtRefsR.nil) rfl) (BlksR.cons (rtN_blk h13) BlksR.nil))⟩

def atlasref23_File_lay.q0.x0 : Head ((List Int)) where
  k γ s F := (sizedN 25 s).bind fun _ => (ppN 0 (gt s.tm 0)).bind fun b2 => (rowN 71 1 s.hp b2).bind fun l4 => (soN 1 s.hp (gt l4 0)).bind fun b6 => (rtN (.int .u8) 5 s.hp b6).bind fun v8 => (distO [some b2, b6]).bind fun _ => F (v8)
  st x := ⟨sparseT [(0, (.pp 0 0))] 25 0, [.row [(.so 1 1)] 71 false, .rt (.int .u8) x 5]⟩
  ok γ s F r h := by
    have ⟨_, hz, h⟩ := bs h
    have ⟨b2, h1, h⟩ := bs h
    have ⟨l4, h3, h⟩ := bs h
    have ⟨b6, h5, h⟩ := bs h
    have ⟨v8, h7, h⟩ := bs h
    have ⟨_, h9, h⟩ := bs h
    exact ⟨_, h, weak_ren (l := [some b2, b6]) (sizedN_ok hz) (distO_ok h9) (LiveR.cons (RefsR.pp (l := [some b2, b6]) (i := 0) rfl (ppN_eq h1)) LiveR.nil) (BlksR.cons (rowN_refs h3 rfl (GtRefsR.cons (RefsR.so (l := [some b2, b6]) (i := 1) rfl (Nat.le_of_ble_eq_true rfl) h5) GtRefsR.nil) rfl) (BlksR.cons (rtN_blk h7) BlksR.nil))⟩

def atlasref23_File_lay.q0.t : Tail ((List Int)) := Tail.one (.exit 0) atlasref23_File_lay.q0.x0
theorem atlasref23_File_lay.q0.np (y : ((List Int))) (v : AV) : (atlasref23_File_lay.q0.t.out y).1 = .panic v → nomem v = true := fun h => by cases h
theorem atlasref23_File_lay.q0.nn (y : ((List Int))) : (atlasref23_File_lay.q0.t.out y).1 ≠ .normal := fun h => by cases h
def atlasref23_File_lay.q0.l (k : Nat) : Nat → (Int × Int × Int × (List Int)) → Option ((List Int))
  | 0, _ => none
  | n + 1, x => (bif (decide (x.2.2.1 < x.1)) then (bif (decide ((x.2.2.2 ++ ([(IntKind.wrap .u8 x.2.1)] : List Int)).length ≤ maxLen) && decide ((x.2.2.2 ++ ([(IntKind.wrap .u8 x.2.1)] : List Int)).length * 1 ≤ 211106232532992)) then (atlasref23_File_lay.q0.l k n (x.1, (IntKind.wrap .u64 (Int.tdiv x.2.1 256)), (IntKind.wrap .i64 (x.2.2.1 + 1)), (x.2.2.2 ++ ([(IntKind.wrap .u8 x.2.1)] : List Int)))) else none) else (some x.2.2.2))
theorem atlasref23_File_lay.q0.z (k : Nat) (x : (Int × Int × Int × (List Int))) : atlasref23_File_lay.q0.l k 0 x = none := rfl
theorem atlasref23_File_lay.q0.at : codeAt (bodyOf Try.f38) [false, true] = some (.loop (loopBody (bodyOf Try.f38) [false, true])) := by kernel_rfl
theorem atlasref23_File_lay.q0.goes (k n : Nat) (x : (Int × Int × Int × (List Int))) : E Try.prog (gamOf []) (lamOf []) (loopBody (bodyOf Try.f38) [false, true]) (false :: [false, true]) (atlasref23_File_lay.q0.h.st x) (contD atlasref23_File_lay.q0.h atlasref23_File_lay.q0.t (atlasref23_File_lay.q0.l k n) some) = atlasref23_File_lay.q0.l k (n + 1) x := by
  kernel_rfl
theorem atlasref23_File_lay.q0.ok_ (k : Nat) : PieceOk Try.prog (bodyOf Try.f38) ⟨[false, true], _, _, atlasref23_File_lay.q0.h, atlasref23_File_lay.q0.t, atlasref23_File_lay.q0.l k k⟩ :=
  piece_loop (gamOf_nil _) (lamOf_nil _ _) mixed atlasref23_File_lay.q0.at atlasref23_File_lay.q0.np atlasref23_File_lay.q0.nn (atlasref23_File_lay.q0.z k) (atlasref23_File_lay.q0.goes k) k
def atlasref23_File_lay.q0.p (k : Nat) : Piece := ⟨[false, true], _, _, atlasref23_File_lay.q0.h, atlasref23_File_lay.q0.t, atlasref23_File_lay.q0.l k k⟩
theorem atlasref23_File_lay.q0.ok (k : Nat) : PieceOk Try.prog (bodyOf Try.f38) (atlasref23_File_lay.q0.p k) := atlasref23_File_lay.q0.ok_ k
def atlasref23_File_lay.f (k : Nat) (x0 : List Int) (x1 : Int) (x2 : Int) : Option (List Int) := ((atlasref23_File_lay.q0.l k k (x1, x2, 0, x0)).bind fun r1 => (some r1))
def atlasref23_File_lay.x : Head ((List Int)) where
  k γ s F := (sizedN 25 s).bind fun _ => (ppN 0 (gt s.tm 0)).bind fun b2 => (rowN 71 1 s.hp b2).bind fun l4 => (soN 1 s.hp (gt l4 0)).bind fun b6 => (rtN (.int .u8) 5 s.hp b6).bind fun v8 => (distO [some b2, b6]).bind fun _ => F (v8)
  st x := ⟨sparseT [(0, (.pp 0 0))] 25 0, [.row [(.so 1 1)] 71 false, .rt (.int .u8) x 5]⟩
  ok γ s F r h := by
    have ⟨_, hz, h⟩ := bs h
    have ⟨b2, h1, h⟩ := bs h
    have ⟨l4, h3, h⟩ := bs h
    have ⟨b6, h5, h⟩ := bs h
    have ⟨v8, h7, h⟩ := bs h
    have ⟨_, h9, h⟩ := bs h
    exact ⟨_, h, weak_ren (l := [some b2, b6]) (sizedN_ok hz) (distO_ok h9) (LiveR.cons (RefsR.pp (l := [some b2, b6]) (i := 0) rfl (ppN_eq h1)) LiveR.nil) (BlksR.cons (rowN_refs h3 rfl (GtRefsR.cons (RefsR.so (l := [some b2, b6]) (i := 1) rfl (Nat.le_of_ble_eq_true rfl) h5) GtRefsR.nil) rfl) (BlksR.cons (rtN_blk h7) BlksR.nil))⟩

def atlasref23_File_lay.w (k : Nat) : WFun where
  T := 71
  t := 5
  c := (.int .u8)
  α := Int × Int
  rd l := match l with
    | [a0, a1] => (intO .i64 a0).bind fun c0 => (intO .u64 a1).bind fun c1 => some (c0, c1)
    | _ => none
  st a := [(.val (.int .i64 a.1)), (.val (.int .u64 a.2))]
  ok := by
    intro l a h C m vs hc
    split at h
    · obtain ⟨c0, e0, h⟩ := bs h
      obtain ⟨c1, e1, h⟩ := bs h
      simp only [Option.some.injEq] at h
      subst h
      exact RefsL.cells (RefsL.cons (Refs.of_eq (intO_eq e0)) (RefsL.cons (Refs.of_eq (intO_eq e1)) RefsL.nil)) hc
    · cases h
  l x a := atlasref23_File_lay.f k x a.1 a.2
theorem atlasref23_File_lay.run (k : Nat) (x : List Int) (a : (atlasref23_File_lay.w k).α) : E Try.prog (gamOf []) (lamOf [atlasref23_File_lay.q0.p k]) (bodyOf Try.f38) [] (wSt (atlasref23_File_lay.w k) Try.f38 x a) (wK atlasref23_File_lay.x) = atlasref23_File_lay.f k x a.1 a.2 := by
  unfold atlasref23_File_lay.f
  try simp only [cond_bind, elim_bind, Option.bind_some, Option.bind_none, Option.bind_assoc]
  kernel_rfl
theorem atlasref23_File_lay.callable : callable Try.prog 38 = true := callable_of Try.func38 (by kernel_rfl)
theorem atlasref23_File_lay.wok (k : Nat) : WOk Try.prog 38 (atlasref23_File_lay.w k) := wok_of_run Try.func38 (by kernel_rfl) (by kernel_rfl) mixed (gamOf_nil _) (lamOf_cons (atlasref23_File_lay.q0.ok k) (lamOf_nil _ _)) (atlasref23_File_lay.w k) rfl atlasref23_File_lay.x (fun y => ⟨rfl, rfl⟩) (fun x a => atlasref23_File_lay.run k x a)
/-! ### (*atlas/atlasref23.File).words: function 39, which writes through its first argument -/
def atlasref23_File_words.q0.h : Head ((List Int) × Int × (List Int)) where
  k γ s F := (sizedN 17 s).bind fun _ => (ppN 0 (gt s.tm 0)).bind fun b2 => (vtO (.int .u64) (gt s.tm 1)).bind fun v4 => (intO .i64 (gt s.tm 4)).bind fun v6 => (rowN 71 1 s.hp b2).bind fun l8 => (soN 1 s.hp (gt l8 0)).bind fun b10 => (rtN (.int .u8) 5 s.hp b10).bind fun v12 => (distO [some b2, b10]).bind fun _ => F (v4, v6, v12)
  st x := ⟨sparseT [(0, (.pp 0 0)), (1, (.vt (.int .u64) x.1)), (4, (.val (.int .i64 x.2.1)))] 17 0, [.row [(.so 1 1)] 71 false, .rt (.int .u8) x.2.2 5]⟩
  ok γ s F r h := by
    have ⟨_, hz, h⟩ := bs h
    have ⟨b2, h1, h⟩ := bs h
    have ⟨v4, h3, h⟩ := bs h
    have ⟨v6, h5, h⟩ := bs h
    have ⟨l8, h7, h⟩ := bs h
    have ⟨b10, h9, h⟩ := bs h
    have ⟨v12, h11, h⟩ := bs h
    have ⟨_, h13, h⟩ := bs h
    exact ⟨_, h, weak_ren (l := [some b2, b10]) (sizedN_ok hz) (distO_ok h13) (LiveR.cons (RefsR.pp (l := [some b2, b10]) (i := 0) rfl (ppN_eq h1)) (LiveR.cons (pV h3) (LiveR.cons (pI h5) LiveR.nil))) (BlksR.cons (rowN_refs h7 rfl (GtRefsR.cons (RefsR.so (l := [some b2, b10]) (i := 1) rfl (Nat.le_of_ble_eq_true rfl) h9) GtRefsR.nil) rfl) (BlksR.cons (rtN_blk h11) BlksR.nil))⟩

def atlasref23_File_words.q0.x0 : Head ((List Int)) where
  k γ s F := (sizedN 17 s).bind fun _ => (ppN 0 (gt s.tm 0)).bind fun b2 => (rowN 71 1 s.hp b2).bind fun l4 => (soN 1 s.hp (gt l4 0)).bind fun b6 => (rtN (.int .u8) 5 s.hp b6).bind fun v8 => (distO [some b2, b6]).bind fun _ => F (v8)
  st x := ⟨sparseT [(0, (.pp 0 0))] 17 0, [.row [(.so 1 1)] 71 false, .rt (.int .u8) x 5]⟩
  ok γ s F r h := by
    have ⟨_, hz, h⟩ := bs h
    have ⟨b2, h1, h⟩ := bs h
    have ⟨l4, h3, h⟩ := bs h
    have ⟨b6, h5, h⟩ := bs h
    have ⟨v8, h7, h⟩ := bs h
    have ⟨_, h9, h⟩ := bs h
    exact ⟨_, h, weak_ren (l := [some b2, b6]) (sizedN_ok hz) (distO_ok h9) (LiveR.cons (RefsR.pp (l := [some b2, b6]) (i := 0) rfl (ppN_eq h1)) LiveR.nil) (BlksR.cons (rowN_refs h3 rfl (GtRefsR.cons (RefsR.so (l := [some b2, b6]) (i := 1) rfl (Nat.le_of_ble_eq_true rfl) h5) GtRefsR.nil) rfl) (BlksR.cons (rtN_blk h7) BlksR.nil))⟩

def atlasref23_File_words.q0.t : Tail ((List Int)) := Tail.one (.exit 0) atlasref23_File_words.q0.x0
theorem atlasref23_File_words.q0.np (y : ((List Int))) (v : AV) : (atlasref23_File_words.q0.t.out y).1 = .panic v → nomem v = true := fun h => by cases h
theorem atlasref23_File_words.q0.nn (y : ((List Int))) : (atlasref23_File_words.q0.t.out y).1 ≠ .normal := fun h => by cases h
def atlasref23_File_words.q0.l (k : Nat) : Nat → ((List Int) × Int × (List Int)) → Option ((List Int))
  | 0, _ => none
  | n + 1, x => (bif (decide (x.2.1 < ((x.1.length : Nat) : Int))) then (bif (decide (0 ≤ x.2.1) && decide (x.2.1 < ((x.1.length : Nat) : Int))) then ((atlasref23_File_lay.f k x.2.2 4 (x.1.getD (x.2.1).toNat 0)).bind fun r1 => (atlasref23_File_words.q0.l k n (x.1, (IntKind.wrap .i64 (x.2.1 + 1)), r1))) else none) else (some x.2.2))
theorem atlasref23_File_words.q0.z (k : Nat) (x : ((List Int) × Int × (List Int))) : atlasref23_File_words.q0.l k 0 x = none := rfl
theorem atlasref23_File_words.q0.at : codeAt (bodyOf Try.f39) [false, true] = some (.loop (loopBody (bodyOf Try.f39) [false, true])) := by kernel_rfl
theorem atlasref23_File_words.q0.goes (k n : Nat) (x : ((List Int) × Int × (List Int))) : E Try.prog (gamW (gamOf []) [(38, atlasref23_File_lay.w k)]) (lamOf []) (loopBody (bodyOf Try.f39) [false, true]) (false :: [false, true]) (atlasref23_File_words.q0.h.st x) (contD atlasref23_File_words.q0.h atlasref23_File_words.q0.t (atlasref23_File_words.q0.l k n) some) = atlasref23_File_words.q0.l k (n + 1) x := by
  kernel_rfl
theorem atlasref23_File_words.q0.ok_ (k : Nat) : PieceOk Try.prog (bodyOf Try.f39) ⟨[false, true], _, _, atlasref23_File_words.q0.h, atlasref23_File_words.q0.t, atlasref23_File_words.q0.l k k⟩ :=
  piece_loop (gamW_ok (gamOf_nil _) (wsOk_cons (atlasref23_File_lay.wok k) atlasref23_File_lay.callable (wsOk_nil _))) (lamOf_nil _ _) mixed atlasref23_File_words.q0.at atlasref23_File_words.q0.np atlasref23_File_words.q0.nn (atlasref23_File_words.q0.z k) (atlasref23_File_words.q0.goes k) k
def atlasref23_File_words.q0.p (k : Nat) : Piece := ⟨[false, true], _, _, atlasref23_File_words.q0.h, atlasref23_File_words.q0.t, atlasref23_File_words.q0.l k k⟩
theorem atlasref23_File_words.q0.ok (k : Nat) : PieceOk Try.prog (bodyOf Try.f39) (atlasref23_File_words.q0.p k) := atlasref23_File_words.q0.ok_ k
def atlasref23_File_words.f (k : Nat) (x0 : List Int) (x1 : (List Int)) : Option (List Int) := ((atlasref23_File_words.q0.l k k (x1, 0, x0)).bind fun r2 => (some r2))
def atlasref23_File_words.x : Head ((List Int)) where
  k γ s F := (sizedN 17 s).bind fun _ => (ppN 0 (gt s.tm 0)).bind fun b2 => (rowN 71 1 s.hp b2).bind fun l4 => (soN 1 s.hp (gt l4 0)).bind fun b6 => (rtN (.int .u8) 5 s.hp b6).bind fun v8 => (distO [some b2, b6]).bind fun _ => F (v8)
  st x := ⟨sparseT [(0, (.pp 0 0))] 17 0, [.row [(.so 1 1)] 71 false, .rt (.int .u8) x 5]⟩
  ok γ s F r h := by
    have ⟨_, hz, h⟩ := bs h
    have ⟨b2, h1, h⟩ := bs h
    have ⟨l4, h3, h⟩ := bs h
    have ⟨b6, h5, h⟩ := bs h
    have ⟨v8, h7, h⟩ := bs h
    have ⟨_, h9, h⟩ := bs h
    exact ⟨_, h, weak_ren (l := [some b2, b6]) (sizedN_ok hz) (distO_ok h9) (LiveR.cons (RefsR.pp (l := [some b2, b6]) (i := 0) rfl (ppN_eq h1)) LiveR.nil) (BlksR.cons (rowN_refs h3 rfl (GtRefsR.cons (RefsR.so (l := [some b2, b6]) (i := 1) rfl (Nat.le_of_ble_eq_true rfl) h5) GtRefsR.nil) rfl) (BlksR.cons (rtN_blk h7) BlksR.nil))⟩

def atlasref23_File_words.w (k : Nat) : WFun where
  T := 71
  t := 5
  c := (.int .u8)
  α := (List Int)
  rd l := match l with
    | [a0] => (vtO (.int .u64) a0).bind fun c0 => some (c0)
    | _ => none
  st a := [(.vt (.int .u64) a)]
  ok := by
    intro l a h C m vs hc
    split at h
    · obtain ⟨c0, e0, h⟩ := bs h
      simp only [Option.some.injEq] at h
      subst h
      exact RefsL.cells (RefsL.cons (vtO_refs e0) RefsL.nil) hc
    · cases h
  l x a := atlasref23_File_words.f k x a
theorem atlasref23_File_words.run (k : Nat) (x : List Int) (a : (atlasref23_File_words.w k).α) : E Try.prog (gamW (gamOf []) [(38, atlasref23_File_lay.w k)]) (lamOf [atlasref23_File_words.q0.p k]) (bodyOf Try.f39) [] (wSt (atlasref23_File_words.w k) Try.f39 x a) (wK atlasref23_File_words.x) = atlasref23_File_words.f k x a := by
  unfold atlasref23_File_words.f
  try simp only [cond_bind, elim_bind, Option.bind_some, Option.bind_none, Option.bind_assoc]
  kernel_rfl
theorem atlasref23_File_words.callable : callable Try.prog 39 = true := callable_of Try.func39 (by kernel_rfl)
theorem atlasref23_File_words.wok (k : Nat) : WOk Try.prog 39 (atlasref23_File_words.w k) := wok_of_run Try.func39 (by kernel_rfl) (by kernel_rfl) mixed (gamW_ok (gamOf_nil _) (wsOk_cons (atlasref23_File_lay.wok k) atlasref23_File_lay.callable (wsOk_nil _))) (lamOf_cons (atlasref23_File_words.q0.ok k) (lamOf_nil _ _)) (atlasref23_File_words.w k) rfl atlasref23_File_words.x (fun y => ⟨rfl, rfl⟩) (fun x a => atlasref23_File_words.run k x a)
/-! ### atlas/atlasref23.bits: function 40 -/
def atlasref23_bits.f (x0 : T43) : Option (Int) := (bif x0.f0_Read then (bif x0.f1_Write then (bif x0.f2_Exec then (some 7) else (some 6)) else (bif x0.f2_Exec then (some 5) else (some 4))) else (bif x0.f1_Write then (bif x0.f2_Exec then (some 3) else (some 2)) else (bif x0.f2_Exec then (some 1) else (some 0))))
theorem atlasref23_bits.run (x0 : T43) : runF Try.prog (gamOf []) noLam Try.f40 [(T43.av x0)] some = (atlasref23_bits.f x0).bind fun r => some (.ret (.val (.int .u64 r))) := by
  unfold atlasref23_bits.f
  try simp only [cond_bind, elim_bind, Option.bind_some, Option.bind_none, Option.bind_assoc, Sum.elim_inl, Sum.elim_inr]
  kernel_rfl
def atlasref23_bits.g : GFun := fun β args K => match args with
  | [a0] => (T43.of a0).bind fun x0 => (atlasref23_bits.f x0).bind fun r => K (.ret (.val (.int .u64 r)))
  | _ => none
theorem atlasref23_bits.callable : callable Try.prog 40 = true := callable_of Try.func40 (by kernel_rfl)
theorem atlasref23_bits.ok : GOk Try.prog 40 (atlasref23_bits.g) := by
  intro β args K r h
  unfold atlasref23_bits.g at h
  split at h
  · obtain ⟨x0, e0, h⟩ := bs h
    obtain ⟨y, hy, hK⟩ := bs h
    have hrun := atlasref23_bits.run x0
    rw [hy] at hrun
    obtain ⟨out, e, hs⟩ := sim_of_run Try.func40 (by kernel_rfl) mixed (gamOf_nil _) (noLam_ok _ _) (args' := [(T43.av x0)]) (RefsL.cons (T43.refs e0) RefsL.nil) hrun
    simp only [Option.some.injEq] at e
    subst e
    exact ⟨_, hK, hs⟩
  · cases h
/-! ### (*atlas/atlasref23.File).up: function 41, which writes through its first argument -/
def atlasref23_File_up.q0.h : Head (Int × (List Int)) where
  k γ s F := (sizedN 21 s).bind fun _ => (ppN 0 (gt s.tm 0)).bind fun b2 => (intO .i64 (gt s.tm 1)).bind fun v4 => (rowN 71 1 s.hp b2).bind fun l6 => (soN 1 s.hp (gt l6 0)).bind fun b8 => (rtN (.int .u8) 5 s.hp b8).bind fun v10 => (distO [some b2, b8]).bind fun _ => F (v4, v10)
  st x := ⟨sparseT [(0, (.pp 0 0)), (1, (.val (.int .i64 x.1)))] 21 0, [.row [(.so 1 1)] 71 false, .rt (.int .u8) x.2 5]⟩
  ok γ s F r h := by
    have ⟨_, hz, h⟩ := bs h
    have ⟨b2, h1, h⟩ := bs h
    have ⟨v4, h3, h⟩ := bs h
    have ⟨l6, h5, h⟩ := bs h
    have ⟨b8, h7, h⟩ := bs h
    have ⟨v10, h9, h⟩ := bs h
    have ⟨_, h11, h⟩ := bs h
    exact ⟨_, h, weak_ren (l := [some b2, b8]) (sizedN_ok hz) (distO_ok h11) (LiveR.cons (RefsR.pp (l := [some b2, b8]) (i := 0) rfl (ppN_eq h1)) (LiveR.cons (pI h3) LiveR.nil)) (BlksR.cons (rowN_refs h5 rfl (GtRefsR.cons (RefsR.so (l := [some b2, b8]) (i := 1) rfl (Nat.le_of_ble_eq_true rfl) h7) GtRefsR.nil) rfl) (BlksR.cons (rtN_blk h9) BlksR.nil))⟩

def atlasref23_File_up.q0.x0 : Head ((List Int)) where
  k γ s F := (sizedN 21 s).bind fun _ => (ppN 0 (gt s.tm 0)).bind fun b2 => (rowN 71 1 s.hp b2).bind fun l4 => (soN 1 s.hp (gt l4 0)).bind fun b6 => (rtN (.int .u8) 5 s.hp b6).bind fun v8 => (distO [some b2, b6]).bind fun _ => F (v8)
  st x := ⟨sparseT [(0, (.pp 0 0))] 21 0, [.row [(.so 1 1)] 71 false, .rt (.int .u8) x 5]⟩
  ok γ s F r h := by
    have ⟨_, hz, h⟩ := bs h
    have ⟨b2, h1, h⟩ := bs h
    have ⟨l4, h3, h⟩ := bs h
    have ⟨b6, h5, h⟩ := bs h
    have ⟨v8, h7, h⟩ := bs h
    have ⟨_, h9, h⟩ := bs h
    exact ⟨_, h, weak_ren (l := [some b2, b6]) (sizedN_ok hz) (distO_ok h9) (LiveR.cons (RefsR.pp (l := [some b2, b6]) (i := 0) rfl (ppN_eq h1)) LiveR.nil) (BlksR.cons (rowN_refs h3 rfl (GtRefsR.cons (RefsR.so (l := [some b2, b6]) (i := 1) rfl (Nat.le_of_ble_eq_true rfl) h5) GtRefsR.nil) rfl) (BlksR.cons (rtN_blk h7) BlksR.nil))⟩

def atlasref23_File_up.q0.t : Tail ((List Int)) := Tail.one (.exit 0) atlasref23_File_up.q0.x0
theorem atlasref23_File_up.q0.np (y : ((List Int))) (v : AV) : (atlasref23_File_up.q0.t.out y).1 = .panic v → nomem v = true := fun h => by cases h
theorem atlasref23_File_up.q0.nn (y : ((List Int))) : (atlasref23_File_up.q0.t.out y).1 ≠ .normal := fun h => by cases h
def atlasref23_File_up.q0.l (k : Nat) : Nat → (Int × (List Int)) → Option ((List Int))
  | 0, _ => none
  | n + 1, x => (bif decide (x.1 = 0) then none else (bif ((Int.tmod ((x.2.length : Nat) : Int) x.1) != 0) then (bif (decide ((x.2 ++ ([0] : List Int)).length ≤ maxLen) && decide ((x.2 ++ ([0] : List Int)).length * 1 ≤ 211106232532992)) then (atlasref23_File_up.q0.l k n (x.1, (x.2 ++ ([0] : List Int)))) else none) else (some x.2)))
theorem atlasref23_File_up.q0.z (k : Nat) (x : (Int × (List Int))) : atlasref23_File_up.q0.l k 0 x = none := rfl
theorem atlasref23_File_up.q0.at : codeAt (bodyOf Try.f41) [false] = some (.loop (loopBody (bodyOf Try.f41) [false])) := by kernel_rfl
theorem atlasref23_File_up.q0.goes (k n : Nat) (x : (Int × (List Int))) : E Try.prog (gamOf []) (lamOf []) (loopBody (bodyOf Try.f41) [false]) (false :: [false]) (atlasref23_File_up.q0.h.st x) (contD atlasref23_File_up.q0.h atlasref23_File_up.q0.t (atlasref23_File_up.q0.l k n) some) = atlasref23_File_up.q0.l k (n + 1) x := by
  kernel_rfl
theorem atlasref23_File_up.q0.ok_ (k : Nat) : PieceOk Try.prog (bodyOf Try.f41) ⟨[false], _, _, atlasref23_File_up.q0.h, atlasref23_File_up.q0.t, atlasref23_File_up.q0.l k k⟩ :=
  piece_loop (gamOf_nil _) (lamOf_nil _ _) mixed atlasref23_File_up.q0.at atlasref23_File_up.q0.np atlasref23_File_up.q0.nn (atlasref23_File_up.q0.z k) (atlasref23_File_up.q0.goes k) k
def atlasref23_File_up.q0.p (k : Nat) : Piece := ⟨[false], _, _, atlasref23_File_up.q0.h, atlasref23_File_up.q0.t, atlasref23_File_up.q0.l k k⟩
theorem atlasref23_File_up.q0.ok (k : Nat) : PieceOk Try.prog (bodyOf Try.f41) (atlasref23_File_up.q0.p k) := atlasref23_File_up.q0.ok_ k
def atlasref23_File_up.f (k : Nat) (x0 : List Int) (x1 : Int) : Option (List Int) := ((atlasref23_File_up.q0.l k k (x1, x0)).bind fun r1 => (some r1))
def atlasref23_File_up.x : Head ((List Int)) where
  k γ s F := (sizedN 21 s).bind fun _ => (ppN 0 (gt s.tm 0)).bind fun b2 => (rowN 71 1 s.hp b2).bind fun l4 => (soN 1 s.hp (gt l4 0)).bind fun b6 => (rtN (.int .u8) 5 s.hp b6).bind fun v8 => (distO [some b2, b6]).bind fun _ => F (v8)
  st x := ⟨sparseT [(0, (.pp 0 0))] 21 0, [.row [(.so 1 1)] 71 false, .rt (.int .u8) x 5]⟩
  ok γ s F r h := by
    have ⟨_, hz, h⟩ := bs h
    have ⟨b2, h1, h⟩ := bs h
    have ⟨l4, h3, h⟩ := bs h
    have ⟨b6, h5, h⟩ := bs h
    have ⟨v8, h7, h⟩ := bs h
    have ⟨_, h9, h⟩ := bs h
    exact ⟨_, h, weak_ren (l := [some b2, b6]) (sizedN_ok hz) (distO_ok h9) (LiveR.cons (RefsR.pp (l := [some b2, b6]) (i := 0) rfl (ppN_eq h1)) LiveR.nil) (BlksR.cons (rowN_refs h3 rfl (GtRefsR.cons (RefsR.so (l := [some b2, b6]) (i := 1) rfl (Nat.le_of_ble_eq_true rfl) h5) GtRefsR.nil) rfl) (BlksR.cons (rtN_blk h7) BlksR.nil))⟩

def atlasref23_File_up.w (k : Nat) : WFun where
  T := 71
  t := 5
  c := (.int .u8)
  α := Int
  rd l := match l with
    | [a0] => (intO .i64 a0).bind fun c0 => some (c0)
    | _ => none
  st a := [(.val (.int .i64 a))]
  ok := by
    intro l a h C m vs hc
    split at h
    · obtain ⟨c0, e0, h⟩ := bs h
      simp only [Option.some.injEq] at h
      subst h
      exact RefsL.cells (RefsL.cons (Refs.of_eq (intO_eq e0)) RefsL.nil) hc
    · cases h
  l x a := atlasref23_File_up.f k x a
theorem atlasref23_File_up.run (k : Nat) (x : List Int) (a : (atlasref23_File_up.w k).α) : E Try.prog (gamOf []) (lamOf [atlasref23_File_up.q0.p k]) (bodyOf Try.f41) [] (wSt (atlasref23_File_up.w k) Try.f41 x a) (wK atlasref23_File_up.x) = atlasref23_File_up.f k x a := by
  unfold atlasref23_File_up.f
  try simp only [cond_bind, elim_bind, Option.bind_some, Option.bind_none, Option.bind_assoc]
  kernel_rfl
theorem atlasref23_File_up.callable : callable Try.prog 41 = true := callable_of Try.func41 (by kernel_rfl)
theorem atlasref23_File_up.wok (k : Nat) : WOk Try.prog 41 (atlasref23_File_up.w k) := wok_of_run Try.func41 (by kernel_rfl) (by kernel_rfl) mixed (gamOf_nil _) (lamOf_cons (atlasref23_File_up.q0.ok k) (lamOf_nil _ _)) (atlasref23_File_up.w k) rfl atlasref23_File_up.x (fun y => ⟨rfl, rfl⟩) (fun x a => atlasref23_File_up.run k x a)
end Go.Va
