-- Written by a program of this session (wip/va/vaprint.py). Not trusted: Lean checks it.
import Derived.Test.YtjlbmdcljikojaaVaTy
import Derived.Test.YtjlbmdcljikojaaVf6
set_option linter.unusedVariables false
set_option linter.unusedSimpArgs false
set_option autoImplicit false
set_option maxRecDepth 100000
namespace Go.Va
open Go.Proofs
/-! ### atlas/atlasref19.may: function 43 -/
def atlasref19_may.q3.h : Head ((List Int) × Int × ByteArray × Int × Int × Bool × Int × Int × Int × Int × Int × Int × Int × Int × Int × Bool × Bool × Bool × Int × Int × Int × Int × Int) where
  k γ s F := (sizedN 193 s).bind fun _ => (ptrN 0 (gt s.tm 2)).bind fun b2 => (ptrN 0 (gt s.tm 3)).bind fun b4 => (rowN 43 3 s.hp b2).bind fun l6 => (vtO (.int .i64) (gt l6 0)).bind fun v8 => (intO .i64 (gt l6 1)).bind fun v10 => (strO (gt l6 2)).bind fun v12 => (rowN 27 20 s.hp b4).bind fun l14 => (intO .i64 (gt l14 0)).bind fun v16 => (intO .i64 (gt l14 1)).bind fun v18 => (boolO (gt l14 2)).bind fun v20 => (intO .i64 (gt l14 3)).bind fun v22 => (intO .i64 (gt l14 4)).bind fun v24 => (intO .i64 (gt l14 5)).bind fun v26 => (intO .i64 (gt l14 6)).bind fun v28 => (intO .i64 (gt l14 7)).bind fun v30 => (intO .i64 (gt l14 8)).bind fun v32 => (intO .u32 (gt l14 9)).bind fun v34 => (intO .i64 (gt l14 10)).bind fun v36 => (intO .i64 (gt l14 11)).bind fun v38 => (boolO (gt l14 12)).bind fun v40 => (boolO (gt l14 13)).bind fun v42 => (boolO (gt l14 14)).bind fun v44 => (intO .u16 (gt l14 15)).bind fun v46 => (intO .i64 (gt l14 16)).bind fun v48 => (intO .i64 (gt l14 17)).bind fun v50 => (intO .i64 (gt l14 18)).bind fun v52 => (intO .i64 (gt l14 19)).bind fun v54 => (distO [some b2, some b4]).bind fun _ => F (v8, v10, v12, v16, v18, v20, v22, v24, v26, v28, v30, v32, v34, v36, v38, v40, v42, v44, v46, v48, v50, v52, v54)
  st x := ⟨sparseT [(2, (.ptr 0 0)), (3, (.ptr 1 0))] 193 0, [.row [(.vt (.int .i64) x.1), (.val (.int .i64 x.2.1)), (.val (.string x.2.2.1))] 43 true, .row [(.val (.int .i64 x.2.2.2.1)), (.val (.int .i64 x.2.2.2.2.1)), (.val (.bool x.2.2.2.2.2.1)), (.val (.int .i64 x.2.2.2.2.2.2.1)), (.val (.int .i64 x.2.2.2.2.2.2.2.1)), (.val (.int .i64 x.2.2.2.2.2.2.2.2.1)), (.val (.int .i64 x.2.2.2.2.2.2.2.2.2.1)), (.val (.int .i64 x.2.2.2.2.2.2.2.2.2.2.1)), (.val (.int .i64 x.2.2.2.2.2.2.2.2.2.2.2.1)), (.val (.int .u32 x.2.2.2.2.2.2.2.2.2.2.2.2.1)), (.val (.int .i64 x.2.2.2.2.2.2.2.2.2.2.2.2.2.1)), (.val (.int .i64 x.2.2.2.2.2.2.2.2.2.2.2.2.2.2.1)), (.val (.bool x.2.2.2.2.2.2.2.2.2.2.2.2.2.2.2.1)), (.val (.bool x.2.2.2.2.2.2.2.2.2.2.2.2.2.2.2.2.1)), (.val (.bool x.2.2.2.2.2.2.2.2.2.2.2.2.2.2.2.2.2.1)), (.val (.int .u16 x.2.2.2.2.2.2.2.2.2.2.2.2.2.2.2.2.2.2.1)), (.val (.int .i64 x.2.2.2.2.2.2.2.2.2.2.2.2.2.2.2.2.2.2.2.1)), (.val (.int .i64 x.2.2.2.2.2.2.2.2.2.2.2.2.2.2.2.2.2.2.2.2.1)), (.val (.int .i64 x.2.2.2.2.2.2.2.2.2.2.2.2.2.2.2.2.2.2.2.2.2.1)), (.val (.int .i64 x.2.2.2.2.2.2.2.2.2.2.2.2.2.2.2.2.2.2.2.2.2.2))] 27 true]⟩
  ok γ s F r h := by
    obtain ⟨_, hz, h⟩ := Option.bind_eq_some_iff.1 h
    obtain ⟨b2, h1, h⟩ := Option.bind_eq_some_iff.1 h
    obtain ⟨b4, h3, h⟩ := Option.bind_eq_some_iff.1 h
    obtain ⟨l6, h5, h⟩ := Option.bind_eq_some_iff.1 h
    obtain ⟨v8, h7, h⟩ := Option.bind_eq_some_iff.1 h
    obtain ⟨v10, h9, h⟩ := Option.bind_eq_some_iff.1 h
    obtain ⟨v12, h11, h⟩ := Option.bind_eq_some_iff.1 h
    obtain ⟨l14, h13, h⟩ := Option.bind_eq_some_iff.1 h
    obtain ⟨v16, h15, h⟩ := Option.bind_eq_some_iff.1 h
    obtain ⟨v18, h17, h⟩ := Option.bind_eq_some_iff.1 h
    obtain ⟨v20, h19, h⟩ := Option.bind_eq_some_iff.1 h
    obtain ⟨v22, h21, h⟩ := Option.bind_eq_some_iff.1 h
    obtain ⟨v24, h23, h⟩ := Option.bind_eq_some_iff.1 h
    obtain ⟨v26, h25, h⟩ := Option.bind_eq_some_iff.1 h
    obtain ⟨v28, h27, h⟩ := Option.bind_eq_some_iff.1 h
    obtain ⟨v30, h29, h⟩ := Option.bind_eq_some_iff.1 h
    obtain ⟨v32, h31, h⟩ := Option.bind_eq_some_iff.1 h
    obtain ⟨v34, h33, h⟩ := Option.bind_eq_some_iff.1 h
    obtain ⟨v36, h35, h⟩ := Option.bind_eq_some_iff.1 h
    obtain ⟨v38, h37, h⟩ := Option.bind_eq_some_iff.1 h
    obtain ⟨v40, h39, h⟩ := Option.bind_eq_some_iff.1 h
    obtain ⟨v42, h41, h⟩ := Option.bind_eq_some_iff.1 h
    obtain ⟨v44, h43, h⟩ := Option.bind_eq_some_iff.1 h
    obtain ⟨v46, h45, h⟩ := Option.bind_eq_some_iff.1 h
    obtain ⟨v48, h47, h⟩ := Option.bind_eq_some_iff.1 h
    obtain ⟨v50, h49, h⟩ := Option.bind_eq_some_iff.1 h
    obtain ⟨v52, h51, h⟩ := Option.bind_eq_some_iff.1 h
    obtain ⟨v54, h53, h⟩ := Option.bind_eq_some_iff.1 h
    obtain ⟨_, h55, h⟩ := Option.bind_eq_some_iff.1 h
    exact ⟨_, h, weak_ren (l := [some b2, some b4]) (sizedN_ok hz) (distO_ok h55) (LiveR.cons (RefsR.ptr (l := [some b2, some b4]) (i := 0) rfl (ptrN_eq h1)) (LiveR.cons (RefsR.ptr (l := [some b2, some b4]) (i := 1) rfl (ptrN_eq h3)) LiveR.nil)) (BlksR.cons (rowN_refs h5 rfl (GtRefsR.cons (RefsR.plain (vtO_refs h7) rfl) (GtRefsR.cons (RefsR.plain (Refs.of_eq (intO_eq h9)) rfl) (GtRefsR.cons (RefsR.plain (Refs.of_eq (strO_eq h11)) rfl) GtRefsR.nil))) rfl) (BlksR.cons (rowN_refs h13 rfl (GtRefsR.cons (RefsR.plain (Refs.of_eq (intO_eq h15)) rfl) (GtRefsR.cons (RefsR.plain (Refs.of_eq (intO_eq h17)) rfl) (GtRefsR.cons (RefsR.plain (Refs.of_eq (boolO_eq h19)) rfl) (GtRefsR.cons (RefsR.plain (Refs.of_eq (intO_eq h21)) rfl) (GtRefsR.cons (RefsR.plain (Refs.of_eq (intO_eq h23)) rfl) (GtRefsR.cons (RefsR.plain (Refs.of_eq (intO_eq h25)) rfl) (GtRefsR.cons (RefsR.plain (Refs.of_eq (intO_eq h27)) rfl) (GtRefsR.cons (RefsR.plain (Refs.of_eq (intO_eq h29)) rfl) (GtRefsR.cons (RefsR.plain (Refs.of_eq (intO_eq h31)) rfl) (GtRefsR.cons (RefsR.plain (Refs.of_eq (intO_eq h33)) rfl) (GtRefsR.cons (RefsR.plain (Refs.of_eq (intO_eq h35)) rfl) (GtRefsR.cons (RefsR.plain (Refs.of_eq (intO_eq h37)) rfl) (GtRefsR.cons (RefsR.plain (Refs.of_eq (boolO_eq h39)) rfl) (GtRefsR.cons (RefsR.plain (Refs.of_eq (boolO_eq h41)) rfl) (GtRefsR.cons (RefsR.plain (Refs.of_eq (boolO_eq h43)) rfl) (GtRefsR.cons (RefsR.plain (Refs.of_eq (intO_eq h45)) rfl) (GtRefsR.cons (RefsR.plain (Refs.of_eq (intO_eq h47)) rfl) (GtRefsR.cons (RefsR.plain (Refs.of_eq (intO_eq h49)) rfl) (GtRefsR.cons (RefsR.plain (Refs.of_eq (intO_eq h51)) rfl) (GtRefsR.cons (RefsR.plain (Refs.of_eq (intO_eq h53)) rfl) GtRefsR.nil)))))))))))))))))))) rfl) BlksR.nil))⟩

def atlasref19_may.q3.x0 : Head (Bool) where
  k γ s F := (sizedN 193 s).bind fun _ => (boolO (gt s.tm 4)).bind fun v2 => (distO []).bind fun _ => F (v2)
  st x := ⟨sparseT [(4, (.val (.bool x)))] 193 0, []⟩
  ok γ s F r h := by
    obtain ⟨_, hz, h⟩ := Option.bind_eq_some_iff.1 h
    obtain ⟨v2, h1, h⟩ := Option.bind_eq_some_iff.1 h
    obtain ⟨_, h3, h⟩ := Option.bind_eq_some_iff.1 h
    exact ⟨_, h, weak_ren (l := []) (sizedN_ok hz) (distO_ok h3) (LiveR.cons (RefsR.plain (Refs.of_eq (boolO_eq h1)) rfl) LiveR.nil) BlksR.nil⟩

def atlasref19_may.q3.t : Tail (Bool) := Tail.one .ret atlasref19_may.q3.x0
theorem atlasref19_may.q3.np (y : (Bool)) (v : AV) : (atlasref19_may.q3.t.out y).1 ≠ .panic v := fun h => by cases h
def atlasref19_may.q3.l (k : Nat) (x : ((List Int) × Int × ByteArray × Int × Int × Bool × Int × Int × Int × Int × Int × Int × Int × Int × Int × Bool × Bool × Bool × Int × Int × Int × Int × Int)) : Option (Bool) := (bif (x.2.1 == 1) then (bif (x.2.2.2.2.2.2.2.1 != 15) then (some true) else (some (x.2.2.2.2.1 == 31))) else (bif (x.2.2.2.2.2.2.2.2.2.1 != 15) then (bif (x.2.2.2.2.2.2.2.1 != 15) then (some true) else (some (x.2.2.2.2.1 == 31))) else (some false)))
theorem atlasref19_may.q3.at : codeAt (bodyOf Try.f43) [true, false, true, true, true, false, false, true, true] = some (codeOf (bodyOf Try.f43) [true, false, true, true, true, false, false, true, true]) := by kernel_rfl
theorem atlasref19_may.q3.goes (k : Nat) (x : ((List Int) × Int × ByteArray × Int × Int × Bool × Int × Int × Int × Int × Int × Int × Int × Int × Int × Bool × Bool × Bool × Int × Int × Int × Int × Int)) : E Try.prog (gamOf [(61, atlasref19_any15.g k)]) (lamOf []) (codeOf (bodyOf Try.f43) [true, false, true, true, true, false, false, true, true]) [true, false, true, true, true, false, false, true, true] (atlasref19_may.q3.h.st x) (fun ex t => atlasref19_may.q3.t.d _ ex t some) = atlasref19_may.q3.l k x := by
  kernel_rfl
theorem atlasref19_may.q3.ok_ (k : Nat) : PieceOk Try.prog (bodyOf Try.f43) ⟨[true, false, true, true, true, false, false, true, true], _, _, atlasref19_may.q3.h, atlasref19_may.q3.t, atlasref19_may.q3.l k⟩ :=
  piece_code (gamOf_cons (atlasref19_any15.ok k) atlasref19_any15.callable (gamOf_nil _)) (lamOf_nil _ _) mixed atlasref19_may.q3.at atlasref19_may.q3.np (atlasref19_may.q3.goes k)
def atlasref19_may.q3.p (k : Nat) : Piece := ⟨[true, false, true, true, true, false, false, true, true], _, _, atlasref19_may.q3.h, atlasref19_may.q3.t, atlasref19_may.q3.l k⟩
theorem atlasref19_may.q3.ok (k : Nat) : PieceOk Try.prog (bodyOf Try.f43) (atlasref19_may.q3.p k) := atlasref19_may.q3.ok_ k
def atlasref19_may.q5.h : Head (Int × Int × Bool × Int × Int × Int × Int × Int × Int × Int × Int × Int × Bool × Bool × Bool × Int × Int × Int × Int × Int) where
  k γ s F := (sizedN 193 s).bind fun _ => (ptrN 0 (gt s.tm 3)).bind fun b2 => (rowN 27 20 s.hp b2).bind fun l4 => (intO .i64 (gt l4 0)).bind fun v6 => (intO .i64 (gt l4 1)).bind fun v8 => (boolO (gt l4 2)).bind fun v10 => (intO .i64 (gt l4 3)).bind fun v12 => (intO .i64 (gt l4 4)).bind fun v14 => (intO .i64 (gt l4 5)).bind fun v16 => (intO .i64 (gt l4 6)).bind fun v18 => (intO .i64 (gt l4 7)).bind fun v20 => (intO .i64 (gt l4 8)).bind fun v22 => (intO .u32 (gt l4 9)).bind fun v24 => (intO .i64 (gt l4 10)).bind fun v26 => (intO .i64 (gt l4 11)).bind fun v28 => (boolO (gt l4 12)).bind fun v30 => (boolO (gt l4 13)).bind fun v32 => (boolO (gt l4 14)).bind fun v34 => (intO .u16 (gt l4 15)).bind fun v36 => (intO .i64 (gt l4 16)).bind fun v38 => (intO .i64 (gt l4 17)).bind fun v40 => (intO .i64 (gt l4 18)).bind fun v42 => (intO .i64 (gt l4 19)).bind fun v44 => (distO [some b2]).bind fun _ => F (v6, v8, v10, v12, v14, v16, v18, v20, v22, v24, v26, v28, v30, v32, v34, v36, v38, v40, v42, v44)
  st x := ⟨sparseT [(3, (.ptr 0 0))] 193 0, [.row [(.val (.int .i64 x.1)), (.val (.int .i64 x.2.1)), (.val (.bool x.2.2.1)), (.val (.int .i64 x.2.2.2.1)), (.val (.int .i64 x.2.2.2.2.1)), (.val (.int .i64 x.2.2.2.2.2.1)), (.val (.int .i64 x.2.2.2.2.2.2.1)), (.val (.int .i64 x.2.2.2.2.2.2.2.1)), (.val (.int .i64 x.2.2.2.2.2.2.2.2.1)), (.val (.int .u32 x.2.2.2.2.2.2.2.2.2.1)), (.val (.int .i64 x.2.2.2.2.2.2.2.2.2.2.1)), (.val (.int .i64 x.2.2.2.2.2.2.2.2.2.2.2.1)), (.val (.bool x.2.2.2.2.2.2.2.2.2.2.2.2.1)), (.val (.bool x.2.2.2.2.2.2.2.2.2.2.2.2.2.1)), (.val (.bool x.2.2.2.2.2.2.2.2.2.2.2.2.2.2.1)), (.val (.int .u16 x.2.2.2.2.2.2.2.2.2.2.2.2.2.2.2.1)), (.val (.int .i64 x.2.2.2.2.2.2.2.2.2.2.2.2.2.2.2.2.1)), (.val (.int .i64 x.2.2.2.2.2.2.2.2.2.2.2.2.2.2.2.2.2.1)), (.val (.int .i64 x.2.2.2.2.2.2.2.2.2.2.2.2.2.2.2.2.2.2.1)), (.val (.int .i64 x.2.2.2.2.2.2.2.2.2.2.2.2.2.2.2.2.2.2.2))] 27 true]⟩
  ok γ s F r h := by
    obtain ⟨_, hz, h⟩ := Option.bind_eq_some_iff.1 h
    obtain ⟨b2, h1, h⟩ := Option.bind_eq_some_iff.1 h
    obtain ⟨l4, h3, h⟩ := Option.bind_eq_some_iff.1 h
    obtain ⟨v6, h5, h⟩ := Option.bind_eq_some_iff.1 h
    obtain ⟨v8, h7, h⟩ := Option.bind_eq_some_iff.1 h
    obtain ⟨v10, h9, h⟩ := Option.bind_eq_some_iff.1 h
    obtain ⟨v12, h11, h⟩ := Option.bind_eq_some_iff.1 h
    obtain ⟨v14, h13, h⟩ := Option.bind_eq_some_iff.1 h
    obtain ⟨v16, h15, h⟩ := Option.bind_eq_some_iff.1 h
    obtain ⟨v18, h17, h⟩ := Option.bind_eq_some_iff.1 h
    obtain ⟨v20, h19, h⟩ := Option.bind_eq_some_iff.1 h
    obtain ⟨v22, h21, h⟩ := Option.bind_eq_some_iff.1 h
    obtain ⟨v24, h23, h⟩ := Option.bind_eq_some_iff.1 h
    obtain ⟨v26, h25, h⟩ := Option.bind_eq_some_iff.1 h
    obtain ⟨v28, h27, h⟩ := Option.bind_eq_some_iff.1 h
    obtain ⟨v30, h29, h⟩ := Option.bind_eq_some_iff.1 h
    obtain ⟨v32, h31, h⟩ := Option.bind_eq_some_iff.1 h
    obtain ⟨v34, h33, h⟩ := Option.bind_eq_some_iff.1 h
    obtain ⟨v36, h35, h⟩ := Option.bind_eq_some_iff.1 h
    obtain ⟨v38, h37, h⟩ := Option.bind_eq_some_iff.1 h
    obtain ⟨v40, h39, h⟩ := Option.bind_eq_some_iff.1 h
    obtain ⟨v42, h41, h⟩ := Option.bind_eq_some_iff.1 h
    obtain ⟨v44, h43, h⟩ := Option.bind_eq_some_iff.1 h
    obtain ⟨_, h45, h⟩ := Option.bind_eq_some_iff.1 h
    exact ⟨_, h, weak_ren (l := [some b2]) (sizedN_ok hz) (distO_ok h45) (LiveR.cons (RefsR.ptr (l := [some b2]) (i := 0) rfl (ptrN_eq h1)) LiveR.nil) (BlksR.cons (rowN_refs h3 rfl (GtRefsR.cons (RefsR.plain (Refs.of_eq (intO_eq h5)) rfl) (GtRefsR.cons (RefsR.plain (Refs.of_eq (intO_eq h7)) rfl) (GtRefsR.cons (RefsR.plain (Refs.of_eq (boolO_eq h9)) rfl) (GtRefsR.cons (RefsR.plain (Refs.of_eq (intO_eq h11)) rfl) (GtRefsR.cons (RefsR.plain (Refs.of_eq (intO_eq h13)) rfl) (GtRefsR.cons (RefsR.plain (Refs.of_eq (intO_eq h15)) rfl) (GtRefsR.cons (RefsR.plain (Refs.of_eq (intO_eq h17)) rfl) (GtRefsR.cons (RefsR.plain (Refs.of_eq (intO_eq h19)) rfl) (GtRefsR.cons (RefsR.plain (Refs.of_eq (intO_eq h21)) rfl) (GtRefsR.cons (RefsR.plain (Refs.of_eq (intO_eq h23)) rfl) (GtRefsR.cons (RefsR.plain (Refs.of_eq (intO_eq h25)) rfl) (GtRefsR.cons (RefsR.plain (Refs.of_eq (intO_eq h27)) rfl) (GtRefsR.cons (RefsR.plain (Refs.of_eq (boolO_eq h29)) rfl) (GtRefsR.cons (RefsR.plain (Refs.of_eq (boolO_eq h31)) rfl) (GtRefsR.cons (RefsR.plain (Refs.of_eq (boolO_eq h33)) rfl) (GtRefsR.cons (RefsR.plain (Refs.of_eq (intO_eq h35)) rfl) (GtRefsR.cons (RefsR.plain (Refs.of_eq (intO_eq h37)) rfl) (GtRefsR.cons (RefsR.plain (Refs.of_eq (intO_eq h39)) rfl) (GtRefsR.cons (RefsR.plain (Refs.of_eq (intO_eq h41)) rfl) (GtRefsR.cons (RefsR.plain (Refs.of_eq (intO_eq h43)) rfl) GtRefsR.nil)))))))))))))))))))) rfl) BlksR.nil)⟩

def atlasref19_may.q5.x0 : Head (Bool) where
  k γ s F := (sizedN 193 s).bind fun _ => (boolO (gt s.tm 4)).bind fun v2 => (distO []).bind fun _ => F (v2)
  st x := ⟨sparseT [(4, (.val (.bool x)))] 193 0, []⟩
  ok γ s F r h := by
    obtain ⟨_, hz, h⟩ := Option.bind_eq_some_iff.1 h
    obtain ⟨v2, h1, h⟩ := Option.bind_eq_some_iff.1 h
    obtain ⟨_, h3, h⟩ := Option.bind_eq_some_iff.1 h
    exact ⟨_, h, weak_ren (l := []) (sizedN_ok hz) (distO_ok h3) (LiveR.cons (RefsR.plain (Refs.of_eq (boolO_eq h1)) rfl) LiveR.nil) BlksR.nil⟩

def atlasref19_may.q5.t : Tail (Bool) := Tail.one .ret atlasref19_may.q5.x0
theorem atlasref19_may.q5.np (y : (Bool)) (v : AV) : (atlasref19_may.q5.t.out y).1 ≠ .panic v := fun h => by cases h
def atlasref19_may.q5.l (k : Nat) (x : (Int × Int × Bool × Int × Int × Int × Int × Int × Int × Int × Int × Int × Bool × Bool × Bool × Int × Int × Int × Int × Int)) : Option (Bool) := (bif (x.2.1 == 39) then (some true) else ((atlasref19_listed.f x.2.2.2.2.2.2.2.2.2.2.2.2.2.2.2.1 15).bind fun r10 => (some (!r10))))
theorem atlasref19_may.q5.at : codeAt (bodyOf Try.f43) [true, false, true, true, true, true, true, false, false, true, true] = some (codeOf (bodyOf Try.f43) [true, false, true, true, true, true, true, false, false, true, true]) := by kernel_rfl
theorem atlasref19_may.q5.goes (k : Nat) (x : (Int × Int × Bool × Int × Int × Int × Int × Int × Int × Int × Int × Int × Bool × Bool × Bool × Int × Int × Int × Int × Int)) : E Try.prog (gamOf [(61, atlasref19_any15.g k), (62, atlasref19_listed.g)]) (lamOf []) (codeOf (bodyOf Try.f43) [true, false, true, true, true, true, true, false, false, true, true]) [true, false, true, true, true, true, true, false, false, true, true] (atlasref19_may.q5.h.st x) (fun ex t => atlasref19_may.q5.t.d _ ex t some) = atlasref19_may.q5.l k x := by
  kernel_rfl
theorem atlasref19_may.q5.ok_ (k : Nat) : PieceOk Try.prog (bodyOf Try.f43) ⟨[true, false, true, true, true, true, true, false, false, true, true], _, _, atlasref19_may.q5.h, atlasref19_may.q5.t, atlasref19_may.q5.l k⟩ :=
  piece_code (gamOf_cons (atlasref19_any15.ok k) atlasref19_any15.callable (gamOf_cons (atlasref19_listed.ok) atlasref19_listed.callable (gamOf_nil _))) (lamOf_nil _ _) mixed atlasref19_may.q5.at atlasref19_may.q5.np (atlasref19_may.q5.goes k)
def atlasref19_may.q5.p (k : Nat) : Piece := ⟨[true, false, true, true, true, true, true, false, false, true, true], _, _, atlasref19_may.q5.h, atlasref19_may.q5.t, atlasref19_may.q5.l k⟩
theorem atlasref19_may.q5.ok (k : Nat) : PieceOk Try.prog (bodyOf Try.f43) (atlasref19_may.q5.p k) := atlasref19_may.q5.ok_ k
def atlasref19_may.q7.h : Head (Bool × (List Int) × Int × ByteArray × Int × Int × Bool × Int × Int × Int × Int × Int × Int × Int × Int × Int × Bool × Bool × Bool × Int × Int × Int × Int × Int) where
  k γ s F := (sizedN 193 s).bind fun _ => (ptrN 0 (gt s.tm 2)).bind fun b2 => (ptrN 0 (gt s.tm 3)).bind fun b4 => (boolO (gt s.tm 159)).bind fun v6 => (rowN 43 3 s.hp b2).bind fun l8 => (vtO (.int .i64) (gt l8 0)).bind fun v10 => (intO .i64 (gt l8 1)).bind fun v12 => (strO (gt l8 2)).bind fun v14 => (rowN 27 20 s.hp b4).bind fun l16 => (intO .i64 (gt l16 0)).bind fun v18 => (intO .i64 (gt l16 1)).bind fun v20 => (boolO (gt l16 2)).bind fun v22 => (intO .i64 (gt l16 3)).bind fun v24 => (intO .i64 (gt l16 4)).bind fun v26 => (intO .i64 (gt l16 5)).bind fun v28 => (intO .i64 (gt l16 6)).bind fun v30 => (intO .i64 (gt l16 7)).bind fun v32 => (intO .i64 (gt l16 8)).bind fun v34 => (intO .u32 (gt l16 9)).bind fun v36 => (intO .i64 (gt l16 10)).bind fun v38 => (intO .i64 (gt l16 11)).bind fun v40 => (boolO (gt l16 12)).bind fun v42 => (boolO (gt l16 13)).bind fun v44 => (boolO (gt l16 14)).bind fun v46 => (intO .u16 (gt l16 15)).bind fun v48 => (intO .i64 (gt l16 16)).bind fun v50 => (intO .i64 (gt l16 17)).bind fun v52 => (intO .i64 (gt l16 18)).bind fun v54 => (intO .i64 (gt l16 19)).bind fun v56 => (distO [some b2, some b4]).bind fun _ => F (v6, v10, v12, v14, v18, v20, v22, v24, v26, v28, v30, v32, v34, v36, v38, v40, v42, v44, v46, v48, v50, v52, v54, v56)
  st x := ⟨sparseT [(2, (.ptr 0 0)), (3, (.ptr 1 0)), (159, (.val (.bool x.1)))] 193 0, [.row [(.vt (.int .i64) x.2.1), (.val (.int .i64 x.2.2.1)), (.val (.string x.2.2.2.1))] 43 true, .row [(.val (.int .i64 x.2.2.2.2.1)), (.val (.int .i64 x.2.2.2.2.2.1)), (.val (.bool x.2.2.2.2.2.2.1)), (.val (.int .i64 x.2.2.2.2.2.2.2.1)), (.val (.int .i64 x.2.2.2.2.2.2.2.2.1)), (.val (.int .i64 x.2.2.2.2.2.2.2.2.2.1)), (.val (.int .i64 x.2.2.2.2.2.2.2.2.2.2.1)), (.val (.int .i64 x.2.2.2.2.2.2.2.2.2.2.2.1)), (.val (.int .i64 x.2.2.2.2.2.2.2.2.2.2.2.2.1)), (.val (.int .u32 x.2.2.2.2.2.2.2.2.2.2.2.2.2.1)), (.val (.int .i64 x.2.2.2.2.2.2.2.2.2.2.2.2.2.2.1)), (.val (.int .i64 x.2.2.2.2.2.2.2.2.2.2.2.2.2.2.2.1)), (.val (.bool x.2.2.2.2.2.2.2.2.2.2.2.2.2.2.2.2.1)), (.val (.bool x.2.2.2.2.2.2.2.2.2.2.2.2.2.2.2.2.2.1)), (.val (.bool x.2.2.2.2.2.2.2.2.2.2.2.2.2.2.2.2.2.2.1)), (.val (.int .u16 x.2.2.2.2.2.2.2.2.2.2.2.2.2.2.2.2.2.2.2.1)), (.val (.int .i64 x.2.2.2.2.2.2.2.2.2.2.2.2.2.2.2.2.2.2.2.2.1)), (.val (.int .i64 x.2.2.2.2.2.2.2.2.2.2.2.2.2.2.2.2.2.2.2.2.2.1)), (.val (.int .i64 x.2.2.2.2.2.2.2.2.2.2.2.2.2.2.2.2.2.2.2.2.2.2.1)), (.val (.int .i64 x.2.2.2.2.2.2.2.2.2.2.2.2.2.2.2.2.2.2.2.2.2.2.2))] 27 true]⟩
  ok γ s F r h := by
    obtain ⟨_, hz, h⟩ := Option.bind_eq_some_iff.1 h
    obtain ⟨b2, h1, h⟩ := Option.bind_eq_some_iff.1 h
    obtain ⟨b4, h3, h⟩ := Option.bind_eq_some_iff.1 h
    obtain ⟨v6, h5, h⟩ := Option.bind_eq_some_iff.1 h
    obtain ⟨l8, h7, h⟩ := Option.bind_eq_some_iff.1 h
    obtain ⟨v10, h9, h⟩ := Option.bind_eq_some_iff.1 h
    obtain ⟨v12, h11, h⟩ := Option.bind_eq_some_iff.1 h
    obtain ⟨v14, h13, h⟩ := Option.bind_eq_some_iff.1 h
    obtain ⟨l16, h15, h⟩ := Option.bind_eq_some_iff.1 h
    obtain ⟨v18, h17, h⟩ := Option.bind_eq_some_iff.1 h
    obtain ⟨v20, h19, h⟩ := Option.bind_eq_some_iff.1 h
    obtain ⟨v22, h21, h⟩ := Option.bind_eq_some_iff.1 h
    obtain ⟨v24, h23, h⟩ := Option.bind_eq_some_iff.1 h
    obtain ⟨v26, h25, h⟩ := Option.bind_eq_some_iff.1 h
    obtain ⟨v28, h27, h⟩ := Option.bind_eq_some_iff.1 h
    obtain ⟨v30, h29, h⟩ := Option.bind_eq_some_iff.1 h
    obtain ⟨v32, h31, h⟩ := Option.bind_eq_some_iff.1 h
    obtain ⟨v34, h33, h⟩ := Option.bind_eq_some_iff.1 h
    obtain ⟨v36, h35, h⟩ := Option.bind_eq_some_iff.1 h
    obtain ⟨v38, h37, h⟩ := Option.bind_eq_some_iff.1 h
    obtain ⟨v40, h39, h⟩ := Option.bind_eq_some_iff.1 h
    obtain ⟨v42, h41, h⟩ := Option.bind_eq_some_iff.1 h
    obtain ⟨v44, h43, h⟩ := Option.bind_eq_some_iff.1 h
    obtain ⟨v46, h45, h⟩ := Option.bind_eq_some_iff.1 h
    obtain ⟨v48, h47, h⟩ := Option.bind_eq_some_iff.1 h
    obtain ⟨v50, h49, h⟩ := Option.bind_eq_some_iff.1 h
    obtain ⟨v52, h51, h⟩ := Option.bind_eq_some_iff.1 h
    obtain ⟨v54, h53, h⟩ := Option.bind_eq_some_iff.1 h
    obtain ⟨v56, h55, h⟩ := Option.bind_eq_some_iff.1 h
    obtain ⟨_, h57, h⟩ := Option.bind_eq_some_iff.1 h
    exact ⟨_, h, weak_ren (l := [some b2, some b4]) (sizedN_ok hz) (distO_ok h57) (LiveR.cons (RefsR.ptr (l := [some b2, some b4]) (i := 0) rfl (ptrN_eq h1)) (LiveR.cons (RefsR.ptr (l := [some b2, some b4]) (i := 1) rfl (ptrN_eq h3)) (LiveR.cons (RefsR.plain (Refs.of_eq (boolO_eq h5)) rfl) LiveR.nil))) (BlksR.cons (rowN_refs h7 rfl (GtRefsR.cons (RefsR.plain (vtO_refs h9) rfl) (GtRefsR.cons (RefsR.plain (Refs.of_eq (intO_eq h11)) rfl) (GtRefsR.cons (RefsR.plain (Refs.of_eq (strO_eq h13)) rfl) GtRefsR.nil))) rfl) (BlksR.cons (rowN_refs h15 rfl (GtRefsR.cons (RefsR.plain (Refs.of_eq (intO_eq h17)) rfl) (GtRefsR.cons (RefsR.plain (Refs.of_eq (intO_eq h19)) rfl) (GtRefsR.cons (RefsR.plain (Refs.of_eq (boolO_eq h21)) rfl) (GtRefsR.cons (RefsR.plain (Refs.of_eq (intO_eq h23)) rfl) (GtRefsR.cons (RefsR.plain (Refs.of_eq (intO_eq h25)) rfl) (GtRefsR.cons (RefsR.plain (Refs.of_eq (intO_eq h27)) rfl) (GtRefsR.cons (RefsR.plain (Refs.of_eq (intO_eq h29)) rfl) (GtRefsR.cons (RefsR.plain (Refs.of_eq (intO_eq h31)) rfl) (GtRefsR.cons (RefsR.plain (Refs.of_eq (intO_eq h33)) rfl) (GtRefsR.cons (RefsR.plain (Refs.of_eq (intO_eq h35)) rfl) (GtRefsR.cons (RefsR.plain (Refs.of_eq (intO_eq h37)) rfl) (GtRefsR.cons (RefsR.plain (Refs.of_eq (intO_eq h39)) rfl) (GtRefsR.cons (RefsR.plain (Refs.of_eq (boolO_eq h41)) rfl) (GtRefsR.cons (RefsR.plain (Refs.of_eq (boolO_eq h43)) rfl) (GtRefsR.cons (RefsR.plain (Refs.of_eq (boolO_eq h45)) rfl) (GtRefsR.cons (RefsR.plain (Refs.of_eq (intO_eq h47)) rfl) (GtRefsR.cons (RefsR.plain (Refs.of_eq (intO_eq h49)) rfl) (GtRefsR.cons (RefsR.plain (Refs.of_eq (intO_eq h51)) rfl) (GtRefsR.cons (RefsR.plain (Refs.of_eq (intO_eq h53)) rfl) (GtRefsR.cons (RefsR.plain (Refs.of_eq (intO_eq h55)) rfl) GtRefsR.nil)))))))))))))))))))) rfl) BlksR.nil))⟩

def atlasref19_may.q7.x0 : Head (Bool) where
  k γ s F := (sizedN 193 s).bind fun _ => (boolO (gt s.tm 4)).bind fun v2 => (distO []).bind fun _ => F (v2)
  st x := ⟨sparseT [(4, (.val (.bool x)))] 193 0, []⟩
  ok γ s F r h := by
    obtain ⟨_, hz, h⟩ := Option.bind_eq_some_iff.1 h
    obtain ⟨v2, h1, h⟩ := Option.bind_eq_some_iff.1 h
    obtain ⟨_, h3, h⟩ := Option.bind_eq_some_iff.1 h
    exact ⟨_, h, weak_ren (l := []) (sizedN_ok hz) (distO_ok h3) (LiveR.cons (RefsR.plain (Refs.of_eq (boolO_eq h1)) rfl) LiveR.nil) BlksR.nil⟩

def atlasref19_may.q7.x1 : Head (Unit) where
  k γ s F := (sizedN 193 s).bind fun _ => (distO []).bind fun _ => F ()
  st x := ⟨sparseT [] 193 0, []⟩
  ok γ s F r h := by
    obtain ⟨_, hz, h⟩ := Option.bind_eq_some_iff.1 h
    obtain ⟨_, h1, h⟩ := Option.bind_eq_some_iff.1 h
    exact ⟨_, h, weak_ren (l := []) (sizedN_ok hz) (distO_ok h1) LiveR.nil BlksR.nil⟩

def atlasref19_may.q7.t : Tail ((Bool) ⊕ (Unit)) := Tail.or .ret atlasref19_may.q7.x0 (Tail.one .normal atlasref19_may.q7.x1)
theorem atlasref19_may.q7.np (y : ((Bool) ⊕ (Unit))) (v : AV) : (atlasref19_may.q7.t.out y).1 ≠ .panic v := fun h => by rcases y with _ | y <;> first | (cases h; done) | (cases h)
def atlasref19_may.q7.l (k : Nat) (x : (Bool × (List Int) × Int × ByteArray × Int × Int × Bool × Int × Int × Int × Int × Int × Int × Int × Int × Int × Bool × Bool × Bool × Int × Int × Int × Int × Int)) : Option ((Bool) ⊕ (Unit)) := (bif x.1 then (some (Sum.inl (x.2.2.2.2.2.2.2.2.1 != 15))) else (bif (x.2.2.2.2.2.1 == 48) then (bif (x.2.2.2.2.2.2.2.2.2.2.2.2.2.2.2.1 != 0) then (bif (x.2.2.1 == 1) then (some (Sum.inl true)) else (some (Sum.inl (x.2.2.2.2.2.2.2.2.2.2.1 != 15)))) else (some (Sum.inl false))) else (some (Sum.inr ()))))
theorem atlasref19_may.q7.at : codeAt (bodyOf Try.f43) [true, true, true, true, true, true, true, true, true, true, true, false, false, true, true] = some (codeOf (bodyOf Try.f43) [true, true, true, true, true, true, true, true, true, true, true, false, false, true, true]) := by kernel_rfl
theorem atlasref19_may.q7.goes (k : Nat) (x : (Bool × (List Int) × Int × ByteArray × Int × Int × Bool × Int × Int × Int × Int × Int × Int × Int × Int × Int × Bool × Bool × Bool × Int × Int × Int × Int × Int)) : E Try.prog (gamOf [(61, atlasref19_any15.g k), (62, atlasref19_listed.g)]) (lamOf []) (codeOf (bodyOf Try.f43) [true, true, true, true, true, true, true, true, true, true, true, false, false, true, true]) [true, true, true, true, true, true, true, true, true, true, true, false, false, true, true] (atlasref19_may.q7.h.st x) (fun ex t => atlasref19_may.q7.t.d _ ex t some) = atlasref19_may.q7.l k x := by
  kernel_rfl
theorem atlasref19_may.q7.ok_ (k : Nat) : PieceOk Try.prog (bodyOf Try.f43) ⟨[true, true, true, true, true, true, true, true, true, true, true, false, false, true, true], _, _, atlasref19_may.q7.h, atlasref19_may.q7.t, atlasref19_may.q7.l k⟩ :=
  piece_code (gamOf_cons (atlasref19_any15.ok k) atlasref19_any15.callable (gamOf_cons (atlasref19_listed.ok) atlasref19_listed.callable (gamOf_nil _))) (lamOf_nil _ _) mixed atlasref19_may.q7.at atlasref19_may.q7.np (atlasref19_may.q7.goes k)
def atlasref19_may.q7.p (k : Nat) : Piece := ⟨[true, true, true, true, true, true, true, true, true, true, true, false, false, true, true], _, _, atlasref19_may.q7.h, atlasref19_may.q7.t, atlasref19_may.q7.l k⟩
theorem atlasref19_may.q7.ok (k : Nat) : PieceOk Try.prog (bodyOf Try.f43) (atlasref19_may.q7.p k) := atlasref19_may.q7.ok_ k
def atlasref19_may.q6.h : Head (Bool × (List Int) × Int × ByteArray × Int × Int × Bool × Int × Int × Int × Int × Int × Int × Int × Int × Int × Bool × Bool × Bool × Int × Int × Int × Int × Int) where
  k γ s F := (sizedN 193 s).bind fun _ => (ptrN 0 (gt s.tm 2)).bind fun b2 => (ptrN 0 (gt s.tm 3)).bind fun b4 => (boolO (gt s.tm 140)).bind fun v6 => (rowN 43 3 s.hp b2).bind fun l8 => (vtO (.int .i64) (gt l8 0)).bind fun v10 => (intO .i64 (gt l8 1)).bind fun v12 => (strO (gt l8 2)).bind fun v14 => (rowN 27 20 s.hp b4).bind fun l16 => (intO .i64 (gt l16 0)).bind fun v18 => (intO .i64 (gt l16 1)).bind fun v20 => (boolO (gt l16 2)).bind fun v22 => (intO .i64 (gt l16 3)).bind fun v24 => (intO .i64 (gt l16 4)).bind fun v26 => (intO .i64 (gt l16 5)).bind fun v28 => (intO .i64 (gt l16 6)).bind fun v30 => (intO .i64 (gt l16 7)).bind fun v32 => (intO .i64 (gt l16 8)).bind fun v34 => (intO .u32 (gt l16 9)).bind fun v36 => (intO .i64 (gt l16 10)).bind fun v38 => (intO .i64 (gt l16 11)).bind fun v40 => (boolO (gt l16 12)).bind fun v42 => (boolO (gt l16 13)).bind fun v44 => (boolO (gt l16 14)).bind fun v46 => (intO .u16 (gt l16 15)).bind fun v48 => (intO .i64 (gt l16 16)).bind fun v50 => (intO .i64 (gt l16 17)).bind fun v52 => (intO .i64 (gt l16 18)).bind fun v54 => (intO .i64 (gt l16 19)).bind fun v56 => (distO [some b2, some b4]).bind fun _ => F (v6, v10, v12, v14, v18, v20, v22, v24, v26, v28, v30, v32, v34, v36, v38, v40, v42, v44, v46, v48, v50, v52, v54, v56)
  st x := ⟨sparseT [(2, (.ptr 0 0)), (3, (.ptr 1 0)), (140, (.val (.bool x.1)))] 193 0, [.row [(.vt (.int .i64) x.2.1), (.val (.int .i64 x.2.2.1)), (.val (.string x.2.2.2.1))] 43 true, .row [(.val (.int .i64 x.2.2.2.2.1)), (.val (.int .i64 x.2.2.2.2.2.1)), (.val (.bool x.2.2.2.2.2.2.1)), (.val (.int .i64 x.2.2.2.2.2.2.2.1)), (.val (.int .i64 x.2.2.2.2.2.2.2.2.1)), (.val (.int .i64 x.2.2.2.2.2.2.2.2.2.1)), (.val (.int .i64 x.2.2.2.2.2.2.2.2.2.2.1)), (.val (.int .i64 x.2.2.2.2.2.2.2.2.2.2.2.1)), (.val (.int .i64 x.2.2.2.2.2.2.2.2.2.2.2.2.1)), (.val (.int .u32 x.2.2.2.2.2.2.2.2.2.2.2.2.2.1)), (.val (.int .i64 x.2.2.2.2.2.2.2.2.2.2.2.2.2.2.1)), (.val (.int .i64 x.2.2.2.2.2.2.2.2.2.2.2.2.2.2.2.1)), (.val (.bool x.2.2.2.2.2.2.2.2.2.2.2.2.2.2.2.2.1)), (.val (.bool x.2.2.2.2.2.2.2.2.2.2.2.2.2.2.2.2.2.1)), (.val (.bool x.2.2.2.2.2.2.2.2.2.2.2.2.2.2.2.2.2.2.1)), (.val (.int .u16 x.2.2.2.2.2.2.2.2.2.2.2.2.2.2.2.2.2.2.2.1)), (.val (.int .i64 x.2.2.2.2.2.2.2.2.2.2.2.2.2.2.2.2.2.2.2.2.1)), (.val (.int .i64 x.2.2.2.2.2.2.2.2.2.2.2.2.2.2.2.2.2.2.2.2.2.1)), (.val (.int .i64 x.2.2.2.2.2.2.2.2.2.2.2.2.2.2.2.2.2.2.2.2.2.2.1)), (.val (.int .i64 x.2.2.2.2.2.2.2.2.2.2.2.2.2.2.2.2.2.2.2.2.2.2.2))] 27 true]⟩
  ok γ s F r h := by
    obtain ⟨_, hz, h⟩ := Option.bind_eq_some_iff.1 h
    obtain ⟨b2, h1, h⟩ := Option.bind_eq_some_iff.1 h
    obtain ⟨b4, h3, h⟩ := Option.bind_eq_some_iff.1 h
    obtain ⟨v6, h5, h⟩ := Option.bind_eq_some_iff.1 h
    obtain ⟨l8, h7, h⟩ := Option.bind_eq_some_iff.1 h
    obtain ⟨v10, h9, h⟩ := Option.bind_eq_some_iff.1 h
    obtain ⟨v12, h11, h⟩ := Option.bind_eq_some_iff.1 h
    obtain ⟨v14, h13, h⟩ := Option.bind_eq_some_iff.1 h
    obtain ⟨l16, h15, h⟩ := Option.bind_eq_some_iff.1 h
    obtain ⟨v18, h17, h⟩ := Option.bind_eq_some_iff.1 h
    obtain ⟨v20, h19, h⟩ := Option.bind_eq_some_iff.1 h
    obtain ⟨v22, h21, h⟩ := Option.bind_eq_some_iff.1 h
    obtain ⟨v24, h23, h⟩ := Option.bind_eq_some_iff.1 h
    obtain ⟨v26, h25, h⟩ := Option.bind_eq_some_iff.1 h
    obtain ⟨v28, h27, h⟩ := Option.bind_eq_some_iff.1 h
    obtain ⟨v30, h29, h⟩ := Option.bind_eq_some_iff.1 h
    obtain ⟨v32, h31, h⟩ := Option.bind_eq_some_iff.1 h
    obtain ⟨v34, h33, h⟩ := Option.bind_eq_some_iff.1 h
    obtain ⟨v36, h35, h⟩ := Option.bind_eq_some_iff.1 h
    obtain ⟨v38, h37, h⟩ := Option.bind_eq_some_iff.1 h
    obtain ⟨v40, h39, h⟩ := Option.bind_eq_some_iff.1 h
    obtain ⟨v42, h41, h⟩ := Option.bind_eq_some_iff.1 h
    obtain ⟨v44, h43, h⟩ := Option.bind_eq_some_iff.1 h
    obtain ⟨v46, h45, h⟩ := Option.bind_eq_some_iff.1 h
    obtain ⟨v48, h47, h⟩ := Option.bind_eq_some_iff.1 h
    obtain ⟨v50, h49, h⟩ := Option.bind_eq_some_iff.1 h
    obtain ⟨v52, h51, h⟩ := Option.bind_eq_some_iff.1 h
    obtain ⟨v54, h53, h⟩ := Option.bind_eq_some_iff.1 h
    obtain ⟨v56, h55, h⟩ := Option.bind_eq_some_iff.1 h
    obtain ⟨_, h57, h⟩ := Option.bind_eq_some_iff.1 h
    exact ⟨_, h, weak_ren (l := [some b2, some b4]) (sizedN_ok hz) (distO_ok h57) (LiveR.cons (RefsR.ptr (l := [some b2, some b4]) (i := 0) rfl (ptrN_eq h1)) (LiveR.cons (RefsR.ptr (l := [some b2, some b4]) (i := 1) rfl (ptrN_eq h3)) (LiveR.cons (RefsR.plain (Refs.of_eq (boolO_eq h5)) rfl) LiveR.nil))) (BlksR.cons (rowN_refs h7 rfl (GtRefsR.cons (RefsR.plain (vtO_refs h9) rfl) (GtRefsR.cons (RefsR.plain (Refs.of_eq (intO_eq h11)) rfl) (GtRefsR.cons (RefsR.plain (Refs.of_eq (strO_eq h13)) rfl) GtRefsR.nil))) rfl) (BlksR.cons (rowN_refs h15 rfl (GtRefsR.cons (RefsR.plain (Refs.of_eq (intO_eq h17)) rfl) (GtRefsR.cons (RefsR.plain (Refs.of_eq (intO_eq h19)) rfl) (GtRefsR.cons (RefsR.plain (Refs.of_eq (boolO_eq h21)) rfl) (GtRefsR.cons (RefsR.plain (Refs.of_eq (intO_eq h23)) rfl) (GtRefsR.cons (RefsR.plain (Refs.of_eq (intO_eq h25)) rfl) (GtRefsR.cons (RefsR.plain (Refs.of_eq (intO_eq h27)) rfl) (GtRefsR.cons (RefsR.plain (Refs.of_eq (intO_eq h29)) rfl) (GtRefsR.cons (RefsR.plain (Refs.of_eq (intO_eq h31)) rfl) (GtRefsR.cons (RefsR.plain (Refs.of_eq (intO_eq h33)) rfl) (GtRefsR.cons (RefsR.plain (Refs.of_eq (intO_eq h35)) rfl) (GtRefsR.cons (RefsR.plain (Refs.of_eq (intO_eq h37)) rfl) (GtRefsR.cons (RefsR.plain (Refs.of_eq (intO_eq h39)) rfl) (GtRefsR.cons (RefsR.plain (Refs.of_eq (boolO_eq h41)) rfl) (GtRefsR.cons (RefsR.plain (Refs.of_eq (boolO_eq h43)) rfl) (GtRefsR.cons (RefsR.plain (Refs.of_eq (boolO_eq h45)) rfl) (GtRefsR.cons (RefsR.plain (Refs.of_eq (intO_eq h47)) rfl) (GtRefsR.cons (RefsR.plain (Refs.of_eq (intO_eq h49)) rfl) (GtRefsR.cons (RefsR.plain (Refs.of_eq (intO_eq h51)) rfl) (GtRefsR.cons (RefsR.plain (Refs.of_eq (intO_eq h53)) rfl) (GtRefsR.cons (RefsR.plain (Refs.of_eq (intO_eq h55)) rfl) GtRefsR.nil)))))))))))))))))))) rfl) BlksR.nil))⟩

def atlasref19_may.q6.x0 : Head (Bool) where
  k γ s F := (sizedN 193 s).bind fun _ => (boolO (gt s.tm 4)).bind fun v2 => (distO []).bind fun _ => F (v2)
  st x := ⟨sparseT [(4, (.val (.bool x)))] 193 0, []⟩
  ok γ s F r h := by
    obtain ⟨_, hz, h⟩ := Option.bind_eq_some_iff.1 h
    obtain ⟨v2, h1, h⟩ := Option.bind_eq_some_iff.1 h
    obtain ⟨_, h3, h⟩ := Option.bind_eq_some_iff.1 h
    exact ⟨_, h, weak_ren (l := []) (sizedN_ok hz) (distO_ok h3) (LiveR.cons (RefsR.plain (Refs.of_eq (boolO_eq h1)) rfl) LiveR.nil) BlksR.nil⟩

def atlasref19_may.q6.x1 : Head (Unit) where
  k γ s F := (sizedN 193 s).bind fun _ => (distO []).bind fun _ => F ()
  st x := ⟨sparseT [] 193 0, []⟩
  ok γ s F r h := by
    obtain ⟨_, hz, h⟩ := Option.bind_eq_some_iff.1 h
    obtain ⟨_, h1, h⟩ := Option.bind_eq_some_iff.1 h
    exact ⟨_, h, weak_ren (l := []) (sizedN_ok hz) (distO_ok h1) LiveR.nil BlksR.nil⟩

def atlasref19_may.q6.t : Tail ((Bool) ⊕ (Unit)) := Tail.or .ret atlasref19_may.q6.x0 (Tail.one .normal atlasref19_may.q6.x1)
theorem atlasref19_may.q6.np (y : ((Bool) ⊕ (Unit))) (v : AV) : (atlasref19_may.q6.t.out y).1 ≠ .panic v := fun h => by rcases y with _ | y <;> first | (cases h; done) | (cases h)
def atlasref19_may.q6.l (k : Nat) (x : (Bool × (List Int) × Int × ByteArray × Int × Int × Bool × Int × Int × Int × Int × Int × Int × Int × Int × Int × Bool × Bool × Bool × Int × Int × Int × Int × Int)) : Option ((Bool) ⊕ (Unit)) := (bif x.1 then (some (Sum.inl (x.2.2.2.2.2.2.2.2.2.2.1 != 15))) else (bif (x.2.2.2.2.2.1 == 46) then (some (Sum.inl (x.2.2.2.2.1 == 14))) else (bif (x.2.2.2.2.2.1 == 47) then ((atlasref19_may.q7.l k (true, x.2.1, x.2.2.1, x.2.2.2.1, x.2.2.2.2.1, x.2.2.2.2.2.1, x.2.2.2.2.2.2.1, x.2.2.2.2.2.2.2.1, x.2.2.2.2.2.2.2.2.1, x.2.2.2.2.2.2.2.2.2.1, x.2.2.2.2.2.2.2.2.2.2.1, x.2.2.2.2.2.2.2.2.2.2.2.1, x.2.2.2.2.2.2.2.2.2.2.2.2.1, x.2.2.2.2.2.2.2.2.2.2.2.2.2.1, x.2.2.2.2.2.2.2.2.2.2.2.2.2.2.1, x.2.2.2.2.2.2.2.2.2.2.2.2.2.2.2.1, x.2.2.2.2.2.2.2.2.2.2.2.2.2.2.2.2.1, x.2.2.2.2.2.2.2.2.2.2.2.2.2.2.2.2.2.1, x.2.2.2.2.2.2.2.2.2.2.2.2.2.2.2.2.2.2.1, x.2.2.2.2.2.2.2.2.2.2.2.2.2.2.2.2.2.2.2.1, x.2.2.2.2.2.2.2.2.2.2.2.2.2.2.2.2.2.2.2.2.1, x.2.2.2.2.2.2.2.2.2.2.2.2.2.2.2.2.2.2.2.2.2.1, x.2.2.2.2.2.2.2.2.2.2.2.2.2.2.2.2.2.2.2.2.2.2.1, x.2.2.2.2.2.2.2.2.2.2.2.2.2.2.2.2.2.2.2.2.2.2.2)).bind fun r13 => (Sum.elim (fun r14 => (some (Sum.inl r14))) (fun r15 => (some (Sum.inr ()))) r13)) else (bif (x.2.2.2.2.2.1 == 49) then ((atlasref19_may.q7.l k (true, x.2.1, x.2.2.1, x.2.2.2.1, x.2.2.2.2.1, x.2.2.2.2.2.1, x.2.2.2.2.2.2.1, x.2.2.2.2.2.2.2.1, x.2.2.2.2.2.2.2.2.1, x.2.2.2.2.2.2.2.2.2.1, x.2.2.2.2.2.2.2.2.2.2.1, x.2.2.2.2.2.2.2.2.2.2.2.1, x.2.2.2.2.2.2.2.2.2.2.2.2.1, x.2.2.2.2.2.2.2.2.2.2.2.2.2.1, x.2.2.2.2.2.2.2.2.2.2.2.2.2.2.1, x.2.2.2.2.2.2.2.2.2.2.2.2.2.2.2.1, x.2.2.2.2.2.2.2.2.2.2.2.2.2.2.2.2.1, x.2.2.2.2.2.2.2.2.2.2.2.2.2.2.2.2.2.1, x.2.2.2.2.2.2.2.2.2.2.2.2.2.2.2.2.2.2.1, x.2.2.2.2.2.2.2.2.2.2.2.2.2.2.2.2.2.2.2.1, x.2.2.2.2.2.2.2.2.2.2.2.2.2.2.2.2.2.2.2.2.1, x.2.2.2.2.2.2.2.2.2.2.2.2.2.2.2.2.2.2.2.2.2.1, x.2.2.2.2.2.2.2.2.2.2.2.2.2.2.2.2.2.2.2.2.2.2.1, x.2.2.2.2.2.2.2.2.2.2.2.2.2.2.2.2.2.2.2.2.2.2.2)).bind fun r16 => (Sum.elim (fun r17 => (some (Sum.inl r17))) (fun r18 => (some (Sum.inr ()))) r16)) else ((atlasref19_may.q7.l k ((x.2.2.2.2.2.1 == 50), x.2.1, x.2.2.1, x.2.2.2.1, x.2.2.2.2.1, x.2.2.2.2.2.1, x.2.2.2.2.2.2.1, x.2.2.2.2.2.2.2.1, x.2.2.2.2.2.2.2.2.1, x.2.2.2.2.2.2.2.2.2.1, x.2.2.2.2.2.2.2.2.2.2.1, x.2.2.2.2.2.2.2.2.2.2.2.1, x.2.2.2.2.2.2.2.2.2.2.2.2.1, x.2.2.2.2.2.2.2.2.2.2.2.2.2.1, x.2.2.2.2.2.2.2.2.2.2.2.2.2.2.1, x.2.2.2.2.2.2.2.2.2.2.2.2.2.2.2.1, x.2.2.2.2.2.2.2.2.2.2.2.2.2.2.2.2.1, x.2.2.2.2.2.2.2.2.2.2.2.2.2.2.2.2.2.1, x.2.2.2.2.2.2.2.2.2.2.2.2.2.2.2.2.2.2.1, x.2.2.2.2.2.2.2.2.2.2.2.2.2.2.2.2.2.2.2.1, x.2.2.2.2.2.2.2.2.2.2.2.2.2.2.2.2.2.2.2.2.1, x.2.2.2.2.2.2.2.2.2.2.2.2.2.2.2.2.2.2.2.2.2.1, x.2.2.2.2.2.2.2.2.2.2.2.2.2.2.2.2.2.2.2.2.2.2.1, x.2.2.2.2.2.2.2.2.2.2.2.2.2.2.2.2.2.2.2.2.2.2.2)).bind fun r19 => (Sum.elim (fun r20 => (some (Sum.inl r20))) (fun r21 => (some (Sum.inr ()))) r19))))))
theorem atlasref19_may.q6.at : codeAt (bodyOf Try.f43) [true, true, true, true, true, true, true, false, false, true, true] = some (codeOf (bodyOf Try.f43) [true, true, true, true, true, true, true, false, false, true, true]) := by kernel_rfl
theorem atlasref19_may.q6.goes (k : Nat) (x : (Bool × (List Int) × Int × ByteArray × Int × Int × Bool × Int × Int × Int × Int × Int × Int × Int × Int × Int × Bool × Bool × Bool × Int × Int × Int × Int × Int)) : E Try.prog (gamOf [(61, atlasref19_any15.g k), (62, atlasref19_listed.g)]) (lamOf [atlasref19_may.q7.p k]) (codeOf (bodyOf Try.f43) [true, true, true, true, true, true, true, false, false, true, true]) [true, true, true, true, true, true, true, false, false, true, true] (atlasref19_may.q6.h.st x) (fun ex t => atlasref19_may.q6.t.d _ ex t some) = atlasref19_may.q6.l k x := by
  kernel_rfl
theorem atlasref19_may.q6.ok_ (k : Nat) : PieceOk Try.prog (bodyOf Try.f43) ⟨[true, true, true, true, true, true, true, false, false, true, true], _, _, atlasref19_may.q6.h, atlasref19_may.q6.t, atlasref19_may.q6.l k⟩ :=
  piece_code (gamOf_cons (atlasref19_any15.ok k) atlasref19_any15.callable (gamOf_cons (atlasref19_listed.ok) atlasref19_listed.callable (gamOf_nil _))) (lamOf_cons (atlasref19_may.q7.ok k) (lamOf_nil _ _)) mixed atlasref19_may.q6.at atlasref19_may.q6.np (atlasref19_may.q6.goes k)
def atlasref19_may.q6.p (k : Nat) : Piece := ⟨[true, true, true, true, true, true, true, false, false, true, true], _, _, atlasref19_may.q6.h, atlasref19_may.q6.t, atlasref19_may.q6.l k⟩
theorem atlasref19_may.q6.ok (k : Nat) : PieceOk Try.prog (bodyOf Try.f43) (atlasref19_may.q6.p k) := atlasref19_may.q6.ok_ k
def atlasref19_may.q4.h : Head (Bool × (List Int) × Int × ByteArray × Int × Int × Bool × Int × Int × Int × Int × Int × Int × Int × Int × Int × Bool × Bool × Bool × Int × Int × Int × Int × Int) where
  k γ s F := (sizedN 193 s).bind fun _ => (ptrN 0 (gt s.tm 2)).bind fun b2 => (ptrN 0 (gt s.tm 3)).bind fun b4 => (boolO (gt s.tm 103)).bind fun v6 => (rowN 43 3 s.hp b2).bind fun l8 => (vtO (.int .i64) (gt l8 0)).bind fun v10 => (intO .i64 (gt l8 1)).bind fun v12 => (strO (gt l8 2)).bind fun v14 => (rowN 27 20 s.hp b4).bind fun l16 => (intO .i64 (gt l16 0)).bind fun v18 => (intO .i64 (gt l16 1)).bind fun v20 => (boolO (gt l16 2)).bind fun v22 => (intO .i64 (gt l16 3)).bind fun v24 => (intO .i64 (gt l16 4)).bind fun v26 => (intO .i64 (gt l16 5)).bind fun v28 => (intO .i64 (gt l16 6)).bind fun v30 => (intO .i64 (gt l16 7)).bind fun v32 => (intO .i64 (gt l16 8)).bind fun v34 => (intO .u32 (gt l16 9)).bind fun v36 => (intO .i64 (gt l16 10)).bind fun v38 => (intO .i64 (gt l16 11)).bind fun v40 => (boolO (gt l16 12)).bind fun v42 => (boolO (gt l16 13)).bind fun v44 => (boolO (gt l16 14)).bind fun v46 => (intO .u16 (gt l16 15)).bind fun v48 => (intO .i64 (gt l16 16)).bind fun v50 => (intO .i64 (gt l16 17)).bind fun v52 => (intO .i64 (gt l16 18)).bind fun v54 => (intO .i64 (gt l16 19)).bind fun v56 => (distO [some b2, some b4]).bind fun _ => F (v6, v10, v12, v14, v18, v20, v22, v24, v26, v28, v30, v32, v34, v36, v38, v40, v42, v44, v46, v48, v50, v52, v54, v56)
  st x := ⟨sparseT [(2, (.ptr 0 0)), (3, (.ptr 1 0)), (103, (.val (.bool x.1)))] 193 0, [.row [(.vt (.int .i64) x.2.1), (.val (.int .i64 x.2.2.1)), (.val (.string x.2.2.2.1))] 43 true, .row [(.val (.int .i64 x.2.2.2.2.1)), (.val (.int .i64 x.2.2.2.2.2.1)), (.val (.bool x.2.2.2.2.2.2.1)), (.val (.int .i64 x.2.2.2.2.2.2.2.1)), (.val (.int .i64 x.2.2.2.2.2.2.2.2.1)), (.val (.int .i64 x.2.2.2.2.2.2.2.2.2.1)), (.val (.int .i64 x.2.2.2.2.2.2.2.2.2.2.1)), (.val (.int .i64 x.2.2.2.2.2.2.2.2.2.2.2.1)), (.val (.int .i64 x.2.2.2.2.2.2.2.2.2.2.2.2.1)), (.val (.int .u32 x.2.2.2.2.2.2.2.2.2.2.2.2.2.1)), (.val (.int .i64 x.2.2.2.2.2.2.2.2.2.2.2.2.2.2.1)), (.val (.int .i64 x.2.2.2.2.2.2.2.2.2.2.2.2.2.2.2.1)), (.val (.bool x.2.2.2.2.2.2.2.2.2.2.2.2.2.2.2.2.1)), (.val (.bool x.2.2.2.2.2.2.2.2.2.2.2.2.2.2.2.2.2.1)), (.val (.bool x.2.2.2.2.2.2.2.2.2.2.2.2.2.2.2.2.2.2.1)), (.val (.int .u16 x.2.2.2.2.2.2.2.2.2.2.2.2.2.2.2.2.2.2.2.1)), (.val (.int .i64 x.2.2.2.2.2.2.2.2.2.2.2.2.2.2.2.2.2.2.2.2.1)), (.val (.int .i64 x.2.2.2.2.2.2.2.2.2.2.2.2.2.2.2.2.2.2.2.2.2.1)), (.val (.int .i64 x.2.2.2.2.2.2.2.2.2.2.2.2.2.2.2.2.2.2.2.2.2.2.1)), (.val (.int .i64 x.2.2.2.2.2.2.2.2.2.2.2.2.2.2.2.2.2.2.2.2.2.2.2))] 27 true]⟩
  ok γ s F r h := by
    obtain ⟨_, hz, h⟩ := Option.bind_eq_some_iff.1 h
    obtain ⟨b2, h1, h⟩ := Option.bind_eq_some_iff.1 h
    obtain ⟨b4, h3, h⟩ := Option.bind_eq_some_iff.1 h
    obtain ⟨v6, h5, h⟩ := Option.bind_eq_some_iff.1 h
    obtain ⟨l8, h7, h⟩ := Option.bind_eq_some_iff.1 h
    obtain ⟨v10, h9, h⟩ := Option.bind_eq_some_iff.1 h
    obtain ⟨v12, h11, h⟩ := Option.bind_eq_some_iff.1 h
    obtain ⟨v14, h13, h⟩ := Option.bind_eq_some_iff.1 h
    obtain ⟨l16, h15, h⟩ := Option.bind_eq_some_iff.1 h
    obtain ⟨v18, h17, h⟩ := Option.bind_eq_some_iff.1 h
    obtain ⟨v20, h19, h⟩ := Option.bind_eq_some_iff.1 h
    obtain ⟨v22, h21, h⟩ := Option.bind_eq_some_iff.1 h
    obtain ⟨v24, h23, h⟩ := Option.bind_eq_some_iff.1 h
    obtain ⟨v26, h25, h⟩ := Option.bind_eq_some_iff.1 h
    obtain ⟨v28, h27, h⟩ := Option.bind_eq_some_iff.1 h
    obtain ⟨v30, h29, h⟩ := Option.bind_eq_some_iff.1 h
    obtain ⟨v32, h31, h⟩ := Option.bind_eq_some_iff.1 h
    obtain ⟨v34, h33, h⟩ := Option.bind_eq_some_iff.1 h
    obtain ⟨v36, h35, h⟩ := Option.bind_eq_some_iff.1 h
    obtain ⟨v38, h37, h⟩ := Option.bind_eq_some_iff.1 h
    obtain ⟨v40, h39, h⟩ := Option.bind_eq_some_iff.1 h
    obtain ⟨v42, h41, h⟩ := Option.bind_eq_some_iff.1 h
    obtain ⟨v44, h43, h⟩ := Option.bind_eq_some_iff.1 h
    obtain ⟨v46, h45, h⟩ := Option.bind_eq_some_iff.1 h
    obtain ⟨v48, h47, h⟩ := Option.bind_eq_some_iff.1 h
    obtain ⟨v50, h49, h⟩ := Option.bind_eq_some_iff.1 h
    obtain ⟨v52, h51, h⟩ := Option.bind_eq_some_iff.1 h
    obtain ⟨v54, h53, h⟩ := Option.bind_eq_some_iff.1 h
    obtain ⟨v56, h55, h⟩ := Option.bind_eq_some_iff.1 h
    obtain ⟨_, h57, h⟩ := Option.bind_eq_some_iff.1 h
    exact ⟨_, h, weak_ren (l := [some b2, some b4]) (sizedN_ok hz) (distO_ok h57) (LiveR.cons (RefsR.ptr (l := [some b2, some b4]) (i := 0) rfl (ptrN_eq h1)) (LiveR.cons (RefsR.ptr (l := [some b2, some b4]) (i := 1) rfl (ptrN_eq h3)) (LiveR.cons (RefsR.plain (Refs.of_eq (boolO_eq h5)) rfl) LiveR.nil))) (BlksR.cons (rowN_refs h7 rfl (GtRefsR.cons (RefsR.plain (vtO_refs h9) rfl) (GtRefsR.cons (RefsR.plain (Refs.of_eq (intO_eq h11)) rfl) (GtRefsR.cons (RefsR.plain (Refs.of_eq (strO_eq h13)) rfl) GtRefsR.nil))) rfl) (BlksR.cons (rowN_refs h15 rfl (GtRefsR.cons (RefsR.plain (Refs.of_eq (intO_eq h17)) rfl) (GtRefsR.cons (RefsR.plain (Refs.of_eq (intO_eq h19)) rfl) (GtRefsR.cons (RefsR.plain (Refs.of_eq (boolO_eq h21)) rfl) (GtRefsR.cons (RefsR.plain (Refs.of_eq (intO_eq h23)) rfl) (GtRefsR.cons (RefsR.plain (Refs.of_eq (intO_eq h25)) rfl) (GtRefsR.cons (RefsR.plain (Refs.of_eq (intO_eq h27)) rfl) (GtRefsR.cons (RefsR.plain (Refs.of_eq (intO_eq h29)) rfl) (GtRefsR.cons (RefsR.plain (Refs.of_eq (intO_eq h31)) rfl) (GtRefsR.cons (RefsR.plain (Refs.of_eq (intO_eq h33)) rfl) (GtRefsR.cons (RefsR.plain (Refs.of_eq (intO_eq h35)) rfl) (GtRefsR.cons (RefsR.plain (Refs.of_eq (intO_eq h37)) rfl) (GtRefsR.cons (RefsR.plain (Refs.of_eq (intO_eq h39)) rfl) (GtRefsR.cons (RefsR.plain (Refs.of_eq (boolO_eq h41)) rfl) (GtRefsR.cons (RefsR.plain (Refs.of_eq (boolO_eq h43)) rfl) (GtRefsR.cons (RefsR.plain (Refs.of_eq (boolO_eq h45)) rfl) (GtRefsR.cons (RefsR.plain (Refs.of_eq (intO_eq h47)) rfl) (GtRefsR.cons (RefsR.plain (Refs.of_eq (intO_eq h49)) rfl) (GtRefsR.cons (RefsR.plain (Refs.of_eq (intO_eq h51)) rfl) (GtRefsR.cons (RefsR.plain (Refs.of_eq (intO_eq h53)) rfl) (GtRefsR.cons (RefsR.plain (Refs.of_eq (intO_eq h55)) rfl) GtRefsR.nil)))))))))))))))))))) rfl) BlksR.nil))⟩

def atlasref19_may.q4.x0 : Head (Bool) where
  k γ s F := (sizedN 193 s).bind fun _ => (boolO (gt s.tm 4)).bind fun v2 => (distO []).bind fun _ => F (v2)
  st x := ⟨sparseT [(4, (.val (.bool x)))] 193 0, []⟩
  ok γ s F r h := by
    obtain ⟨_, hz, h⟩ := Option.bind_eq_some_iff.1 h
    obtain ⟨v2, h1, h⟩ := Option.bind_eq_some_iff.1 h
    obtain ⟨_, h3, h⟩ := Option.bind_eq_some_iff.1 h
    exact ⟨_, h, weak_ren (l := []) (sizedN_ok hz) (distO_ok h3) (LiveR.cons (RefsR.plain (Refs.of_eq (boolO_eq h1)) rfl) LiveR.nil) BlksR.nil⟩

def atlasref19_may.q4.x1 : Head (Unit) where
  k γ s F := (sizedN 193 s).bind fun _ => (distO []).bind fun _ => F ()
  st x := ⟨sparseT [] 193 0, []⟩
  ok γ s F r h := by
    obtain ⟨_, hz, h⟩ := Option.bind_eq_some_iff.1 h
    obtain ⟨_, h1, h⟩ := Option.bind_eq_some_iff.1 h
    exact ⟨_, h, weak_ren (l := []) (sizedN_ok hz) (distO_ok h1) LiveR.nil BlksR.nil⟩

def atlasref19_may.q4.t : Tail ((Bool) ⊕ (Unit)) := Tail.or .ret atlasref19_may.q4.x0 (Tail.one .normal atlasref19_may.q4.x1)
theorem atlasref19_may.q4.np (y : ((Bool) ⊕ (Unit))) (v : AV) : (atlasref19_may.q4.t.out y).1 ≠ .panic v := fun h => by rcases y with _ | y <;> first | (cases h; done) | (cases h)
def atlasref19_may.q4.l (k : Nat) (x : (Bool × (List Int) × Int × ByteArray × Int × Int × Bool × Int × Int × Int × Int × Int × Int × Int × Int × Int × Bool × Bool × Bool × Int × Int × Int × Int × Int)) : Option ((Bool) ⊕ (Unit)) := (bif x.1 then (bif (x.2.2.2.2.2.2.2.2.2.2.2.2.2.2.2.2.2.2.2.1 == 0) then (some (Sum.inl false)) else (bif (x.2.2.2.2.2.2.2.2.2.1 == 15) then (some (Sum.inl false)) else (bif x.2.2.2.2.2.2.2.2.2.2.2.2.2.2.2.2.2.2.1 then ((atlasref19_listed.f x.2.2.2.2.2.2.2.2.2.2.2.2.2.2.2.2.2.2.2.1 x.2.2.2.2.2.2.2.2.2.1).bind fun r9 => (bif r9 then (some (Sum.inl false)) else ((atlasref19_may.q5.l k (x.2.2.2.2.1, x.2.2.2.2.2.1, x.2.2.2.2.2.2.1, x.2.2.2.2.2.2.2.1, x.2.2.2.2.2.2.2.2.1, x.2.2.2.2.2.2.2.2.2.1, x.2.2.2.2.2.2.2.2.2.2.1, x.2.2.2.2.2.2.2.2.2.2.2.1, x.2.2.2.2.2.2.2.2.2.2.2.2.1, x.2.2.2.2.2.2.2.2.2.2.2.2.2.1, x.2.2.2.2.2.2.2.2.2.2.2.2.2.2.1, x.2.2.2.2.2.2.2.2.2.2.2.2.2.2.2.1, x.2.2.2.2.2.2.2.2.2.2.2.2.2.2.2.2.1, x.2.2.2.2.2.2.2.2.2.2.2.2.2.2.2.2.2.1, x.2.2.2.2.2.2.2.2.2.2.2.2.2.2.2.2.2.2.1, x.2.2.2.2.2.2.2.2.2.2.2.2.2.2.2.2.2.2.2.1, x.2.2.2.2.2.2.2.2.2.2.2.2.2.2.2.2.2.2.2.2.1, x.2.2.2.2.2.2.2.2.2.2.2.2.2.2.2.2.2.2.2.2.2.1, x.2.2.2.2.2.2.2.2.2.2.2.2.2.2.2.2.2.2.2.2.2.2.1, x.2.2.2.2.2.2.2.2.2.2.2.2.2.2.2.2.2.2.2.2.2.2.2)).bind fun r11 => (some (Sum.inl r11))))) else ((atlasref19_may.q5.l k (x.2.2.2.2.1, x.2.2.2.2.2.1, x.2.2.2.2.2.2.1, x.2.2.2.2.2.2.2.1, x.2.2.2.2.2.2.2.2.1, x.2.2.2.2.2.2.2.2.2.1, x.2.2.2.2.2.2.2.2.2.2.1, x.2.2.2.2.2.2.2.2.2.2.2.1, x.2.2.2.2.2.2.2.2.2.2.2.2.1, x.2.2.2.2.2.2.2.2.2.2.2.2.2.1, x.2.2.2.2.2.2.2.2.2.2.2.2.2.2.1, x.2.2.2.2.2.2.2.2.2.2.2.2.2.2.2.1, x.2.2.2.2.2.2.2.2.2.2.2.2.2.2.2.2.1, x.2.2.2.2.2.2.2.2.2.2.2.2.2.2.2.2.2.1, x.2.2.2.2.2.2.2.2.2.2.2.2.2.2.2.2.2.2.1, x.2.2.2.2.2.2.2.2.2.2.2.2.2.2.2.2.2.2.2.1, x.2.2.2.2.2.2.2.2.2.2.2.2.2.2.2.2.2.2.2.2.1, x.2.2.2.2.2.2.2.2.2.2.2.2.2.2.2.2.2.2.2.2.2.1, x.2.2.2.2.2.2.2.2.2.2.2.2.2.2.2.2.2.2.2.2.2.2.1, x.2.2.2.2.2.2.2.2.2.2.2.2.2.2.2.2.2.2.2.2.2.2.2)).bind fun r12 => (some (Sum.inl r12)))))) else (bif (x.2.2.2.2.2.1 == 43) then ((atlasref19_may.q6.l k (true, x.2.1, x.2.2.1, x.2.2.2.1, x.2.2.2.2.1, x.2.2.2.2.2.1, x.2.2.2.2.2.2.1, x.2.2.2.2.2.2.2.1, x.2.2.2.2.2.2.2.2.1, x.2.2.2.2.2.2.2.2.2.1, x.2.2.2.2.2.2.2.2.2.2.1, x.2.2.2.2.2.2.2.2.2.2.2.1, x.2.2.2.2.2.2.2.2.2.2.2.2.1, x.2.2.2.2.2.2.2.2.2.2.2.2.2.1, x.2.2.2.2.2.2.2.2.2.2.2.2.2.2.1, x.2.2.2.2.2.2.2.2.2.2.2.2.2.2.2.1, x.2.2.2.2.2.2.2.2.2.2.2.2.2.2.2.2.1, x.2.2.2.2.2.2.2.2.2.2.2.2.2.2.2.2.2.1, x.2.2.2.2.2.2.2.2.2.2.2.2.2.2.2.2.2.2.1, x.2.2.2.2.2.2.2.2.2.2.2.2.2.2.2.2.2.2.2.1, x.2.2.2.2.2.2.2.2.2.2.2.2.2.2.2.2.2.2.2.2.1, x.2.2.2.2.2.2.2.2.2.2.2.2.2.2.2.2.2.2.2.2.2.1, x.2.2.2.2.2.2.2.2.2.2.2.2.2.2.2.2.2.2.2.2.2.2.1, x.2.2.2.2.2.2.2.2.2.2.2.2.2.2.2.2.2.2.2.2.2.2.2)).bind fun r22 => (Sum.elim (fun r23 => (some (Sum.inl r23))) (fun r24 => (some (Sum.inr ()))) r22)) else ((atlasref19_may.q6.l k ((x.2.2.2.2.2.1 == 44), x.2.1, x.2.2.1, x.2.2.2.1, x.2.2.2.2.1, x.2.2.2.2.2.1, x.2.2.2.2.2.2.1, x.2.2.2.2.2.2.2.1, x.2.2.2.2.2.2.2.2.1, x.2.2.2.2.2.2.2.2.2.1, x.2.2.2.2.2.2.2.2.2.2.1, x.2.2.2.2.2.2.2.2.2.2.2.1, x.2.2.2.2.2.2.2.2.2.2.2.2.1, x.2.2.2.2.2.2.2.2.2.2.2.2.2.1, x.2.2.2.2.2.2.2.2.2.2.2.2.2.2.1, x.2.2.2.2.2.2.2.2.2.2.2.2.2.2.2.1, x.2.2.2.2.2.2.2.2.2.2.2.2.2.2.2.2.1, x.2.2.2.2.2.2.2.2.2.2.2.2.2.2.2.2.2.1, x.2.2.2.2.2.2.2.2.2.2.2.2.2.2.2.2.2.2.1, x.2.2.2.2.2.2.2.2.2.2.2.2.2.2.2.2.2.2.2.1, x.2.2.2.2.2.2.2.2.2.2.2.2.2.2.2.2.2.2.2.2.1, x.2.2.2.2.2.2.2.2.2.2.2.2.2.2.2.2.2.2.2.2.2.1, x.2.2.2.2.2.2.2.2.2.2.2.2.2.2.2.2.2.2.2.2.2.2.1, x.2.2.2.2.2.2.2.2.2.2.2.2.2.2.2.2.2.2.2.2.2.2.2)).bind fun r25 => (Sum.elim (fun r26 => (some (Sum.inl r26))) (fun r27 => (some (Sum.inr ()))) r25))))
theorem atlasref19_may.q4.at : codeAt (bodyOf Try.f43) [true, true, true, true, true, false, false, true, true] = some (codeOf (bodyOf Try.f43) [true, true, true, true, true, false, false, true, true]) := by kernel_rfl
theorem atlasref19_may.q4.goes (k : Nat) (x : (Bool × (List Int) × Int × ByteArray × Int × Int × Bool × Int × Int × Int × Int × Int × Int × Int × Int × Int × Bool × Bool × Bool × Int × Int × Int × Int × Int)) : E Try.prog (gamOf [(61, atlasref19_any15.g k), (62, atlasref19_listed.g)]) (lamOf [atlasref19_may.q5.p k, atlasref19_may.q7.p k, atlasref19_may.q6.p k]) (codeOf (bodyOf Try.f43) [true, true, true, true, true, false, false, true, true]) [true, true, true, true, true, false, false, true, true] (atlasref19_may.q4.h.st x) (fun ex t => atlasref19_may.q4.t.d _ ex t some) = atlasref19_may.q4.l k x := by
  kernel_rfl
theorem atlasref19_may.q4.ok_ (k : Nat) : PieceOk Try.prog (bodyOf Try.f43) ⟨[true, true, true, true, true, false, false, true, true], _, _, atlasref19_may.q4.h, atlasref19_may.q4.t, atlasref19_may.q4.l k⟩ :=
  piece_code (gamOf_cons (atlasref19_any15.ok k) atlasref19_any15.callable (gamOf_cons (atlasref19_listed.ok) atlasref19_listed.callable (gamOf_nil _))) (lamOf_cons (atlasref19_may.q5.ok k) (lamOf_cons (atlasref19_may.q7.ok k) (lamOf_cons (atlasref19_may.q6.ok k) (lamOf_nil _ _)))) mixed atlasref19_may.q4.at atlasref19_may.q4.np (atlasref19_may.q4.goes k)
def atlasref19_may.q4.p (k : Nat) : Piece := ⟨[true, true, true, true, true, false, false, true, true], _, _, atlasref19_may.q4.h, atlasref19_may.q4.t, atlasref19_may.q4.l k⟩
theorem atlasref19_may.q4.ok (k : Nat) : PieceOk Try.prog (bodyOf Try.f43) (atlasref19_may.q4.p k) := atlasref19_may.q4.ok_ k
def atlasref19_may.q2.h : Head (Bool × (List Int) × Int × ByteArray × Int × Int × Bool × Int × Int × Int × Int × Int × Int × Int × Int × Int × Bool × Bool × Bool × Int × Int × Int × Int × Int) where
  k γ s F := (sizedN 193 s).bind fun _ => (ptrN 0 (gt s.tm 2)).bind fun b2 => (ptrN 0 (gt s.tm 3)).bind fun b4 => (boolO (gt s.tm 48)).bind fun v6 => (rowN 43 3 s.hp b2).bind fun l8 => (vtO (.int .i64) (gt l8 0)).bind fun v10 => (intO .i64 (gt l8 1)).bind fun v12 => (strO (gt l8 2)).bind fun v14 => (rowN 27 20 s.hp b4).bind fun l16 => (intO .i64 (gt l16 0)).bind fun v18 => (intO .i64 (gt l16 1)).bind fun v20 => (boolO (gt l16 2)).bind fun v22 => (intO .i64 (gt l16 3)).bind fun v24 => (intO .i64 (gt l16 4)).bind fun v26 => (intO .i64 (gt l16 5)).bind fun v28 => (intO .i64 (gt l16 6)).bind fun v30 => (intO .i64 (gt l16 7)).bind fun v32 => (intO .i64 (gt l16 8)).bind fun v34 => (intO .u32 (gt l16 9)).bind fun v36 => (intO .i64 (gt l16 10)).bind fun v38 => (intO .i64 (gt l16 11)).bind fun v40 => (boolO (gt l16 12)).bind fun v42 => (boolO (gt l16 13)).bind fun v44 => (boolO (gt l16 14)).bind fun v46 => (intO .u16 (gt l16 15)).bind fun v48 => (intO .i64 (gt l16 16)).bind fun v50 => (intO .i64 (gt l16 17)).bind fun v52 => (intO .i64 (gt l16 18)).bind fun v54 => (intO .i64 (gt l16 19)).bind fun v56 => (distO [some b2, some b4]).bind fun _ => F (v6, v10, v12, v14, v18, v20, v22, v24, v26, v28, v30, v32, v34, v36, v38, v40, v42, v44, v46, v48, v50, v52, v54, v56)
  st x := ⟨sparseT [(2, (.ptr 0 0)), (3, (.ptr 1 0)), (48, (.val (.bool x.1)))] 193 0, [.row [(.vt (.int .i64) x.2.1), (.val (.int .i64 x.2.2.1)), (.val (.string x.2.2.2.1))] 43 true, .row [(.val (.int .i64 x.2.2.2.2.1)), (.val (.int .i64 x.2.2.2.2.2.1)), (.val (.bool x.2.2.2.2.2.2.1)), (.val (.int .i64 x.2.2.2.2.2.2.2.1)), (.val (.int .i64 x.2.2.2.2.2.2.2.2.1)), (.val (.int .i64 x.2.2.2.2.2.2.2.2.2.1)), (.val (.int .i64 x.2.2.2.2.2.2.2.2.2.2.1)), (.val (.int .i64 x.2.2.2.2.2.2.2.2.2.2.2.1)), (.val (.int .i64 x.2.2.2.2.2.2.2.2.2.2.2.2.1)), (.val (.int .u32 x.2.2.2.2.2.2.2.2.2.2.2.2.2.1)), (.val (.int .i64 x.2.2.2.2.2.2.2.2.2.2.2.2.2.2.1)), (.val (.int .i64 x.2.2.2.2.2.2.2.2.2.2.2.2.2.2.2.1)), (.val (.bool x.2.2.2.2.2.2.2.2.2.2.2.2.2.2.2.2.1)), (.val (.bool x.2.2.2.2.2.2.2.2.2.2.2.2.2.2.2.2.2.1)), (.val (.bool x.2.2.2.2.2.2.2.2.2.2.2.2.2.2.2.2.2.2.1)), (.val (.int .u16 x.2.2.2.2.2.2.2.2.2.2.2.2.2.2.2.2.2.2.2.1)), (.val (.int .i64 x.2.2.2.2.2.2.2.2.2.2.2.2.2.2.2.2.2.2.2.2.1)), (.val (.int .i64 x.2.2.2.2.2.2.2.2.2.2.2.2.2.2.2.2.2.2.2.2.2.1)), (.val (.int .i64 x.2.2.2.2.2.2.2.2.2.2.2.2.2.2.2.2.2.2.2.2.2.2.1)), (.val (.int .i64 x.2.2.2.2.2.2.2.2.2.2.2.2.2.2.2.2.2.2.2.2.2.2.2))] 27 true]⟩
  ok γ s F r h := by
    obtain ⟨_, hz, h⟩ := Option.bind_eq_some_iff.1 h
    obtain ⟨b2, h1, h⟩ := Option.bind_eq_some_iff.1 h
    obtain ⟨b4, h3, h⟩ := Option.bind_eq_some_iff.1 h
    obtain ⟨v6, h5, h⟩ := Option.bind_eq_some_iff.1 h
    obtain ⟨l8, h7, h⟩ := Option.bind_eq_some_iff.1 h
    obtain ⟨v10, h9, h⟩ := Option.bind_eq_some_iff.1 h
    obtain ⟨v12, h11, h⟩ := Option.bind_eq_some_iff.1 h
    obtain ⟨v14, h13, h⟩ := Option.bind_eq_some_iff.1 h
    obtain ⟨l16, h15, h⟩ := Option.bind_eq_some_iff.1 h
    obtain ⟨v18, h17, h⟩ := Option.bind_eq_some_iff.1 h
    obtain ⟨v20, h19, h⟩ := Option.bind_eq_some_iff.1 h
    obtain ⟨v22, h21, h⟩ := Option.bind_eq_some_iff.1 h
    obtain ⟨v24, h23, h⟩ := Option.bind_eq_some_iff.1 h
    obtain ⟨v26, h25, h⟩ := Option.bind_eq_some_iff.1 h
    obtain ⟨v28, h27, h⟩ := Option.bind_eq_some_iff.1 h
    obtain ⟨v30, h29, h⟩ := Option.bind_eq_some_iff.1 h
    obtain ⟨v32, h31, h⟩ := Option.bind_eq_some_iff.1 h
    obtain ⟨v34, h33, h⟩ := Option.bind_eq_some_iff.1 h
    obtain ⟨v36, h35, h⟩ := Option.bind_eq_some_iff.1 h
    obtain ⟨v38, h37, h⟩ := Option.bind_eq_some_iff.1 h
    obtain ⟨v40, h39, h⟩ := Option.bind_eq_some_iff.1 h
    obtain ⟨v42, h41, h⟩ := Option.bind_eq_some_iff.1 h
    obtain ⟨v44, h43, h⟩ := Option.bind_eq_some_iff.1 h
    obtain ⟨v46, h45, h⟩ := Option.bind_eq_some_iff.1 h
    obtain ⟨v48, h47, h⟩ := Option.bind_eq_some_iff.1 h
    obtain ⟨v50, h49, h⟩ := Option.bind_eq_some_iff.1 h
    obtain ⟨v52, h51, h⟩ := Option.bind_eq_some_iff.1 h
    obtain ⟨v54, h53, h⟩ := Option.bind_eq_some_iff.1 h
    obtain ⟨v56, h55, h⟩ := Option.bind_eq_some_iff.1 h
    obtain ⟨_, h57, h⟩ := Option.bind_eq_some_iff.1 h
    exact ⟨_, h, weak_ren (l := [some b2, some b4]) (sizedN_ok hz) (distO_ok h57) (LiveR.cons (RefsR.ptr (l := [some b2, some b4]) (i := 0) rfl (ptrN_eq h1)) (LiveR.cons (RefsR.ptr (l := [some b2, some b4]) (i := 1) rfl (ptrN_eq h3)) (LiveR.cons (RefsR.plain (Refs.of_eq (boolO_eq h5)) rfl) LiveR.nil))) (BlksR.cons (rowN_refs h7 rfl (GtRefsR.cons (RefsR.plain (vtO_refs h9) rfl) (GtRefsR.cons (RefsR.plain (Refs.of_eq (intO_eq h11)) rfl) (GtRefsR.cons (RefsR.plain (Refs.of_eq (strO_eq h13)) rfl) GtRefsR.nil))) rfl) (BlksR.cons (rowN_refs h15 rfl (GtRefsR.cons (RefsR.plain (Refs.of_eq (intO_eq h17)) rfl) (GtRefsR.cons (RefsR.plain (Refs.of_eq (intO_eq h19)) rfl) (GtRefsR.cons (RefsR.plain (Refs.of_eq (boolO_eq h21)) rfl) (GtRefsR.cons (RefsR.plain (Refs.of_eq (intO_eq h23)) rfl) (GtRefsR.cons (RefsR.plain (Refs.of_eq (intO_eq h25)) rfl) (GtRefsR.cons (RefsR.plain (Refs.of_eq (intO_eq h27)) rfl) (GtRefsR.cons (RefsR.plain (Refs.of_eq (intO_eq h29)) rfl) (GtRefsR.cons (RefsR.plain (Refs.of_eq (intO_eq h31)) rfl) (GtRefsR.cons (RefsR.plain (Refs.of_eq (intO_eq h33)) rfl) (GtRefsR.cons (RefsR.plain (Refs.of_eq (intO_eq h35)) rfl) (GtRefsR.cons (RefsR.plain (Refs.of_eq (intO_eq h37)) rfl) (GtRefsR.cons (RefsR.plain (Refs.of_eq (intO_eq h39)) rfl) (GtRefsR.cons (RefsR.plain (Refs.of_eq (boolO_eq h41)) rfl) (GtRefsR.cons (RefsR.plain (Refs.of_eq (boolO_eq h43)) rfl) (GtRefsR.cons (RefsR.plain (Refs.of_eq (boolO_eq h45)) rfl) (GtRefsR.cons (RefsR.plain (Refs.of_eq (intO_eq h47)) rfl) (GtRefsR.cons (RefsR.plain (Refs.of_eq (intO_eq h49)) rfl) (GtRefsR.cons (RefsR.plain (Refs.of_eq (intO_eq h51)) rfl) (GtRefsR.cons (RefsR.plain (Refs.of_eq (intO_eq h53)) rfl) (GtRefsR.cons (RefsR.plain (Refs.of_eq (intO_eq h55)) rfl) GtRefsR.nil)))))))))))))))))))) rfl) BlksR.nil))⟩

def atlasref19_may.q2.x0 : Head (Bool) where
  k γ s F := (sizedN 193 s).bind fun _ => (boolO (gt s.tm 4)).bind fun v2 => (distO []).bind fun _ => F (v2)
  st x := ⟨sparseT [(4, (.val (.bool x)))] 193 0, []⟩
  ok γ s F r h := by
    obtain ⟨_, hz, h⟩ := Option.bind_eq_some_iff.1 h
    obtain ⟨v2, h1, h⟩ := Option.bind_eq_some_iff.1 h
    obtain ⟨_, h3, h⟩ := Option.bind_eq_some_iff.1 h
    exact ⟨_, h, weak_ren (l := []) (sizedN_ok hz) (distO_ok h3) (LiveR.cons (RefsR.plain (Refs.of_eq (boolO_eq h1)) rfl) LiveR.nil) BlksR.nil⟩

def atlasref19_may.q2.x1 : Head (Unit) where
  k γ s F := (sizedN 193 s).bind fun _ => (distO []).bind fun _ => F ()
  st x := ⟨sparseT [] 193 0, []⟩
  ok γ s F r h := by
    obtain ⟨_, hz, h⟩ := Option.bind_eq_some_iff.1 h
    obtain ⟨_, h1, h⟩ := Option.bind_eq_some_iff.1 h
    exact ⟨_, h, weak_ren (l := []) (sizedN_ok hz) (distO_ok h1) LiveR.nil BlksR.nil⟩

def atlasref19_may.q2.t : Tail ((Bool) ⊕ (Unit)) := Tail.or .ret atlasref19_may.q2.x0 (Tail.one .normal atlasref19_may.q2.x1)
theorem atlasref19_may.q2.np (y : ((Bool) ⊕ (Unit))) (v : AV) : (atlasref19_may.q2.t.out y).1 ≠ .panic v := fun h => by rcases y with _ | y <;> first | (cases h; done) | (cases h)
def atlasref19_may.q2.l (k : Nat) (x : (Bool × (List Int) × Int × ByteArray × Int × Int × Bool × Int × Int × Int × Int × Int × Int × Int × Int × Int × Bool × Bool × Bool × Int × Int × Int × Int × Int)) : Option ((Bool) ⊕ (Unit)) := (bif x.1 then (bif x.2.2.2.2.2.2.2.2.2.2.2.2.2.2.2.2.2.2.1 then (bif (!x.2.2.2.2.2.2.2.2.2.2.2.2.2.2.2.2.1) then (some (Sum.inl false)) else (bif x.2.2.2.2.2.2.2.2.2.2.2.2.2.2.2.2.2.2.1 then (bif (x.2.2.2.2.2.2.2.2.2.1 == 15) then (some (Sum.inl false)) else (bif (x.2.2.2.2.2.2.2.2.2.1 == x.2.2.2.2.2.2.2.2.1) then (some (Sum.inl false)) else ((atlasref19_may.q3.l k (x.2.1, x.2.2.1, x.2.2.2.1, x.2.2.2.2.1, x.2.2.2.2.2.1, x.2.2.2.2.2.2.1, x.2.2.2.2.2.2.2.1, x.2.2.2.2.2.2.2.2.1, x.2.2.2.2.2.2.2.2.2.1, x.2.2.2.2.2.2.2.2.2.2.1, x.2.2.2.2.2.2.2.2.2.2.2.1, x.2.2.2.2.2.2.2.2.2.2.2.2.1, x.2.2.2.2.2.2.2.2.2.2.2.2.2.1, x.2.2.2.2.2.2.2.2.2.2.2.2.2.2.1, x.2.2.2.2.2.2.2.2.2.2.2.2.2.2.2.1, x.2.2.2.2.2.2.2.2.2.2.2.2.2.2.2.2.1, x.2.2.2.2.2.2.2.2.2.2.2.2.2.2.2.2.2.1, x.2.2.2.2.2.2.2.2.2.2.2.2.2.2.2.2.2.2.1, x.2.2.2.2.2.2.2.2.2.2.2.2.2.2.2.2.2.2.2.1, x.2.2.2.2.2.2.2.2.2.2.2.2.2.2.2.2.2.2.2.2.1, x.2.2.2.2.2.2.2.2.2.2.2.2.2.2.2.2.2.2.2.2.2.1, x.2.2.2.2.2.2.2.2.2.2.2.2.2.2.2.2.2.2.2.2.2.2.1, x.2.2.2.2.2.2.2.2.2.2.2.2.2.2.2.2.2.2.2.2.2.2.2)).bind fun r3 => (some (Sum.inl r3))))) else (bif (!x.2.2.2.2.2.2.2.2.2.2.2.2.2.2.2.2.1) then (bif (x.2.2.2.2.2.2.2.2.2.1 == 15) then (some (Sum.inl false)) else (bif (x.2.2.2.2.2.2.2.2.2.1 == x.2.2.2.2.2.2.2.2.1) then (some (Sum.inl false)) else ((atlasref19_may.q3.l k (x.2.1, x.2.2.1, x.2.2.2.1, x.2.2.2.2.1, x.2.2.2.2.2.1, x.2.2.2.2.2.2.1, x.2.2.2.2.2.2.2.1, x.2.2.2.2.2.2.2.2.1, x.2.2.2.2.2.2.2.2.2.1, x.2.2.2.2.2.2.2.2.2.2.1, x.2.2.2.2.2.2.2.2.2.2.2.1, x.2.2.2.2.2.2.2.2.2.2.2.2.1, x.2.2.2.2.2.2.2.2.2.2.2.2.2.1, x.2.2.2.2.2.2.2.2.2.2.2.2.2.2.1, x.2.2.2.2.2.2.2.2.2.2.2.2.2.2.2.1, x.2.2.2.2.2.2.2.2.2.2.2.2.2.2.2.2.1, x.2.2.2.2.2.2.2.2.2.2.2.2.2.2.2.2.2.1, x.2.2.2.2.2.2.2.2.2.2.2.2.2.2.2.2.2.2.1, x.2.2.2.2.2.2.2.2.2.2.2.2.2.2.2.2.2.2.2.1, x.2.2.2.2.2.2.2.2.2.2.2.2.2.2.2.2.2.2.2.2.1, x.2.2.2.2.2.2.2.2.2.2.2.2.2.2.2.2.2.2.2.2.2.1, x.2.2.2.2.2.2.2.2.2.2.2.2.2.2.2.2.2.2.2.2.2.2.1, x.2.2.2.2.2.2.2.2.2.2.2.2.2.2.2.2.2.2.2.2.2.2.2)).bind fun r4 => (some (Sum.inl r4))))) else ((atlasref19_may.q3.l k (x.2.1, x.2.2.1, x.2.2.2.1, x.2.2.2.2.1, x.2.2.2.2.2.1, x.2.2.2.2.2.2.1, x.2.2.2.2.2.2.2.1, x.2.2.2.2.2.2.2.2.1, x.2.2.2.2.2.2.2.2.2.1, x.2.2.2.2.2.2.2.2.2.2.1, x.2.2.2.2.2.2.2.2.2.2.2.1, x.2.2.2.2.2.2.2.2.2.2.2.2.1, x.2.2.2.2.2.2.2.2.2.2.2.2.2.1, x.2.2.2.2.2.2.2.2.2.2.2.2.2.2.1, x.2.2.2.2.2.2.2.2.2.2.2.2.2.2.2.1, x.2.2.2.2.2.2.2.2.2.2.2.2.2.2.2.2.1, x.2.2.2.2.2.2.2.2.2.2.2.2.2.2.2.2.2.1, x.2.2.2.2.2.2.2.2.2.2.2.2.2.2.2.2.2.2.1, x.2.2.2.2.2.2.2.2.2.2.2.2.2.2.2.2.2.2.2.1, x.2.2.2.2.2.2.2.2.2.2.2.2.2.2.2.2.2.2.2.2.1, x.2.2.2.2.2.2.2.2.2.2.2.2.2.2.2.2.2.2.2.2.2.1, x.2.2.2.2.2.2.2.2.2.2.2.2.2.2.2.2.2.2.2.2.2.2.1, x.2.2.2.2.2.2.2.2.2.2.2.2.2.2.2.2.2.2.2.2.2.2.2)).bind fun r5 => (some (Sum.inl r5)))))) else (bif x.2.2.2.2.2.2.2.2.2.2.2.2.2.2.2.2.2.2.1 then (bif (x.2.2.2.2.2.2.2.2.2.1 == 15) then (some (Sum.inl false)) else (bif (x.2.2.2.2.2.2.2.2.2.1 == x.2.2.2.2.2.2.2.2.1) then (some (Sum.inl false)) else ((atlasref19_may.q3.l k (x.2.1, x.2.2.1, x.2.2.2.1, x.2.2.2.2.1, x.2.2.2.2.2.1, x.2.2.2.2.2.2.1, x.2.2.2.2.2.2.2.1, x.2.2.2.2.2.2.2.2.1, x.2.2.2.2.2.2.2.2.2.1, x.2.2.2.2.2.2.2.2.2.2.1, x.2.2.2.2.2.2.2.2.2.2.2.1, x.2.2.2.2.2.2.2.2.2.2.2.2.1, x.2.2.2.2.2.2.2.2.2.2.2.2.2.1, x.2.2.2.2.2.2.2.2.2.2.2.2.2.2.1, x.2.2.2.2.2.2.2.2.2.2.2.2.2.2.2.1, x.2.2.2.2.2.2.2.2.2.2.2.2.2.2.2.2.1, x.2.2.2.2.2.2.2.2.2.2.2.2.2.2.2.2.2.1, x.2.2.2.2.2.2.2.2.2.2.2.2.2.2.2.2.2.2.1, x.2.2.2.2.2.2.2.2.2.2.2.2.2.2.2.2.2.2.2.1, x.2.2.2.2.2.2.2.2.2.2.2.2.2.2.2.2.2.2.2.2.1, x.2.2.2.2.2.2.2.2.2.2.2.2.2.2.2.2.2.2.2.2.2.1, x.2.2.2.2.2.2.2.2.2.2.2.2.2.2.2.2.2.2.2.2.2.2.1, x.2.2.2.2.2.2.2.2.2.2.2.2.2.2.2.2.2.2.2.2.2.2.2)).bind fun r6 => (some (Sum.inl r6))))) else (bif (!x.2.2.2.2.2.2.2.2.2.2.2.2.2.2.2.2.1) then (bif (x.2.2.2.2.2.2.2.2.2.1 == 15) then (some (Sum.inl false)) else (bif (x.2.2.2.2.2.2.2.2.2.1 == x.2.2.2.2.2.2.2.2.1) then (some (Sum.inl false)) else ((atlasref19_may.q3.l k (x.2.1, x.2.2.1, x.2.2.2.1, x.2.2.2.2.1, x.2.2.2.2.2.1, x.2.2.2.2.2.2.1, x.2.2.2.2.2.2.2.1, x.2.2.2.2.2.2.2.2.1, x.2.2.2.2.2.2.2.2.2.1, x.2.2.2.2.2.2.2.2.2.2.1, x.2.2.2.2.2.2.2.2.2.2.2.1, x.2.2.2.2.2.2.2.2.2.2.2.2.1, x.2.2.2.2.2.2.2.2.2.2.2.2.2.1, x.2.2.2.2.2.2.2.2.2.2.2.2.2.2.1, x.2.2.2.2.2.2.2.2.2.2.2.2.2.2.2.1, x.2.2.2.2.2.2.2.2.2.2.2.2.2.2.2.2.1, x.2.2.2.2.2.2.2.2.2.2.2.2.2.2.2.2.2.1, x.2.2.2.2.2.2.2.2.2.2.2.2.2.2.2.2.2.2.1, x.2.2.2.2.2.2.2.2.2.2.2.2.2.2.2.2.2.2.2.1, x.2.2.2.2.2.2.2.2.2.2.2.2.2.2.2.2.2.2.2.2.1, x.2.2.2.2.2.2.2.2.2.2.2.2.2.2.2.2.2.2.2.2.2.1, x.2.2.2.2.2.2.2.2.2.2.2.2.2.2.2.2.2.2.2.2.2.2.1, x.2.2.2.2.2.2.2.2.2.2.2.2.2.2.2.2.2.2.2.2.2.2.2)).bind fun r7 => (some (Sum.inl r7))))) else ((atlasref19_may.q3.l k (x.2.1, x.2.2.1, x.2.2.2.1, x.2.2.2.2.1, x.2.2.2.2.2.1, x.2.2.2.2.2.2.1, x.2.2.2.2.2.2.2.1, x.2.2.2.2.2.2.2.2.1, x.2.2.2.2.2.2.2.2.2.1, x.2.2.2.2.2.2.2.2.2.2.1, x.2.2.2.2.2.2.2.2.2.2.2.1, x.2.2.2.2.2.2.2.2.2.2.2.2.1, x.2.2.2.2.2.2.2.2.2.2.2.2.2.1, x.2.2.2.2.2.2.2.2.2.2.2.2.2.2.1, x.2.2.2.2.2.2.2.2.2.2.2.2.2.2.2.1, x.2.2.2.2.2.2.2.2.2.2.2.2.2.2.2.2.1, x.2.2.2.2.2.2.2.2.2.2.2.2.2.2.2.2.2.1, x.2.2.2.2.2.2.2.2.2.2.2.2.2.2.2.2.2.2.1, x.2.2.2.2.2.2.2.2.2.2.2.2.2.2.2.2.2.2.2.1, x.2.2.2.2.2.2.2.2.2.2.2.2.2.2.2.2.2.2.2.2.1, x.2.2.2.2.2.2.2.2.2.2.2.2.2.2.2.2.2.2.2.2.2.1, x.2.2.2.2.2.2.2.2.2.2.2.2.2.2.2.2.2.2.2.2.2.2.1, x.2.2.2.2.2.2.2.2.2.2.2.2.2.2.2.2.2.2.2.2.2.2.2)).bind fun r8 => (some (Sum.inl r8)))))) else (bif (x.2.2.2.2.2.1 == 39) then ((atlasref19_may.q4.l k (true, x.2.1, x.2.2.1, x.2.2.2.1, x.2.2.2.2.1, x.2.2.2.2.2.1, x.2.2.2.2.2.2.1, x.2.2.2.2.2.2.2.1, x.2.2.2.2.2.2.2.2.1, x.2.2.2.2.2.2.2.2.2.1, x.2.2.2.2.2.2.2.2.2.2.1, x.2.2.2.2.2.2.2.2.2.2.2.1, x.2.2.2.2.2.2.2.2.2.2.2.2.1, x.2.2.2.2.2.2.2.2.2.2.2.2.2.1, x.2.2.2.2.2.2.2.2.2.2.2.2.2.2.1, x.2.2.2.2.2.2.2.2.2.2.2.2.2.2.2.1, x.2.2.2.2.2.2.2.2.2.2.2.2.2.2.2.2.1, x.2.2.2.2.2.2.2.2.2.2.2.2.2.2.2.2.2.1, x.2.2.2.2.2.2.2.2.2.2.2.2.2.2.2.2.2.2.1, x.2.2.2.2.2.2.2.2.2.2.2.2.2.2.2.2.2.2.2.1, x.2.2.2.2.2.2.2.2.2.2.2.2.2.2.2.2.2.2.2.2.1, x.2.2.2.2.2.2.2.2.2.2.2.2.2.2.2.2.2.2.2.2.2.1, x.2.2.2.2.2.2.2.2.2.2.2.2.2.2.2.2.2.2.2.2.2.2.1, x.2.2.2.2.2.2.2.2.2.2.2.2.2.2.2.2.2.2.2.2.2.2.2)).bind fun r28 => (Sum.elim (fun r29 => (some (Sum.inl r29))) (fun r30 => (some (Sum.inr ()))) r28)) else ((atlasref19_may.q4.l k ((x.2.2.2.2.2.1 == 40), x.2.1, x.2.2.1, x.2.2.2.1, x.2.2.2.2.1, x.2.2.2.2.2.1, x.2.2.2.2.2.2.1, x.2.2.2.2.2.2.2.1, x.2.2.2.2.2.2.2.2.1, x.2.2.2.2.2.2.2.2.2.1, x.2.2.2.2.2.2.2.2.2.2.1, x.2.2.2.2.2.2.2.2.2.2.2.1, x.2.2.2.2.2.2.2.2.2.2.2.2.1, x.2.2.2.2.2.2.2.2.2.2.2.2.2.1, x.2.2.2.2.2.2.2.2.2.2.2.2.2.2.1, x.2.2.2.2.2.2.2.2.2.2.2.2.2.2.2.1, x.2.2.2.2.2.2.2.2.2.2.2.2.2.2.2.2.1, x.2.2.2.2.2.2.2.2.2.2.2.2.2.2.2.2.2.1, x.2.2.2.2.2.2.2.2.2.2.2.2.2.2.2.2.2.2.1, x.2.2.2.2.2.2.2.2.2.2.2.2.2.2.2.2.2.2.2.1, x.2.2.2.2.2.2.2.2.2.2.2.2.2.2.2.2.2.2.2.2.1, x.2.2.2.2.2.2.2.2.2.2.2.2.2.2.2.2.2.2.2.2.2.1, x.2.2.2.2.2.2.2.2.2.2.2.2.2.2.2.2.2.2.2.2.2.2.1, x.2.2.2.2.2.2.2.2.2.2.2.2.2.2.2.2.2.2.2.2.2.2.2)).bind fun r31 => (Sum.elim (fun r32 => (some (Sum.inl r32))) (fun r33 => (some (Sum.inr ()))) r31))))
theorem atlasref19_may.q2.at : codeAt (bodyOf Try.f43) [true, true, true, false, false, true, true] = some (codeOf (bodyOf Try.f43) [true, true, true, false, false, true, true]) := by kernel_rfl
theorem atlasref19_may.q2.goes (k : Nat) (x : (Bool × (List Int) × Int × ByteArray × Int × Int × Bool × Int × Int × Int × Int × Int × Int × Int × Int × Int × Bool × Bool × Bool × Int × Int × Int × Int × Int)) : E Try.prog (gamOf [(61, atlasref19_any15.g k), (62, atlasref19_listed.g)]) (lamOf [atlasref19_may.q3.p k, atlasref19_may.q5.p k, atlasref19_may.q7.p k, atlasref19_may.q6.p k, atlasref19_may.q4.p k]) (codeOf (bodyOf Try.f43) [true, true, true, false, false, true, true]) [true, true, true, false, false, true, true] (atlasref19_may.q2.h.st x) (fun ex t => atlasref19_may.q2.t.d _ ex t some) = atlasref19_may.q2.l k x := by
  kernel_rfl
theorem atlasref19_may.q2.ok_ (k : Nat) : PieceOk Try.prog (bodyOf Try.f43) ⟨[true, true, true, false, false, true, true], _, _, atlasref19_may.q2.h, atlasref19_may.q2.t, atlasref19_may.q2.l k⟩ :=
  piece_code (gamOf_cons (atlasref19_any15.ok k) atlasref19_any15.callable (gamOf_cons (atlasref19_listed.ok) atlasref19_listed.callable (gamOf_nil _))) (lamOf_cons (atlasref19_may.q3.ok k) (lamOf_cons (atlasref19_may.q5.ok k) (lamOf_cons (atlasref19_may.q7.ok k) (lamOf_cons (atlasref19_may.q6.ok k) (lamOf_cons (atlasref19_may.q4.ok k) (lamOf_nil _ _)))))) mixed atlasref19_may.q2.at atlasref19_may.q2.np (atlasref19_may.q2.goes k)
def atlasref19_may.q2.p (k : Nat) : Piece := ⟨[true, true, true, false, false, true, true], _, _, atlasref19_may.q2.h, atlasref19_may.q2.t, atlasref19_may.q2.l k⟩
theorem atlasref19_may.q2.ok (k : Nat) : PieceOk Try.prog (bodyOf Try.f43) (atlasref19_may.q2.p k) := atlasref19_may.q2.ok_ k
def atlasref19_may.q1.h : Head (Bool × (List Int) × Int × ByteArray × Int × Int × Bool × Int × Int × Int × Int × Int × Int × Int × Int × Int × Bool × Bool × Bool × Int × Int × Int × Int × Int) where
  k γ s F := (sizedN 193 s).bind fun _ => (ptrN 0 (gt s.tm 2)).bind fun b2 => (ptrN 0 (gt s.tm 3)).bind fun b4 => (boolO (gt s.tm 18)).bind fun v6 => (rowN 43 3 s.hp b2).bind fun l8 => (vtO (.int .i64) (gt l8 0)).bind fun v10 => (intO .i64 (gt l8 1)).bind fun v12 => (strO (gt l8 2)).bind fun v14 => (rowN 27 20 s.hp b4).bind fun l16 => (intO .i64 (gt l16 0)).bind fun v18 => (intO .i64 (gt l16 1)).bind fun v20 => (boolO (gt l16 2)).bind fun v22 => (intO .i64 (gt l16 3)).bind fun v24 => (intO .i64 (gt l16 4)).bind fun v26 => (intO .i64 (gt l16 5)).bind fun v28 => (intO .i64 (gt l16 6)).bind fun v30 => (intO .i64 (gt l16 7)).bind fun v32 => (intO .i64 (gt l16 8)).bind fun v34 => (intO .u32 (gt l16 9)).bind fun v36 => (intO .i64 (gt l16 10)).bind fun v38 => (intO .i64 (gt l16 11)).bind fun v40 => (boolO (gt l16 12)).bind fun v42 => (boolO (gt l16 13)).bind fun v44 => (boolO (gt l16 14)).bind fun v46 => (intO .u16 (gt l16 15)).bind fun v48 => (intO .i64 (gt l16 16)).bind fun v50 => (intO .i64 (gt l16 17)).bind fun v52 => (intO .i64 (gt l16 18)).bind fun v54 => (intO .i64 (gt l16 19)).bind fun v56 => (distO [some b2, some b4]).bind fun _ => F (v6, v10, v12, v14, v18, v20, v22, v24, v26, v28, v30, v32, v34, v36, v38, v40, v42, v44, v46, v48, v50, v52, v54, v56)
  st x := ⟨sparseT [(2, (.ptr 0 0)), (3, (.ptr 1 0)), (18, (.val (.bool x.1)))] 193 0, [.row [(.vt (.int .i64) x.2.1), (.val (.int .i64 x.2.2.1)), (.val (.string x.2.2.2.1))] 43 true, .row [(.val (.int .i64 x.2.2.2.2.1)), (.val (.int .i64 x.2.2.2.2.2.1)), (.val (.bool x.2.2.2.2.2.2.1)), (.val (.int .i64 x.2.2.2.2.2.2.2.1)), (.val (.int .i64 x.2.2.2.2.2.2.2.2.1)), (.val (.int .i64 x.2.2.2.2.2.2.2.2.2.1)), (.val (.int .i64 x.2.2.2.2.2.2.2.2.2.2.1)), (.val (.int .i64 x.2.2.2.2.2.2.2.2.2.2.2.1)), (.val (.int .i64 x.2.2.2.2.2.2.2.2.2.2.2.2.1)), (.val (.int .u32 x.2.2.2.2.2.2.2.2.2.2.2.2.2.1)), (.val (.int .i64 x.2.2.2.2.2.2.2.2.2.2.2.2.2.2.1)), (.val (.int .i64 x.2.2.2.2.2.2.2.2.2.2.2.2.2.2.2.1)), (.val (.bool x.2.2.2.2.2.2.2.2.2.2.2.2.2.2.2.2.1)), (.val (.bool x.2.2.2.2.2.2.2.2.2.2.2.2.2.2.2.2.2.1)), (.val (.bool x.2.2.2.2.2.2.2.2.2.2.2.2.2.2.2.2.2.2.1)), (.val (.int .u16 x.2.2.2.2.2.2.2.2.2.2.2.2.2.2.2.2.2.2.2.1)), (.val (.int .i64 x.2.2.2.2.2.2.2.2.2.2.2.2.2.2.2.2.2.2.2.2.1)), (.val (.int .i64 x.2.2.2.2.2.2.2.2.2.2.2.2.2.2.2.2.2.2.2.2.2.1)), (.val (.int .i64 x.2.2.2.2.2.2.2.2.2.2.2.2.2.2.2.2.2.2.2.2.2.2.1)), (.val (.int .i64 x.2.2.2.2.2.2.2.2.2.2.2.2.2.2.2.2.2.2.2.2.2.2.2))] 27 true]⟩
  ok γ s F r h := by
    obtain ⟨_, hz, h⟩ := Option.bind_eq_some_iff.1 h
    obtain ⟨b2, h1, h⟩ := Option.bind_eq_some_iff.1 h
    obtain ⟨b4, h3, h⟩ := Option.bind_eq_some_iff.1 h
    obtain ⟨v6, h5, h⟩ := Option.bind_eq_some_iff.1 h
    obtain ⟨l8, h7, h⟩ := Option.bind_eq_some_iff.1 h
    obtain ⟨v10, h9, h⟩ := Option.bind_eq_some_iff.1 h
    obtain ⟨v12, h11, h⟩ := Option.bind_eq_some_iff.1 h
    obtain ⟨v14, h13, h⟩ := Option.bind_eq_some_iff.1 h
    obtain ⟨l16, h15, h⟩ := Option.bind_eq_some_iff.1 h
    obtain ⟨v18, h17, h⟩ := Option.bind_eq_some_iff.1 h
    obtain ⟨v20, h19, h⟩ := Option.bind_eq_some_iff.1 h
    obtain ⟨v22, h21, h⟩ := Option.bind_eq_some_iff.1 h
    obtain ⟨v24, h23, h⟩ := Option.bind_eq_some_iff.1 h
    obtain ⟨v26, h25, h⟩ := Option.bind_eq_some_iff.1 h
    obtain ⟨v28, h27, h⟩ := Option.bind_eq_some_iff.1 h
    obtain ⟨v30, h29, h⟩ := Option.bind_eq_some_iff.1 h
    obtain ⟨v32, h31, h⟩ := Option.bind_eq_some_iff.1 h
    obtain ⟨v34, h33, h⟩ := Option.bind_eq_some_iff.1 h
    obtain ⟨v36, h35, h⟩ := Option.bind_eq_some_iff.1 h
    obtain ⟨v38, h37, h⟩ := Option.bind_eq_some_iff.1 h
    obtain ⟨v40, h39, h⟩ := Option.bind_eq_some_iff.1 h
    obtain ⟨v42, h41, h⟩ := Option.bind_eq_some_iff.1 h
    obtain ⟨v44, h43, h⟩ := Option.bind_eq_some_iff.1 h
    obtain ⟨v46, h45, h⟩ := Option.bind_eq_some_iff.1 h
    obtain ⟨v48, h47, h⟩ := Option.bind_eq_some_iff.1 h
    obtain ⟨v50, h49, h⟩ := Option.bind_eq_some_iff.1 h
    obtain ⟨v52, h51, h⟩ := Option.bind_eq_some_iff.1 h
    obtain ⟨v54, h53, h⟩ := Option.bind_eq_some_iff.1 h
    obtain ⟨v56, h55, h⟩ := Option.bind_eq_some_iff.1 h
    obtain ⟨_, h57, h⟩ := Option.bind_eq_some_iff.1 h
    exact ⟨_, h, weak_ren (l := [some b2, some b4]) (sizedN_ok hz) (distO_ok h57) (LiveR.cons (RefsR.ptr (l := [some b2, some b4]) (i := 0) rfl (ptrN_eq h1)) (LiveR.cons (RefsR.ptr (l := [some b2, some b4]) (i := 1) rfl (ptrN_eq h3)) (LiveR.cons (RefsR.plain (Refs.of_eq (boolO_eq h5)) rfl) LiveR.nil))) (BlksR.cons (rowN_refs h7 rfl (GtRefsR.cons (RefsR.plain (vtO_refs h9) rfl) (GtRefsR.cons (RefsR.plain (Refs.of_eq (intO_eq h11)) rfl) (GtRefsR.cons (RefsR.plain (Refs.of_eq (strO_eq h13)) rfl) GtRefsR.nil))) rfl) (BlksR.cons (rowN_refs h15 rfl (GtRefsR.cons (RefsR.plain (Refs.of_eq (intO_eq h17)) rfl) (GtRefsR.cons (RefsR.plain (Refs.of_eq (intO_eq h19)) rfl) (GtRefsR.cons (RefsR.plain (Refs.of_eq (boolO_eq h21)) rfl) (GtRefsR.cons (RefsR.plain (Refs.of_eq (intO_eq h23)) rfl) (GtRefsR.cons (RefsR.plain (Refs.of_eq (intO_eq h25)) rfl) (GtRefsR.cons (RefsR.plain (Refs.of_eq (intO_eq h27)) rfl) (GtRefsR.cons (RefsR.plain (Refs.of_eq (intO_eq h29)) rfl) (GtRefsR.cons (RefsR.plain (Refs.of_eq (intO_eq h31)) rfl) (GtRefsR.cons (RefsR.plain (Refs.of_eq (intO_eq h33)) rfl) (GtRefsR.cons (RefsR.plain (Refs.of_eq (intO_eq h35)) rfl) (GtRefsR.cons (RefsR.plain (Refs.of_eq (intO_eq h37)) rfl) (GtRefsR.cons (RefsR.plain (Refs.of_eq (intO_eq h39)) rfl) (GtRefsR.cons (RefsR.plain (Refs.of_eq (boolO_eq h41)) rfl) (GtRefsR.cons (RefsR.plain (Refs.of_eq (boolO_eq h43)) rfl) (GtRefsR.cons (RefsR.plain (Refs.of_eq (boolO_eq h45)) rfl) (GtRefsR.cons (RefsR.plain (Refs.of_eq (intO_eq h47)) rfl) (GtRefsR.cons (RefsR.plain (Refs.of_eq (intO_eq h49)) rfl) (GtRefsR.cons (RefsR.plain (Refs.of_eq (intO_eq h51)) rfl) (GtRefsR.cons (RefsR.plain (Refs.of_eq (intO_eq h53)) rfl) (GtRefsR.cons (RefsR.plain (Refs.of_eq (intO_eq h55)) rfl) GtRefsR.nil)))))))))))))))))))) rfl) BlksR.nil))⟩

def atlasref19_may.q1.x0 : Head (Bool) where
  k γ s F := (sizedN 193 s).bind fun _ => (boolO (gt s.tm 4)).bind fun v2 => (distO []).bind fun _ => F (v2)
  st x := ⟨sparseT [(4, (.val (.bool x)))] 193 0, []⟩
  ok γ s F r h := by
    obtain ⟨_, hz, h⟩ := Option.bind_eq_some_iff.1 h
    obtain ⟨v2, h1, h⟩ := Option.bind_eq_some_iff.1 h
    obtain ⟨_, h3, h⟩ := Option.bind_eq_some_iff.1 h
    exact ⟨_, h, weak_ren (l := []) (sizedN_ok hz) (distO_ok h3) (LiveR.cons (RefsR.plain (Refs.of_eq (boolO_eq h1)) rfl) LiveR.nil) BlksR.nil⟩

def atlasref19_may.q1.x1 : Head (Unit) where
  k γ s F := (sizedN 193 s).bind fun _ => (distO []).bind fun _ => F ()
  st x := ⟨sparseT [] 193 0, []⟩
  ok γ s F r h := by
    obtain ⟨_, hz, h⟩ := Option.bind_eq_some_iff.1 h
    obtain ⟨_, h1, h⟩ := Option.bind_eq_some_iff.1 h
    exact ⟨_, h, weak_ren (l := []) (sizedN_ok hz) (distO_ok h1) LiveR.nil BlksR.nil⟩

def atlasref19_may.q1.t : Tail ((Bool) ⊕ (Unit)) := Tail.or .ret atlasref19_may.q1.x0 (Tail.one .normal atlasref19_may.q1.x1)
theorem atlasref19_may.q1.np (y : ((Bool) ⊕ (Unit))) (v : AV) : (atlasref19_may.q1.t.out y).1 ≠ .panic v := fun h => by rcases y with _ | y <;> first | (cases h; done) | (cases h)
def atlasref19_may.q1.l (k : Nat) (x : (Bool × (List Int) × Int × ByteArray × Int × Int × Bool × Int × Int × Int × Int × Int × Int × Int × Int × Int × Bool × Bool × Bool × Int × Int × Int × Int × Int)) : Option ((Bool) ⊕ (Unit)) := (bif x.1 then ((atlasref19_any15.f k (⟨x.2.1, x.2.2.1, x.2.2.2.1⟩ : T42) (⟨x.2.2.2.2.1, x.2.2.2.2.2.1, x.2.2.2.2.2.2.1, x.2.2.2.2.2.2.2.1, x.2.2.2.2.2.2.2.2.1, x.2.2.2.2.2.2.2.2.2.1, x.2.2.2.2.2.2.2.2.2.2.1, x.2.2.2.2.2.2.2.2.2.2.2.1, x.2.2.2.2.2.2.2.2.2.2.2.2.1, x.2.2.2.2.2.2.2.2.2.2.2.2.2.1, x.2.2.2.2.2.2.2.2.2.2.2.2.2.2.1, x.2.2.2.2.2.2.2.2.2.2.2.2.2.2.2.1, x.2.2.2.2.2.2.2.2.2.2.2.2.2.2.2.2.1, x.2.2.2.2.2.2.2.2.2.2.2.2.2.2.2.2.2.1, x.2.2.2.2.2.2.2.2.2.2.2.2.2.2.2.2.2.2.1, x.2.2.2.2.2.2.2.2.2.2.2.2.2.2.2.2.2.2.2.1, x.2.2.2.2.2.2.2.2.2.2.2.2.2.2.2.2.2.2.2.2.1, x.2.2.2.2.2.2.2.2.2.2.2.2.2.2.2.2.2.2.2.2.2.1, x.2.2.2.2.2.2.2.2.2.2.2.2.2.2.2.2.2.2.2.2.2.2.1, x.2.2.2.2.2.2.2.2.2.2.2.2.2.2.2.2.2.2.2.2.2.2.2⟩ : T26)).bind fun r2 => (bif (!r2) then (bif (decide (x.2.2.2.2.2.1 < 21)) then (some (Sum.inl true)) else (bif (decide (x.2.2.2.2.2.1 > 24)) then (some (Sum.inl true)) else (some (Sum.inl (x.2.2.2.2.2.2.2.2.1 != x.2.2.2.2.2.2.2.2.2.2.2.2.1))))) else (some (Sum.inl false)))) else (bif (decide (x.2.2.2.2.2.1 ≥ 31)) then ((atlasref19_may.q2.l k ((decide (x.2.2.2.2.2.1 ≤ 38)), x.2.1, x.2.2.1, x.2.2.2.1, x.2.2.2.2.1, x.2.2.2.2.2.1, x.2.2.2.2.2.2.1, x.2.2.2.2.2.2.2.1, x.2.2.2.2.2.2.2.2.1, x.2.2.2.2.2.2.2.2.2.1, x.2.2.2.2.2.2.2.2.2.2.1, x.2.2.2.2.2.2.2.2.2.2.2.1, x.2.2.2.2.2.2.2.2.2.2.2.2.1, x.2.2.2.2.2.2.2.2.2.2.2.2.2.1, x.2.2.2.2.2.2.2.2.2.2.2.2.2.2.1, x.2.2.2.2.2.2.2.2.2.2.2.2.2.2.2.1, x.2.2.2.2.2.2.2.2.2.2.2.2.2.2.2.2.1, x.2.2.2.2.2.2.2.2.2.2.2.2.2.2.2.2.2.1, x.2.2.2.2.2.2.2.2.2.2.2.2.2.2.2.2.2.2.1, x.2.2.2.2.2.2.2.2.2.2.2.2.2.2.2.2.2.2.2.1, x.2.2.2.2.2.2.2.2.2.2.2.2.2.2.2.2.2.2.2.2.1, x.2.2.2.2.2.2.2.2.2.2.2.2.2.2.2.2.2.2.2.2.2.1, x.2.2.2.2.2.2.2.2.2.2.2.2.2.2.2.2.2.2.2.2.2.2.1, x.2.2.2.2.2.2.2.2.2.2.2.2.2.2.2.2.2.2.2.2.2.2.2)).bind fun r34 => (Sum.elim (fun r35 => (some (Sum.inl r35))) (fun r36 => (some (Sum.inr ()))) r34)) else ((atlasref19_may.q2.l k (false, x.2.1, x.2.2.1, x.2.2.2.1, x.2.2.2.2.1, x.2.2.2.2.2.1, x.2.2.2.2.2.2.1, x.2.2.2.2.2.2.2.1, x.2.2.2.2.2.2.2.2.1, x.2.2.2.2.2.2.2.2.2.1, x.2.2.2.2.2.2.2.2.2.2.1, x.2.2.2.2.2.2.2.2.2.2.2.1, x.2.2.2.2.2.2.2.2.2.2.2.2.1, x.2.2.2.2.2.2.2.2.2.2.2.2.2.1, x.2.2.2.2.2.2.2.2.2.2.2.2.2.2.1, x.2.2.2.2.2.2.2.2.2.2.2.2.2.2.2.1, x.2.2.2.2.2.2.2.2.2.2.2.2.2.2.2.2.1, x.2.2.2.2.2.2.2.2.2.2.2.2.2.2.2.2.2.1, x.2.2.2.2.2.2.2.2.2.2.2.2.2.2.2.2.2.2.1, x.2.2.2.2.2.2.2.2.2.2.2.2.2.2.2.2.2.2.2.1, x.2.2.2.2.2.2.2.2.2.2.2.2.2.2.2.2.2.2.2.2.1, x.2.2.2.2.2.2.2.2.2.2.2.2.2.2.2.2.2.2.2.2.2.1, x.2.2.2.2.2.2.2.2.2.2.2.2.2.2.2.2.2.2.2.2.2.2.1, x.2.2.2.2.2.2.2.2.2.2.2.2.2.2.2.2.2.2.2.2.2.2.2)).bind fun r37 => (Sum.elim (fun r38 => (some (Sum.inl r38))) (fun r39 => (some (Sum.inr ()))) r37))))
theorem atlasref19_may.q1.at : codeAt (bodyOf Try.f43) [true, false, false, true, true] = some (codeOf (bodyOf Try.f43) [true, false, false, true, true]) := by kernel_rfl
theorem atlasref19_may.q1.goes (k : Nat) (x : (Bool × (List Int) × Int × ByteArray × Int × Int × Bool × Int × Int × Int × Int × Int × Int × Int × Int × Int × Bool × Bool × Bool × Int × Int × Int × Int × Int)) : E Try.prog (gamOf [(61, atlasref19_any15.g k), (62, atlasref19_listed.g)]) (lamOf [atlasref19_may.q3.p k, atlasref19_may.q5.p k, atlasref19_may.q7.p k, atlasref19_may.q6.p k, atlasref19_may.q4.p k, atlasref19_may.q2.p k]) (codeOf (bodyOf Try.f43) [true, false, false, true, true]) [true, false, false, true, true] (atlasref19_may.q1.h.st x) (fun ex t => atlasref19_may.q1.t.d _ ex t some) = atlasref19_may.q1.l k x := by
  kernel_rfl
theorem atlasref19_may.q1.ok_ (k : Nat) : PieceOk Try.prog (bodyOf Try.f43) ⟨[true, false, false, true, true], _, _, atlasref19_may.q1.h, atlasref19_may.q1.t, atlasref19_may.q1.l k⟩ :=
  piece_code (gamOf_cons (atlasref19_any15.ok k) atlasref19_any15.callable (gamOf_cons (atlasref19_listed.ok) atlasref19_listed.callable (gamOf_nil _))) (lamOf_cons (atlasref19_may.q3.ok k) (lamOf_cons (atlasref19_may.q5.ok k) (lamOf_cons (atlasref19_may.q7.ok k) (lamOf_cons (atlasref19_may.q6.ok k) (lamOf_cons (atlasref19_may.q4.ok k) (lamOf_cons (atlasref19_may.q2.ok k) (lamOf_nil _ _))))))) mixed atlasref19_may.q1.at atlasref19_may.q1.np (atlasref19_may.q1.goes k)
def atlasref19_may.q1.p (k : Nat) : Piece := ⟨[true, false, false, true, true], _, _, atlasref19_may.q1.h, atlasref19_may.q1.t, atlasref19_may.q1.l k⟩
theorem atlasref19_may.q1.ok (k : Nat) : PieceOk Try.prog (bodyOf Try.f43) (atlasref19_may.q1.p k) := atlasref19_may.q1.ok_ k
def atlasref19_may.q0.h : Head ((List Int) × Int × ByteArray × Int × Int × Bool × Int × Int × Int × Int × Int × Int × Int × Int × Int × Bool × Bool × Bool × Int × Int × Int × Int × Int) where
  k γ s F := (sizedN 193 s).bind fun _ => (ptrN 0 (gt s.tm 2)).bind fun b2 => (ptrN 0 (gt s.tm 3)).bind fun b4 => (rowN 43 3 s.hp b2).bind fun l6 => (vtO (.int .i64) (gt l6 0)).bind fun v8 => (intO .i64 (gt l6 1)).bind fun v10 => (strO (gt l6 2)).bind fun v12 => (rowN 27 20 s.hp b4).bind fun l14 => (intO .i64 (gt l14 0)).bind fun v16 => (intO .i64 (gt l14 1)).bind fun v18 => (boolO (gt l14 2)).bind fun v20 => (intO .i64 (gt l14 3)).bind fun v22 => (intO .i64 (gt l14 4)).bind fun v24 => (intO .i64 (gt l14 5)).bind fun v26 => (intO .i64 (gt l14 6)).bind fun v28 => (intO .i64 (gt l14 7)).bind fun v30 => (intO .i64 (gt l14 8)).bind fun v32 => (intO .u32 (gt l14 9)).bind fun v34 => (intO .i64 (gt l14 10)).bind fun v36 => (intO .i64 (gt l14 11)).bind fun v38 => (boolO (gt l14 12)).bind fun v40 => (boolO (gt l14 13)).bind fun v42 => (boolO (gt l14 14)).bind fun v44 => (intO .u16 (gt l14 15)).bind fun v46 => (intO .i64 (gt l14 16)).bind fun v48 => (intO .i64 (gt l14 17)).bind fun v50 => (intO .i64 (gt l14 18)).bind fun v52 => (intO .i64 (gt l14 19)).bind fun v54 => (distO [some b2, some b4]).bind fun _ => F (v8, v10, v12, v16, v18, v20, v22, v24, v26, v28, v30, v32, v34, v36, v38, v40, v42, v44, v46, v48, v50, v52, v54)
  st x := ⟨sparseT [(2, (.ptr 0 0)), (3, (.ptr 1 0))] 193 0, [.row [(.vt (.int .i64) x.1), (.val (.int .i64 x.2.1)), (.val (.string x.2.2.1))] 43 true, .row [(.val (.int .i64 x.2.2.2.1)), (.val (.int .i64 x.2.2.2.2.1)), (.val (.bool x.2.2.2.2.2.1)), (.val (.int .i64 x.2.2.2.2.2.2.1)), (.val (.int .i64 x.2.2.2.2.2.2.2.1)), (.val (.int .i64 x.2.2.2.2.2.2.2.2.1)), (.val (.int .i64 x.2.2.2.2.2.2.2.2.2.1)), (.val (.int .i64 x.2.2.2.2.2.2.2.2.2.2.1)), (.val (.int .i64 x.2.2.2.2.2.2.2.2.2.2.2.1)), (.val (.int .u32 x.2.2.2.2.2.2.2.2.2.2.2.2.1)), (.val (.int .i64 x.2.2.2.2.2.2.2.2.2.2.2.2.2.1)), (.val (.int .i64 x.2.2.2.2.2.2.2.2.2.2.2.2.2.2.1)), (.val (.bool x.2.2.2.2.2.2.2.2.2.2.2.2.2.2.2.1)), (.val (.bool x.2.2.2.2.2.2.2.2.2.2.2.2.2.2.2.2.1)), (.val (.bool x.2.2.2.2.2.2.2.2.2.2.2.2.2.2.2.2.2.1)), (.val (.int .u16 x.2.2.2.2.2.2.2.2.2.2.2.2.2.2.2.2.2.2.1)), (.val (.int .i64 x.2.2.2.2.2.2.2.2.2.2.2.2.2.2.2.2.2.2.2.1)), (.val (.int .i64 x.2.2.2.2.2.2.2.2.2.2.2.2.2.2.2.2.2.2.2.2.1)), (.val (.int .i64 x.2.2.2.2.2.2.2.2.2.2.2.2.2.2.2.2.2.2.2.2.2.1)), (.val (.int .i64 x.2.2.2.2.2.2.2.2.2.2.2.2.2.2.2.2.2.2.2.2.2.2))] 27 true]⟩
  ok γ s F r h := by
    obtain ⟨_, hz, h⟩ := Option.bind_eq_some_iff.1 h
    obtain ⟨b2, h1, h⟩ := Option.bind_eq_some_iff.1 h
    obtain ⟨b4, h3, h⟩ := Option.bind_eq_some_iff.1 h
    obtain ⟨l6, h5, h⟩ := Option.bind_eq_some_iff.1 h
    obtain ⟨v8, h7, h⟩ := Option.bind_eq_some_iff.1 h
    obtain ⟨v10, h9, h⟩ := Option.bind_eq_some_iff.1 h
    obtain ⟨v12, h11, h⟩ := Option.bind_eq_some_iff.1 h
    obtain ⟨l14, h13, h⟩ := Option.bind_eq_some_iff.1 h
    obtain ⟨v16, h15, h⟩ := Option.bind_eq_some_iff.1 h
    obtain ⟨v18, h17, h⟩ := Option.bind_eq_some_iff.1 h
    obtain ⟨v20, h19, h⟩ := Option.bind_eq_some_iff.1 h
    obtain ⟨v22, h21, h⟩ := Option.bind_eq_some_iff.1 h
    obtain ⟨v24, h23, h⟩ := Option.bind_eq_some_iff.1 h
    obtain ⟨v26, h25, h⟩ := Option.bind_eq_some_iff.1 h
    obtain ⟨v28, h27, h⟩ := Option.bind_eq_some_iff.1 h
    obtain ⟨v30, h29, h⟩ := Option.bind_eq_some_iff.1 h
    obtain ⟨v32, h31, h⟩ := Option.bind_eq_some_iff.1 h
    obtain ⟨v34, h33, h⟩ := Option.bind_eq_some_iff.1 h
    obtain ⟨v36, h35, h⟩ := Option.bind_eq_some_iff.1 h
    obtain ⟨v38, h37, h⟩ := Option.bind_eq_some_iff.1 h
    obtain ⟨v40, h39, h⟩ := Option.bind_eq_some_iff.1 h
    obtain ⟨v42, h41, h⟩ := Option.bind_eq_some_iff.1 h
    obtain ⟨v44, h43, h⟩ := Option.bind_eq_some_iff.1 h
    obtain ⟨v46, h45, h⟩ := Option.bind_eq_some_iff.1 h
    obtain ⟨v48, h47, h⟩ := Option.bind_eq_some_iff.1 h
    obtain ⟨v50, h49, h⟩ := Option.bind_eq_some_iff.1 h
    obtain ⟨v52, h51, h⟩ := Option.bind_eq_some_iff.1 h
    obtain ⟨v54, h53, h⟩ := Option.bind_eq_some_iff.1 h
    obtain ⟨_, h55, h⟩ := Option.bind_eq_some_iff.1 h
    exact ⟨_, h, weak_ren (l := [some b2, some b4]) (sizedN_ok hz) (distO_ok h55) (LiveR.cons (RefsR.ptr (l := [some b2, some b4]) (i := 0) rfl (ptrN_eq h1)) (LiveR.cons (RefsR.ptr (l := [some b2, some b4]) (i := 1) rfl (ptrN_eq h3)) LiveR.nil)) (BlksR.cons (rowN_refs h5 rfl (GtRefsR.cons (RefsR.plain (vtO_refs h7) rfl) (GtRefsR.cons (RefsR.plain (Refs.of_eq (intO_eq h9)) rfl) (GtRefsR.cons (RefsR.plain (Refs.of_eq (strO_eq h11)) rfl) GtRefsR.nil))) rfl) (BlksR.cons (rowN_refs h13 rfl (GtRefsR.cons (RefsR.plain (Refs.of_eq (intO_eq h15)) rfl) (GtRefsR.cons (RefsR.plain (Refs.of_eq (intO_eq h17)) rfl) (GtRefsR.cons (RefsR.plain (Refs.of_eq (boolO_eq h19)) rfl) (GtRefsR.cons (RefsR.plain (Refs.of_eq (intO_eq h21)) rfl) (GtRefsR.cons (RefsR.plain (Refs.of_eq (intO_eq h23)) rfl) (GtRefsR.cons (RefsR.plain (Refs.of_eq (intO_eq h25)) rfl) (GtRefsR.cons (RefsR.plain (Refs.of_eq (intO_eq h27)) rfl) (GtRefsR.cons (RefsR.plain (Refs.of_eq (intO_eq h29)) rfl) (GtRefsR.cons (RefsR.plain (Refs.of_eq (intO_eq h31)) rfl) (GtRefsR.cons (RefsR.plain (Refs.of_eq (intO_eq h33)) rfl) (GtRefsR.cons (RefsR.plain (Refs.of_eq (intO_eq h35)) rfl) (GtRefsR.cons (RefsR.plain (Refs.of_eq (intO_eq h37)) rfl) (GtRefsR.cons (RefsR.plain (Refs.of_eq (boolO_eq h39)) rfl) (GtRefsR.cons (RefsR.plain (Refs.of_eq (boolO_eq h41)) rfl) (GtRefsR.cons (RefsR.plain (Refs.of_eq (boolO_eq h43)) rfl) (GtRefsR.cons (RefsR.plain (Refs.of_eq (intO_eq h45)) rfl) (GtRefsR.cons (RefsR.plain (Refs.of_eq (intO_eq h47)) rfl) (GtRefsR.cons (RefsR.plain (Refs.of_eq (intO_eq h49)) rfl) (GtRefsR.cons (RefsR.plain (Refs.of_eq (intO_eq h51)) rfl) (GtRefsR.cons (RefsR.plain (Refs.of_eq (intO_eq h53)) rfl) GtRefsR.nil)))))))))))))))))))) rfl) BlksR.nil))⟩

def atlasref19_may.q0.x0 : Head (Bool) where
  k γ s F := (sizedN 193 s).bind fun _ => (boolO (gt s.tm 4)).bind fun v2 => (distO []).bind fun _ => F (v2)
  st x := ⟨sparseT [(4, (.val (.bool x)))] 193 0, []⟩
  ok γ s F r h := by
    obtain ⟨_, hz, h⟩ := Option.bind_eq_some_iff.1 h
    obtain ⟨v2, h1, h⟩ := Option.bind_eq_some_iff.1 h
    obtain ⟨_, h3, h⟩ := Option.bind_eq_some_iff.1 h
    exact ⟨_, h, weak_ren (l := []) (sizedN_ok hz) (distO_ok h3) (LiveR.cons (RefsR.plain (Refs.of_eq (boolO_eq h1)) rfl) LiveR.nil) BlksR.nil⟩

def atlasref19_may.q0.t : Tail (Bool) := Tail.one .ret atlasref19_may.q0.x0
theorem atlasref19_may.q0.np (y : (Bool)) (v : AV) : (atlasref19_may.q0.t.out y).1 ≠ .panic v := fun h => by cases h
def atlasref19_may.q0.l (k : Nat) (x : ((List Int) × Int × ByteArray × Int × Int × Bool × Int × Int × Int × Int × Int × Int × Int × Int × Int × Bool × Bool × Bool × Int × Int × Int × Int × Int)) : Option (Bool) := (bif (decide (x.2.2.2.2.1 ≥ 17)) then ((atlasref19_may.q1.l k ((decide (x.2.2.2.2.1 ≤ 30)), x.1, x.2.1, x.2.2.1, x.2.2.2.1, x.2.2.2.2.1, x.2.2.2.2.2.1, x.2.2.2.2.2.2.1, x.2.2.2.2.2.2.2.1, x.2.2.2.2.2.2.2.2.1, x.2.2.2.2.2.2.2.2.2.1, x.2.2.2.2.2.2.2.2.2.2.1, x.2.2.2.2.2.2.2.2.2.2.2.1, x.2.2.2.2.2.2.2.2.2.2.2.2.1, x.2.2.2.2.2.2.2.2.2.2.2.2.2.1, x.2.2.2.2.2.2.2.2.2.2.2.2.2.2.1, x.2.2.2.2.2.2.2.2.2.2.2.2.2.2.2.1, x.2.2.2.2.2.2.2.2.2.2.2.2.2.2.2.2.1, x.2.2.2.2.2.2.2.2.2.2.2.2.2.2.2.2.2.1, x.2.2.2.2.2.2.2.2.2.2.2.2.2.2.2.2.2.2.1, x.2.2.2.2.2.2.2.2.2.2.2.2.2.2.2.2.2.2.2.1, x.2.2.2.2.2.2.2.2.2.2.2.2.2.2.2.2.2.2.2.2.1, x.2.2.2.2.2.2.2.2.2.2.2.2.2.2.2.2.2.2.2.2.2.1, x.2.2.2.2.2.2.2.2.2.2.2.2.2.2.2.2.2.2.2.2.2.2)).bind fun r40 => (Sum.elim (fun r41 => (some r41)) (fun r42 => (some true)) r40)) else ((atlasref19_may.q1.l k (false, x.1, x.2.1, x.2.2.1, x.2.2.2.1, x.2.2.2.2.1, x.2.2.2.2.2.1, x.2.2.2.2.2.2.1, x.2.2.2.2.2.2.2.1, x.2.2.2.2.2.2.2.2.1, x.2.2.2.2.2.2.2.2.2.1, x.2.2.2.2.2.2.2.2.2.2.1, x.2.2.2.2.2.2.2.2.2.2.2.1, x.2.2.2.2.2.2.2.2.2.2.2.2.1, x.2.2.2.2.2.2.2.2.2.2.2.2.2.1, x.2.2.2.2.2.2.2.2.2.2.2.2.2.2.1, x.2.2.2.2.2.2.2.2.2.2.2.2.2.2.2.1, x.2.2.2.2.2.2.2.2.2.2.2.2.2.2.2.2.1, x.2.2.2.2.2.2.2.2.2.2.2.2.2.2.2.2.2.1, x.2.2.2.2.2.2.2.2.2.2.2.2.2.2.2.2.2.2.1, x.2.2.2.2.2.2.2.2.2.2.2.2.2.2.2.2.2.2.2.1, x.2.2.2.2.2.2.2.2.2.2.2.2.2.2.2.2.2.2.2.2.1, x.2.2.2.2.2.2.2.2.2.2.2.2.2.2.2.2.2.2.2.2.2.1, x.2.2.2.2.2.2.2.2.2.2.2.2.2.2.2.2.2.2.2.2.2.2)).bind fun r43 => (Sum.elim (fun r44 => (some r44)) (fun r45 => (some true)) r43)))
theorem atlasref19_may.q0.at : codeAt (bodyOf Try.f43) [true, true] = some (codeOf (bodyOf Try.f43) [true, true]) := by kernel_rfl
theorem atlasref19_may.q0.goes (k : Nat) (x : ((List Int) × Int × ByteArray × Int × Int × Bool × Int × Int × Int × Int × Int × Int × Int × Int × Int × Bool × Bool × Bool × Int × Int × Int × Int × Int)) : E Try.prog (gamOf [(61, atlasref19_any15.g k), (62, atlasref19_listed.g)]) (lamOf [atlasref19_may.q3.p k, atlasref19_may.q5.p k, atlasref19_may.q7.p k, atlasref19_may.q6.p k, atlasref19_may.q4.p k, atlasref19_may.q2.p k, atlasref19_may.q1.p k]) (codeOf (bodyOf Try.f43) [true, true]) [true, true] (atlasref19_may.q0.h.st x) (fun ex t => atlasref19_may.q0.t.d _ ex t some) = atlasref19_may.q0.l k x := by
  kernel_rfl
theorem atlasref19_may.q0.ok_ (k : Nat) : PieceOk Try.prog (bodyOf Try.f43) ⟨[true, true], _, _, atlasref19_may.q0.h, atlasref19_may.q0.t, atlasref19_may.q0.l k⟩ :=
  piece_code (gamOf_cons (atlasref19_any15.ok k) atlasref19_any15.callable (gamOf_cons (atlasref19_listed.ok) atlasref19_listed.callable (gamOf_nil _))) (lamOf_cons (atlasref19_may.q3.ok k) (lamOf_cons (atlasref19_may.q5.ok k) (lamOf_cons (atlasref19_may.q7.ok k) (lamOf_cons (atlasref19_may.q6.ok k) (lamOf_cons (atlasref19_may.q4.ok k) (lamOf_cons (atlasref19_may.q2.ok k) (lamOf_cons (atlasref19_may.q1.ok k) (lamOf_nil _ _)))))))) mixed atlasref19_may.q0.at atlasref19_may.q0.np (atlasref19_may.q0.goes k)
def atlasref19_may.q0.p (k : Nat) : Piece := ⟨[true, true], _, _, atlasref19_may.q0.h, atlasref19_may.q0.t, atlasref19_may.q0.l k⟩
theorem atlasref19_may.q0.ok (k : Nat) : PieceOk Try.prog (bodyOf Try.f43) (atlasref19_may.q0.p k) := atlasref19_may.q0.ok_ k
def atlasref19_may.f (k : Nat) (x0 : T42) (x1 : T26) : Option (Bool) := (bif (x1.f0_Cond == 15) then (some false) else (bif (x0.f1_Form == 3) then ((atlasref19_any15.f k (⟨x0.f0_Ops, x0.f1_Form, x0.f2_Pattern⟩ : T42) (⟨x1.f0_Cond, x1.f1_Op, x1.f2_S, x1.f3_Form, x1.f4_Rd, x1.f5_Rn, x1.f6_Rm, x1.f7_Rs, x1.f8_Ra, x1.f9_Imm, x1.f10_Shift, x1.f11_Amount, x1.f12_Pre, x1.f13_Up, x1.f14_Write, x1.f15_List, x1.f16_Tuple_CRn, x1.f17_Tuple_Op1, x1.f18_Tuple_CRm, x1.f19_Tuple_Op2⟩ : T26)).bind fun r1 => (bif r1 then (some false) else ((atlasref19_may.q0.l k (x0.f0_Ops, x0.f1_Form, x0.f2_Pattern, x1.f0_Cond, x1.f1_Op, x1.f2_S, x1.f3_Form, x1.f4_Rd, x1.f5_Rn, x1.f6_Rm, x1.f7_Rs, x1.f8_Ra, x1.f9_Imm, x1.f10_Shift, x1.f11_Amount, x1.f12_Pre, x1.f13_Up, x1.f14_Write, x1.f15_List, x1.f16_Tuple_CRn, x1.f17_Tuple_Op1, x1.f18_Tuple_CRm, x1.f19_Tuple_Op2)).bind fun r46 => (some r46)))) else ((atlasref19_may.q0.l k (x0.f0_Ops, x0.f1_Form, x0.f2_Pattern, x1.f0_Cond, x1.f1_Op, x1.f2_S, x1.f3_Form, x1.f4_Rd, x1.f5_Rn, x1.f6_Rm, x1.f7_Rs, x1.f8_Ra, x1.f9_Imm, x1.f10_Shift, x1.f11_Amount, x1.f12_Pre, x1.f13_Up, x1.f14_Write, x1.f15_List, x1.f16_Tuple_CRn, x1.f17_Tuple_Op1, x1.f18_Tuple_CRm, x1.f19_Tuple_Op2)).bind fun r47 => (some r47))))
theorem atlasref19_may.run (k : Nat) (x0 : T42) (x1 : T26) : runF Try.prog (gamOf [(61, atlasref19_any15.g k), (62, atlasref19_listed.g)]) (lamOf [atlasref19_may.q3.p k, atlasref19_may.q5.p k, atlasref19_may.q7.p k, atlasref19_may.q6.p k, atlasref19_may.q4.p k, atlasref19_may.q2.p k, atlasref19_may.q1.p k, atlasref19_may.q0.p k]) Try.f43 [(T42.av x0), (T26.av x1)] some = (atlasref19_may.f k x0 x1).bind fun r => some (.ret (.val (.bool r))) := by
  unfold atlasref19_may.f
  try simp only [cond_bind, elim_bind, Option.bind_some, Option.bind_none, Option.bind_assoc]
  kernel_rfl
def atlasref19_may.g (k : Nat) : GFun := fun β args K => match args with
  | [a0, a1] => (T42.of a0).bind fun x0 => (T26.of a1).bind fun x1 => (atlasref19_may.f k x0 x1).bind fun r => K (.ret (.val (.bool r)))
  | _ => none
theorem atlasref19_may.callable : callable Try.prog 43 = true := callable_of Try.func43 (by kernel_rfl)
theorem atlasref19_may.ok (k : Nat) : GOk Try.prog 43 (atlasref19_may.g k) := by
  intro β args K r h
  unfold atlasref19_may.g at h
  split at h
  · obtain ⟨x0, e0, h⟩ := Option.bind_eq_some_iff.1 h
    obtain ⟨x1, e1, h⟩ := Option.bind_eq_some_iff.1 h
    obtain ⟨y, hy, hK⟩ := Option.bind_eq_some_iff.1 h
    have hrun := atlasref19_may.run k x0 x1
    rw [hy] at hrun
    obtain ⟨out, e, hs⟩ := sim_of_run Try.func43 (by kernel_rfl) mixed (gamOf_cons (atlasref19_any15.ok k) atlasref19_any15.callable (gamOf_cons (atlasref19_listed.ok) atlasref19_listed.callable (gamOf_nil _))) (lamOf_cons (atlasref19_may.q3.ok k) (lamOf_cons (atlasref19_may.q5.ok k) (lamOf_cons (atlasref19_may.q7.ok k) (lamOf_cons (atlasref19_may.q6.ok k) (lamOf_cons (atlasref19_may.q4.ok k) (lamOf_cons (atlasref19_may.q2.ok k) (lamOf_cons (atlasref19_may.q1.ok k) (lamOf_cons (atlasref19_may.q0.ok k) (lamOf_nil _ _))))))))) (args' := [(T42.av x0), (T26.av x1)]) (RefsL.cons (T42.refs e0) (RefsL.cons (T26.refs e1) RefsL.nil)) hrun
    simp only [Option.some.injEq] at e
    subst e
    exact ⟨_, hK, hs⟩
  · cases h
end Go.Va
