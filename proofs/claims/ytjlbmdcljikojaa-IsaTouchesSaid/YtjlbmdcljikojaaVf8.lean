-- Written by a program of this session (wip/va/vaprint.py). Not trusted: Lean checks it.
import Derived.Test.YtjlbmdcljikojaaVaTy
import Derived.Test.YtjlbmdcljikojaaVf1
import Derived.Test.YtjlbmdcljikojaaVf4
import Derived.Test.YtjlbmdcljikojaaVf5
import Derived.Test.YtjlbmdcljikojaaVf7
set_option linter.unusedVariables false
set_option linter.unusedSimpArgs false
set_option autoImplicit false
set_option maxRecDepth 100000
namespace Go.Va
open Go.Proofs
/-! ### atlas/atlasref19.find: function 22 -/
def atlasref19_find.q0.h : Head (Int × (List ((List Int) × Int × ByteArray × Unit)) × Int × Int × ByteArray × Int × Int × Bool × Int × Int × Int × Int × Int × Int × Int × Int × Int × Bool × Bool × Bool × Int × Int × Int × Int × Int × (List Int)) where
  k γ s F := (sizedN 52 s).bind fun _ => (intO .u32 (gt s.tm 0)).bind fun v2 => (ptrN 0 (gt s.tm 2)).bind fun b4 => (ptrN 0 (gt s.tm 3)).bind fun b6 => (vtO (.pair (.vec (.int .i64)) (.pair (.int .i64) (.pair .str .unit))) (gt s.tm 5)).bind fun v8 => (intO .i64 (gt s.tm 6)).bind fun v10 => (rowN 43 3 s.hp b4).bind fun l12 => (soN 1 s.hp (gt l12 0)).bind fun b14 => (intO .i64 (gt l12 1)).bind fun v16 => (strO (gt l12 2)).bind fun v18 => (rowN 27 20 s.hp b6).bind fun l20 => (intO .i64 (gt l20 0)).bind fun v22 => (intO .i64 (gt l20 1)).bind fun v24 => (boolO (gt l20 2)).bind fun v26 => (intO .i64 (gt l20 3)).bind fun v28 => (intO .i64 (gt l20 4)).bind fun v30 => (intO .i64 (gt l20 5)).bind fun v32 => (intO .i64 (gt l20 6)).bind fun v34 => (intO .i64 (gt l20 7)).bind fun v36 => (intO .i64 (gt l20 8)).bind fun v38 => (intO .u32 (gt l20 9)).bind fun v40 => (intO .i64 (gt l20 10)).bind fun v42 => (intO .i64 (gt l20 11)).bind fun v44 => (boolO (gt l20 12)).bind fun v46 => (boolO (gt l20 13)).bind fun v48 => (boolO (gt l20 14)).bind fun v50 => (intO .u16 (gt l20 15)).bind fun v52 => (intO .i64 (gt l20 16)).bind fun v54 => (intO .i64 (gt l20 17)).bind fun v56 => (intO .i64 (gt l20 18)).bind fun v58 => (intO .i64 (gt l20 19)).bind fun v60 => (rtN (.int .i64) 3 s.hp b14).bind fun v62 => (distO [some b4, some b6, b14]).bind fun _ => F (v2, v8, v10, v16, v18, v22, v24, v26, v28, v30, v32, v34, v36, v38, v40, v42, v44, v46, v48, v50, v52, v54, v56, v58, v60, v62)
  st x := ⟨sparseT [(0, (.val (.int .u32 x.1))), (2, (.ptr 0 0)), (3, (.ptr 1 0)), (5, (.vt (.pair (.vec (.int .i64)) (.pair (.int .i64) (.pair .str .unit))) x.2.1)), (6, (.val (.int .i64 x.2.2.1)))] 52 0, [.row [(.so 2 1), (.val (.int .i64 x.2.2.2.1)), (.val (.string x.2.2.2.2.1))] 43 false, .row [(.val (.int .i64 x.2.2.2.2.2.1)), (.val (.int .i64 x.2.2.2.2.2.2.1)), (.val (.bool x.2.2.2.2.2.2.2.1)), (.val (.int .i64 x.2.2.2.2.2.2.2.2.1)), (.val (.int .i64 x.2.2.2.2.2.2.2.2.2.1)), (.val (.int .i64 x.2.2.2.2.2.2.2.2.2.2.1)), (.val (.int .i64 x.2.2.2.2.2.2.2.2.2.2.2.1)), (.val (.int .i64 x.2.2.2.2.2.2.2.2.2.2.2.2.1)), (.val (.int .i64 x.2.2.2.2.2.2.2.2.2.2.2.2.2.1)), (.val (.int .u32 x.2.2.2.2.2.2.2.2.2.2.2.2.2.2.1)), (.val (.int .i64 x.2.2.2.2.2.2.2.2.2.2.2.2.2.2.2.1)), (.val (.int .i64 x.2.2.2.2.2.2.2.2.2.2.2.2.2.2.2.2.1)), (.val (.bool x.2.2.2.2.2.2.2.2.2.2.2.2.2.2.2.2.2.1)), (.val (.bool x.2.2.2.2.2.2.2.2.2.2.2.2.2.2.2.2.2.2.1)), (.val (.bool x.2.2.2.2.2.2.2.2.2.2.2.2.2.2.2.2.2.2.2.1)), (.val (.int .u16 x.2.2.2.2.2.2.2.2.2.2.2.2.2.2.2.2.2.2.2.2.1)), (.val (.int .i64 x.2.2.2.2.2.2.2.2.2.2.2.2.2.2.2.2.2.2.2.2.2.1)), (.val (.int .i64 x.2.2.2.2.2.2.2.2.2.2.2.2.2.2.2.2.2.2.2.2.2.2.1)), (.val (.int .i64 x.2.2.2.2.2.2.2.2.2.2.2.2.2.2.2.2.2.2.2.2.2.2.2.1)), (.val (.int .i64 x.2.2.2.2.2.2.2.2.2.2.2.2.2.2.2.2.2.2.2.2.2.2.2.2.1))] 27 true, .rt (.int .i64) x.2.2.2.2.2.2.2.2.2.2.2.2.2.2.2.2.2.2.2.2.2.2.2.2.2 3]⟩
  ok γ s F r h := by
    obtain ⟨_, hz, h⟩ := Option.bind_eq_some_iff.1 h
    obtain ⟨v2, h1, h⟩ := Option.bind_eq_some_iff.1 h
    obtain ⟨b4, h3, h⟩ := Option.bind_eq_some_iff.1 h
    obtain ⟨b6, h5, h⟩ := Option.bind_eq_some_iff.1 h
    obtain ⟨v8, h7, h⟩ := Option.bind_eq_some_iff.1 h
    obtain ⟨v10, h9, h⟩ := Option.bind_eq_some_iff.1 h
    obtain ⟨l12, h11, h⟩ := Option.bind_eq_some_iff.1 h
    obtain ⟨b14, h13, h⟩ := Option.bind_eq_some_iff.1 h
    obtain ⟨v16, h15, h⟩ := Option.bind_eq_some_iff.1 h
    obtain ⟨v18, h17, h⟩ := Option.bind_eq_some_iff.1 h
    obtain ⟨l20, h19, h⟩ := Option.bind_eq_some_iff.1 h
    obtain ⟨v22, h21, h⟩ := Option.bind_eq_some_iff.1 h
    obtain ⟨v24, h23, h⟩ := Option.bind_eq_some_iff.1 h
    obtain ⟨v26, h25, h⟩ := Option.bind_eq_some_iff.1 h
    obtain ⟨v28, h27, h⟩ := Option.bind_eq_some_iff.1 h
    obtain ⟨v30, h29, h⟩ := Option.bind_eq_some_iff.1 h
    obtain ⟨v32, h31, h⟩ := Option.bind_eq_some_iff.1 h
    obtain ⟨v34, h33, h⟩ := Option.bind_eq_some_iff.1 h
    obtain ⟨v36, h35, h⟩ := Option.bind_eq_some_iff.1 h
    obtain ⟨v38, h37, h⟩ := Option.bind_eq_some_iff.1 h
    obtain ⟨v40, h39, h⟩ := Option.bind_eq_some_iff.1 h
    obtain ⟨v42, h41, h⟩ := Option.bind_eq_some_iff.1 h
    obtain ⟨v44, h43, h⟩ := Option.bind_eq_some_iff.1 h
    obtain ⟨v46, h45, h⟩ := Option.bind_eq_some_iff.1 h
    obtain ⟨v48, h47, h⟩ := Option.bind_eq_some_iff.1 h
    obtain ⟨v50, h49, h⟩ := Option.bind_eq_some_iff.1 h
    obtain ⟨v52, h51, h⟩ := Option.bind_eq_some_iff.1 h
    obtain ⟨v54, h53, h⟩ := Option.bind_eq_some_iff.1 h
    obtain ⟨v56, h55, h⟩ := Option.bind_eq_some_iff.1 h
    obtain ⟨v58, h57, h⟩ := Option.bind_eq_some_iff.1 h
    obtain ⟨v60, h59, h⟩ := Option.bind_eq_some_iff.1 h
    obtain ⟨v62, h61, h⟩ := Option.bind_eq_some_iff.1 h
    obtain ⟨_, h63, h⟩ := Option.bind_eq_some_iff.1 h
    exact ⟨_, h, weak_ren (l := [some b4, some b6, b14]) (sizedN_ok hz) (distO_ok h63) (LiveR.cons (RefsR.plain (Refs.of_eq (intO_eq h1)) rfl) (LiveR.cons (RefsR.ptr (l := [some b4, some b6, b14]) (i := 0) rfl (ptrN_eq h3)) (LiveR.cons (RefsR.ptr (l := [some b4, some b6, b14]) (i := 1) rfl (ptrN_eq h5)) (LiveR.cons (RefsR.plain (vtO_refs h7) rfl) (LiveR.cons (RefsR.plain (Refs.of_eq (intO_eq h9)) rfl) LiveR.nil))))) (BlksR.cons (rowN_refs h11 rfl (GtRefsR.cons (RefsR.so (l := [some b4, some b6, b14]) (i := 2) rfl (Nat.le_of_ble_eq_true rfl) h13) (GtRefsR.cons (RefsR.plain (Refs.of_eq (intO_eq h15)) rfl) (GtRefsR.cons (RefsR.plain (Refs.of_eq (strO_eq h17)) rfl) GtRefsR.nil))) rfl) (BlksR.cons (rowN_refs h19 rfl (GtRefsR.cons (RefsR.plain (Refs.of_eq (intO_eq h21)) rfl) (GtRefsR.cons (RefsR.plain (Refs.of_eq (intO_eq h23)) rfl) (GtRefsR.cons (RefsR.plain (Refs.of_eq (boolO_eq h25)) rfl) (GtRefsR.cons (RefsR.plain (Refs.of_eq (intO_eq h27)) rfl) (GtRefsR.cons (RefsR.plain (Refs.of_eq (intO_eq h29)) rfl) (GtRefsR.cons (RefsR.plain (Refs.of_eq (intO_eq h31)) rfl) (GtRefsR.cons (RefsR.plain (Refs.of_eq (intO_eq h33)) rfl) (GtRefsR.cons (RefsR.plain (Refs.of_eq (intO_eq h35)) rfl) (GtRefsR.cons (RefsR.plain (Refs.of_eq (intO_eq h37)) rfl) (GtRefsR.cons (RefsR.plain (Refs.of_eq (intO_eq h39)) rfl) (GtRefsR.cons (RefsR.plain (Refs.of_eq (intO_eq h41)) rfl) (GtRefsR.cons (RefsR.plain (Refs.of_eq (intO_eq h43)) rfl) (GtRefsR.cons (RefsR.plain (Refs.of_eq (boolO_eq h45)) rfl) (GtRefsR.cons (RefsR.plain (Refs.of_eq (boolO_eq h47)) rfl) (GtRefsR.cons (RefsR.plain (Refs.of_eq (boolO_eq h49)) rfl) (GtRefsR.cons (RefsR.plain (Refs.of_eq (intO_eq h51)) rfl) (GtRefsR.cons (RefsR.plain (Refs.of_eq (intO_eq h53)) rfl) (GtRefsR.cons (RefsR.plain (Refs.of_eq (intO_eq h55)) rfl) (GtRefsR.cons (RefsR.plain (Refs.of_eq (intO_eq h57)) rfl) (GtRefsR.cons (RefsR.plain (Refs.of_eq (intO_eq h59)) rfl) GtRefsR.nil)))))))))))))))))))) rfl) (BlksR.cons (rtN_blk h61) BlksR.nil)))⟩

def atlasref19_find.q0.x0 : Head (Bool × (List Int) × Int × ByteArray × Int × Int × Bool × Int × Int × Int × Int × Int × Int × Int × Int × Int × Bool × Bool × Bool × Int × Int × Int × Int × Int) where
  k γ s F := (sizedN 52 s).bind fun _ => (ptrN 0 (gt s.tm 2)).bind fun b2 => (ptrN 0 (gt s.tm 3)).bind fun b4 => (boolO (gt s.tm 4)).bind fun v6 => (rowN 43 3 s.hp b2).bind fun l8 => (vtO (.int .i64) (gt l8 0)).bind fun v10 => (intO .i64 (gt l8 1)).bind fun v12 => (strO (gt l8 2)).bind fun v14 => (rowN 27 20 s.hp b4).bind fun l16 => (intO .i64 (gt l16 0)).bind fun v18 => (intO .i64 (gt l16 1)).bind fun v20 => (boolO (gt l16 2)).bind fun v22 => (intO .i64 (gt l16 3)).bind fun v24 => (intO .i64 (gt l16 4)).bind fun v26 => (intO .i64 (gt l16 5)).bind fun v28 => (intO .i64 (gt l16 6)).bind fun v30 => (intO .i64 (gt l16 7)).bind fun v32 => (intO .i64 (gt l16 8)).bind fun v34 => (intO .u32 (gt l16 9)).bind fun v36 => (intO .i64 (gt l16 10)).bind fun v38 => (intO .i64 (gt l16 11)).bind fun v40 => (boolO (gt l16 12)).bind fun v42 => (boolO (gt l16 13)).bind fun v44 => (boolO (gt l16 14)).bind fun v46 => (intO .u16 (gt l16 15)).bind fun v48 => (intO .i64 (gt l16 16)).bind fun v50 => (intO .i64 (gt l16 17)).bind fun v52 => (intO .i64 (gt l16 18)).bind fun v54 => (intO .i64 (gt l16 19)).bind fun v56 => (distO [some b2, some b4]).bind fun _ => F (v6, v10, v12, v14, v18, v20, v22, v24, v26, v28, v30, v32, v34, v36, v38, v40, v42, v44, v46, v48, v50, v52, v54, v56)
  st x := ⟨sparseT [(2, (.ptr 0 0)), (3, (.ptr 1 0)), (4, (.val (.bool x.1)))] 52 0, [.row [(.vt (.int .i64) x.2.1), (.val (.int .i64 x.2.2.1)), (.val (.string x.2.2.2.1))] 43 true, .row [(.val (.int .i64 x.2.2.2.2.1)), (.val (.int .i64 x.2.2.2.2.2.1)), (.val (.bool x.2.2.2.2.2.2.1)), (.val (.int .i64 x.2.2.2.2.2.2.2.1)), (.val (.int .i64 x.2.2.2.2.2.2.2.2.1)), (.val (.int .i64 x.2.2.2.2.2.2.2.2.2.1)), (.val (.int .i64 x.2.2.2.2.2.2.2.2.2.2.1)), (.val (.int .i64 x.2.2.2.2.2.2.2.2.2.2.2.1)), (.val (.int .i64 x.2.2.2.2.2.2.2.2.2.2.2.2.1)), (.val (.int .u32 x.2.2.2.2.2.2.2.2.2.2.2.2.2.1)), (.val (.int .i64 x.2.2.2.2.2.2.2.2.2.2.2.2.2.2.1)), (.val (.int .i64 x.2.2.2.2.2.2.2.2.2.2.2.2.2.2.2.1)), (.val (.bool x.2.2.2.2.2.2.2.2.2.2.2.2.2.2.2.2.1)), (.val (.bool x.2.2.2.2.2.2.2.2.2.2.2.2.2.2.2.2.2.1)), (.val (.bool x.2.2.2.2.2.2.2.2.2.2.2.2.2.2.2.2.2.2.1)), (.val (.int .u16 x.2.2.2.2.2.2.2.2.2.2.2.2.2.2.2.2.2.2.2.1)), (.val (.int .i64 x.2.2.2.2.2.2.2.2.2.2.2.2.2.2.2.2.2.2.2.2.1)), (.val (.int .i64 x.2.2.2.2.2.2.2.2.2.2.2.2.2.2.2.2.2.2.2.2.2.1)), (.val (.int .i64 x.2.2.2.2.2.2.2.2.2.2.2.2.2.2.2.2.2.2.2.2.2.2.1)), (.val (.int .i64 x.2.2.2.2.2.2.2.2.2.2.2.2.2.2.2.2.2.2.2.2.2.2.2))] 27 true]⟩
  ok γ s F r h := by
    obtain ⟨_, hz, h⟩ := Option.bind_eq_some_iff.1 h
    obtain ⟨b2, h1, h⟩ := Option.bind_eq_some_iff.1 h
    obtain ⟨b4, h3, h⟩ := Option.bind_eq_some_iff.1 h
    obtain ⟨v6, h5, h⟩ := Option.bind_eq_some_iff.1 h
    obtain ⟨l8, h7, h⟩ := Option.bind_eq_some_iff.1 h
    obtain ⟨v10, h9, h⟩ := Option.bind_eq_some_iff.1 h
    obtain ⟨v12, h11, h⟩ := Option.bind_eq_some_iff.1 h
    obtain ⟨v14, h13, h⟩ := Option.bind_eq_some_iff.1 h
    obtain ⟨l16, h15, h⟩ := Option.bind_eq_some_iff.1 h
    obtain ⟨v18, h17, h⟩ := Option.bind_eq_some_iff.1 h
    obtain ⟨v20, h19, h⟩ := Option.bind_eq_some_iff.1 h
    obtain ⟨v22, h21, h⟩ := Option.bind_eq_some_iff.1 h
    obtain ⟨v24, h23, h⟩ := Option.bind_eq_some_iff.1 h
    obtain ⟨v26, h25, h⟩ := Option.bind_eq_some_iff.1 h
    obtain ⟨v28, h27, h⟩ := Option.bind_eq_some_iff.1 h
    obtain ⟨v30, h29, h⟩ := Option.bind_eq_some_iff.1 h
    obtain ⟨v32, h31, h⟩ := Option.bind_eq_some_iff.1 h
    obtain ⟨v34, h33, h⟩ := Option.bind_eq_some_iff.1 h
    obtain ⟨v36, h35, h⟩ := Option.bind_eq_some_iff.1 h
    obtain ⟨v38, h37, h⟩ := Option.bind_eq_some_iff.1 h
    obtain ⟨v40, h39, h⟩ := Option.bind_eq_some_iff.1 h
    obtain ⟨v42, h41, h⟩ := Option.bind_eq_some_iff.1 h
    obtain ⟨v44, h43, h⟩ := Option.bind_eq_some_iff.1 h
    obtain ⟨v46, h45, h⟩ := Option.bind_eq_some_iff.1 h
    obtain ⟨v48, h47, h⟩ := Option.bind_eq_some_iff.1 h
    obtain ⟨v50, h49, h⟩ := Option.bind_eq_some_iff.1 h
    obtain ⟨v52, h51, h⟩ := Option.bind_eq_some_iff.1 h
    obtain ⟨v54, h53, h⟩ := Option.bind_eq_some_iff.1 h
    obtain ⟨v56, h55, h⟩ := Option.bind_eq_some_iff.1 h
    obtain ⟨_, h57, h⟩ := Option.bind_eq_some_iff.1 h
    exact ⟨_, h, weak_ren (l := [some b2, some b4]) (sizedN_ok hz) (distO_ok h57) (LiveR.cons (RefsR.ptr (l := [some b2, some b4]) (i := 0) rfl (ptrN_eq h1)) (LiveR.cons (RefsR.ptr (l := [some b2, some b4]) (i := 1) rfl (ptrN_eq h3)) (LiveR.cons (RefsR.plain (Refs.of_eq (boolO_eq h5)) rfl) LiveR.nil))) (BlksR.cons (rowN_refs h7 rfl (GtRefsR.cons (RefsR.plain (vtO_refs h9) rfl) (GtRefsR.cons (RefsR.plain (Refs.of_eq (intO_eq h11)) rfl) (GtRefsR.cons (RefsR.plain (Refs.of_eq (strO_eq h13)) rfl) GtRefsR.nil))) rfl) (BlksR.cons (rowN_refs h15 rfl (GtRefsR.cons (RefsR.plain (Refs.of_eq (intO_eq h17)) rfl) (GtRefsR.cons (RefsR.plain (Refs.of_eq (intO_eq h19)) rfl) (GtRefsR.cons (RefsR.plain (Refs.of_eq (boolO_eq h21)) rfl) (GtRefsR.cons (RefsR.plain (Refs.of_eq (intO_eq h23)) rfl) (GtRefsR.cons (RefsR.plain (Refs.of_eq (intO_eq h25)) rfl) (GtRefsR.cons (RefsR.plain (Refs.of_eq (intO_eq h27)) rfl) (GtRefsR.cons (RefsR.plain (Refs.of_eq (intO_eq h29)) rfl) (GtRefsR.cons (RefsR.plain (Refs.of_eq (intO_eq h31)) rfl) (GtRefsR.cons (RefsR.plain (Refs.of_eq (intO_eq h33)) rfl) (GtRefsR.cons (RefsR.plain (Refs.of_eq (intO_eq h35)) rfl) (GtRefsR.cons (RefsR.plain (Refs.of_eq (intO_eq h37)) rfl) (GtRefsR.cons (RefsR.plain (Refs.of_eq (intO_eq h39)) rfl) (GtRefsR.cons (RefsR.plain (Refs.of_eq (boolO_eq h41)) rfl) (GtRefsR.cons (RefsR.plain (Refs.of_eq (boolO_eq h43)) rfl) (GtRefsR.cons (RefsR.plain (Refs.of_eq (boolO_eq h45)) rfl) (GtRefsR.cons (RefsR.plain (Refs.of_eq (intO_eq h47)) rfl) (GtRefsR.cons (RefsR.plain (Refs.of_eq (intO_eq h49)) rfl) (GtRefsR.cons (RefsR.plain (Refs.of_eq (intO_eq h51)) rfl) (GtRefsR.cons (RefsR.plain (Refs.of_eq (intO_eq h53)) rfl) (GtRefsR.cons (RefsR.plain (Refs.of_eq (intO_eq h55)) rfl) GtRefsR.nil)))))))))))))))))))) rfl) BlksR.nil))⟩

def atlasref19_find.q0.x1 : Head (Int × ByteArray × Int × Int × Bool × Int × Int × Int × Int × Int × Int × Int × Int × Int × Bool × Bool × Bool × Int × Int × Int × Int × Int × (List Int)) where
  k γ s F := (sizedN 52 s).bind fun _ => (ptrN 0 (gt s.tm 2)).bind fun b2 => (ptrN 0 (gt s.tm 3)).bind fun b4 => (rowN 43 3 s.hp b2).bind fun l6 => (soN 1 s.hp (gt l6 0)).bind fun b8 => (intO .i64 (gt l6 1)).bind fun v10 => (strO (gt l6 2)).bind fun v12 => (rowN 27 20 s.hp b4).bind fun l14 => (intO .i64 (gt l14 0)).bind fun v16 => (intO .i64 (gt l14 1)).bind fun v18 => (boolO (gt l14 2)).bind fun v20 => (intO .i64 (gt l14 3)).bind fun v22 => (intO .i64 (gt l14 4)).bind fun v24 => (intO .i64 (gt l14 5)).bind fun v26 => (intO .i64 (gt l14 6)).bind fun v28 => (intO .i64 (gt l14 7)).bind fun v30 => (intO .i64 (gt l14 8)).bind fun v32 => (intO .u32 (gt l14 9)).bind fun v34 => (intO .i64 (gt l14 10)).bind fun v36 => (intO .i64 (gt l14 11)).bind fun v38 => (boolO (gt l14 12)).bind fun v40 => (boolO (gt l14 13)).bind fun v42 => (boolO (gt l14 14)).bind fun v44 => (intO .u16 (gt l14 15)).bind fun v46 => (intO .i64 (gt l14 16)).bind fun v48 => (intO .i64 (gt l14 17)).bind fun v50 => (intO .i64 (gt l14 18)).bind fun v52 => (intO .i64 (gt l14 19)).bind fun v54 => (rtN (.int .i64) 3 s.hp b8).bind fun v56 => (distO [some b2, some b4, b8]).bind fun _ => F (v10, v12, v16, v18, v20, v22, v24, v26, v28, v30, v32, v34, v36, v38, v40, v42, v44, v46, v48, v50, v52, v54, v56)
  st x := ⟨sparseT [(2, (.ptr 0 0)), (3, (.ptr 1 0))] 52 0, [.row [(.so 2 1), (.val (.int .i64 x.1)), (.val (.string x.2.1))] 43 false, .row [(.val (.int .i64 x.2.2.1)), (.val (.int .i64 x.2.2.2.1)), (.val (.bool x.2.2.2.2.1)), (.val (.int .i64 x.2.2.2.2.2.1)), (.val (.int .i64 x.2.2.2.2.2.2.1)), (.val (.int .i64 x.2.2.2.2.2.2.2.1)), (.val (.int .i64 x.2.2.2.2.2.2.2.2.1)), (.val (.int .i64 x.2.2.2.2.2.2.2.2.2.1)), (.val (.int .i64 x.2.2.2.2.2.2.2.2.2.2.1)), (.val (.int .u32 x.2.2.2.2.2.2.2.2.2.2.2.1)), (.val (.int .i64 x.2.2.2.2.2.2.2.2.2.2.2.2.1)), (.val (.int .i64 x.2.2.2.2.2.2.2.2.2.2.2.2.2.1)), (.val (.bool x.2.2.2.2.2.2.2.2.2.2.2.2.2.2.1)), (.val (.bool x.2.2.2.2.2.2.2.2.2.2.2.2.2.2.2.1)), (.val (.bool x.2.2.2.2.2.2.2.2.2.2.2.2.2.2.2.2.1)), (.val (.int .u16 x.2.2.2.2.2.2.2.2.2.2.2.2.2.2.2.2.2.1)), (.val (.int .i64 x.2.2.2.2.2.2.2.2.2.2.2.2.2.2.2.2.2.2.1)), (.val (.int .i64 x.2.2.2.2.2.2.2.2.2.2.2.2.2.2.2.2.2.2.2.1)), (.val (.int .i64 x.2.2.2.2.2.2.2.2.2.2.2.2.2.2.2.2.2.2.2.2.1)), (.val (.int .i64 x.2.2.2.2.2.2.2.2.2.2.2.2.2.2.2.2.2.2.2.2.2.1))] 27 true, .rt (.int .i64) x.2.2.2.2.2.2.2.2.2.2.2.2.2.2.2.2.2.2.2.2.2.2 3]⟩
  ok γ s F r h := by
    obtain ⟨_, hz, h⟩ := Option.bind_eq_some_iff.1 h
    obtain ⟨b2, h1, h⟩ := Option.bind_eq_some_iff.1 h
    obtain ⟨b4, h3, h⟩ := Option.bind_eq_some_iff.1 h
    obtain ⟨l6, h5, h⟩ := Option.bind_eq_some_iff.1 h
    obtain ⟨b8, h7, h⟩ := Option.bind_eq_some_iff.1 h
    obtain ⟨v10, h9, h⟩ := Option.bind_eq_some_iff.1 h
    obtain ⟨v12, h11, h⟩ := Option.bind_eq_some_iff.1 h
    obtain ⟨l14, h13, h⟩ := Option.bind_eq_some_iff.1 h
    obtain ⟨v16, h15, h⟩ := Option.bind_eq_some_iff.1 h
    obtain ⟨v18, h17, h⟩ := Option.bind_eq_some_iff.1 h
    obtain ⟨v20, h19, h⟩ := Option.bind_eq_some_iff.1 h
    obtain ⟨v22, h21, h⟩ := Option.bind_eq_some_iff.1 h
    obtain ⟨v24, h23, h⟩ := Option.bind_eq_some_iff.1 h
    obtain ⟨v26, h25, h⟩ := Option.bind_eq_some_iff.1 h
    obtain ⟨v28, h27, h⟩ := Option.bind_eq_some_iff.1 h
    obtain ⟨v30, h29, h⟩ := Option.bind_eq_some_iff.1 h
    obtain ⟨v32, h31, h⟩ := Option.bind_eq_some_iff.1 h
    obtain ⟨v34, h33, h⟩ := Option.bind_eq_some_iff.1 h
    obtain ⟨v36, h35, h⟩ := Option.bind_eq_some_iff.1 h
    obtain ⟨v38, h37, h⟩ := Option.bind_eq_some_iff.1 h
    obtain ⟨v40, h39, h⟩ := Option.bind_eq_some_iff.1 h
    obtain ⟨v42, h41, h⟩ := Option.bind_eq_some_iff.1 h
    obtain ⟨v44, h43, h⟩ := Option.bind_eq_some_iff.1 h
    obtain ⟨v46, h45, h⟩ := Option.bind_eq_some_iff.1 h
    obtain ⟨v48, h47, h⟩ := Option.bind_eq_some_iff.1 h
    obtain ⟨v50, h49, h⟩ := Option.bind_eq_some_iff.1 h
    obtain ⟨v52, h51, h⟩ := Option.bind_eq_some_iff.1 h
    obtain ⟨v54, h53, h⟩ := Option.bind_eq_some_iff.1 h
    obtain ⟨v56, h55, h⟩ := Option.bind_eq_some_iff.1 h
    obtain ⟨_, h57, h⟩ := Option.bind_eq_some_iff.1 h
    exact ⟨_, h, weak_ren (l := [some b2, some b4, b8]) (sizedN_ok hz) (distO_ok h57) (LiveR.cons (RefsR.ptr (l := [some b2, some b4, b8]) (i := 0) rfl (ptrN_eq h1)) (LiveR.cons (RefsR.ptr (l := [some b2, some b4, b8]) (i := 1) rfl (ptrN_eq h3)) LiveR.nil)) (BlksR.cons (rowN_refs h5 rfl (GtRefsR.cons (RefsR.so (l := [some b2, some b4, b8]) (i := 2) rfl (Nat.le_of_ble_eq_true rfl) h7) (GtRefsR.cons (RefsR.plain (Refs.of_eq (intO_eq h9)) rfl) (GtRefsR.cons (RefsR.plain (Refs.of_eq (strO_eq h11)) rfl) GtRefsR.nil))) rfl) (BlksR.cons (rowN_refs h13 rfl (GtRefsR.cons (RefsR.plain (Refs.of_eq (intO_eq h15)) rfl) (GtRefsR.cons (RefsR.plain (Refs.of_eq (intO_eq h17)) rfl) (GtRefsR.cons (RefsR.plain (Refs.of_eq (boolO_eq h19)) rfl) (GtRefsR.cons (RefsR.plain (Refs.of_eq (intO_eq h21)) rfl) (GtRefsR.cons (RefsR.plain (Refs.of_eq (intO_eq h23)) rfl) (GtRefsR.cons (RefsR.plain (Refs.of_eq (intO_eq h25)) rfl) (GtRefsR.cons (RefsR.plain (Refs.of_eq (intO_eq h27)) rfl) (GtRefsR.cons (RefsR.plain (Refs.of_eq (intO_eq h29)) rfl) (GtRefsR.cons (RefsR.plain (Refs.of_eq (intO_eq h31)) rfl) (GtRefsR.cons (RefsR.plain (Refs.of_eq (intO_eq h33)) rfl) (GtRefsR.cons (RefsR.plain (Refs.of_eq (intO_eq h35)) rfl) (GtRefsR.cons (RefsR.plain (Refs.of_eq (intO_eq h37)) rfl) (GtRefsR.cons (RefsR.plain (Refs.of_eq (boolO_eq h39)) rfl) (GtRefsR.cons (RefsR.plain (Refs.of_eq (boolO_eq h41)) rfl) (GtRefsR.cons (RefsR.plain (Refs.of_eq (boolO_eq h43)) rfl) (GtRefsR.cons (RefsR.plain (Refs.of_eq (intO_eq h45)) rfl) (GtRefsR.cons (RefsR.plain (Refs.of_eq (intO_eq h47)) rfl) (GtRefsR.cons (RefsR.plain (Refs.of_eq (intO_eq h49)) rfl) (GtRefsR.cons (RefsR.plain (Refs.of_eq (intO_eq h51)) rfl) (GtRefsR.cons (RefsR.plain (Refs.of_eq (intO_eq h53)) rfl) GtRefsR.nil)))))))))))))))))))) rfl) (BlksR.cons (rtN_blk h55) BlksR.nil)))⟩

def atlasref19_find.q0.t : Tail ((Bool × (List Int) × Int × ByteArray × Int × Int × Bool × Int × Int × Int × Int × Int × Int × Int × Int × Int × Bool × Bool × Bool × Int × Int × Int × Int × Int) ⊕ (Int × ByteArray × Int × Int × Bool × Int × Int × Int × Int × Int × Int × Int × Int × Int × Bool × Bool × Bool × Int × Int × Int × Int × Int × (List Int))) := Tail.or .ret atlasref19_find.q0.x0 (Tail.one (.exit 0) atlasref19_find.q0.x1)
theorem atlasref19_find.q0.np (y : ((Bool × (List Int) × Int × ByteArray × Int × Int × Bool × Int × Int × Int × Int × Int × Int × Int × Int × Int × Bool × Bool × Bool × Int × Int × Int × Int × Int) ⊕ (Int × ByteArray × Int × Int × Bool × Int × Int × Int × Int × Int × Int × Int × Int × Int × Bool × Bool × Bool × Int × Int × Int × Int × Int × (List Int)))) (v : AV) : (atlasref19_find.q0.t.out y).1 ≠ .panic v := fun h => by rcases y with _ | y <;> first | (cases h; done) | (cases h)
theorem atlasref19_find.q0.nn (y : ((Bool × (List Int) × Int × ByteArray × Int × Int × Bool × Int × Int × Int × Int × Int × Int × Int × Int × Int × Bool × Bool × Bool × Int × Int × Int × Int × Int) ⊕ (Int × ByteArray × Int × Int × Bool × Int × Int × Int × Int × Int × Int × Int × Int × Int × Bool × Bool × Bool × Int × Int × Int × Int × Int × (List Int)))) : (atlasref19_find.q0.t.out y).1 ≠ .normal := fun h => by rcases y with _ | y <;> first | (cases h; done) | (cases h)
def atlasref19_find.q0.l (k : Nat) : Nat → (Int × (List ((List Int) × Int × ByteArray × Unit)) × Int × Int × ByteArray × Int × Int × Bool × Int × Int × Int × Int × Int × Int × Int × Int × Int × Bool × Bool × Bool × Int × Int × Int × Int × Int × (List Int)) → Option ((Bool × (List Int) × Int × ByteArray × Int × Int × Bool × Int × Int × Int × Int × Int × Int × Int × Int × Int × Bool × Bool × Bool × Int × Int × Int × Int × Int) ⊕ (Int × ByteArray × Int × Int × Bool × Int × Int × Int × Int × Int × Int × Int × Int × Int × Bool × Bool × Bool × Int × Int × Int × Int × Int × (List Int)))
  | 0, _ => none
  | n + 1, x => (bif (decide (x.2.2.1 < ((x.2.1.length : Nat) : Int))) then (bif (decide (0 ≤ x.2.2.1) && decide (x.2.2.1 < ((x.2.1.length : Nat) : Int))) then ((atlasref19_fits.f k ((x.2.1.getD (x.2.2.1).toNat ([], 0, ByteArray.empty, ())).2.2.1) x.1).bind fun r2 => (bif (!r2) then (atlasref19_find.q0.l k n (x.1, x.2.1, (IntKind.wrap .i64 (x.2.2.1 + 1)), x.2.2.2.1, x.2.2.2.2.1, x.2.2.2.2.2.1, x.2.2.2.2.2.2.1, x.2.2.2.2.2.2.2.1, x.2.2.2.2.2.2.2.2.1, x.2.2.2.2.2.2.2.2.2.1, x.2.2.2.2.2.2.2.2.2.2.1, x.2.2.2.2.2.2.2.2.2.2.2.1, x.2.2.2.2.2.2.2.2.2.2.2.2.1, x.2.2.2.2.2.2.2.2.2.2.2.2.2.1, x.2.2.2.2.2.2.2.2.2.2.2.2.2.2.1, x.2.2.2.2.2.2.2.2.2.2.2.2.2.2.2.1, x.2.2.2.2.2.2.2.2.2.2.2.2.2.2.2.2.1, x.2.2.2.2.2.2.2.2.2.2.2.2.2.2.2.2.2.1, x.2.2.2.2.2.2.2.2.2.2.2.2.2.2.2.2.2.2.1, x.2.2.2.2.2.2.2.2.2.2.2.2.2.2.2.2.2.2.2.1, x.2.2.2.2.2.2.2.2.2.2.2.2.2.2.2.2.2.2.2.2.1, x.2.2.2.2.2.2.2.2.2.2.2.2.2.2.2.2.2.2.2.2.2.1, x.2.2.2.2.2.2.2.2.2.2.2.2.2.2.2.2.2.2.2.2.2.2.1, x.2.2.2.2.2.2.2.2.2.2.2.2.2.2.2.2.2.2.2.2.2.2.2.1, x.2.2.2.2.2.2.2.2.2.2.2.2.2.2.2.2.2.2.2.2.2.2.2.2.1, x.2.2.2.2.2.2.2.2.2.2.2.2.2.2.2.2.2.2.2.2.2.2.2.2.2)) else (bif (decide (0 ≤ x.2.2.1) && decide (x.2.2.1 < ((x.2.1.length : Nat) : Int))) then ((atlasref19_say.f k (⟨(x.2.1.getD (x.2.2.1).toNat ([], 0, ByteArray.empty, ())).1, (x.2.1.getD (x.2.2.1).toNat ([], 0, ByteArray.empty, ())).2.1, (x.2.1.getD (x.2.2.1).toNat ([], 0, ByteArray.empty, ())).2.2.1⟩ : T42) x.1).bind fun r3 => (bif (decide (0 ≤ x.2.2.1) && decide (x.2.2.1 < ((x.2.1.length : Nat) : Int))) then ((atlasref19_in.f k ((x.2.1.getD (x.2.2.1).toNat ([], 0, ByteArray.empty, ())).1) r3.f1_Op).bind fun r4 => (bif r4 then (bif (decide (0 ≤ x.2.2.1) && decide (x.2.2.1 < ((x.2.1.length : Nat) : Int))) then ((atlasref19_may.f k (⟨(x.2.1.getD (x.2.2.1).toNat ([], 0, ByteArray.empty, ())).1, (x.2.1.getD (x.2.2.1).toNat ([], 0, ByteArray.empty, ())).2.1, (x.2.1.getD (x.2.2.1).toNat ([], 0, ByteArray.empty, ())).2.2.1⟩ : T42) (⟨r3.f0_Cond, r3.f1_Op, r3.f2_S, r3.f3_Form, r3.f4_Rd, r3.f5_Rn, r3.f6_Rm, r3.f7_Rs, r3.f8_Ra, r3.f9_Imm, r3.f10_Shift, r3.f11_Amount, r3.f12_Pre, r3.f13_Up, r3.f14_Write, r3.f15_List, r3.f16_Tuple_CRn, r3.f17_Tuple_Op1, r3.f18_Tuple_CRm, r3.f19_Tuple_Op2⟩ : T26)).bind fun r5 => (bif r5 then (bif (decide (0 ≤ x.2.2.1) && decide (x.2.2.1 < ((x.2.1.length : Nat) : Int))) then (some (Sum.inl (true, (x.2.1.getD (x.2.2.1).toNat ([], 0, ByteArray.empty, ())).1, (x.2.1.getD (x.2.2.1).toNat ([], 0, ByteArray.empty, ())).2.1, (x.2.1.getD (x.2.2.1).toNat ([], 0, ByteArray.empty, ())).2.2.1, r3.f0_Cond, r3.f1_Op, r3.f2_S, r3.f3_Form, r3.f4_Rd, r3.f5_Rn, r3.f6_Rm, r3.f7_Rs, r3.f8_Ra, r3.f9_Imm, r3.f10_Shift, r3.f11_Amount, r3.f12_Pre, r3.f13_Up, r3.f14_Write, r3.f15_List, r3.f16_Tuple_CRn, r3.f17_Tuple_Op1, r3.f18_Tuple_CRm, r3.f19_Tuple_Op2))) else none) else (atlasref19_find.q0.l k n (x.1, x.2.1, (IntKind.wrap .i64 (x.2.2.1 + 1)), x.2.2.2.1, x.2.2.2.2.1, x.2.2.2.2.2.1, x.2.2.2.2.2.2.1, x.2.2.2.2.2.2.2.1, x.2.2.2.2.2.2.2.2.1, x.2.2.2.2.2.2.2.2.2.1, x.2.2.2.2.2.2.2.2.2.2.1, x.2.2.2.2.2.2.2.2.2.2.2.1, x.2.2.2.2.2.2.2.2.2.2.2.2.1, x.2.2.2.2.2.2.2.2.2.2.2.2.2.1, x.2.2.2.2.2.2.2.2.2.2.2.2.2.2.1, x.2.2.2.2.2.2.2.2.2.2.2.2.2.2.2.1, x.2.2.2.2.2.2.2.2.2.2.2.2.2.2.2.2.1, x.2.2.2.2.2.2.2.2.2.2.2.2.2.2.2.2.2.1, x.2.2.2.2.2.2.2.2.2.2.2.2.2.2.2.2.2.2.1, x.2.2.2.2.2.2.2.2.2.2.2.2.2.2.2.2.2.2.2.1, x.2.2.2.2.2.2.2.2.2.2.2.2.2.2.2.2.2.2.2.2.1, x.2.2.2.2.2.2.2.2.2.2.2.2.2.2.2.2.2.2.2.2.2.1, x.2.2.2.2.2.2.2.2.2.2.2.2.2.2.2.2.2.2.2.2.2.2.1, x.2.2.2.2.2.2.2.2.2.2.2.2.2.2.2.2.2.2.2.2.2.2.2.1, x.2.2.2.2.2.2.2.2.2.2.2.2.2.2.2.2.2.2.2.2.2.2.2.2.1, x.2.2.2.2.2.2.2.2.2.2.2.2.2.2.2.2.2.2.2.2.2.2.2.2.2)))) else none) else (atlasref19_find.q0.l k n (x.1, x.2.1, (IntKind.wrap .i64 (x.2.2.1 + 1)), x.2.2.2.1, x.2.2.2.2.1, x.2.2.2.2.2.1, x.2.2.2.2.2.2.1, x.2.2.2.2.2.2.2.1, x.2.2.2.2.2.2.2.2.1, x.2.2.2.2.2.2.2.2.2.1, x.2.2.2.2.2.2.2.2.2.2.1, x.2.2.2.2.2.2.2.2.2.2.2.1, x.2.2.2.2.2.2.2.2.2.2.2.2.1, x.2.2.2.2.2.2.2.2.2.2.2.2.2.1, x.2.2.2.2.2.2.2.2.2.2.2.2.2.2.1, x.2.2.2.2.2.2.2.2.2.2.2.2.2.2.2.1, x.2.2.2.2.2.2.2.2.2.2.2.2.2.2.2.2.1, x.2.2.2.2.2.2.2.2.2.2.2.2.2.2.2.2.2.1, x.2.2.2.2.2.2.2.2.2.2.2.2.2.2.2.2.2.2.1, x.2.2.2.2.2.2.2.2.2.2.2.2.2.2.2.2.2.2.2.1, x.2.2.2.2.2.2.2.2.2.2.2.2.2.2.2.2.2.2.2.2.1, x.2.2.2.2.2.2.2.2.2.2.2.2.2.2.2.2.2.2.2.2.2.1, x.2.2.2.2.2.2.2.2.2.2.2.2.2.2.2.2.2.2.2.2.2.2.1, x.2.2.2.2.2.2.2.2.2.2.2.2.2.2.2.2.2.2.2.2.2.2.2.1, x.2.2.2.2.2.2.2.2.2.2.2.2.2.2.2.2.2.2.2.2.2.2.2.2.1, x.2.2.2.2.2.2.2.2.2.2.2.2.2.2.2.2.2.2.2.2.2.2.2.2.2)))) else none)) else none))) else none) else (some (Sum.inr (x.2.2.2.1, x.2.2.2.2.1, x.2.2.2.2.2.1, x.2.2.2.2.2.2.1, x.2.2.2.2.2.2.2.1, x.2.2.2.2.2.2.2.2.1, x.2.2.2.2.2.2.2.2.2.1, x.2.2.2.2.2.2.2.2.2.2.1, x.2.2.2.2.2.2.2.2.2.2.2.1, x.2.2.2.2.2.2.2.2.2.2.2.2.1, x.2.2.2.2.2.2.2.2.2.2.2.2.2.1, x.2.2.2.2.2.2.2.2.2.2.2.2.2.2.1, x.2.2.2.2.2.2.2.2.2.2.2.2.2.2.2.1, x.2.2.2.2.2.2.2.2.2.2.2.2.2.2.2.2.1, x.2.2.2.2.2.2.2.2.2.2.2.2.2.2.2.2.2.1, x.2.2.2.2.2.2.2.2.2.2.2.2.2.2.2.2.2.2.1, x.2.2.2.2.2.2.2.2.2.2.2.2.2.2.2.2.2.2.2.1, x.2.2.2.2.2.2.2.2.2.2.2.2.2.2.2.2.2.2.2.2.1, x.2.2.2.2.2.2.2.2.2.2.2.2.2.2.2.2.2.2.2.2.2.1, x.2.2.2.2.2.2.2.2.2.2.2.2.2.2.2.2.2.2.2.2.2.2.1, x.2.2.2.2.2.2.2.2.2.2.2.2.2.2.2.2.2.2.2.2.2.2.2.1, x.2.2.2.2.2.2.2.2.2.2.2.2.2.2.2.2.2.2.2.2.2.2.2.2.1, x.2.2.2.2.2.2.2.2.2.2.2.2.2.2.2.2.2.2.2.2.2.2.2.2.2))))
theorem atlasref19_find.q0.z (k : Nat) (x : (Int × (List ((List Int) × Int × ByteArray × Unit)) × Int × Int × ByteArray × Int × Int × Bool × Int × Int × Int × Int × Int × Int × Int × Int × Int × Bool × Bool × Bool × Int × Int × Int × Int × Int × (List Int))) : atlasref19_find.q0.l k 0 x = none := rfl
theorem atlasref19_find.q0.at : codeAt (bodyOf Try.f22) [false, true, false, true, true] = some (.loop (loopBody (bodyOf Try.f22) [false, true, false, true, true])) := by kernel_rfl
theorem atlasref19_find.q0.goes (k n : Nat) (x : (Int × (List ((List Int) × Int × ByteArray × Unit)) × Int × Int × ByteArray × Int × Int × Bool × Int × Int × Int × Int × Int × Int × Int × Int × Int × Bool × Bool × Bool × Int × Int × Int × Int × Int × (List Int))) : E Try.prog (gamOf [(24, atlasref19_Rows.g), (41, atlasref19_fits.g k), (42, atlasref19_say.g k), (25, atlasref19_in.g k), (43, atlasref19_may.g k)]) (lamOf []) (loopBody (bodyOf Try.f22) [false, true, false, true, true]) (false :: [false, true, false, true, true]) (atlasref19_find.q0.h.st x) (contD atlasref19_find.q0.h atlasref19_find.q0.t (atlasref19_find.q0.l k n) some) = atlasref19_find.q0.l k (n + 1) x := by
  kernel_rfl
theorem atlasref19_find.q0.ok_ (k : Nat) : PieceOk Try.prog (bodyOf Try.f22) ⟨[false, true, false, true, true], _, _, atlasref19_find.q0.h, atlasref19_find.q0.t, atlasref19_find.q0.l k k⟩ :=
  piece_loop (gamOf_cons (atlasref19_Rows.ok) atlasref19_Rows.callable (gamOf_cons (atlasref19_fits.ok k) atlasref19_fits.callable (gamOf_cons (atlasref19_say.ok k) atlasref19_say.callable (gamOf_cons (atlasref19_in.ok k) atlasref19_in.callable (gamOf_cons (atlasref19_may.ok k) atlasref19_may.callable (gamOf_nil _)))))) (lamOf_nil _ _) mixed atlasref19_find.q0.at atlasref19_find.q0.np atlasref19_find.q0.nn (atlasref19_find.q0.z k) (atlasref19_find.q0.goes k) k
def atlasref19_find.q0.p (k : Nat) : Piece := ⟨[false, true, false, true, true], _, _, atlasref19_find.q0.h, atlasref19_find.q0.t, atlasref19_find.q0.l k k⟩
theorem atlasref19_find.q0.ok (k : Nat) : PieceOk Try.prog (bodyOf Try.f22) (atlasref19_find.q0.p k) := atlasref19_find.q0.ok_ k
def atlasref19_find.f (k : Nat) (x0 : Int) : Option (T42 × T26 × Bool) := ((atlasref19_Rows.f ).bind fun r1 => ((atlasref19_find.q0.l k k (x0, r1, 0, 0, ByteArray.empty, 0, 0, false, 0, 0, 0, 0, 0, 0, 0, 0, 0, false, false, false, 0, 0, 0, 0, 0, ([] : List Int))).bind fun r6 => (Sum.elim (fun r7 => (some ((⟨r7.2.1, r7.2.2.1, r7.2.2.2.1⟩ : T42), (⟨r7.2.2.2.2.1, r7.2.2.2.2.2.1, r7.2.2.2.2.2.2.1, r7.2.2.2.2.2.2.2.1, r7.2.2.2.2.2.2.2.2.1, r7.2.2.2.2.2.2.2.2.2.1, r7.2.2.2.2.2.2.2.2.2.2.1, r7.2.2.2.2.2.2.2.2.2.2.2.1, r7.2.2.2.2.2.2.2.2.2.2.2.2.1, r7.2.2.2.2.2.2.2.2.2.2.2.2.2.1, r7.2.2.2.2.2.2.2.2.2.2.2.2.2.2.1, r7.2.2.2.2.2.2.2.2.2.2.2.2.2.2.2.1, r7.2.2.2.2.2.2.2.2.2.2.2.2.2.2.2.2.1, r7.2.2.2.2.2.2.2.2.2.2.2.2.2.2.2.2.2.1, r7.2.2.2.2.2.2.2.2.2.2.2.2.2.2.2.2.2.2.1, r7.2.2.2.2.2.2.2.2.2.2.2.2.2.2.2.2.2.2.2.1, r7.2.2.2.2.2.2.2.2.2.2.2.2.2.2.2.2.2.2.2.2.1, r7.2.2.2.2.2.2.2.2.2.2.2.2.2.2.2.2.2.2.2.2.2.1, r7.2.2.2.2.2.2.2.2.2.2.2.2.2.2.2.2.2.2.2.2.2.2.1, r7.2.2.2.2.2.2.2.2.2.2.2.2.2.2.2.2.2.2.2.2.2.2.2⟩ : T26), r7.1))) (fun r8 => (some ((⟨([] : List Int), 0, ByteArray.empty⟩ : T42), (⟨0, 0, false, 0, 0, 0, 0, 0, 0, 0, 0, 0, false, false, false, 0, 0, 0, 0, 0⟩ : T26), false))) r6)))
theorem atlasref19_find.run (k : Nat) (x0 : Int) : runF Try.prog (gamOf [(24, atlasref19_Rows.g), (41, atlasref19_fits.g k), (42, atlasref19_say.g k), (25, atlasref19_in.g k), (43, atlasref19_may.g k)]) (lamOf [atlasref19_find.q0.p k]) Try.f22 [(.val (.int .u32 x0))] some = (atlasref19_find.f k x0).bind fun r => some (.ret (.tup [(T42.av r.1), (T26.av r.2.1), (.val (.bool r.2.2))])) := by
  unfold atlasref19_find.f
  try simp only [cond_bind, elim_bind, Option.bind_some, Option.bind_none, Option.bind_assoc]
  kernel_rfl
def atlasref19_find.g (k : Nat) : GFun := fun β args K => match args with
  | [a0] => (intO .u32 a0).bind fun x0 => (atlasref19_find.f k x0).bind fun r => K (.ret (.tup [(T42.av r.1), (T26.av r.2.1), (.val (.bool r.2.2))]))
  | _ => none
theorem atlasref19_find.callable : callable Try.prog 22 = true := callable_of Try.func22 (by kernel_rfl)
theorem atlasref19_find.ok (k : Nat) : GOk Try.prog 22 (atlasref19_find.g k) := by
  intro β args K r h
  unfold atlasref19_find.g at h
  split at h
  · obtain ⟨x0, e0, h⟩ := Option.bind_eq_some_iff.1 h
    obtain ⟨y, hy, hK⟩ := Option.bind_eq_some_iff.1 h
    have hrun := atlasref19_find.run k x0
    rw [hy] at hrun
    obtain ⟨out, e, hs⟩ := sim_of_run Try.func22 (by kernel_rfl) mixed (gamOf_cons (atlasref19_Rows.ok) atlasref19_Rows.callable (gamOf_cons (atlasref19_fits.ok k) atlasref19_fits.callable (gamOf_cons (atlasref19_say.ok k) atlasref19_say.callable (gamOf_cons (atlasref19_in.ok k) atlasref19_in.callable (gamOf_cons (atlasref19_may.ok k) atlasref19_may.callable (gamOf_nil _)))))) (lamOf_cons (atlasref19_find.q0.ok k) (lamOf_nil _ _)) (args' := [(.val (.int .u32 x0))]) (RefsL.cons (Refs.of_eq (intO_eq e0)) RefsL.nil) hrun
    simp only [Option.some.injEq] at e
    subst e
    exact ⟨_, hK, hs⟩
  · cases h
/-! ### atlas/atlasref19.Decode: function 10 -/
def atlasref19_Decode.f (k : Nat) (x0 : Int) : Option (T26 × Bool) := ((atlasref19_find.f k x0).bind fun r1 => (some ((⟨r1.2.1.f0_Cond, r1.2.1.f1_Op, r1.2.1.f2_S, r1.2.1.f3_Form, r1.2.1.f4_Rd, r1.2.1.f5_Rn, r1.2.1.f6_Rm, r1.2.1.f7_Rs, r1.2.1.f8_Ra, r1.2.1.f9_Imm, r1.2.1.f10_Shift, r1.2.1.f11_Amount, r1.2.1.f12_Pre, r1.2.1.f13_Up, r1.2.1.f14_Write, r1.2.1.f15_List, r1.2.1.f16_Tuple_CRn, r1.2.1.f17_Tuple_Op1, r1.2.1.f18_Tuple_CRm, r1.2.1.f19_Tuple_Op2⟩ : T26), r1.2.2)))
theorem atlasref19_Decode.run (k : Nat) (x0 : Int) : runF Try.prog (gamOf [(22, atlasref19_find.g k)]) noLam Try.f10 [(.val (.int .u32 x0))] some = (atlasref19_Decode.f k x0).bind fun r => some (.ret (.tup [(T26.av r.1), (.val (.bool r.2))])) := by
  unfold atlasref19_Decode.f
  try simp only [cond_bind, elim_bind, Option.bind_some, Option.bind_none, Option.bind_assoc]
  kernel_rfl
def atlasref19_Decode.g (k : Nat) : GFun := fun β args K => match args with
  | [a0] => (intO .u32 a0).bind fun x0 => (atlasref19_Decode.f k x0).bind fun r => K (.ret (.tup [(T26.av r.1), (.val (.bool r.2))]))
  | _ => none
theorem atlasref19_Decode.callable : callable Try.prog 10 = true := callable_of Try.func10 (by kernel_rfl)
theorem atlasref19_Decode.ok (k : Nat) : GOk Try.prog 10 (atlasref19_Decode.g k) := by
  intro β args K r h
  unfold atlasref19_Decode.g at h
  split at h
  · obtain ⟨x0, e0, h⟩ := Option.bind_eq_some_iff.1 h
    obtain ⟨y, hy, hK⟩ := Option.bind_eq_some_iff.1 h
    have hrun := atlasref19_Decode.run k x0
    rw [hy] at hrun
    obtain ⟨out, e, hs⟩ := sim_of_run Try.func10 (by kernel_rfl) mixed (gamOf_cons (atlasref19_find.ok k) atlasref19_find.callable (gamOf_nil _)) (noLam_ok _ _) (args' := [(.val (.int .u32 x0))]) (RefsL.cons (Refs.of_eq (intO_eq e0)) RefsL.nil) hrun
    simp only [Option.some.injEq] at e
    subst e
    exact ⟨_, hK, hs⟩
  · cases h
/-! ### atlas/atlaslaw19.IsaDecodes: function 3 -/
def atlaslaw19_IsaDecodes.f (k : Nat) (x0 : Int) : Option (Bool) := ((isa_Decode.f k x0).bind fun r1 => ((atlasref19_Decode.f k x0).bind fun r2 => (bif ((r1.1.f0_Cond == r2.1.f0_Cond) && ((r1.1.f1_Op == r2.1.f1_Op) && ((r1.1.f2_S == r2.1.f2_S) && ((r1.1.f3_Form == r2.1.f3_Form) && ((r1.1.f4_Rd == r2.1.f4_Rd) && ((r1.1.f5_Rn == r2.1.f5_Rn) && ((r1.1.f6_Rm == r2.1.f6_Rm) && ((r1.1.f7_Rs == r2.1.f7_Rs) && ((r1.1.f8_Ra == r2.1.f8_Ra) && ((r1.1.f9_Imm == r2.1.f9_Imm) && ((r1.1.f10_Shift == r2.1.f10_Shift) && ((r1.1.f11_Amount == r2.1.f11_Amount) && ((r1.1.f12_Pre == r2.1.f12_Pre) && ((r1.1.f13_Up == r2.1.f13_Up) && ((r1.1.f14_Write == r2.1.f14_Write) && ((r1.1.f15_List == r2.1.f15_List) && (((r1.1.f16_Tuple_CRn == r2.1.f16_Tuple_CRn) && ((r1.1.f17_Tuple_Op1 == r2.1.f17_Tuple_Op1) && ((r1.1.f18_Tuple_CRm == r2.1.f18_Tuple_CRm) && ((r1.1.f19_Tuple_Op2 == r2.1.f19_Tuple_Op2) && true)))) && true))))))))))))))))) then (some (r1.2 == r2.2)) else (some false))))
theorem atlaslaw19_IsaDecodes.run (k : Nat) (x0 : Int) : runF Try.prog (gamOf [(9, isa_Decode.g k), (10, atlasref19_Decode.g k)]) noLam Try.f3 [(.val (.int .u32 x0))] some = (atlaslaw19_IsaDecodes.f k x0).bind fun r => some (.ret (.val (.bool r))) := by
  unfold atlaslaw19_IsaDecodes.f
  try simp only [cond_bind, elim_bind, Option.bind_some, Option.bind_none, Option.bind_assoc]
  kernel_rfl
def atlaslaw19_IsaDecodes.g (k : Nat) : GFun := fun β args K => match args with
  | [a0] => (intO .u32 a0).bind fun x0 => (atlaslaw19_IsaDecodes.f k x0).bind fun r => K (.ret (.val (.bool r)))
  | _ => none
theorem atlaslaw19_IsaDecodes.callable : callable Try.prog 3 = true := callable_of Try.func3 (by kernel_rfl)
theorem atlaslaw19_IsaDecodes.ok (k : Nat) : GOk Try.prog 3 (atlaslaw19_IsaDecodes.g k) := by
  intro β args K r h
  unfold atlaslaw19_IsaDecodes.g at h
  split at h
  · obtain ⟨x0, e0, h⟩ := Option.bind_eq_some_iff.1 h
    obtain ⟨y, hy, hK⟩ := Option.bind_eq_some_iff.1 h
    have hrun := atlaslaw19_IsaDecodes.run k x0
    rw [hy] at hrun
    obtain ⟨out, e, hs⟩ := sim_of_run Try.func3 (by kernel_rfl) mixed (gamOf_cons (isa_Decode.ok k) isa_Decode.callable (gamOf_cons (atlasref19_Decode.ok k) atlasref19_Decode.callable (gamOf_nil _))) (noLam_ok _ _) (args' := [(.val (.int .u32 x0))]) (RefsL.cons (Refs.of_eq (intO_eq e0)) RefsL.nil) hrun
    simp only [Option.some.injEq] at e
    subst e
    exact ⟨_, hK, hs⟩
  · cases h
/-! ### atlas/atlasref19.lay: function 52 -/
def atlasref19_lay.q0.h : Head (ByteArray × Int × Int × Int × Int × Int) where
  k γ s F := (sizedN 39 s).bind fun _ => (strO (gt s.tm 0)).bind fun v2 => (intO .u8 (gt s.tm 1)).bind fun v4 => (intO .u32 (gt s.tm 2)).bind fun v6 => (intO .u32 (gt s.tm 3)).bind fun v8 => (intO .i64 (gt s.tm 9)).bind fun v10 => (intO .i64 (gt s.tm 10)).bind fun v12 => (distO []).bind fun _ => F (v2, v4, v6, v8, v10, v12)
  st x := ⟨sparseT [(0, (.val (.string x.1))), (1, (.val (.int .u8 x.2.1))), (2, (.val (.int .u32 x.2.2.1))), (3, (.val (.int .u32 x.2.2.2.1))), (9, (.val (.int .i64 x.2.2.2.2.1))), (10, (.val (.int .i64 x.2.2.2.2.2)))] 39 0, []⟩
  ok γ s F r h := by
    obtain ⟨_, hz, h⟩ := Option.bind_eq_some_iff.1 h
    obtain ⟨v2, h1, h⟩ := Option.bind_eq_some_iff.1 h
    obtain ⟨v4, h3, h⟩ := Option.bind_eq_some_iff.1 h
    obtain ⟨v6, h5, h⟩ := Option.bind_eq_some_iff.1 h
    obtain ⟨v8, h7, h⟩ := Option.bind_eq_some_iff.1 h
    obtain ⟨v10, h9, h⟩ := Option.bind_eq_some_iff.1 h
    obtain ⟨v12, h11, h⟩ := Option.bind_eq_some_iff.1 h
    obtain ⟨_, h13, h⟩ := Option.bind_eq_some_iff.1 h
    exact ⟨_, h, weak_ren (l := []) (sizedN_ok hz) (distO_ok h13) (LiveR.cons (RefsR.plain (Refs.of_eq (strO_eq h1)) rfl) (LiveR.cons (RefsR.plain (Refs.of_eq (intO_eq h3)) rfl) (LiveR.cons (RefsR.plain (Refs.of_eq (intO_eq h5)) rfl) (LiveR.cons (RefsR.plain (Refs.of_eq (intO_eq h7)) rfl) (LiveR.cons (RefsR.plain (Refs.of_eq (intO_eq h9)) rfl) (LiveR.cons (RefsR.plain (Refs.of_eq (intO_eq h11)) rfl) LiveR.nil)))))) BlksR.nil⟩

def atlasref19_lay.q0.x0 : Head (Int) where
  k γ s F := (sizedN 39 s).bind fun _ => (intO .u32 (gt s.tm 2)).bind fun v2 => (distO []).bind fun _ => F (v2)
  st x := ⟨sparseT [(2, (.val (.int .u32 x)))] 39 0, []⟩
  ok γ s F r h := by
    obtain ⟨_, hz, h⟩ := Option.bind_eq_some_iff.1 h
    obtain ⟨v2, h1, h⟩ := Option.bind_eq_some_iff.1 h
    obtain ⟨_, h3, h⟩ := Option.bind_eq_some_iff.1 h
    exact ⟨_, h, weak_ren (l := []) (sizedN_ok hz) (distO_ok h3) (LiveR.cons (RefsR.plain (Refs.of_eq (intO_eq h1)) rfl) LiveR.nil) BlksR.nil⟩

def atlasref19_lay.q0.t : Tail (Int) := Tail.one (.exit 0) atlasref19_lay.q0.x0
theorem atlasref19_lay.q0.np (y : (Int)) (v : AV) : (atlasref19_lay.q0.t.out y).1 ≠ .panic v := fun h => by cases h
theorem atlasref19_lay.q0.nn (y : (Int)) : (atlasref19_lay.q0.t.out y).1 ≠ .normal := fun h => by cases h
def atlasref19_lay.q0.l (k : Nat) : Nat → (ByteArray × Int × Int × Int × Int × Int) → Option (Int)
  | 0, _ => none
  | n + 1, x => (bif (decide (x.2.2.2.2.2 ≥ 0)) then (bif (decide (0 ≤ x.2.2.2.2.2) && decide (x.2.2.2.2.2 < ((x.1).size : Int))) then (bif ((byteAt x.1 x.2.2.2.2.2) == 32) then (atlasref19_lay.q0.l k n (x.1, x.2.1, x.2.2.1, x.2.2.2.1, x.2.2.2.2.1, (IntKind.wrap .i64 (x.2.2.2.2.2 - 1)))) else (bif (decide (0 ≤ x.2.2.2.2.2) && decide (x.2.2.2.2.2 < ((x.1).size : Int))) then (bif ((byteAt x.1 x.2.2.2.2.2) == x.2.1) then (bif decide ((IntKind.wrap .u64 x.2.2.2.2.1) < 0) then none else (atlasref19_lay.q0.l k n (x.1, x.2.1, (IntKind.wrap .u32 (x.2.2.1 + (shlI .u32 (Int.tmod x.2.2.2.1 2) (IntKind.wrap .u64 x.2.2.2.2.1)))), (IntKind.wrap .u32 (Int.tdiv x.2.2.2.1 2)), (IntKind.wrap .i64 (x.2.2.2.2.1 + 1)), (IntKind.wrap .i64 (x.2.2.2.2.2 - 1))))) else (atlasref19_lay.q0.l k n (x.1, x.2.1, x.2.2.1, x.2.2.2.1, (IntKind.wrap .i64 (x.2.2.2.2.1 + 1)), (IntKind.wrap .i64 (x.2.2.2.2.2 - 1))))) else none)) else none) else (some x.2.2.1))
theorem atlasref19_lay.q0.z (k : Nat) (x : (ByteArray × Int × Int × Int × Int × Int)) : atlasref19_lay.q0.l k 0 x = none := rfl
theorem atlasref19_lay.q0.at : codeAt (bodyOf Try.f52) [false, true, false, true, true] = some (.loop (loopBody (bodyOf Try.f52) [false, true, false, true, true])) := by kernel_rfl
theorem atlasref19_lay.q0.goes (k n : Nat) (x : (ByteArray × Int × Int × Int × Int × Int)) : E Try.prog (gamOf []) (lamOf []) (loopBody (bodyOf Try.f52) [false, true, false, true, true]) (false :: [false, true, false, true, true]) (atlasref19_lay.q0.h.st x) (contD atlasref19_lay.q0.h atlasref19_lay.q0.t (atlasref19_lay.q0.l k n) some) = atlasref19_lay.q0.l k (n + 1) x := by
  kernel_rfl
theorem atlasref19_lay.q0.ok_ (k : Nat) : PieceOk Try.prog (bodyOf Try.f52) ⟨[false, true, false, true, true], _, _, atlasref19_lay.q0.h, atlasref19_lay.q0.t, atlasref19_lay.q0.l k k⟩ :=
  piece_loop (gamOf_nil _) (lamOf_nil _ _) mixed atlasref19_lay.q0.at atlasref19_lay.q0.np atlasref19_lay.q0.nn (atlasref19_lay.q0.z k) (atlasref19_lay.q0.goes k) k
def atlasref19_lay.q0.p (k : Nat) : Piece := ⟨[false, true, false, true, true], _, _, atlasref19_lay.q0.h, atlasref19_lay.q0.t, atlasref19_lay.q0.l k k⟩
theorem atlasref19_lay.q0.ok (k : Nat) : PieceOk Try.prog (bodyOf Try.f52) (atlasref19_lay.q0.p k) := atlasref19_lay.q0.ok_ k
def atlasref19_lay.f (k : Nat) (x0 : ByteArray) (x1 : Int) (x2 : Int) (x3 : Int) : Option (Int) := ((atlasref19_lay.q0.l k k (x0, x1, x2, x3, 0, (IntKind.wrap .i64 (((x0).size : Int) - 1)))).bind fun r1 => (some r1))
theorem atlasref19_lay.run (k : Nat) (x0 : ByteArray) (x1 : Int) (x2 : Int) (x3 : Int) : runF Try.prog (gamOf []) (lamOf [atlasref19_lay.q0.p k]) Try.f52 [(.val (.string x0)), (.val (.int .u8 x1)), (.val (.int .u32 x2)), (.val (.int .u32 x3))] some = (atlasref19_lay.f k x0 x1 x2 x3).bind fun r => some (.ret (.val (.int .u32 r))) := by
  unfold atlasref19_lay.f
  try simp only [cond_bind, elim_bind, Option.bind_some, Option.bind_none, Option.bind_assoc]
  kernel_rfl
def atlasref19_lay.g (k : Nat) : GFun := fun β args K => match args with
  | [a0, a1, a2, a3] => (strO a0).bind fun x0 => (intO .u8 a1).bind fun x1 => (intO .u32 a2).bind fun x2 => (intO .u32 a3).bind fun x3 => (atlasref19_lay.f k x0 x1 x2 x3).bind fun r => K (.ret (.val (.int .u32 r)))
  | _ => none
theorem atlasref19_lay.callable : callable Try.prog 52 = true := callable_of Try.func52 (by kernel_rfl)
theorem atlasref19_lay.ok (k : Nat) : GOk Try.prog 52 (atlasref19_lay.g k) := by
  intro β args K r h
  unfold atlasref19_lay.g at h
  split at h
  · obtain ⟨x0, e0, h⟩ := Option.bind_eq_some_iff.1 h
    obtain ⟨x1, e1, h⟩ := Option.bind_eq_some_iff.1 h
    obtain ⟨x2, e2, h⟩ := Option.bind_eq_some_iff.1 h
    obtain ⟨x3, e3, h⟩ := Option.bind_eq_some_iff.1 h
    obtain ⟨y, hy, hK⟩ := Option.bind_eq_some_iff.1 h
    have hrun := atlasref19_lay.run k x0 x1 x2 x3
    rw [hy] at hrun
    obtain ⟨out, e, hs⟩ := sim_of_run Try.func52 (by kernel_rfl) mixed (gamOf_nil _) (lamOf_cons (atlasref19_lay.q0.ok k) (lamOf_nil _ _)) (args' := [(.val (.string x0)), (.val (.int .u8 x1)), (.val (.int .u32 x2)), (.val (.int .u32 x3))]) (RefsL.cons (Refs.of_eq (strO_eq e0)) (RefsL.cons (Refs.of_eq (intO_eq e1)) (RefsL.cons (Refs.of_eq (intO_eq e2)) (RefsL.cons (Refs.of_eq (intO_eq e3)) RefsL.nil)))) hrun
    simp only [Option.some.injEq] at e
    subst e
    exact ⟨_, hK, hs⟩
  · cases h
/-! ### atlas/atlasref19.bit: function 53 -/
def atlasref19_bit.f (x0 : Bool) : Option (Int) := (bif x0 then (some 1) else (some 0))
theorem atlasref19_bit.run (x0 : Bool) : runF Try.prog (gamOf []) noLam Try.f53 [(.val (.bool x0))] some = (atlasref19_bit.f x0).bind fun r => some (.ret (.val (.int .u32 r))) := by
  unfold atlasref19_bit.f
  try simp only [cond_bind, elim_bind, Option.bind_some, Option.bind_none, Option.bind_assoc]
  kernel_rfl
def atlasref19_bit.g : GFun := fun β args K => match args with
  | [a0] => (boolO a0).bind fun x0 => (atlasref19_bit.f x0).bind fun r => K (.ret (.val (.int .u32 r)))
  | _ => none
theorem atlasref19_bit.callable : callable Try.prog 53 = true := callable_of Try.func53 (by kernel_rfl)
theorem atlasref19_bit.ok : GOk Try.prog 53 (atlasref19_bit.g) := by
  intro β args K r h
  unfold atlasref19_bit.g at h
  split at h
  · obtain ⟨x0, e0, h⟩ := Option.bind_eq_some_iff.1 h
    obtain ⟨y, hy, hK⟩ := Option.bind_eq_some_iff.1 h
    have hrun := atlasref19_bit.run x0
    rw [hy] at hrun
    obtain ⟨out, e, hs⟩ := sim_of_run Try.func53 (by kernel_rfl) mixed (gamOf_nil _) (noLam_ok _ _) (args' := [(.val (.bool x0))]) (RefsL.cons (Refs.of_eq (boolO_eq e0)) RefsL.nil) hrun
    simp only [Option.some.injEq] at e
    subst e
    exact ⟨_, hK, hs⟩
  · cases h
/-! ### atlas/atlasref19.word: function 26 -/
def atlasref19_word.q0.h : Head (ByteArray × Int × ByteArray × Int × (List Int)) where
  k γ s F := (sizedN 105 s).bind fun _ => (strO (gt s.tm 5)).bind fun v2 => (intO .u32 (gt s.tm 6)).bind fun v4 => (strO (gt s.tm 8)).bind fun v6 => (soN 1 s.hp (gt s.tm 9)).bind fun b8 => (intO .i64 (gt s.tm 10)).bind fun v10 => (rtN (.int .u32) 22 s.hp b8).bind fun v12 => (distO [b8]).bind fun _ => F (v2, v4, v6, v10, v12)
  st x := ⟨sparseT [(5, (.val (.string x.1))), (6, (.val (.int .u32 x.2.1))), (8, (.val (.string x.2.2.1))), (9, (.so 0 1)), (10, (.val (.int .i64 x.2.2.2.1)))] 105 0, [.rt (.int .u32) x.2.2.2.2 22]⟩
  ok γ s F r h := by
    obtain ⟨_, hz, h⟩ := Option.bind_eq_some_iff.1 h
    obtain ⟨v2, h1, h⟩ := Option.bind_eq_some_iff.1 h
    obtain ⟨v4, h3, h⟩ := Option.bind_eq_some_iff.1 h
    obtain ⟨v6, h5, h⟩ := Option.bind_eq_some_iff.1 h
    obtain ⟨b8, h7, h⟩ := Option.bind_eq_some_iff.1 h
    obtain ⟨v10, h9, h⟩ := Option.bind_eq_some_iff.1 h
    obtain ⟨v12, h11, h⟩ := Option.bind_eq_some_iff.1 h
    obtain ⟨_, h13, h⟩ := Option.bind_eq_some_iff.1 h
    exact ⟨_, h, weak_ren (l := [b8]) (sizedN_ok hz) (distO_ok h13) (LiveR.cons (RefsR.plain (Refs.of_eq (strO_eq h1)) rfl) (LiveR.cons (RefsR.plain (Refs.of_eq (intO_eq h3)) rfl) (LiveR.cons (RefsR.plain (Refs.of_eq (strO_eq h5)) rfl) (LiveR.cons (RefsR.so (l := [b8]) (i := 0) rfl (Nat.le_of_ble_eq_true rfl) h7) (LiveR.cons (RefsR.plain (Refs.of_eq (intO_eq h9)) rfl) LiveR.nil))))) (BlksR.cons (rtN_blk h11) BlksR.nil)⟩

def atlasref19_word.q0.x0 : Head (Int) where
  k γ s F := (sizedN 105 s).bind fun _ => (intO .u32 (gt s.tm 6)).bind fun v2 => (distO []).bind fun _ => F (v2)
  st x := ⟨sparseT [(6, (.val (.int .u32 x)))] 105 0, []⟩
  ok γ s F r h := by
    obtain ⟨_, hz, h⟩ := Option.bind_eq_some_iff.1 h
    obtain ⟨v2, h1, h⟩ := Option.bind_eq_some_iff.1 h
    obtain ⟨_, h3, h⟩ := Option.bind_eq_some_iff.1 h
    exact ⟨_, h, weak_ren (l := []) (sizedN_ok hz) (distO_ok h3) (LiveR.cons (RefsR.plain (Refs.of_eq (intO_eq h1)) rfl) LiveR.nil) BlksR.nil⟩

def atlasref19_word.q0.t : Tail (Int) := Tail.one (.exit 0) atlasref19_word.q0.x0
theorem atlasref19_word.q0.np (y : (Int)) (v : AV) : (atlasref19_word.q0.t.out y).1 ≠ .panic v := fun h => by cases h
theorem atlasref19_word.q0.nn (y : (Int)) : (atlasref19_word.q0.t.out y).1 ≠ .normal := fun h => by cases h
def atlasref19_word.q0.l (k : Nat) : Nat → (ByteArray × Int × ByteArray × Int × (List Int)) → Option (Int)
  | 0, _ => none
  | n + 1, x => (bif (decide (x.2.2.2.1 < ((x.2.2.2.2.length : Nat) : Int))) then (bif (decide (0 ≤ x.2.2.2.1) && decide (x.2.2.2.1 < ((x.2.2.1).size : Int))) then (bif (decide (0 ≤ x.2.2.2.1) && decide (x.2.2.2.1 < ((x.2.2.2.2.length : Nat) : Int))) then (bif decide ((x.2.2.2.1).toNat < x.2.2.2.2.length) then ((atlasref19_lay.f k x.1 (byteAt x.2.2.1 x.2.2.2.1) x.2.1 (x.2.2.2.2.getD ((x.2.2.2.1).toNat) 0)).bind fun r6 => (atlasref19_word.q0.l k n (x.1, r6, x.2.2.1, (IntKind.wrap .i64 (x.2.2.2.1 + 1)), x.2.2.2.2))) else none) else none) else none) else (some x.2.1))
theorem atlasref19_word.q0.z (k : Nat) (x : (ByteArray × Int × ByteArray × Int × (List Int))) : atlasref19_word.q0.l k 0 x = none := rfl
theorem atlasref19_word.q0.at : codeAt (bodyOf Try.f26) [false, true, false, true, true, true, true, true, true, true] = some (.loop (loopBody (bodyOf Try.f26) [false, true, false, true, true, true, true, true, true, true])) := by kernel_rfl
theorem atlasref19_word.q0.goes (k n : Nat) (x : (ByteArray × Int × ByteArray × Int × (List Int))) : E Try.prog (gamOf [(52, atlasref19_lay.g k), (53, atlasref19_bit.g)]) (lamOf []) (loopBody (bodyOf Try.f26) [false, true, false, true, true, true, true, true, true, true]) (false :: [false, true, false, true, true, true, true, true, true, true]) (atlasref19_word.q0.h.st x) (contD atlasref19_word.q0.h atlasref19_word.q0.t (atlasref19_word.q0.l k n) some) = atlasref19_word.q0.l k (n + 1) x := by
  kernel_rfl
theorem atlasref19_word.q0.ok_ (k : Nat) : PieceOk Try.prog (bodyOf Try.f26) ⟨[false, true, false, true, true, true, true, true, true, true], _, _, atlasref19_word.q0.h, atlasref19_word.q0.t, atlasref19_word.q0.l k k⟩ :=
  piece_loop (gamOf_cons (atlasref19_lay.ok k) atlasref19_lay.callable (gamOf_cons (atlasref19_bit.ok) atlasref19_bit.callable (gamOf_nil _))) (lamOf_nil _ _) mixed atlasref19_word.q0.at atlasref19_word.q0.np atlasref19_word.q0.nn (atlasref19_word.q0.z k) (atlasref19_word.q0.goes k) k
def atlasref19_word.q0.p (k : Nat) : Piece := ⟨[false, true, false, true, true, true, true, true, true, true], _, _, atlasref19_word.q0.h, atlasref19_word.q0.t, atlasref19_word.q0.l k k⟩
theorem atlasref19_word.q0.ok (k : Nat) : PieceOk Try.prog (bodyOf Try.f26) (atlasref19_word.q0.p k) := atlasref19_word.q0.ok_ k
def atlasref19_word.f (k : Nat) (x0 : T42) (x1 : T26) : Option (Int) := ((atlasref19_lay.f k x0.f2_Pattern 49 0 4294967295).bind fun r1 => (bif (x1.f1_Op == 41) then ((atlasref19_bit.f x1.f2_S).bind fun r2 => ((atlasref19_bit.f x1.f12_Pre).bind fun r3 => ((atlasref19_bit.f x1.f13_Up).bind fun r4 => ((atlasref19_bit.f x1.f14_Write).bind fun r5 => ((atlasref19_word.q0.l k k (x0.f2_Pattern, r1, (⟨#[99, 111, 100, 110, 109, 114, 97, 116, 107, 120, 121, 122, 118, 108, 105, 115, 112, 117, 119]⟩ : ByteArray), 0, ([(IntKind.wrap .u32 x1.f0_Cond), (IntKind.wrap .u32 (IntKind.wrap .i64 (x1.f1_Op - 1))), (IntKind.wrap .u32 x1.f4_Rd), (IntKind.wrap .u32 x1.f5_Rn), (IntKind.wrap .u32 x1.f6_Rm), (IntKind.wrap .u32 x1.f7_Rs), (IntKind.wrap .u32 x1.f8_Ra), (IntKind.wrap .u32 x1.f10_Shift), (IntKind.wrap .u32 x1.f11_Amount), (IntKind.wrap .u32 x1.f16_Tuple_CRn), (IntKind.wrap .u32 x1.f17_Tuple_Op1), (IntKind.wrap .u32 x1.f18_Tuple_CRm), (IntKind.wrap .u32 x1.f19_Tuple_Op2), (IntKind.wrap .u32 x1.f15_List), (IntKind.wrap .u32 (Int.tdiv x1.f9_Imm 4)), r2, r3, r4, r5] : List Int))).bind fun r7 => (some r7)))))) else (bif (x1.f1_Op == 42) then ((atlasref19_bit.f x1.f2_S).bind fun r8 => ((atlasref19_bit.f x1.f12_Pre).bind fun r9 => ((atlasref19_bit.f x1.f13_Up).bind fun r10 => ((atlasref19_bit.f x1.f14_Write).bind fun r11 => ((atlasref19_word.q0.l k k (x0.f2_Pattern, r1, (⟨#[99, 111, 100, 110, 109, 114, 97, 116, 107, 120, 121, 122, 118, 108, 105, 115, 112, 117, 119]⟩ : ByteArray), 0, ([(IntKind.wrap .u32 x1.f0_Cond), (IntKind.wrap .u32 (IntKind.wrap .i64 (x1.f1_Op - 1))), (IntKind.wrap .u32 x1.f4_Rd), (IntKind.wrap .u32 x1.f5_Rn), (IntKind.wrap .u32 x1.f6_Rm), (IntKind.wrap .u32 x1.f7_Rs), (IntKind.wrap .u32 x1.f8_Ra), (IntKind.wrap .u32 x1.f10_Shift), (IntKind.wrap .u32 x1.f11_Amount), (IntKind.wrap .u32 x1.f16_Tuple_CRn), (IntKind.wrap .u32 x1.f17_Tuple_Op1), (IntKind.wrap .u32 x1.f18_Tuple_CRm), (IntKind.wrap .u32 x1.f19_Tuple_Op2), (IntKind.wrap .u32 x1.f15_List), (IntKind.wrap .u32 (Int.tdiv x1.f9_Imm 4)), r8, r9, r10, r11] : List Int))).bind fun r12 => (some r12)))))) else ((atlasref19_bit.f x1.f2_S).bind fun r13 => ((atlasref19_bit.f x1.f12_Pre).bind fun r14 => ((atlasref19_bit.f x1.f13_Up).bind fun r15 => ((atlasref19_bit.f x1.f14_Write).bind fun r16 => ((atlasref19_word.q0.l k k (x0.f2_Pattern, r1, (⟨#[99, 111, 100, 110, 109, 114, 97, 116, 107, 120, 121, 122, 118, 108, 105, 115, 112, 117, 119]⟩ : ByteArray), 0, ([(IntKind.wrap .u32 x1.f0_Cond), (IntKind.wrap .u32 (IntKind.wrap .i64 (x1.f1_Op - 1))), (IntKind.wrap .u32 x1.f4_Rd), (IntKind.wrap .u32 x1.f5_Rn), (IntKind.wrap .u32 x1.f6_Rm), (IntKind.wrap .u32 x1.f7_Rs), (IntKind.wrap .u32 x1.f8_Ra), (IntKind.wrap .u32 x1.f10_Shift), (IntKind.wrap .u32 x1.f11_Amount), (IntKind.wrap .u32 x1.f16_Tuple_CRn), (IntKind.wrap .u32 x1.f17_Tuple_Op1), (IntKind.wrap .u32 x1.f18_Tuple_CRm), (IntKind.wrap .u32 x1.f19_Tuple_Op2), (IntKind.wrap .u32 x1.f15_List), x1.f9_Imm, r13, r14, r15, r16] : List Int))).bind fun r17 => (some r17)))))))))
theorem atlasref19_word.run (k : Nat) (x0 : T42) (x1 : T26) : runF Try.prog (gamOf [(52, atlasref19_lay.g k), (53, atlasref19_bit.g)]) (lamOf [atlasref19_word.q0.p k]) Try.f26 [(T42.av x0), (T26.av x1)] some = (atlasref19_word.f k x0 x1).bind fun r => some (.ret (.val (.int .u32 r))) := by
  unfold atlasref19_word.f
  try simp only [cond_bind, elim_bind, Option.bind_some, Option.bind_none, Option.bind_assoc]
  kernel_rfl
def atlasref19_word.g (k : Nat) : GFun := fun β args K => match args with
  | [a0, a1] => (T42.of a0).bind fun x0 => (T26.of a1).bind fun x1 => (atlasref19_word.f k x0 x1).bind fun r => K (.ret (.val (.int .u32 r)))
  | _ => none
theorem atlasref19_word.callable : callable Try.prog 26 = true := callable_of Try.func26 (by kernel_rfl)
theorem atlasref19_word.ok (k : Nat) : GOk Try.prog 26 (atlasref19_word.g k) := by
  intro β args K r h
  unfold atlasref19_word.g at h
  split at h
  · obtain ⟨x0, e0, h⟩ := Option.bind_eq_some_iff.1 h
    obtain ⟨x1, e1, h⟩ := Option.bind_eq_some_iff.1 h
    obtain ⟨y, hy, hK⟩ := Option.bind_eq_some_iff.1 h
    have hrun := atlasref19_word.run k x0 x1
    rw [hy] at hrun
    obtain ⟨out, e, hs⟩ := sim_of_run Try.func26 (by kernel_rfl) mixed (gamOf_cons (atlasref19_lay.ok k) atlasref19_lay.callable (gamOf_cons (atlasref19_bit.ok) atlasref19_bit.callable (gamOf_nil _))) (lamOf_cons (atlasref19_word.q0.ok k) (lamOf_nil _ _)) (args' := [(T42.av x0), (T26.av x1)]) (RefsL.cons (T42.refs e0) (RefsL.cons (T26.refs e1) RefsL.nil)) hrun
    simp only [Option.some.injEq] at e
    subst e
    exact ⟨_, hK, hs⟩
  · cases h
end Go.Va
