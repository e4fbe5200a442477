-- Written by a program of this session (wip/va/vaprint.py). Not trusted: Lean checks it.
import Derived.Test.YtmphkmoakamepaaVaTy
import Derived.Test.YtmphkmoakamepaaVf8
import Derived.Test.YtmphkmoakamepaaVf9
set_option linter.unusedVariables false
set_option linter.unusedSimpArgs false
set_option autoImplicit false
set_option maxRecDepth 100000
namespace Go.Va
open Go.Proofs
/-! ### atlas/atlasref23.Write: function 18 -/
def atlasref23_Write.q0.h : Head ((List Int) × Int × Int × Int × SgL × SyL × (List Int) × (List Int)) where
  k γ s F := (sizedN 254 s).bind fun _ => (ptrN 0 (gt s.tm 1)).bind fun b2 => (vtO (.int .u64) (gt s.tm 4)).bind fun v4 => (intO .u64 (gt s.tm 5)).bind fun v6 => (soN 1 s.hp (gt s.tm 6)).bind fun b8 => (ptrN 0 (gt s.tm 7)).bind fun b10 => (intO .i64 (gt s.tm 8)).bind fun v12 => (rowN 26 3 s.hp b2).bind fun l14 => (intO .u32 (gt l14 0)).bind fun v16 => (vtO SgC (gt l14 1)).bind fun v18 => (vtO SyC (gt l14 2)).bind fun v20 => (rtN (.int .u8) 5 s.hp b8).bind fun v22 => (rowN 71 1 s.hp b10).bind fun l24 => (soN 1 s.hp (gt l24 0)).bind fun b26 => (rtN (.int .u8) 5 s.hp b26).bind fun v28 => (distO [some b2, b8, some b10, b26]).bind fun _ => F (v4, v6, v12, v16, v18, v20, v22, v28)
  st x := ⟨sparseT [(1, (.ptr 0 0)), (4, (.vt (.int .u64) x.1)), (5, (.val (.int .u64 x.2.1))), (6, (.so 1 1)), (7, (.ptr 2 0)), (8, (.val (.int .i64 x.2.2.1)))] 254 0, [.row [(.val (.int .u32 x.2.2.2.1)), (.vt SgC x.2.2.2.2.1), (.vt SyC x.2.2.2.2.2.1)] 26 true, .rt (.int .u8) x.2.2.2.2.2.2.1 5, .row [(.so 3 1)] 71 false, .rt (.int .u8) x.2.2.2.2.2.2.2 5]⟩
  ok γ s F r h := by
    have ⟨_, hz, h⟩ := bs h
    have ⟨b2, h1, h⟩ := bs h
    have ⟨v4, h3, h⟩ := bs h
    have ⟨v6, h5, h⟩ := bs h
    have ⟨b8, h7, h⟩ := bs h
    have ⟨b10, h9, h⟩ := bs h
    have ⟨v12, h11, h⟩ := bs h
    have ⟨l14, h13, h⟩ := bs h
    have ⟨v16, h15, h⟩ := bs h
    have ⟨v18, h17, h⟩ := bs h
    have ⟨v20, h19, h⟩ := bs h
    have ⟨v22, h21, h⟩ := bs h
    have ⟨l24, h23, h⟩ := bs h
    have ⟨b26, h25, h⟩ := bs h
    have ⟨v28, h27, h⟩ := bs h
    have ⟨_, h29, h⟩ := bs h
    exact ⟨_, h, weak_ren (l := [some b2, b8, some b10, b26]) (sizedN_ok hz) (distO_ok h29) (LiveR.cons (RefsR.ptr (l := [some b2, b8, some b10, b26]) (i := 0) rfl (ptrN_eq h1)) (LiveR.cons (pV h3) (LiveR.cons (pI h5) (LiveR.cons (RefsR.so (l := [some b2, b8, some b10, b26]) (i := 1) rfl (Nat.le_of_ble_eq_true rfl) h7) (LiveR.cons (RefsR.ptr (l := [some b2, b8, some b10, b26]) (i := 2) rfl (ptrN_eq h9)) (LiveR.cons (pI h11) LiveR.nil)))))) (BlksR.cons (rowN_refs h13 rfl (GtRefsR.cons (pI h15) (GtRefsR.cons (pV h17) (GtRefsR.cons (pV h19) GtRefsR.nil))) rfl) (BlksR.cons (rtN_blk h21) (BlksR.cons (rowN_refs h23 rfl (GtRefsR.cons (RefsR.so (l := [some b2, b8, some b10, b26]) (i := 3) rfl (Nat.le_of_ble_eq_true rfl) h25) GtRefsR.nil) rfl) (BlksR.cons (rtN_blk h27) BlksR.nil))))⟩

def atlasref23_Write.q0.x0 : Head ((List Int) × Int × Int × SgL × SyL × (List Int) × (List Int)) where
  k γ s F := (sizedN 254 s).bind fun _ => (ptrN 0 (gt s.tm 1)).bind fun b2 => (vtO (.int .u64) (gt s.tm 4)).bind fun v4 => (intO .u64 (gt s.tm 5)).bind fun v6 => (soN 1 s.hp (gt s.tm 6)).bind fun b8 => (ptrN 0 (gt s.tm 7)).bind fun b10 => (rowN 26 3 s.hp b2).bind fun l12 => (intO .u32 (gt l12 0)).bind fun v14 => (vtO SgC (gt l12 1)).bind fun v16 => (vtO SyC (gt l12 2)).bind fun v18 => (rtN (.int .u8) 5 s.hp b8).bind fun v20 => (rowN 71 1 s.hp b10).bind fun l22 => (soN 1 s.hp (gt l22 0)).bind fun b24 => (rtN (.int .u8) 5 s.hp b24).bind fun v26 => (distO [some b2, b8, some b10, b24]).bind fun _ => F (v4, v6, v14, v16, v18, v20, v26)
  st x := ⟨sparseT [(1, (.ptr 0 0)), (4, (.vt (.int .u64) x.1)), (5, (.val (.int .u64 x.2.1))), (6, (.so 1 1)), (7, (.ptr 2 0))] 254 0, [.row [(.val (.int .u32 x.2.2.1)), (.vt SgC x.2.2.2.1), (.vt SyC x.2.2.2.2.1)] 26 true, .rt (.int .u8) x.2.2.2.2.2.1 5, .row [(.so 3 1)] 71 false, .rt (.int .u8) x.2.2.2.2.2.2 5]⟩
  ok γ s F r h := by
    have ⟨_, hz, h⟩ := bs h
    have ⟨b2, h1, h⟩ := bs h
    have ⟨v4, h3, h⟩ := bs h
    have ⟨v6, h5, h⟩ := bs h
    have ⟨b8, h7, h⟩ := bs h
    have ⟨b10, h9, h⟩ := bs h
    have ⟨l12, h11, h⟩ := bs h
    have ⟨v14, h13, h⟩ := bs h
    have ⟨v16, h15, h⟩ := bs h
    have ⟨v18, h17, h⟩ := bs h
    have ⟨v20, h19, h⟩ := bs h
    have ⟨l22, h21, h⟩ := bs h
    have ⟨b24, h23, h⟩ := bs h
    have ⟨v26, h25, h⟩ := bs h
    have ⟨_, h27, h⟩ := bs h
    exact ⟨_, h, weak_ren (l := [some b2, b8, some b10, b24]) (sizedN_ok hz) (distO_ok h27) (LiveR.cons (RefsR.ptr (l := [some b2, b8, some b10, b24]) (i := 0) rfl (ptrN_eq h1)) (LiveR.cons (pV h3) (LiveR.cons (pI h5) (LiveR.cons (RefsR.so (l := [some b2, b8, some b10, b24]) (i := 1) rfl (Nat.le_of_ble_eq_true rfl) h7) (LiveR.cons (RefsR.ptr (l := [some b2, b8, some b10, b24]) (i := 2) rfl (ptrN_eq h9)) LiveR.nil))))) (BlksR.cons (rowN_refs h11 rfl (GtRefsR.cons (pI h13) (GtRefsR.cons (pV h15) (GtRefsR.cons (pV h17) GtRefsR.nil))) rfl) (BlksR.cons (rtN_blk h19) (BlksR.cons (rowN_refs h21 rfl (GtRefsR.cons (RefsR.so (l := [some b2, b8, some b10, b24]) (i := 3) rfl (Nat.le_of_ble_eq_true rfl) h23) GtRefsR.nil) rfl) (BlksR.cons (rtN_blk h25) BlksR.nil))))⟩

def atlasref23_Write.q0.t : Tail ((List Int) × Int × Int × SgL × SyL × (List Int) × (List Int)) := Tail.one (.exit 0) atlasref23_Write.q0.x0
theorem atlasref23_Write.q0.np (y : ((List Int) × Int × Int × SgL × SyL × (List Int) × (List Int))) (v : AV) : (atlasref23_Write.q0.t.out y).1 = .panic v → nomem v = true := fun h => by cases h
theorem atlasref23_Write.q0.nn (y : ((List Int) × Int × Int × SgL × SyL × (List Int) × (List Int))) : (atlasref23_Write.q0.t.out y).1 ≠ .normal := fun h => by cases h
def atlasref23_Write.q0.l (k : Nat) : Nat → ((List Int) × Int × Int × Int × SgL × SyL × (List Int) × (List Int)) → Option ((List Int) × Int × Int × SgL × SyL × (List Int) × (List Int))
  | 0, _ => none
  | n + 1, x => (bif (decide (x.2.2.1 < ((x.2.2.2.2.2.1.length : Nat) : Int))) then (bif (decide (0 ≤ x.2.2.1) && decide (x.2.2.1 < ((x.2.2.2.2.2.1.length : Nat) : Int))) then ((atlasref23_File_words.f k x.2.2.2.2.2.2.2 ([(IntKind.wrap .u64 ((x.2.2.2.2.2.2.1.length : Nat) : Int)), (IntKind.wrap .u64 ((x.2.2.2.2.2.1.getD (x.2.2.1).toNat (ByteArray.empty, 0, ())).2.1)), 0] : List Int)).bind fun r4 => ((atlasref23_File_lay.f k r4 1 16).bind fun r5 => ((atlasref23_File_lay.f k r5 1 0).bind fun r6 => ((atlasref23_File_lay.f k r6 2 65521).bind fun r7 => (bif (decide (0 ≤ x.2.2.1) && decide (x.2.2.1 < ((x.2.2.2.2.2.1.length : Nat) : Int))) then (bif (decide (x.2.2.2.2.2.2.1.length + ((x.2.2.2.2.2.1.getD (x.2.2.1).toNat (ByteArray.empty, 0, ())).1).size ≤ maxLen) && decide ((x.2.2.2.2.2.2.1.length + ((x.2.2.2.2.2.1.getD (x.2.2.1).toNat (ByteArray.empty, 0, ())).1).size) * 1 ≤ 211106232532992)) then (bif (decide (((x.2.2.2.2.2.2.1 ++ strI ((x.2.2.2.2.2.1.getD (x.2.2.1).toNat (ByteArray.empty, 0, ())).1)) ++ ([0] : List Int)).length ≤ maxLen) && decide (((x.2.2.2.2.2.2.1 ++ strI ((x.2.2.2.2.2.1.getD (x.2.2.1).toNat (ByteArray.empty, 0, ())).1)) ++ ([0] : List Int)).length * 1 ≤ 211106232532992)) then (atlasref23_Write.q0.l k n (x.1, x.2.1, (IntKind.wrap .i64 (x.2.2.1 + 1)), x.2.2.2.1, x.2.2.2.2.1, x.2.2.2.2.2.1, ((x.2.2.2.2.2.2.1 ++ strI ((x.2.2.2.2.2.1.getD (x.2.2.1).toNat (ByteArray.empty, 0, ())).1)) ++ ([0] : List Int)), r7)) else none) else none) else none))))) else none) else (some (x.1, x.2.1, x.2.2.2.1, x.2.2.2.2.1, x.2.2.2.2.2.1, x.2.2.2.2.2.2.1, x.2.2.2.2.2.2.2)))
theorem atlasref23_Write.q0.z (k : Nat) (x : ((List Int) × Int × Int × Int × SgL × SyL × (List Int) × (List Int))) : atlasref23_Write.q0.l k 0 x = none := rfl
theorem atlasref23_Write.q0.at : codeAt (bodyOf Try.f18) [false, true, false, true, true, true, true, true, true] = some (.loop (loopBody (bodyOf Try.f18) [false, true, false, true, true, true, true, true, true])) := by kernel_rfl
theorem atlasref23_Write.q0.goes (k n : Nat) (x : ((List Int) × Int × Int × Int × SgL × SyL × (List Int) × (List Int))) : E Try.prog (gamW (gamOf [(16, atlasref23_Right.g k), (37, atlasref23_places.g k)]) [(38, atlasref23_File_lay.w k), (39, atlasref23_File_words.w k)]) (lamOf []) (loopBody (bodyOf Try.f18) [false, true, false, true, true, true, true, true, true]) (false :: [false, true, false, true, true, true, true, true, true]) (atlasref23_Write.q0.h.st x) (contD atlasref23_Write.q0.h atlasref23_Write.q0.t (atlasref23_Write.q0.l k n) some) = atlasref23_Write.q0.l k (n + 1) x := by
  kernel_rfl
theorem atlasref23_Write.q0.ok_ (k : Nat) : PieceOk Try.prog (bodyOf Try.f18) ⟨[false, true, false, true, true, true, true, true, true], _, _, atlasref23_Write.q0.h, atlasref23_Write.q0.t, atlasref23_Write.q0.l k k⟩ :=
  piece_loop (gamW_ok (gamOf_cons (atlasref23_Right.ok k) atlasref23_Right.callable (gamOf_cons (atlasref23_places.ok k) atlasref23_places.callable (gamOf_nil _))) (wsOk_cons (atlasref23_File_lay.wok k) atlasref23_File_lay.callable (wsOk_cons (atlasref23_File_words.wok k) atlasref23_File_words.callable (wsOk_nil _)))) (lamOf_nil _ _) mixed atlasref23_Write.q0.at atlasref23_Write.q0.np atlasref23_Write.q0.nn (atlasref23_Write.q0.z k) (atlasref23_Write.q0.goes k) k
def atlasref23_Write.q0.p (k : Nat) : Piece := ⟨[false, true, false, true, true, true, true, true, true], _, _, atlasref23_Write.q0.h, atlasref23_Write.q0.t, atlasref23_Write.q0.l k k⟩
theorem atlasref23_Write.q0.ok (k : Nat) : PieceOk Try.prog (bodyOf Try.f18) (atlasref23_Write.q0.p k) := atlasref23_Write.q0.ok_ k
def atlasref23_Write.q1.h : Head ((List Int) × Int × Int × Int × Int × Int × Int × SgL × SyL × (List Int) × (List Int) × (List Int) × (List Int)) where
  k γ s F := (sizedN 254 s).bind fun _ => (ptrN 0 (gt s.tm 1)).bind fun b2 => (vtO (.int .u64) (gt s.tm 4)).bind fun v4 => (soN 1 s.hp (gt s.tm 6)).bind fun b6 => (ptrN 0 (gt s.tm 7)).bind fun b8 => (intO .u64 (gt s.tm 9)).bind fun v10 => (intO .u64 (gt s.tm 10)).bind fun v12 => (intO .u64 (gt s.tm 11)).bind fun v14 => (intO .u64 (gt s.tm 13)).bind fun v16 => (ptrN 0 (gt s.tm 14)).bind fun b18 => (soN 1 s.hp (gt s.tm 15)).bind fun b20 => (intO .i64 (gt s.tm 16)).bind fun v22 => (rowN 26 3 s.hp b2).bind fun l24 => (intO .u32 (gt l24 0)).bind fun v26 => (vtO SgC (gt l24 1)).bind fun v28 => (vtO SyC (gt l24 2)).bind fun v30 => (rtN (.int .u8) 5 s.hp b6).bind fun v32 => (rowN 71 1 s.hp b8).bind fun l34 => (soN 1 s.hp (gt l34 0)).bind fun b36 => (rowN 71 1 s.hp b18).bind fun l38 => (soN 1 s.hp (gt l38 0)).bind fun b40 => (rtN (.int .u64) 57 s.hp b20).bind fun v42 => (rtN (.int .u8) 5 s.hp b36).bind fun v44 => (rtN (.int .u8) 5 s.hp b40).bind fun v46 => (distO [some b2, b6, some b8, some b18, b20, b36, b40]).bind fun _ => F (v4, v10, v12, v14, v16, v22, v26, v28, v30, v32, v42, v44, v46)
  st x := ⟨sparseT [(1, (.ptr 0 0)), (4, (.vt (.int .u64) x.1)), (6, (.so 1 1)), (7, (.ptr 2 0)), (9, (.val (.int .u64 x.2.1))), (10, (.val (.int .u64 x.2.2.1))), (11, (.val (.int .u64 x.2.2.2.1))), (13, (.val (.int .u64 x.2.2.2.2.1))), (14, (.ptr 3 0)), (15, (.so 4 1)), (16, (.val (.int .i64 x.2.2.2.2.2.1)))] 254 0, [.row [(.val (.int .u32 x.2.2.2.2.2.2.1)), (.vt SgC x.2.2.2.2.2.2.2.1), (.vt SyC x.2.2.2.2.2.2.2.2.1)] 26 true, .rt (.int .u8) x.2.2.2.2.2.2.2.2.2.1 5, .row [(.so 5 1)] 71 false, .row [(.so 6 1)] 71 false, .rt (.int .u64) x.2.2.2.2.2.2.2.2.2.2.1 57, .rt (.int .u8) x.2.2.2.2.2.2.2.2.2.2.2.1 5, .rt (.int .u8) x.2.2.2.2.2.2.2.2.2.2.2.2 5]⟩
  ok γ s F r h := by
    have ⟨_, hz, h⟩ := bs h
    have ⟨b2, h1, h⟩ := bs h
    have ⟨v4, h3, h⟩ := bs h
    have ⟨b6, h5, h⟩ := bs h
    have ⟨b8, h7, h⟩ := bs h
    have ⟨v10, h9, h⟩ := bs h
    have ⟨v12, h11, h⟩ := bs h
    have ⟨v14, h13, h⟩ := bs h
    have ⟨v16, h15, h⟩ := bs h
    have ⟨b18, h17, h⟩ := bs h
    have ⟨b20, h19, h⟩ := bs h
    have ⟨v22, h21, h⟩ := bs h
    have ⟨l24, h23, h⟩ := bs h
    have ⟨v26, h25, h⟩ := bs h
    have ⟨v28, h27, h⟩ := bs h
    have ⟨v30, h29, h⟩ := bs h
    have ⟨v32, h31, h⟩ := bs h
    have ⟨l34, h33, h⟩ := bs h
    have ⟨b36, h35, h⟩ := bs h
    have ⟨l38, h37, h⟩ := bs h
    have ⟨b40, h39, h⟩ := bs h
    have ⟨v42, h41, h⟩ := bs h
    have ⟨v44, h43, h⟩ := bs h
    have ⟨v46, h45, h⟩ := bs h
    have ⟨_, h47, h⟩ := bs h
    exact ⟨_, h, weak_ren (l := [some b2, b6, some b8, some b18, b20, b36, b40]) (sizedN_ok hz) (distO_ok h47) (LiveR.cons (RefsR.ptr (l := [some b2, b6, some b8, some b18, b20, b36, b40]) (i := 0) rfl (ptrN_eq h1)) (LiveR.cons (pV h3) (LiveR.cons (RefsR.so (l := [some b2, b6, some b8, some b18, b20, b36, b40]) (i := 1) rfl (Nat.le_of_ble_eq_true rfl) h5) (LiveR.cons (RefsR.ptr (l := [some b2, b6, some b8, some b18, b20, b36, b40]) (i := 2) rfl (ptrN_eq h7)) (LiveR.cons (pI h9) (LiveR.cons (pI h11) (LiveR.cons (pI h13) (LiveR.cons (pI h15) (LiveR.cons (RefsR.ptr (l := [some b2, b6, some b8, some b18, b20, b36, b40]) (i := 3) rfl (ptrN_eq h17)) (LiveR.cons (RefsR.so (l := [some b2, b6, some b8, some b18, b20, b36, b40]) (i := 4) rfl (Nat.le_of_ble_eq_true rfl) h19) (LiveR.cons (pI h21) LiveR.nil))))))))))) (BlksR.cons (rowN_refs h23 rfl (GtRefsR.cons (pI h25) (GtRefsR.cons (pV h27) (GtRefsR.cons (pV h29) GtRefsR.nil))) rfl) (BlksR.cons (rtN_blk h31) (BlksR.cons (rowN_refs h33 rfl (GtRefsR.cons (RefsR.so (l := [some b2, b6, some b8, some b18, b20, b36, b40]) (i := 5) rfl (Nat.le_of_ble_eq_true rfl) h35) GtRefsR.nil) rfl) (BlksR.cons (rowN_refs h37 rfl (GtRefsR.cons (RefsR.so (l := [some b2, b6, some b8, some b18, b20, b36, b40]) (i := 6) rfl (Nat.le_of_ble_eq_true rfl) h39) GtRefsR.nil) rfl) (BlksR.cons (rtN_blk h41) (BlksR.cons (rtN_blk h43) (BlksR.cons (rtN_blk h45) BlksR.nil)))))))⟩

def atlasref23_Write.q1.x0 : Head ((List Int) × Int × Int × Int × Int × Int × SgL × SyL × (List Int) × (List Int) × (List Int)) where
  k γ s F := (sizedN 254 s).bind fun _ => (ptrN 0 (gt s.tm 1)).bind fun b2 => (vtO (.int .u64) (gt s.tm 4)).bind fun v4 => (soN 1 s.hp (gt s.tm 6)).bind fun b6 => (ptrN 0 (gt s.tm 7)).bind fun b8 => (intO .u64 (gt s.tm 9)).bind fun v10 => (intO .u64 (gt s.tm 10)).bind fun v12 => (intO .u64 (gt s.tm 11)).bind fun v14 => (intO .u64 (gt s.tm 13)).bind fun v16 => (ptrN 0 (gt s.tm 14)).bind fun b18 => (rowN 26 3 s.hp b2).bind fun l20 => (intO .u32 (gt l20 0)).bind fun v22 => (vtO SgC (gt l20 1)).bind fun v24 => (vtO SyC (gt l20 2)).bind fun v26 => (rtN (.int .u8) 5 s.hp b6).bind fun v28 => (rowN 71 1 s.hp b8).bind fun l30 => (soN 1 s.hp (gt l30 0)).bind fun b32 => (rowN 71 1 s.hp b18).bind fun l34 => (soN 1 s.hp (gt l34 0)).bind fun b36 => (rtN (.int .u8) 5 s.hp b32).bind fun v38 => (rtN (.int .u8) 5 s.hp b36).bind fun v40 => (distO [some b2, b6, some b8, some b18, b32, b36]).bind fun _ => F (v4, v10, v12, v14, v16, v22, v24, v26, v28, v38, v40)
  st x := ⟨sparseT [(1, (.ptr 0 0)), (4, (.vt (.int .u64) x.1)), (6, (.so 1 1)), (7, (.ptr 2 0)), (9, (.val (.int .u64 x.2.1))), (10, (.val (.int .u64 x.2.2.1))), (11, (.val (.int .u64 x.2.2.2.1))), (13, (.val (.int .u64 x.2.2.2.2.1))), (14, (.ptr 3 0))] 254 0, [.row [(.val (.int .u32 x.2.2.2.2.2.1)), (.vt SgC x.2.2.2.2.2.2.1), (.vt SyC x.2.2.2.2.2.2.2.1)] 26 true, .rt (.int .u8) x.2.2.2.2.2.2.2.2.1 5, .row [(.so 4 1)] 71 false, .row [(.so 5 1)] 71 false, .rt (.int .u8) x.2.2.2.2.2.2.2.2.2.1 5, .rt (.int .u8) x.2.2.2.2.2.2.2.2.2.2 5]⟩
  ok γ s F r h := by
    have ⟨_, hz, h⟩ := bs h
    have ⟨b2, h1, h⟩ := bs h
    have ⟨v4, h3, h⟩ := bs h
    have ⟨b6, h5, h⟩ := bs h
    have ⟨b8, h7, h⟩ := bs h
    have ⟨v10, h9, h⟩ := bs h
    have ⟨v12, h11, h⟩ := bs h
    have ⟨v14, h13, h⟩ := bs h
    have ⟨v16, h15, h⟩ := bs h
    have ⟨b18, h17, h⟩ := bs h
    have ⟨l20, h19, h⟩ := bs h
    have ⟨v22, h21, h⟩ := bs h
    have ⟨v24, h23, h⟩ := bs h
    have ⟨v26, h25, h⟩ := bs h
    have ⟨v28, h27, h⟩ := bs h
    have ⟨l30, h29, h⟩ := bs h
    have ⟨b32, h31, h⟩ := bs h
    have ⟨l34, h33, h⟩ := bs h
    have ⟨b36, h35, h⟩ := bs h
    have ⟨v38, h37, h⟩ := bs h
    have ⟨v40, h39, h⟩ := bs h
    have ⟨_, h41, h⟩ := bs h
    exact ⟨_, h, weak_ren (l := [some b2, b6, some b8, some b18, b32, b36]) (sizedN_ok hz) (distO_ok h41) (LiveR.cons (RefsR.ptr (l := [some b2, b6, some b8, some b18, b32, b36]) (i := 0) rfl (ptrN_eq h1)) (LiveR.cons (pV h3) (LiveR.cons (RefsR.so (l := [some b2, b6, some b8, some b18, b32, b36]) (i := 1) rfl (Nat.le_of_ble_eq_true rfl) h5) (LiveR.cons (RefsR.ptr (l := [some b2, b6, some b8, some b18, b32, b36]) (i := 2) rfl (ptrN_eq h7)) (LiveR.cons (pI h9) (LiveR.cons (pI h11) (LiveR.cons (pI h13) (LiveR.cons (pI h15) (LiveR.cons (RefsR.ptr (l := [some b2, b6, some b8, some b18, b32, b36]) (i := 3) rfl (ptrN_eq h17)) LiveR.nil))))))))) (BlksR.cons (rowN_refs h19 rfl (GtRefsR.cons (pI h21) (GtRefsR.cons (pV h23) (GtRefsR.cons (pV h25) GtRefsR.nil))) rfl) (BlksR.cons (rtN_blk h27) (BlksR.cons (rowN_refs h29 rfl (GtRefsR.cons (RefsR.so (l := [some b2, b6, some b8, some b18, b32, b36]) (i := 4) rfl (Nat.le_of_ble_eq_true rfl) h31) GtRefsR.nil) rfl) (BlksR.cons (rowN_refs h33 rfl (GtRefsR.cons (RefsR.so (l := [some b2, b6, some b8, some b18, b32, b36]) (i := 5) rfl (Nat.le_of_ble_eq_true rfl) h35) GtRefsR.nil) rfl) (BlksR.cons (rtN_blk h37) (BlksR.cons (rtN_blk h39) BlksR.nil))))))⟩

def atlasref23_Write.q1.t : Tail ((List Int) × Int × Int × Int × Int × Int × SgL × SyL × (List Int) × (List Int) × (List Int)) := Tail.one (.exit 2) atlasref23_Write.q1.x0
theorem atlasref23_Write.q1.np (y : ((List Int) × Int × Int × Int × Int × Int × SgL × SyL × (List Int) × (List Int) × (List Int))) (v : AV) : (atlasref23_Write.q1.t.out y).1 = .panic v → nomem v = true := fun h => by cases h
theorem atlasref23_Write.q1.nn (y : ((List Int) × Int × Int × Int × Int × Int × SgL × SyL × (List Int) × (List Int) × (List Int))) : (atlasref23_Write.q1.t.out y).1 ≠ .normal := fun h => by cases h
def atlasref23_Write.q1.l (k : Nat) : Nat → ((List Int) × Int × Int × Int × Int × Int × Int × SgL × SyL × (List Int) × (List Int) × (List Int) × (List Int)) → Option ((List Int) × Int × Int × Int × Int × Int × SgL × SyL × (List Int) × (List Int) × (List Int))
  | 0, _ => none
  | n + 1, x => (bif (decide (x.2.2.2.2.2.1 < 6)) then (bif (decide (0 ≤ x.2.2.2.2.2.1) && decide (x.2.2.2.2.2.1 < ((x.2.2.2.2.2.2.2.2.2.2.1.length : Nat) : Int))) then (bif decide ((x.2.2.2.2.2.1).toNat < x.2.2.2.2.2.2.2.2.2.2.1.length) then ((atlasref23_File_lay.f k x.2.2.2.2.2.2.2.2.2.2.2.2 2 (x.2.2.2.2.2.2.2.2.2.2.1.getD ((x.2.2.2.2.2.1).toNat) 0)).bind fun r12 => (atlasref23_Write.q1.l k n (x.1, x.2.1, x.2.2.1, x.2.2.2.1, x.2.2.2.2.1, (IntKind.wrap .i64 (x.2.2.2.2.2.1 + 1)), x.2.2.2.2.2.2.1, x.2.2.2.2.2.2.2.1, x.2.2.2.2.2.2.2.2.1, x.2.2.2.2.2.2.2.2.2.1, x.2.2.2.2.2.2.2.2.2.2.1, x.2.2.2.2.2.2.2.2.2.2.2.1, r12))) else none) else none) else (some (x.1, x.2.1, x.2.2.1, x.2.2.2.1, x.2.2.2.2.1, x.2.2.2.2.2.2.1, x.2.2.2.2.2.2.2.1, x.2.2.2.2.2.2.2.2.1, x.2.2.2.2.2.2.2.2.2.1, x.2.2.2.2.2.2.2.2.2.2.2.1, x.2.2.2.2.2.2.2.2.2.2.2.2)))
theorem atlasref23_Write.q1.z (k : Nat) (x : ((List Int) × Int × Int × Int × Int × Int × Int × SgL × SyL × (List Int) × (List Int) × (List Int) × (List Int))) : atlasref23_Write.q1.l k 0 x = none := rfl
theorem atlasref23_Write.q1.at : codeAt (bodyOf Try.f18) [false, true, false, true, true, true, true, true, true, true, true, true, true, true, true, true, true, true, true, true, true, true] = some (.loop (loopBody (bodyOf Try.f18) [false, true, false, true, true, true, true, true, true, true, true, true, true, true, true, true, true, true, true, true, true, true])) := by kernel_rfl
theorem atlasref23_Write.q1.goes (k n : Nat) (x : ((List Int) × Int × Int × Int × Int × Int × Int × SgL × SyL × (List Int) × (List Int) × (List Int) × (List Int))) : E Try.prog (gamW (gamOf [(16, atlasref23_Right.g k), (37, atlasref23_places.g k)]) [(38, atlasref23_File_lay.w k), (39, atlasref23_File_words.w k)]) (lamOf []) (loopBody (bodyOf Try.f18) [false, true, false, true, true, true, true, true, true, true, true, true, true, true, true, true, true, true, true, true, true, true]) (false :: [false, true, false, true, true, true, true, true, true, true, true, true, true, true, true, true, true, true, true, true, true, true]) (atlasref23_Write.q1.h.st x) (contD atlasref23_Write.q1.h atlasref23_Write.q1.t (atlasref23_Write.q1.l k n) some) = atlasref23_Write.q1.l k (n + 1) x := by
  kernel_rfl
theorem atlasref23_Write.q1.ok_ (k : Nat) : PieceOk Try.prog (bodyOf Try.f18) ⟨[false, true, false, true, true, true, true, true, true, true, true, true, true, true, true, true, true, true, true, true, true, true], _, _, atlasref23_Write.q1.h, atlasref23_Write.q1.t, atlasref23_Write.q1.l k k⟩ :=
  piece_loop (gamW_ok (gamOf_cons (atlasref23_Right.ok k) atlasref23_Right.callable (gamOf_cons (atlasref23_places.ok k) atlasref23_places.callable (gamOf_nil _))) (wsOk_cons (atlasref23_File_lay.wok k) atlasref23_File_lay.callable (wsOk_cons (atlasref23_File_words.wok k) atlasref23_File_words.callable (wsOk_nil _)))) (lamOf_nil _ _) mixed atlasref23_Write.q1.at atlasref23_Write.q1.np atlasref23_Write.q1.nn (atlasref23_Write.q1.z k) (atlasref23_Write.q1.goes k) k
def atlasref23_Write.q1.p (k : Nat) : Piece := ⟨[false, true, false, true, true, true, true, true, true, true, true, true, true, true, true, true, true, true, true, true, true, true], _, _, atlasref23_Write.q1.h, atlasref23_Write.q1.t, atlasref23_Write.q1.l k k⟩
theorem atlasref23_Write.q1.ok (k : Nat) : PieceOk Try.prog (bodyOf Try.f18) (atlasref23_Write.q1.p k) := atlasref23_Write.q1.ok_ k
def atlasref23_Write.q2.h : Head ((List Int) × Int × Int × Int × Int × Int × Int × SgL × SyL × (List Int) × (List Int) × (List Int)) where
  k γ s F := (sizedN 254 s).bind fun _ => (ptrN 0 (gt s.tm 1)).bind fun b2 => (vtO (.int .u64) (gt s.tm 4)).bind fun v4 => (soN 1 s.hp (gt s.tm 6)).bind fun b6 => (ptrN 0 (gt s.tm 7)).bind fun b8 => (intO .u64 (gt s.tm 9)).bind fun v10 => (intO .u64 (gt s.tm 10)).bind fun v12 => (intO .u64 (gt s.tm 11)).bind fun v14 => (intO .u64 (gt s.tm 13)).bind fun v16 => (ptrN 0 (gt s.tm 14)).bind fun b18 => (intO .i64 (gt s.tm 17)).bind fun v20 => (rowN 26 3 s.hp b2).bind fun l22 => (intO .u32 (gt l22 0)).bind fun v24 => (vtO SgC (gt l22 1)).bind fun v26 => (vtO SyC (gt l22 2)).bind fun v28 => (rtN (.int .u8) 5 s.hp b6).bind fun v30 => (rowN 71 1 s.hp b8).bind fun l32 => (soN 1 s.hp (gt l32 0)).bind fun b34 => (rowN 71 1 s.hp b18).bind fun l36 => (soN 1 s.hp (gt l36 0)).bind fun b38 => (rtN (.int .u8) 5 s.hp b34).bind fun v40 => (rtN (.int .u8) 5 s.hp b38).bind fun v42 => (distO [some b2, b6, some b8, some b18, b34, b38]).bind fun _ => F (v4, v10, v12, v14, v16, v20, v24, v26, v28, v30, v40, v42)
  st x := ⟨sparseT [(1, (.ptr 0 0)), (4, (.vt (.int .u64) x.1)), (6, (.so 1 1)), (7, (.ptr 2 0)), (9, (.val (.int .u64 x.2.1))), (10, (.val (.int .u64 x.2.2.1))), (11, (.val (.int .u64 x.2.2.2.1))), (13, (.val (.int .u64 x.2.2.2.2.1))), (14, (.ptr 3 0)), (17, (.val (.int .i64 x.2.2.2.2.2.1)))] 254 0, [.row [(.val (.int .u32 x.2.2.2.2.2.2.1)), (.vt SgC x.2.2.2.2.2.2.2.1), (.vt SyC x.2.2.2.2.2.2.2.2.1)] 26 true, .rt (.int .u8) x.2.2.2.2.2.2.2.2.2.1 5, .row [(.so 4 1)] 71 false, .row [(.so 5 1)] 71 false, .rt (.int .u8) x.2.2.2.2.2.2.2.2.2.2.1 5, .rt (.int .u8) x.2.2.2.2.2.2.2.2.2.2.2 5]⟩
  ok γ s F r h := by
    have ⟨_, hz, h⟩ := bs h
    have ⟨b2, h1, h⟩ := bs h
    have ⟨v4, h3, h⟩ := bs h
    have ⟨b6, h5, h⟩ := bs h
    have ⟨b8, h7, h⟩ := bs h
    have ⟨v10, h9, h⟩ := bs h
    have ⟨v12, h11, h⟩ := bs h
    have ⟨v14, h13, h⟩ := bs h
    have ⟨v16, h15, h⟩ := bs h
    have ⟨b18, h17, h⟩ := bs h
    have ⟨v20, h19, h⟩ := bs h
    have ⟨l22, h21, h⟩ := bs h
    have ⟨v24, h23, h⟩ := bs h
    have ⟨v26, h25, h⟩ := bs h
    have ⟨v28, h27, h⟩ := bs h
    have ⟨v30, h29, h⟩ := bs h
    have ⟨l32, h31, h⟩ := bs h
    have ⟨b34, h33, h⟩ := bs h
    have ⟨l36, h35, h⟩ := bs h
    have ⟨b38, h37, h⟩ := bs h
    have ⟨v40, h39, h⟩ := bs h
    have ⟨v42, h41, h⟩ := bs h
    have ⟨_, h43, h⟩ := bs h
    exact ⟨_, h, weak_ren (l := [some b2, b6, some b8, some b18, b34, b38]) (sizedN_ok hz) (distO_ok h43) (LiveR.cons (RefsR.ptr (l := [some b2, b6, some b8, some b18, b34, b38]) (i := 0) rfl (ptrN_eq h1)) (LiveR.cons (pV h3) (LiveR.cons (RefsR.so (l := [some b2, b6, some b8, some b18, b34, b38]) (i := 1) rfl (Nat.le_of_ble_eq_true rfl) h5) (LiveR.cons (RefsR.ptr (l := [some b2, b6, some b8, some b18, b34, b38]) (i := 2) rfl (ptrN_eq h7)) (LiveR.cons (pI h9) (LiveR.cons (pI h11) (LiveR.cons (pI h13) (LiveR.cons (pI h15) (LiveR.cons (RefsR.ptr (l := [some b2, b6, some b8, some b18, b34, b38]) (i := 3) rfl (ptrN_eq h17)) (LiveR.cons (pI h19) LiveR.nil)))))))))) (BlksR.cons (rowN_refs h21 rfl (GtRefsR.cons (pI h23) (GtRefsR.cons (pV h25) (GtRefsR.cons (pV h27) GtRefsR.nil))) rfl) (BlksR.cons (rtN_blk h29) (BlksR.cons (rowN_refs h31 rfl (GtRefsR.cons (RefsR.so (l := [some b2, b6, some b8, some b18, b34, b38]) (i := 4) rfl (Nat.le_of_ble_eq_true rfl) h33) GtRefsR.nil) rfl) (BlksR.cons (rowN_refs h35 rfl (GtRefsR.cons (RefsR.so (l := [some b2, b6, some b8, some b18, b34, b38]) (i := 5) rfl (Nat.le_of_ble_eq_true rfl) h37) GtRefsR.nil) rfl) (BlksR.cons (rtN_blk h39) (BlksR.cons (rtN_blk h41) BlksR.nil))))))⟩

def atlasref23_Write.q2.x0 : Head (Int × Int × Int × Int × Int × SgL × SyL × (List Int) × (List Int) × (List Int)) where
  k γ s F := (sizedN 254 s).bind fun _ => (ptrN 0 (gt s.tm 1)).bind fun b2 => (soN 1 s.hp (gt s.tm 6)).bind fun b4 => (ptrN 0 (gt s.tm 7)).bind fun b6 => (intO .u64 (gt s.tm 9)).bind fun v8 => (intO .u64 (gt s.tm 10)).bind fun v10 => (intO .u64 (gt s.tm 11)).bind fun v12 => (intO .u64 (gt s.tm 13)).bind fun v14 => (ptrN 0 (gt s.tm 14)).bind fun b16 => (rowN 26 3 s.hp b2).bind fun l18 => (intO .u32 (gt l18 0)).bind fun v20 => (vtO SgC (gt l18 1)).bind fun v22 => (vtO SyC (gt l18 2)).bind fun v24 => (rtN (.int .u8) 5 s.hp b4).bind fun v26 => (rowN 71 1 s.hp b6).bind fun l28 => (soN 1 s.hp (gt l28 0)).bind fun b30 => (rowN 71 1 s.hp b16).bind fun l32 => (soN 1 s.hp (gt l32 0)).bind fun b34 => (rtN (.int .u8) 5 s.hp b30).bind fun v36 => (rtN (.int .u8) 5 s.hp b34).bind fun v38 => (distO [some b2, b4, some b6, some b16, b30, b34]).bind fun _ => F (v8, v10, v12, v14, v20, v22, v24, v26, v36, v38)
  st x := ⟨sparseT [(1, (.ptr 0 0)), (6, (.so 1 1)), (7, (.ptr 2 0)), (9, (.val (.int .u64 x.1))), (10, (.val (.int .u64 x.2.1))), (11, (.val (.int .u64 x.2.2.1))), (13, (.val (.int .u64 x.2.2.2.1))), (14, (.ptr 3 0))] 254 0, [.row [(.val (.int .u32 x.2.2.2.2.1)), (.vt SgC x.2.2.2.2.2.1), (.vt SyC x.2.2.2.2.2.2.1)] 26 true, .rt (.int .u8) x.2.2.2.2.2.2.2.1 5, .row [(.so 4 1)] 71 false, .row [(.so 5 1)] 71 false, .rt (.int .u8) x.2.2.2.2.2.2.2.2.1 5, .rt (.int .u8) x.2.2.2.2.2.2.2.2.2 5]⟩
  ok γ s F r h := by
    have ⟨_, hz, h⟩ := bs h
    have ⟨b2, h1, h⟩ := bs h
    have ⟨b4, h3, h⟩ := bs h
    have ⟨b6, h5, h⟩ := bs h
    have ⟨v8, h7, h⟩ := bs h
    have ⟨v10, h9, h⟩ := bs h
    have ⟨v12, h11, h⟩ := bs h
    have ⟨v14, h13, h⟩ := bs h
    have ⟨b16, h15, h⟩ := bs h
    have ⟨l18, h17, h⟩ := bs h
    have ⟨v20, h19, h⟩ := bs h
    have ⟨v22, h21, h⟩ := bs h
    have ⟨v24, h23, h⟩ := bs h
    have ⟨v26, h25, h⟩ := bs h
    have ⟨l28, h27, h⟩ := bs h
    have ⟨b30, h29, h⟩ := bs h
    have ⟨l32, h31, h⟩ := bs h
    have ⟨b34, h33, h⟩ := bs h
    have ⟨v36, h35, h⟩ := bs h
    have ⟨v38, h37, h⟩ := bs h
    have ⟨_, h39, h⟩ := bs h
    exact ⟨_, h, weak_ren (l := [some b2, b4, some b6, some b16, b30, b34]) (sizedN_ok hz) (distO_ok h39) (LiveR.cons (RefsR.ptr (l := [some b2, b4, some b6, some b16, b30, b34]) (i := 0) rfl (ptrN_eq h1)) (LiveR.cons (RefsR.so (l := [some b2, b4, some b6, some b16, b30, b34]) (i := 1) rfl (Nat.le_of_ble_eq_true rfl) h3) (LiveR.cons (RefsR.ptr (l := [some b2, b4, some b6, some b16, b30, b34]) (i := 2) rfl (ptrN_eq h5)) (LiveR.cons (pI h7) (LiveR.cons (pI h9) (LiveR.cons (pI h11) (LiveR.cons (pI h13) (LiveR.cons (RefsR.ptr (l := [some b2, b4, some b6, some b16, b30, b34]) (i := 3) rfl (ptrN_eq h15)) LiveR.nil)))))))) (BlksR.cons (rowN_refs h17 rfl (GtRefsR.cons (pI h19) (GtRefsR.cons (pV h21) (GtRefsR.cons (pV h23) GtRefsR.nil))) rfl) (BlksR.cons (rtN_blk h25) (BlksR.cons (rowN_refs h27 rfl (GtRefsR.cons (RefsR.so (l := [some b2, b4, some b6, some b16, b30, b34]) (i := 4) rfl (Nat.le_of_ble_eq_true rfl) h29) GtRefsR.nil) rfl) (BlksR.cons (rowN_refs h31 rfl (GtRefsR.cons (RefsR.so (l := [some b2, b4, some b6, some b16, b30, b34]) (i := 5) rfl (Nat.le_of_ble_eq_true rfl) h33) GtRefsR.nil) rfl) (BlksR.cons (rtN_blk h35) (BlksR.cons (rtN_blk h37) BlksR.nil))))))⟩

def atlasref23_Write.q2.t : Tail (Int × Int × Int × Int × Int × SgL × SyL × (List Int) × (List Int) × (List Int)) := Tail.one (.exit 4) atlasref23_Write.q2.x0
theorem atlasref23_Write.q2.np (y : (Int × Int × Int × Int × Int × SgL × SyL × (List Int) × (List Int) × (List Int))) (v : AV) : (atlasref23_Write.q2.t.out y).1 = .panic v → nomem v = true := fun h => by cases h
theorem atlasref23_Write.q2.nn (y : (Int × Int × Int × Int × Int × SgL × SyL × (List Int) × (List Int) × (List Int))) : (atlasref23_Write.q2.t.out y).1 ≠ .normal := fun h => by cases h
def atlasref23_Write.q2.l (k : Nat) : Nat → ((List Int) × Int × Int × Int × Int × Int × Int × SgL × SyL × (List Int) × (List Int) × (List Int)) → Option (Int × Int × Int × Int × Int × SgL × SyL × (List Int) × (List Int) × (List Int))
  | 0, _ => none
  | n + 1, x => (bif (decide (x.2.2.2.2.2.1 < ((x.2.2.2.2.2.2.2.1.length : Nat) : Int))) then (bif (decide (0 ≤ x.2.2.2.2.2.1) && decide (x.2.2.2.2.2.1 < ((x.2.2.2.2.2.2.2.1.length : Nat) : Int))) then (bif (decide (0 ≤ x.2.2.2.2.2.1) && decide (x.2.2.2.2.2.1 < ((x.1.length : Nat) : Int))) then ((atlasref23_bits.f (⟨(x.2.2.2.2.2.2.2.1.getD (x.2.2.2.2.2.1).toNat (0, 0, (false, false, false, ()), [], ())).2.2.1.1, (x.2.2.2.2.2.2.2.1.getD (x.2.2.2.2.2.1).toNat (0, 0, (false, false, false, ()), [], ())).2.2.1.2.1, (x.2.2.2.2.2.2.2.1.getD (x.2.2.2.2.2.1).toNat (0, 0, (false, false, false, ()), [], ())).2.2.1.2.2.1⟩ : T43)).bind fun r14 => ((atlasref23_File_words.f k x.2.2.2.2.2.2.2.2.2.2.2 ([1, (x.1.getD (x.2.2.2.2.2.1).toNat 0), (IntKind.wrap .u64 ((x.2.2.2.2.2.2.2.1.getD (x.2.2.2.2.2.1).toNat (0, 0, (false, false, false, ()), [], ())).1)), (IntKind.wrap .u64 ((x.2.2.2.2.2.2.2.1.getD (x.2.2.2.2.2.1).toNat (0, 0, (false, false, false, ()), [], ())).1)), (IntKind.wrap .u64 ((((x.2.2.2.2.2.2.2.1.getD (x.2.2.2.2.2.1).toNat (0, 0, (false, false, false, ()), [], ())).2.2.2.1).length : Nat) : Int)), (IntKind.wrap .u64 ((x.2.2.2.2.2.2.2.1.getD (x.2.2.2.2.2.1).toNat (0, 0, (false, false, false, ()), [], ())).2.1)), r14, 4096] : List Int)).bind fun r15 => (atlasref23_Write.q2.l k n (x.1, x.2.1, x.2.2.1, x.2.2.2.1, x.2.2.2.2.1, (IntKind.wrap .i64 (x.2.2.2.2.2.1 + 1)), x.2.2.2.2.2.2.1, x.2.2.2.2.2.2.2.1, x.2.2.2.2.2.2.2.2.1, x.2.2.2.2.2.2.2.2.2.1, x.2.2.2.2.2.2.2.2.2.2.1, r15)))) else none) else none) else (some (x.2.1, x.2.2.1, x.2.2.2.1, x.2.2.2.2.1, x.2.2.2.2.2.2.1, x.2.2.2.2.2.2.2.1, x.2.2.2.2.2.2.2.2.1, x.2.2.2.2.2.2.2.2.2.1, x.2.2.2.2.2.2.2.2.2.2.1, x.2.2.2.2.2.2.2.2.2.2.2)))
theorem atlasref23_Write.q2.z (k : Nat) (x : ((List Int) × Int × Int × Int × Int × Int × Int × SgL × SyL × (List Int) × (List Int) × (List Int))) : atlasref23_Write.q2.l k 0 x = none := rfl
theorem atlasref23_Write.q2.at : codeAt (bodyOf Try.f18) [false, true, false, true, true, true, true, true, true, true, true, true, true, true, true, true, true, true, true, true, true, true, true] = some (.loop (loopBody (bodyOf Try.f18) [false, true, false, true, true, true, true, true, true, true, true, true, true, true, true, true, true, true, true, true, true, true, true])) := by kernel_rfl
theorem atlasref23_Write.q2.goes (k n : Nat) (x : ((List Int) × Int × Int × Int × Int × Int × Int × SgL × SyL × (List Int) × (List Int) × (List Int))) : E Try.prog (gamW (gamOf [(16, atlasref23_Right.g k), (37, atlasref23_places.g k), (40, atlasref23_bits.g)]) [(38, atlasref23_File_lay.w k), (39, atlasref23_File_words.w k)]) (lamOf []) (loopBody (bodyOf Try.f18) [false, true, false, true, true, true, true, true, true, true, true, true, true, true, true, true, true, true, true, true, true, true, true]) (false :: [false, true, false, true, true, true, true, true, true, true, true, true, true, true, true, true, true, true, true, true, true, true, true]) (atlasref23_Write.q2.h.st x) (contD atlasref23_Write.q2.h atlasref23_Write.q2.t (atlasref23_Write.q2.l k n) some) = atlasref23_Write.q2.l k (n + 1) x := by
  kernel_rfl
theorem atlasref23_Write.q2.ok_ (k : Nat) : PieceOk Try.prog (bodyOf Try.f18) ⟨[false, true, false, true, true, true, true, true, true, true, true, true, true, true, true, true, true, true, true, true, true, true, true], _, _, atlasref23_Write.q2.h, atlasref23_Write.q2.t, atlasref23_Write.q2.l k k⟩ :=
  piece_loop (gamW_ok (gamOf_cons (atlasref23_Right.ok k) atlasref23_Right.callable (gamOf_cons (atlasref23_places.ok k) atlasref23_places.callable (gamOf_cons (atlasref23_bits.ok) atlasref23_bits.callable (gamOf_nil _)))) (wsOk_cons (atlasref23_File_lay.wok k) atlasref23_File_lay.callable (wsOk_cons (atlasref23_File_words.wok k) atlasref23_File_words.callable (wsOk_nil _)))) (lamOf_nil _ _) mixed atlasref23_Write.q2.at atlasref23_Write.q2.np atlasref23_Write.q2.nn (atlasref23_Write.q2.z k) (atlasref23_Write.q2.goes k) k
def atlasref23_Write.q2.p (k : Nat) : Piece := ⟨[false, true, false, true, true, true, true, true, true, true, true, true, true, true, true, true, true, true, true, true, true, true, true], _, _, atlasref23_Write.q2.h, atlasref23_Write.q2.t, atlasref23_Write.q2.l k k⟩
theorem atlasref23_Write.q2.ok (k : Nat) : PieceOk Try.prog (bodyOf Try.f18) (atlasref23_Write.q2.p k) := atlasref23_Write.q2.ok_ k
def atlasref23_Write.q3.h : Head (Int × Int × Int × Int × Int × Int × SgL × SyL × (List Int) × (List Int) × (List Int)) where
  k γ s F := (sizedN 254 s).bind fun _ => (ptrN 0 (gt s.tm 1)).bind fun b2 => (soN 1 s.hp (gt s.tm 6)).bind fun b4 => (ptrN 0 (gt s.tm 7)).bind fun b6 => (intO .u64 (gt s.tm 9)).bind fun v8 => (intO .u64 (gt s.tm 10)).bind fun v10 => (intO .u64 (gt s.tm 11)).bind fun v12 => (intO .u64 (gt s.tm 13)).bind fun v14 => (ptrN 0 (gt s.tm 14)).bind fun b16 => (intO .i64 (gt s.tm 19)).bind fun v18 => (rowN 26 3 s.hp b2).bind fun l20 => (intO .u32 (gt l20 0)).bind fun v22 => (vtO SgC (gt l20 1)).bind fun v24 => (vtO SyC (gt l20 2)).bind fun v26 => (rtN (.int .u8) 5 s.hp b4).bind fun v28 => (rowN 71 1 s.hp b6).bind fun l30 => (soN 1 s.hp (gt l30 0)).bind fun b32 => (rowN 71 1 s.hp b16).bind fun l34 => (soN 1 s.hp (gt l34 0)).bind fun b36 => (rtN (.int .u8) 5 s.hp b32).bind fun v38 => (rtN (.int .u8) 5 s.hp b36).bind fun v40 => (distO [some b2, b4, some b6, some b16, b32, b36]).bind fun _ => F (v8, v10, v12, v14, v18, v22, v24, v26, v28, v38, v40)
  st x := ⟨sparseT [(1, (.ptr 0 0)), (6, (.so 1 1)), (7, (.ptr 2 0)), (9, (.val (.int .u64 x.1))), (10, (.val (.int .u64 x.2.1))), (11, (.val (.int .u64 x.2.2.1))), (13, (.val (.int .u64 x.2.2.2.1))), (14, (.ptr 3 0)), (19, (.val (.int .i64 x.2.2.2.2.1)))] 254 0, [.row [(.val (.int .u32 x.2.2.2.2.2.1)), (.vt SgC x.2.2.2.2.2.2.1), (.vt SyC x.2.2.2.2.2.2.2.1)] 26 true, .rt (.int .u8) x.2.2.2.2.2.2.2.2.1 5, .row [(.so 4 1)] 71 false, .row [(.so 5 1)] 71 false, .rt (.int .u8) x.2.2.2.2.2.2.2.2.2.1 5, .rt (.int .u8) x.2.2.2.2.2.2.2.2.2.2 5]⟩
  ok γ s F r h := by
    have ⟨_, hz, h⟩ := bs h
    have ⟨b2, h1, h⟩ := bs h
    have ⟨b4, h3, h⟩ := bs h
    have ⟨b6, h5, h⟩ := bs h
    have ⟨v8, h7, h⟩ := bs h
    have ⟨v10, h9, h⟩ := bs h
    have ⟨v12, h11, h⟩ := bs h
    have ⟨v14, h13, h⟩ := bs h
    have ⟨b16, h15, h⟩ := bs h
    have ⟨v18, h17, h⟩ := bs h
    have ⟨l20, h19, h⟩ := bs h
    have ⟨v22, h21, h⟩ := bs h
    have ⟨v24, h23, h⟩ := bs h
    have ⟨v26, h25, h⟩ := bs h
    have ⟨v28, h27, h⟩ := bs h
    have ⟨l30, h29, h⟩ := bs h
    have ⟨b32, h31, h⟩ := bs h
    have ⟨l34, h33, h⟩ := bs h
    have ⟨b36, h35, h⟩ := bs h
    have ⟨v38, h37, h⟩ := bs h
    have ⟨v40, h39, h⟩ := bs h
    have ⟨_, h41, h⟩ := bs h
    exact ⟨_, h, weak_ren (l := [some b2, b4, some b6, some b16, b32, b36]) (sizedN_ok hz) (distO_ok h41) (LiveR.cons (RefsR.ptr (l := [some b2, b4, some b6, some b16, b32, b36]) (i := 0) rfl (ptrN_eq h1)) (LiveR.cons (RefsR.so (l := [some b2, b4, some b6, some b16, b32, b36]) (i := 1) rfl (Nat.le_of_ble_eq_true rfl) h3) (LiveR.cons (RefsR.ptr (l := [some b2, b4, some b6, some b16, b32, b36]) (i := 2) rfl (ptrN_eq h5)) (LiveR.cons (pI h7) (LiveR.cons (pI h9) (LiveR.cons (pI h11) (LiveR.cons (pI h13) (LiveR.cons (RefsR.ptr (l := [some b2, b4, some b6, some b16, b32, b36]) (i := 3) rfl (ptrN_eq h15)) (LiveR.cons (pI h17) LiveR.nil))))))))) (BlksR.cons (rowN_refs h19 rfl (GtRefsR.cons (pI h21) (GtRefsR.cons (pV h23) (GtRefsR.cons (pV h25) GtRefsR.nil))) rfl) (BlksR.cons (rtN_blk h27) (BlksR.cons (rowN_refs h29 rfl (GtRefsR.cons (RefsR.so (l := [some b2, b4, some b6, some b16, b32, b36]) (i := 4) rfl (Nat.le_of_ble_eq_true rfl) h31) GtRefsR.nil) rfl) (BlksR.cons (rowN_refs h33 rfl (GtRefsR.cons (RefsR.so (l := [some b2, b4, some b6, some b16, b32, b36]) (i := 5) rfl (Nat.le_of_ble_eq_true rfl) h35) GtRefsR.nil) rfl) (BlksR.cons (rtN_blk h37) (BlksR.cons (rtN_blk h39) BlksR.nil))))))⟩

def atlasref23_Write.q3.x0 : Head (Int × Int × Int × Int × (List Int) × (List Int) × (List Int)) where
  k γ s F := (sizedN 254 s).bind fun _ => (soN 1 s.hp (gt s.tm 6)).bind fun b2 => (ptrN 0 (gt s.tm 7)).bind fun b4 => (intO .u64 (gt s.tm 9)).bind fun v6 => (intO .u64 (gt s.tm 10)).bind fun v8 => (intO .u64 (gt s.tm 11)).bind fun v10 => (intO .u64 (gt s.tm 13)).bind fun v12 => (ptrN 0 (gt s.tm 14)).bind fun b14 => (rtN (.int .u8) 5 s.hp b2).bind fun v16 => (rowN 71 1 s.hp b4).bind fun l18 => (soN 1 s.hp (gt l18 0)).bind fun b20 => (rowN 71 1 s.hp b14).bind fun l22 => (soN 1 s.hp (gt l22 0)).bind fun b24 => (rtN (.int .u8) 5 s.hp b20).bind fun v26 => (rtN (.int .u8) 5 s.hp b24).bind fun v28 => (distO [b2, some b4, some b14, b20, b24]).bind fun _ => F (v6, v8, v10, v12, v16, v26, v28)
  st x := ⟨sparseT [(6, (.so 0 1)), (7, (.ptr 1 0)), (9, (.val (.int .u64 x.1))), (10, (.val (.int .u64 x.2.1))), (11, (.val (.int .u64 x.2.2.1))), (13, (.val (.int .u64 x.2.2.2.1))), (14, (.ptr 2 0))] 254 0, [.rt (.int .u8) x.2.2.2.2.1 5, .row [(.so 3 1)] 71 false, .row [(.so 4 1)] 71 false, .rt (.int .u8) x.2.2.2.2.2.1 5, .rt (.int .u8) x.2.2.2.2.2.2 5]⟩
  ok γ s F r h := by
    have ⟨_, hz, h⟩ := bs h
    have ⟨b2, h1, h⟩ := bs h
    have ⟨b4, h3, h⟩ := bs h
    have ⟨v6, h5, h⟩ := bs h
    have ⟨v8, h7, h⟩ := bs h
    have ⟨v10, h9, h⟩ := bs h
    have ⟨v12, h11, h⟩ := bs h
    have ⟨b14, h13, h⟩ := bs h
    have ⟨v16, h15, h⟩ := bs h
    have ⟨l18, h17, h⟩ := bs h
    have ⟨b20, h19, h⟩ := bs h
    have ⟨l22, h21, h⟩ := bs h
    have ⟨b24, h23, h⟩ := bs h
    have ⟨v26, h25, h⟩ := bs h
    have ⟨v28, h27, h⟩ := bs h
    have ⟨_, h29, h⟩ := bs h
    exact ⟨_, h, weak_ren (l := [b2, some b4, some b14, b20, b24]) (sizedN_ok hz) (distO_ok h29) (LiveR.cons (RefsR.so (l := [b2, some b4, some b14, b20, b24]) (i := 0) rfl (Nat.le_of_ble_eq_true rfl) h1) (LiveR.cons (RefsR.ptr (l := [b2, some b4, some b14, b20, b24]) (i := 1) rfl (ptrN_eq h3)) (LiveR.cons (pI h5) (LiveR.cons (pI h7) (LiveR.cons (pI h9) (LiveR.cons (pI h11) (LiveR.cons (RefsR.ptr (l := [b2, some b4, some b14, b20, b24]) (i := 2) rfl (ptrN_eq h13)) LiveR.nil))))))) (BlksR.cons (rtN_blk h15) (BlksR.cons (rowN_refs h17 rfl (GtRefsR.cons (RefsR.so (l := [b2, some b4, some b14, b20, b24]) (i := 3) rfl (Nat.le_of_ble_eq_true rfl) h19) GtRefsR.nil) rfl) (BlksR.cons (rowN_refs h21 rfl (GtRefsR.cons (RefsR.so (l := [b2, some b4, some b14, b20, b24]) (i := 4) rfl (Nat.le_of_ble_eq_true rfl) h23) GtRefsR.nil) rfl) (BlksR.cons (rtN_blk h25) (BlksR.cons (rtN_blk h27) BlksR.nil)))))⟩

def atlasref23_Write.q3.t : Tail (Int × Int × Int × Int × (List Int) × (List Int) × (List Int)) := Tail.one (.exit 6) atlasref23_Write.q3.x0
theorem atlasref23_Write.q3.np (y : (Int × Int × Int × Int × (List Int) × (List Int) × (List Int))) (v : AV) : (atlasref23_Write.q3.t.out y).1 = .panic v → nomem v = true := fun h => by cases h
theorem atlasref23_Write.q3.nn (y : (Int × Int × Int × Int × (List Int) × (List Int) × (List Int))) : (atlasref23_Write.q3.t.out y).1 ≠ .normal := fun h => by cases h
def atlasref23_Write.q3.l (k : Nat) : Nat → (Int × Int × Int × Int × Int × Int × SgL × SyL × (List Int) × (List Int) × (List Int)) → Option (Int × Int × Int × Int × (List Int) × (List Int) × (List Int))
  | 0, _ => none
  | n + 1, x => (bif (decide (x.2.2.2.2.1 < ((x.2.2.2.2.2.2.1.length : Nat) : Int))) then (bif (decide (0 ≤ x.2.2.2.2.1) && decide (x.2.2.2.2.1 < ((x.2.2.2.2.2.2.1.length : Nat) : Int))) then (bif (decide (((((x.2.2.2.2.2.2.1.getD (x.2.2.2.2.1).toNat (0, 0, (false, false, false, ()), [], ())).2.2.2.1).length : Nat) : Int) > 0)) then ((atlasref23_File_up.f k x.2.2.2.2.2.2.2.2.2.2 4096).bind fun r17 => (bif (decide (0 ≤ x.2.2.2.2.1) && decide (x.2.2.2.2.1 < ((x.2.2.2.2.2.2.1.length : Nat) : Int))) then (bif (decide ((r17 ++ (x.2.2.2.2.2.2.1.getD (x.2.2.2.2.1).toNat (0, 0, (false, false, false, ()), [], ())).2.2.2.1).length ≤ maxLen) && decide ((r17 ++ (x.2.2.2.2.2.2.1.getD (x.2.2.2.2.1).toNat (0, 0, (false, false, false, ()), [], ())).2.2.2.1).length * 1 ≤ 211106232532992)) then (atlasref23_Write.q3.l k n (x.1, x.2.1, x.2.2.1, x.2.2.2.1, (IntKind.wrap .i64 (x.2.2.2.2.1 + 1)), x.2.2.2.2.2.1, x.2.2.2.2.2.2.1, x.2.2.2.2.2.2.2.1, x.2.2.2.2.2.2.2.2.1, x.2.2.2.2.2.2.2.2.2.1, (r17 ++ (x.2.2.2.2.2.2.1.getD (x.2.2.2.2.1).toNat (0, 0, (false, false, false, ()), [], ())).2.2.2.1))) else none) else none)) else (atlasref23_Write.q3.l k n (x.1, x.2.1, x.2.2.1, x.2.2.2.1, (IntKind.wrap .i64 (x.2.2.2.2.1 + 1)), x.2.2.2.2.2.1, x.2.2.2.2.2.2.1, x.2.2.2.2.2.2.2.1, x.2.2.2.2.2.2.2.2.1, x.2.2.2.2.2.2.2.2.2.1, x.2.2.2.2.2.2.2.2.2.2))) else none) else (some (x.1, x.2.1, x.2.2.1, x.2.2.2.1, x.2.2.2.2.2.2.2.2.1, x.2.2.2.2.2.2.2.2.2.1, x.2.2.2.2.2.2.2.2.2.2)))
theorem atlasref23_Write.q3.z (k : Nat) (x : (Int × Int × Int × Int × Int × Int × SgL × SyL × (List Int) × (List Int) × (List Int))) : atlasref23_Write.q3.l k 0 x = none := rfl
theorem atlasref23_Write.q3.at : codeAt (bodyOf Try.f18) [false, true, false, true, true, true, true, true, true, true, true, true, true, true, true, true, true, true, true, true, true, true, true, true] = some (.loop (loopBody (bodyOf Try.f18) [false, true, false, true, true, true, true, true, true, true, true, true, true, true, true, true, true, true, true, true, true, true, true, true])) := by kernel_rfl
theorem atlasref23_Write.q3.goes (k n : Nat) (x : (Int × Int × Int × Int × Int × Int × SgL × SyL × (List Int) × (List Int) × (List Int))) : E Try.prog (gamW (gamOf [(16, atlasref23_Right.g k), (37, atlasref23_places.g k), (40, atlasref23_bits.g)]) [(38, atlasref23_File_lay.w k), (39, atlasref23_File_words.w k), (41, atlasref23_File_up.w k)]) (lamOf []) (loopBody (bodyOf Try.f18) [false, true, false, true, true, true, true, true, true, true, true, true, true, true, true, true, true, true, true, true, true, true, true, true]) (false :: [false, true, false, true, true, true, true, true, true, true, true, true, true, true, true, true, true, true, true, true, true, true, true, true]) (atlasref23_Write.q3.h.st x) (contD atlasref23_Write.q3.h atlasref23_Write.q3.t (atlasref23_Write.q3.l k n) some) = atlasref23_Write.q3.l k (n + 1) x := by
  kernel_rfl
theorem atlasref23_Write.q3.ok_ (k : Nat) : PieceOk Try.prog (bodyOf Try.f18) ⟨[false, true, false, true, true, true, true, true, true, true, true, true, true, true, true, true, true, true, true, true, true, true, true, true], _, _, atlasref23_Write.q3.h, atlasref23_Write.q3.t, atlasref23_Write.q3.l k k⟩ :=
  piece_loop (gamW_ok (gamOf_cons (atlasref23_Right.ok k) atlasref23_Right.callable (gamOf_cons (atlasref23_places.ok k) atlasref23_places.callable (gamOf_cons (atlasref23_bits.ok) atlasref23_bits.callable (gamOf_nil _)))) (wsOk_cons (atlasref23_File_lay.wok k) atlasref23_File_lay.callable (wsOk_cons (atlasref23_File_words.wok k) atlasref23_File_words.callable (wsOk_cons (atlasref23_File_up.wok k) atlasref23_File_up.callable (wsOk_nil _))))) (lamOf_nil _ _) mixed atlasref23_Write.q3.at atlasref23_Write.q3.np atlasref23_Write.q3.nn (atlasref23_Write.q3.z k) (atlasref23_Write.q3.goes k) k
def atlasref23_Write.q3.p (k : Nat) : Piece := ⟨[false, true, false, true, true, true, true, true, true, true, true, true, true, true, true, true, true, true, true, true, true, true, true, true], _, _, atlasref23_Write.q3.h, atlasref23_Write.q3.t, atlasref23_Write.q3.l k k⟩
theorem atlasref23_Write.q3.ok (k : Nat) : PieceOk Try.prog (bodyOf Try.f18) (atlasref23_Write.q3.p k) := atlasref23_Write.q3.ok_ k
def atlasref23_Write.f (k : Nat) (x0 : T25) : Option ((List Int) × Int) := ((atlasref23_Right.f k (⟨x0.f0_Entry, x0.f1_Segments, x0.f2_Symbols⟩ : T25)).bind fun r1 => (bif (!r1) then (some (([] : List Int), 239)) else ((atlasref23_places.f k (⟨x0.f0_Entry, x0.f1_Segments, x0.f2_Symbols⟩ : T25)).bind fun r2 => ((atlasref23_File_lay.f k ([] : List Int) 16 0).bind fun r3 => ((atlasref23_Write.q0.l k k (r2.1, r2.2, 0, x0.f0_Entry, x0.f1_Segments, x0.f2_Symbols, ([0] : List Int), r3)).bind fun r8 => (bif (((r8.2.2.2.2.1.length : Nat) : Int) == 0) then ((atlasref23_File_lay.f k ([127, 69, 76, 70, 1, 1, 1, 0, 0, 0, 0, 0, 0, 0, 0, 0] : List Int) 2 2).bind fun r9 => ((atlasref23_File_lay.f k r9 2 40).bind fun r10 => ((atlasref23_File_words.f k r10 ([1, (IntKind.wrap .u64 r8.2.2.1), 52, 0, 83886080] : List Int)).bind fun r11 => ((atlasref23_Write.q1.l k k (r8.1, (IntKind.wrap .u64 ((IntKind.wrap .u64 (Int.tdiv (IntKind.wrap .u64 (r8.2.1 + 3)) 4)) * 4)), (IntKind.wrap .u64 ((IntKind.wrap .u64 ((IntKind.wrap .u64 (Int.tdiv (IntKind.wrap .u64 (r8.2.1 + 3)) 4)) * 4)) + (IntKind.wrap .u64 ((r8.2.2.2.2.2.2.length : Nat) : Int)))), (IntKind.wrap .u64 ((IntKind.wrap .u64 ((IntKind.wrap .u64 ((IntKind.wrap .u64 (Int.tdiv (IntKind.wrap .u64 (r8.2.1 + 3)) 4)) * 4)) + (IntKind.wrap .u64 ((r8.2.2.2.2.2.2.length : Nat) : Int)))) + (IntKind.wrap .u64 ((r8.2.2.2.2.2.1.length : Nat) : Int)))), 0, 0, r8.2.2.1, r8.2.2.2.1, r8.2.2.2.2.1, r8.2.2.2.2.2.1, ([52, 32, (IntKind.wrap .u64 ((r8.2.2.2.1.length : Nat) : Int)), 40, 0, (IntKind.wrap .u64 ((IntKind.wrap .u64 (Int.tdiv 0 4)) * 3))] : List Int), r8.2.2.2.2.2.2, r11)).bind fun r13 => ((atlasref23_Write.q2.l k k (r13.1, r13.2.1, r13.2.2.1, r13.2.2.2.1, r13.2.2.2.2.1, 0, r13.2.2.2.2.2.1, r13.2.2.2.2.2.2.1, r13.2.2.2.2.2.2.2.1, r13.2.2.2.2.2.2.2.2.1, r13.2.2.2.2.2.2.2.2.2.1, r13.2.2.2.2.2.2.2.2.2.2)).bind fun r16 => ((atlasref23_Write.q3.l k k (r16.1, r16.2.1, r16.2.2.1, r16.2.2.2.1, 0, r16.2.2.2.2.1, r16.2.2.2.2.2.1, r16.2.2.2.2.2.2.1, r16.2.2.2.2.2.2.2.1, r16.2.2.2.2.2.2.2.2.1, r16.2.2.2.2.2.2.2.2.2)).bind fun r18 => (bif (decide (r18.2.2.2.1 > 0)) then ((atlasref23_File_up.f k r18.2.2.2.2.2.2 4).bind fun r19 => (bif (decide ((r19 ++ r18.2.2.2.2.2.1).length ≤ maxLen) && decide ((r19 ++ r18.2.2.2.2.2.1).length * 1 ≤ 211106232532992)) then (bif (decide (((r19 ++ r18.2.2.2.2.2.1) ++ r18.2.2.2.2.1).length ≤ maxLen) && decide (((r19 ++ r18.2.2.2.2.2.1) ++ r18.2.2.2.2.1).length * 1 ≤ 211106232532992)) then (bif (decide (((r19 ++ r18.2.2.2.2.2.1) ++ r18.2.2.2.2.1).length + (⟨#[0, 46, 115, 121, 109, 116, 97, 98, 0, 46, 115, 116, 114, 116, 97, 98, 0, 46, 115, 104, 115, 116, 114, 116, 97, 98, 0]⟩ : ByteArray).size ≤ maxLen) && decide ((((r19 ++ r18.2.2.2.2.2.1) ++ r18.2.2.2.2.1).length + (⟨#[0, 46, 115, 121, 109, 116, 97, 98, 0, 46, 115, 116, 114, 116, 97, 98, 0, 46, 115, 104, 115, 116, 114, 116, 97, 98, 0]⟩ : ByteArray).size) * 1 ≤ 211106232532992)) then ((atlasref23_File_up.f k (((r19 ++ r18.2.2.2.2.2.1) ++ r18.2.2.2.2.1) ++ strI (⟨#[0, 46, 115, 121, 109, 116, 97, 98, 0, 46, 115, 116, 114, 116, 97, 98, 0, 46, 115, 104, 115, 116, 114, 116, 97, 98, 0]⟩ : ByteArray)) 4).bind fun r20 => ((atlasref23_File_words.f k r20 ([0, 0, 0, 0, 0, 0, 0, 0, 0, 0] : List Int)).bind fun r21 => ((atlasref23_File_words.f k r21 ([1, 2, 0, 0, r18.1, (IntKind.wrap .u64 ((r18.2.2.2.2.2.1.length : Nat) : Int)), 2, 1, 4, 16] : List Int)).bind fun r22 => ((atlasref23_File_words.f k r22 ([9, 3, 0, 0, r18.2.1, (IntKind.wrap .u64 ((r18.2.2.2.2.1.length : Nat) : Int)), 0, 0, 1, 0] : List Int)).bind fun r23 => ((atlasref23_File_words.f k r23 ([17, 3, 0, 0, r18.2.2.1, 27, 0, 0, 1, 0] : List Int)).bind fun r24 => (bif (decide (((r24.length : Nat) : Int) > 33554432)) then (some (([] : List Int), 239)) else (some (r24, 0)))))))) else none) else none) else none)) else (bif (decide (((r18.2.2.2.2.2.2.length : Nat) : Int) > 33554432)) then (some (([] : List Int), 239)) else (some (r18.2.2.2.2.2.2, 0)))))))))) else ((atlasref23_File_lay.f k ([127, 69, 76, 70, 1, 1, 1, 0, 0, 0, 0, 0, 0, 0, 0, 0] : List Int) 2 2).bind fun r25 => ((atlasref23_File_lay.f k r25 2 40).bind fun r26 => ((atlasref23_File_words.f k r26 ([1, (IntKind.wrap .u64 r8.2.2.1), 52, (IntKind.wrap .u64 ((IntKind.wrap .u64 (Int.tdiv (IntKind.wrap .u64 ((IntKind.wrap .u64 ((IntKind.wrap .u64 ((IntKind.wrap .u64 ((IntKind.wrap .u64 ((IntKind.wrap .u64 (Int.tdiv (IntKind.wrap .u64 (r8.2.1 + 3)) 4)) * 4)) + (IntKind.wrap .u64 ((r8.2.2.2.2.2.2.length : Nat) : Int)))) + (IntKind.wrap .u64 ((r8.2.2.2.2.2.1.length : Nat) : Int)))) + 27)) + 3)) 4)) * 4)), 83886080] : List Int)).bind fun r27 => ((atlasref23_Write.q1.l k k (r8.1, (IntKind.wrap .u64 ((IntKind.wrap .u64 (Int.tdiv (IntKind.wrap .u64 (r8.2.1 + 3)) 4)) * 4)), (IntKind.wrap .u64 ((IntKind.wrap .u64 ((IntKind.wrap .u64 (Int.tdiv (IntKind.wrap .u64 (r8.2.1 + 3)) 4)) * 4)) + (IntKind.wrap .u64 ((r8.2.2.2.2.2.2.length : Nat) : Int)))), (IntKind.wrap .u64 ((IntKind.wrap .u64 ((IntKind.wrap .u64 ((IntKind.wrap .u64 (Int.tdiv (IntKind.wrap .u64 (r8.2.1 + 3)) 4)) * 4)) + (IntKind.wrap .u64 ((r8.2.2.2.2.2.2.length : Nat) : Int)))) + (IntKind.wrap .u64 ((r8.2.2.2.2.2.1.length : Nat) : Int)))), 4, 0, r8.2.2.1, r8.2.2.2.1, r8.2.2.2.2.1, r8.2.2.2.2.2.1, ([52, 32, (IntKind.wrap .u64 ((r8.2.2.2.1.length : Nat) : Int)), 40, 4, (IntKind.wrap .u64 ((IntKind.wrap .u64 (Int.tdiv 4 4)) * 3))] : List Int), r8.2.2.2.2.2.2, r27)).bind fun r28 => ((atlasref23_Write.q2.l k k (r28.1, r28.2.1, r28.2.2.1, r28.2.2.2.1, r28.2.2.2.2.1, 0, r28.2.2.2.2.2.1, r28.2.2.2.2.2.2.1, r28.2.2.2.2.2.2.2.1, r28.2.2.2.2.2.2.2.2.1, r28.2.2.2.2.2.2.2.2.2.1, r28.2.2.2.2.2.2.2.2.2.2)).bind fun r29 => ((atlasref23_Write.q3.l k k (r29.1, r29.2.1, r29.2.2.1, r29.2.2.2.1, 0, r29.2.2.2.2.1, r29.2.2.2.2.2.1, r29.2.2.2.2.2.2.1, r29.2.2.2.2.2.2.2.1, r29.2.2.2.2.2.2.2.2.1, r29.2.2.2.2.2.2.2.2.2)).bind fun r30 => (bif (decide (r30.2.2.2.1 > 0)) then ((atlasref23_File_up.f k r30.2.2.2.2.2.2 4).bind fun r31 => (bif (decide ((r31 ++ r30.2.2.2.2.2.1).length ≤ maxLen) && decide ((r31 ++ r30.2.2.2.2.2.1).length * 1 ≤ 211106232532992)) then (bif (decide (((r31 ++ r30.2.2.2.2.2.1) ++ r30.2.2.2.2.1).length ≤ maxLen) && decide (((r31 ++ r30.2.2.2.2.2.1) ++ r30.2.2.2.2.1).length * 1 ≤ 211106232532992)) then (bif (decide (((r31 ++ r30.2.2.2.2.2.1) ++ r30.2.2.2.2.1).length + (⟨#[0, 46, 115, 121, 109, 116, 97, 98, 0, 46, 115, 116, 114, 116, 97, 98, 0, 46, 115, 104, 115, 116, 114, 116, 97, 98, 0]⟩ : ByteArray).size ≤ maxLen) && decide ((((r31 ++ r30.2.2.2.2.2.1) ++ r30.2.2.2.2.1).length + (⟨#[0, 46, 115, 121, 109, 116, 97, 98, 0, 46, 115, 116, 114, 116, 97, 98, 0, 46, 115, 104, 115, 116, 114, 116, 97, 98, 0]⟩ : ByteArray).size) * 1 ≤ 211106232532992)) then ((atlasref23_File_up.f k (((r31 ++ r30.2.2.2.2.2.1) ++ r30.2.2.2.2.1) ++ strI (⟨#[0, 46, 115, 121, 109, 116, 97, 98, 0, 46, 115, 116, 114, 116, 97, 98, 0, 46, 115, 104, 115, 116, 114, 116, 97, 98, 0]⟩ : ByteArray)) 4).bind fun r32 => ((atlasref23_File_words.f k r32 ([0, 0, 0, 0, 0, 0, 0, 0, 0, 0] : List Int)).bind fun r33 => ((atlasref23_File_words.f k r33 ([1, 2, 0, 0, r30.1, (IntKind.wrap .u64 ((r30.2.2.2.2.2.1.length : Nat) : Int)), 2, 1, 4, 16] : List Int)).bind fun r34 => ((atlasref23_File_words.f k r34 ([9, 3, 0, 0, r30.2.1, (IntKind.wrap .u64 ((r30.2.2.2.2.1.length : Nat) : Int)), 0, 0, 1, 0] : List Int)).bind fun r35 => ((atlasref23_File_words.f k r35 ([17, 3, 0, 0, r30.2.2.1, 27, 0, 0, 1, 0] : List Int)).bind fun r36 => (bif (decide (((r36.length : Nat) : Int) > 33554432)) then (some (([] : List Int), 239)) else (some (r36, 0)))))))) else none) else none) else none)) else (bif (decide (((r30.2.2.2.2.2.2.length : Nat) : Int) > 33554432)) then (some (([] : List Int), 239)) else (some (r30.2.2.2.2.2.2, 0))))))))))))))))
theorem atlasref23_Write.run (k : Nat) (x0 : T25) : runF Try.prog (gamW (gamOf [(16, atlasref23_Right.g k), (37, atlasref23_places.g k), (40, atlasref23_bits.g)]) [(38, atlasref23_File_lay.w k), (39, atlasref23_File_words.w k), (41, atlasref23_File_up.w k)]) (lamOf [atlasref23_Write.q0.p k, atlasref23_Write.q1.p k, atlasref23_Write.q2.p k, atlasref23_Write.q3.p k]) Try.f18 [(T25.av x0)] some = (atlasref23_Write.f k x0).bind fun r => some (.ret (.tup [(.vt (.int .u8) r.1), (.val (.int .i64 r.2))])) := by
  unfold atlasref23_Write.f
  try simp only [cond_bind, elim_bind, Option.bind_some, Option.bind_none, Option.bind_assoc, Sum.elim_inl, Sum.elim_inr]
  kernel_rfl
def atlasref23_Write.g (k : Nat) : GFun := fun β args K => match args with
  | [a0] => (T25.of a0).bind fun x0 => (atlasref23_Write.f k x0).bind fun r => K (.ret (.tup [(.vt (.int .u8) r.1), (.val (.int .i64 r.2))]))
  | _ => none
theorem atlasref23_Write.callable : callable Try.prog 18 = true := callable_of Try.func18 (by kernel_rfl)
theorem atlasref23_Write.ok (k : Nat) : GOk Try.prog 18 (atlasref23_Write.g k) := by
  intro β args K r h
  unfold atlasref23_Write.g at h
  split at h
  · obtain ⟨x0, e0, h⟩ := bs h
    obtain ⟨y, hy, hK⟩ := bs h
    have hrun := atlasref23_Write.run k x0
    rw [hy] at hrun
    obtain ⟨out, e, hs⟩ := sim_of_run Try.func18 (by kernel_rfl) mixed (gamW_ok (gamOf_cons (atlasref23_Right.ok k) atlasref23_Right.callable (gamOf_cons (atlasref23_places.ok k) atlasref23_places.callable (gamOf_cons (atlasref23_bits.ok) atlasref23_bits.callable (gamOf_nil _)))) (wsOk_cons (atlasref23_File_lay.wok k) atlasref23_File_lay.callable (wsOk_cons (atlasref23_File_words.wok k) atlasref23_File_words.callable (wsOk_cons (atlasref23_File_up.wok k) atlasref23_File_up.callable (wsOk_nil _))))) (lamOf_cons (atlasref23_Write.q0.ok k) (lamOf_cons (atlasref23_Write.q1.ok k) (lamOf_cons (atlasref23_Write.q2.ok k) (lamOf_cons (atlasref23_Write.q3.ok k) (lamOf_nil _ _))))) (args' := [(T25.av x0)]) (RefsL.cons (T25.refs e0) RefsL.nil) hrun
    simp only [Option.some.injEq] at e
    subst e
    exact ⟨_, hK, hs⟩
  · cases h
end Go.Va
