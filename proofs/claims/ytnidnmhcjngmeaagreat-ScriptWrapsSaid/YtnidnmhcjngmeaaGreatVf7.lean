import Derived.Test.YtnidnmhcjngmeaaGreatVaTy
import Derived.Test.YtnidnmhcjngmeaaGreatVf1
import Derived.Test.YtnidnmhcjngmeaaGreatVf6
-- Written by a program of this session (wip/va/vaprint.py). Not trusted: Lean checks it.
set_option linter.unusedVariables false
set_option linter.unusedSimpArgs false
set_option autoImplicit false
set_option maxRecDepth 100000
namespace Go.Va
open Go.Proofs
/-! ### atlas/atlasref15.Parse: function 5 -/
def atlasref15_Parse.q0.h : Head ((List ByteArray) × Int × Int × Int × Int × Int × Int × Int × Int × Int × Int × Int × Int × Int × Bool × Int × Bool × ByteArray × ByteArray × Int × Int × Int × Int × Int × Bool × Bool × Bool × Int × Int × Bool × Int × Int × Int × Int × Int) where
  k γ s F := (sizedN 48 s).bind fun _ => (ptrN 0 (gt s.tm 2)).bind fun b2 => (vtO .str (gt s.tm 5)).bind fun v4 => (intO .i64 (gt s.tm 6)).bind fun v6 => (intO .i64 (gt s.tm 7)).bind fun v8 => (rowN 33 32 s.hp b2).bind fun l10 => (intO .i64 (gt l10 0)).bind fun v12 => (intO .i64 (gt l10 1)).bind fun v14 => (intO .i64 (gt l10 2)).bind fun v16 => (intO .i64 (gt l10 3)).bind fun v18 => (intO .i64 (gt l10 4)).bind fun v20 => (intO .i64 (gt l10 5)).bind fun v22 => (intO .i64 (gt l10 6)).bind fun v24 => (intO .i64 (gt l10 7)).bind fun v26 => (intO .i64 (gt l10 8)).bind fun v28 => (intO .i64 (gt l10 9)).bind fun v30 => (intO .u32 (gt l10 10)).bind fun v32 => (boolO (gt l10 11)).bind fun v34 => (intO .i64 (gt l10 12)).bind fun v36 => (boolO (gt l10 13)).bind fun v38 => (strO (gt l10 14)).bind fun v40 => (strO (gt l10 15)).bind fun v42 => (intO .u32 (gt l10 16)).bind fun v44 => (intO .u32 (gt l10 17)).bind fun v46 => (intO .i64 (gt l10 18)).bind fun v48 => (intO .i64 (gt l10 19)).bind fun v50 => (intO .u64 (gt l10 20)).bind fun v52 => (boolO (gt l10 21)).bind fun v54 => (boolO (gt l10 22)).bind fun v56 => (boolO (gt l10 23)).bind fun v58 => (intO .i64 (gt l10 24)).bind fun v60 => (intO .u32 (gt l10 25)).bind fun v62 => (boolO (gt l10 26)).bind fun v64 => (intO .u64 (gt l10 27)).bind fun v66 => (intO .i64 (gt l10 28)).bind fun v68 => (intO .i64 (gt l10 29)).bind fun v70 => (intO .i64 (gt l10 30)).bind fun v72 => (intO .i64 (gt l10 31)).bind fun v74 => (distO [some b2]).bind fun _ => F (v4, v6, v8, v12, v14, v16, v18, v20, v22, v24, v26, v28, v30, v32, v34, v36, v38, v40, v42, v44, v46, v48, v50, v52, v54, v56, v58, v60, v62, v64, v66, v68, v70, v72, v74)
  st x := ⟨sparseT [(2, (.ptr 0 0)), (5, (.vt .str x.1)), (6, (.val (.int .i64 x.2.1))), (7, (.val (.int .i64 x.2.2.1)))] 48 0, [.row [(.val (.int .i64 x.2.2.2.1)), (.val (.int .i64 x.2.2.2.2.1)), (.val (.int .i64 x.2.2.2.2.2.1)), (.val (.int .i64 x.2.2.2.2.2.2.1)), (.val (.int .i64 x.2.2.2.2.2.2.2.1)), (.val (.int .i64 x.2.2.2.2.2.2.2.2.1)), (.val (.int .i64 x.2.2.2.2.2.2.2.2.2.1)), (.val (.int .i64 (p8 x).2.2.1)), (.val (.int .i64 (p8 x).2.2.2.1)), (.val (.int .i64 (p8 x).2.2.2.2.1)), (.val (.int .u32 (p8 x).2.2.2.2.2.1)), (.val (.bool (p8 x).2.2.2.2.2.2.1)), (.val (.int .i64 (p8 x).2.2.2.2.2.2.2.1)), (.val (.bool (p8 (p8 x)).1)), (.val (.string (p8 (p8 x)).2.1)), (.val (.string (p8 (p8 x)).2.2.1)), (.val (.int .u32 (p8 (p8 x)).2.2.2.1)), (.val (.int .u32 (p8 (p8 x)).2.2.2.2.1)), (.val (.int .i64 (p8 (p8 x)).2.2.2.2.2.1)), (.val (.int .i64 (p8 (p8 x)).2.2.2.2.2.2.1)), (.val (.int .u64 (p8 (p8 x)).2.2.2.2.2.2.2.1)), (.val (.bool (p8 (p8 (p8 x))).1)), (.val (.bool (p8 (p8 (p8 x))).2.1)), (.val (.bool (p8 (p8 (p8 x))).2.2.1)), (.val (.int .i64 (p8 (p8 (p8 x))).2.2.2.1)), (.val (.int .u32 (p8 (p8 (p8 x))).2.2.2.2.1)), (.val (.bool (p8 (p8 (p8 x))).2.2.2.2.2.1)), (.val (.int .u64 (p8 (p8 (p8 x))).2.2.2.2.2.2.1)), (.val (.int .i64 (p8 (p8 (p8 x))).2.2.2.2.2.2.2.1)), (.val (.int .i64 (p8 (p8 (p8 (p8 x)))).1)), (.val (.int .i64 (p8 (p8 (p8 (p8 x)))).2.1)), (.val (.int .i64 (p8 (p8 (p8 (p8 x)))).2.2))] 33 true]⟩
  ok γ s F r h := by
    have ⟨_, hz, h⟩ := bs h
    have ⟨b2, h1, h⟩ := bs h
    have ⟨v4, h3, h⟩ := bs h
    have ⟨v6, h5, h⟩ := bs h
    have ⟨v8, h7, h⟩ := bs h
    have ⟨l10, h9, h⟩ := bs h
    have ⟨v12, h11, h⟩ := bs h
    have ⟨v14, h13, h⟩ := bs h
    have ⟨v16, h15, h⟩ := bs h
    have ⟨v18, h17, h⟩ := bs h
    have ⟨v20, h19, h⟩ := bs h
    have ⟨v22, h21, h⟩ := bs h
    have ⟨v24, h23, h⟩ := bs h
    have ⟨v26, h25, h⟩ := bs h
    have ⟨v28, h27, h⟩ := bs h
    have ⟨v30, h29, h⟩ := bs h
    have ⟨v32, h31, h⟩ := bs h
    have ⟨v34, h33, h⟩ := bs h
    have ⟨v36, h35, h⟩ := bs h
    have ⟨v38, h37, h⟩ := bs h
    have ⟨v40, h39, h⟩ := bs h
    have ⟨v42, h41, h⟩ := bs h
    have ⟨v44, h43, h⟩ := bs h
    have ⟨v46, h45, h⟩ := bs h
    have ⟨v48, h47, h⟩ := bs h
    have ⟨v50, h49, h⟩ := bs h
    have ⟨v52, h51, h⟩ := bs h
    have ⟨v54, h53, h⟩ := bs h
    have ⟨v56, h55, h⟩ := bs h
    have ⟨v58, h57, h⟩ := bs h
    have ⟨v60, h59, h⟩ := bs h
    have ⟨v62, h61, h⟩ := bs h
    have ⟨v64, h63, h⟩ := bs h
    have ⟨v66, h65, h⟩ := bs h
    have ⟨v68, h67, h⟩ := bs h
    have ⟨v70, h69, h⟩ := bs h
    have ⟨v72, h71, h⟩ := bs h
    have ⟨v74, h73, h⟩ := bs h
    have ⟨_, h75, h⟩ := bs h
    exact ⟨_, h, weak_ren (l := [some b2]) (sizedN_ok hz) (distO_ok h75) (LiveR.cons (RefsR.ptr (l := [some b2]) (i := 0) rfl (ptrN_eq h1)) (LiveR.cons (pV h3) (LiveR.cons (pI h5) (LiveR.cons (pI h7) LiveR.nil)))) (BlksR.cons (rowN_refs h9 rfl (GtRefsR.cons (pI h11) (GtRefsR.cons (pI h13) (GtRefsR.cons (pI h15) (GtRefsR.cons (pI h17) (GtRefsR.cons (pI h19) (GtRefsR.cons (pI h21) (GtRefsR.cons (pI h23) (GtRefsR.cons (pI h25) (GtRefsR.cons (pI h27) (GtRefsR.cons (pI h29) (GtRefsR.cons (pI h31) (GtRefsR.cons (pB h33) (GtRefsR.cons (pI h35) (GtRefsR.cons (pB h37) (GtRefsR.cons (pS h39) (GtRefsR.cons (pS h41) (GtRefsR.cons (pI h43) (GtRefsR.cons (pI h45) (GtRefsR.cons (pI h47) (GtRefsR.cons (pI h49) (GtRefsR.cons (pI h51) (GtRefsR.cons (pB h53) (GtRefsR.cons (pB h55) (GtRefsR.cons (pB h57) (GtRefsR.cons (pI h59) (GtRefsR.cons (pI h61) (GtRefsR.cons (pB h63) (GtRefsR.cons (pI h65) (GtRefsR.cons (pI h67) (GtRefsR.cons (pI h69) (GtRefsR.cons (pI h71) (GtRefsR.cons (pI h73) GtRefsR.nil)))))))))))))))))))))))))))))))) rfl) BlksR.nil)⟩

def atlasref15_Parse.q0.x0 : Head ((List ByteArray) × Int × Int × Int × Int × Int × Int × Int × Int × Int × Int × Int × Int × Bool × Int × Bool × ByteArray × ByteArray × Int × Int × Int × Int × Int × Bool × Bool × Bool × Int × Int × Bool × Int × Int × Int × Int × Int) where
  k γ s F := (sizedN 48 s).bind fun _ => (ptrN 0 (gt s.tm 2)).bind fun b2 => (vtO .str (gt s.tm 5)).bind fun v4 => (intO .i64 (gt s.tm 6)).bind fun v6 => (rowN 33 32 s.hp b2).bind fun l8 => (intO .i64 (gt l8 0)).bind fun v10 => (intO .i64 (gt l8 1)).bind fun v12 => (intO .i64 (gt l8 2)).bind fun v14 => (intO .i64 (gt l8 3)).bind fun v16 => (intO .i64 (gt l8 4)).bind fun v18 => (intO .i64 (gt l8 5)).bind fun v20 => (intO .i64 (gt l8 6)).bind fun v22 => (intO .i64 (gt l8 7)).bind fun v24 => (intO .i64 (gt l8 8)).bind fun v26 => (intO .i64 (gt l8 9)).bind fun v28 => (intO .u32 (gt l8 10)).bind fun v30 => (boolO (gt l8 11)).bind fun v32 => (intO .i64 (gt l8 12)).bind fun v34 => (boolO (gt l8 13)).bind fun v36 => (strO (gt l8 14)).bind fun v38 => (strO (gt l8 15)).bind fun v40 => (intO .u32 (gt l8 16)).bind fun v42 => (intO .u32 (gt l8 17)).bind fun v44 => (intO .i64 (gt l8 18)).bind fun v46 => (intO .i64 (gt l8 19)).bind fun v48 => (intO .u64 (gt l8 20)).bind fun v50 => (boolO (gt l8 21)).bind fun v52 => (boolO (gt l8 22)).bind fun v54 => (boolO (gt l8 23)).bind fun v56 => (intO .i64 (gt l8 24)).bind fun v58 => (intO .u32 (gt l8 25)).bind fun v60 => (boolO (gt l8 26)).bind fun v62 => (intO .u64 (gt l8 27)).bind fun v64 => (intO .i64 (gt l8 28)).bind fun v66 => (intO .i64 (gt l8 29)).bind fun v68 => (intO .i64 (gt l8 30)).bind fun v70 => (intO .i64 (gt l8 31)).bind fun v72 => (distO [some b2]).bind fun _ => F (v4, v6, v10, v12, v14, v16, v18, v20, v22, v24, v26, v28, v30, v32, v34, v36, v38, v40, v42, v44, v46, v48, v50, v52, v54, v56, v58, v60, v62, v64, v66, v68, v70, v72)
  st x := ⟨sparseT [(2, (.ptr 0 0)), (5, (.vt .str x.1)), (6, (.val (.int .i64 x.2.1)))] 48 0, [.row [(.val (.int .i64 x.2.2.1)), (.val (.int .i64 x.2.2.2.1)), (.val (.int .i64 x.2.2.2.2.1)), (.val (.int .i64 x.2.2.2.2.2.1)), (.val (.int .i64 x.2.2.2.2.2.2.1)), (.val (.int .i64 x.2.2.2.2.2.2.2.1)), (.val (.int .i64 x.2.2.2.2.2.2.2.2.1)), (.val (.int .i64 x.2.2.2.2.2.2.2.2.2.1)), (.val (.int .i64 (p8 x).2.2.1)), (.val (.int .i64 (p8 x).2.2.2.1)), (.val (.int .u32 (p8 x).2.2.2.2.1)), (.val (.bool (p8 x).2.2.2.2.2.1)), (.val (.int .i64 (p8 x).2.2.2.2.2.2.1)), (.val (.bool (p8 x).2.2.2.2.2.2.2.1)), (.val (.string (p8 (p8 x)).1)), (.val (.string (p8 (p8 x)).2.1)), (.val (.int .u32 (p8 (p8 x)).2.2.1)), (.val (.int .u32 (p8 (p8 x)).2.2.2.1)), (.val (.int .i64 (p8 (p8 x)).2.2.2.2.1)), (.val (.int .i64 (p8 (p8 x)).2.2.2.2.2.1)), (.val (.int .u64 (p8 (p8 x)).2.2.2.2.2.2.1)), (.val (.bool (p8 (p8 x)).2.2.2.2.2.2.2.1)), (.val (.bool (p8 (p8 (p8 x))).1)), (.val (.bool (p8 (p8 (p8 x))).2.1)), (.val (.int .i64 (p8 (p8 (p8 x))).2.2.1)), (.val (.int .u32 (p8 (p8 (p8 x))).2.2.2.1)), (.val (.bool (p8 (p8 (p8 x))).2.2.2.2.1)), (.val (.int .u64 (p8 (p8 (p8 x))).2.2.2.2.2.1)), (.val (.int .i64 (p8 (p8 (p8 x))).2.2.2.2.2.2.1)), (.val (.int .i64 (p8 (p8 (p8 x))).2.2.2.2.2.2.2.1)), (.val (.int .i64 (p8 (p8 (p8 (p8 x)))).1)), (.val (.int .i64 (p8 (p8 (p8 (p8 x)))).2))] 33 true]⟩
  ok γ s F r h := by
    have ⟨_, hz, h⟩ := bs h
    have ⟨b2, h1, h⟩ := bs h
    have ⟨v4, h3, h⟩ := bs h
    have ⟨v6, h5, h⟩ := bs h
    have ⟨l8, h7, h⟩ := bs h
    have ⟨v10, h9, h⟩ := bs h
    have ⟨v12, h11, h⟩ := bs h
    have ⟨v14, h13, h⟩ := bs h
    have ⟨v16, h15, h⟩ := bs h
    have ⟨v18, h17, h⟩ := bs h
    have ⟨v20, h19, h⟩ := bs h
    have ⟨v22, h21, h⟩ := bs h
    have ⟨v24, h23, h⟩ := bs h
    have ⟨v26, h25, h⟩ := bs h
    have ⟨v28, h27, h⟩ := bs h
    have ⟨v30, h29, h⟩ := bs h
    have ⟨v32, h31, h⟩ := bs h
    have ⟨v34, h33, h⟩ := bs h
    have ⟨v36, h35, h⟩ := bs h
    have ⟨v38, h37, h⟩ := bs h
    have ⟨v40, h39, h⟩ := bs h
    have ⟨v42, h41, h⟩ := bs h
    have ⟨v44, h43, h⟩ := bs h
    have ⟨v46, h45, h⟩ := bs h
    have ⟨v48, h47, h⟩ := bs h
    have ⟨v50, h49, h⟩ := bs h
    have ⟨v52, h51, h⟩ := bs h
    have ⟨v54, h53, h⟩ := bs h
    have ⟨v56, h55, h⟩ := bs h
    have ⟨v58, h57, h⟩ := bs h
    have ⟨v60, h59, h⟩ := bs h
    have ⟨v62, h61, h⟩ := bs h
    have ⟨v64, h63, h⟩ := bs h
    have ⟨v66, h65, h⟩ := bs h
    have ⟨v68, h67, h⟩ := bs h
    have ⟨v70, h69, h⟩ := bs h
    have ⟨v72, h71, h⟩ := bs h
    have ⟨_, h73, h⟩ := bs h
    exact ⟨_, h, weak_ren (l := [some b2]) (sizedN_ok hz) (distO_ok h73) (LiveR.cons (RefsR.ptr (l := [some b2]) (i := 0) rfl (ptrN_eq h1)) (LiveR.cons (pV h3) (LiveR.cons (pI h5) LiveR.nil))) (BlksR.cons (rowN_refs h7 rfl (GtRefsR.cons (pI h9) (GtRefsR.cons (pI h11) (GtRefsR.cons (pI h13) (GtRefsR.cons (pI h15) (GtRefsR.cons (pI h17) (GtRefsR.cons (pI h19) (GtRefsR.cons (pI h21) (GtRefsR.cons (pI h23) (GtRefsR.cons (pI h25) (GtRefsR.cons (pI h27) (GtRefsR.cons (pI h29) (GtRefsR.cons (pB h31) (GtRefsR.cons (pI h33) (GtRefsR.cons (pB h35) (GtRefsR.cons (pS h37) (GtRefsR.cons (pS h39) (GtRefsR.cons (pI h41) (GtRefsR.cons (pI h43) (GtRefsR.cons (pI h45) (GtRefsR.cons (pI h47) (GtRefsR.cons (pI h49) (GtRefsR.cons (pB h51) (GtRefsR.cons (pB h53) (GtRefsR.cons (pB h55) (GtRefsR.cons (pI h57) (GtRefsR.cons (pI h59) (GtRefsR.cons (pB h61) (GtRefsR.cons (pI h63) (GtRefsR.cons (pI h65) (GtRefsR.cons (pI h67) (GtRefsR.cons (pI h69) (GtRefsR.cons (pI h71) GtRefsR.nil)))))))))))))))))))))))))))))))) rfl) BlksR.nil)⟩

def atlasref15_Parse.q0.t : Tail ((List ByteArray) × Int × Int × Int × Int × Int × Int × Int × Int × Int × Int × Int × Int × Bool × Int × Bool × ByteArray × ByteArray × Int × Int × Int × Int × Int × Bool × Bool × Bool × Int × Int × Bool × Int × Int × Int × Int × Int) := Tail.one (.exit 0) atlasref15_Parse.q0.x0
theorem atlasref15_Parse.q0.np (y : ((List ByteArray) × Int × Int × Int × Int × Int × Int × Int × Int × Int × Int × Int × Int × Bool × Int × Bool × ByteArray × ByteArray × Int × Int × Int × Int × Int × Bool × Bool × Bool × Int × Int × Bool × Int × Int × Int × Int × Int)) (v : AV) : (atlasref15_Parse.q0.t.out y).1 = .panic v → nomem v = true := fun h => by cases h
theorem atlasref15_Parse.q0.nn (y : ((List ByteArray) × Int × Int × Int × Int × Int × Int × Int × Int × Int × Int × Int × Int × Bool × Int × Bool × ByteArray × ByteArray × Int × Int × Int × Int × Int × Bool × Bool × Bool × Int × Int × Bool × Int × Int × Int × Int × Int)) : (atlasref15_Parse.q0.t.out y).1 ≠ .normal := fun h => by cases h
def atlasref15_Parse.q0.l (k : Nat) : Nat → ((List ByteArray) × Int × Int × Int × Int × Int × Int × Int × Int × Int × Int × Int × Int × Int × Bool × Int × Bool × ByteArray × ByteArray × Int × Int × Int × Int × Int × Bool × Bool × Bool × Int × Int × Bool × Int × Int × Int × Int × Int) → Option ((List ByteArray) × Int × Int × Int × Int × Int × Int × Int × Int × Int × Int × Int × Int × Bool × Int × Bool × ByteArray × ByteArray × Int × Int × Int × Int × Int × Bool × Bool × Bool × Int × Int × Bool × Int × Int × Int × Int × Int)
  | 0, _ => none
  | n + 1, x => (bif (decide (x.2.2.1 < 21)) then ((atlasref15_verbs.f x.2.2.1).bind fun r2 => (bif (decide (0 ≤ 0) && decide (0 < ((x.1.length : Nat) : Int))) then (bif (r2.toList == (x.1.getD 0 ByteArray.empty).toList) then (atlasref15_Parse.q0.l k n (x.1, x.2.2.1, (IntKind.wrap .i64 (x.2.2.1 + 1)), x.2.2.2.1, x.2.2.2.2.1, x.2.2.2.2.2.1, x.2.2.2.2.2.2.1, x.2.2.2.2.2.2.2.1, x.2.2.2.2.2.2.2.2.1, x.2.2.2.2.2.2.2.2.2.1, (p8 x).2.2.1, (p8 x).2.2.2.1, (p8 x).2.2.2.2.1, (p8 x).2.2.2.2.2.1, (p8 x).2.2.2.2.2.2.1, (p8 x).2.2.2.2.2.2.2.1, (p8 (p8 x)).1, (p8 (p8 x)).2.1, (p8 (p8 x)).2.2.1, (p8 (p8 x)).2.2.2.1, (p8 (p8 x)).2.2.2.2.1, (p8 (p8 x)).2.2.2.2.2.1, (p8 (p8 x)).2.2.2.2.2.2.1, (p8 (p8 x)).2.2.2.2.2.2.2.1, (p8 (p8 (p8 x))).1, (p8 (p8 (p8 x))).2.1, (p8 (p8 (p8 x))).2.2.1, (p8 (p8 (p8 x))).2.2.2.1, (p8 (p8 (p8 x))).2.2.2.2.1, (p8 (p8 (p8 x))).2.2.2.2.2.1, (p8 (p8 (p8 x))).2.2.2.2.2.2.1, (p8 (p8 (p8 x))).2.2.2.2.2.2.2.1, (p8 (p8 (p8 (p8 x)))).1, (p8 (p8 (p8 (p8 x)))).2.1, (p8 (p8 (p8 (p8 x)))).2.2)) else (atlasref15_Parse.q0.l k n (x.1, x.2.1, (IntKind.wrap .i64 (x.2.2.1 + 1)), x.2.2.2.1, x.2.2.2.2.1, x.2.2.2.2.2.1, x.2.2.2.2.2.2.1, x.2.2.2.2.2.2.2.1, x.2.2.2.2.2.2.2.2.1, x.2.2.2.2.2.2.2.2.2.1, (p8 x).2.2.1, (p8 x).2.2.2.1, (p8 x).2.2.2.2.1, (p8 x).2.2.2.2.2.1, (p8 x).2.2.2.2.2.2.1, (p8 x).2.2.2.2.2.2.2.1, (p8 (p8 x)).1, (p8 (p8 x)).2.1, (p8 (p8 x)).2.2.1, (p8 (p8 x)).2.2.2.1, (p8 (p8 x)).2.2.2.2.1, (p8 (p8 x)).2.2.2.2.2.1, (p8 (p8 x)).2.2.2.2.2.2.1, (p8 (p8 x)).2.2.2.2.2.2.2.1, (p8 (p8 (p8 x))).1, (p8 (p8 (p8 x))).2.1, (p8 (p8 (p8 x))).2.2.1, (p8 (p8 (p8 x))).2.2.2.1, (p8 (p8 (p8 x))).2.2.2.2.1, (p8 (p8 (p8 x))).2.2.2.2.2.1, (p8 (p8 (p8 x))).2.2.2.2.2.2.1, (p8 (p8 (p8 x))).2.2.2.2.2.2.2.1, (p8 (p8 (p8 (p8 x)))).1, (p8 (p8 (p8 (p8 x)))).2.1, (p8 (p8 (p8 (p8 x)))).2.2))) else none)) else (some (x.1, x.2.1, x.2.2.2.1, x.2.2.2.2.1, x.2.2.2.2.2.1, x.2.2.2.2.2.2.1, x.2.2.2.2.2.2.2.1, x.2.2.2.2.2.2.2.2.1, x.2.2.2.2.2.2.2.2.2.1, (p8 x).2.2.1, (p8 x).2.2.2.1, (p8 x).2.2.2.2.1, (p8 x).2.2.2.2.2.1, (p8 x).2.2.2.2.2.2.1, (p8 x).2.2.2.2.2.2.2.1, (p8 (p8 x)).1, (p8 (p8 x)).2.1, (p8 (p8 x)).2.2.1, (p8 (p8 x)).2.2.2.1, (p8 (p8 x)).2.2.2.2.1, (p8 (p8 x)).2.2.2.2.2.1, (p8 (p8 x)).2.2.2.2.2.2.1, (p8 (p8 x)).2.2.2.2.2.2.2.1, (p8 (p8 (p8 x))).1, (p8 (p8 (p8 x))).2.1, (p8 (p8 (p8 x))).2.2.1, (p8 (p8 (p8 x))).2.2.2.1, (p8 (p8 (p8 x))).2.2.2.2.1, (p8 (p8 (p8 x))).2.2.2.2.2.1, (p8 (p8 (p8 x))).2.2.2.2.2.2.1, (p8 (p8 (p8 x))).2.2.2.2.2.2.2.1, (p8 (p8 (p8 (p8 x)))).1, (p8 (p8 (p8 (p8 x)))).2.1, (p8 (p8 (p8 (p8 x)))).2.2)))
theorem atlasref15_Parse.q0.z (k : Nat) (x : ((List ByteArray) × Int × Int × Int × Int × Int × Int × Int × Int × Int × Int × Int × Int × Int × Bool × Int × Bool × ByteArray × ByteArray × Int × Int × Int × Int × Int × Bool × Bool × Bool × Int × Int × Bool × Int × Int × Int × Int × Int)) : atlasref15_Parse.q0.l k 0 x = none := rfl
theorem atlasref15_Parse.q0.at : codeAt (bodyOf Tryz.f5) [false, true, false, true, true, true, true, true] = some (.loop (loopBody (bodyOf Tryz.f5) [false, true, false, true, true, true, true, true])) := by kernel_rfl
theorem atlasref15_Parse.q0.goes (k n : Nat) (x : ((List ByteArray) × Int × Int × Int × Int × Int × Int × Int × Int × Int × Int × Int × Int × Int × Bool × Int × Bool × ByteArray × ByteArray × Int × Int × Int × Int × Int × Bool × Bool × Bool × Int × Int × Bool × Int × Int × Int × Int × Int)) : E Tryz.prog (gamOf [(9, atlasref01_Fields.g k), (10, atlasref15_verbs.g)]) (lamOf []) (loopBody (bodyOf Tryz.f5) [false, true, false, true, true, true, true, true]) (false :: [false, true, false, true, true, true, true, true]) (atlasref15_Parse.q0.h.st x) (contD atlasref15_Parse.q0.h atlasref15_Parse.q0.t (atlasref15_Parse.q0.l k n) some) = atlasref15_Parse.q0.l k (n + 1) x := by
  kernel_rfl
theorem atlasref15_Parse.q0.ok_ (k : Nat) : PieceOk Tryz.prog (bodyOf Tryz.f5) ⟨[false, true, false, true, true, true, true, true], _, _, atlasref15_Parse.q0.h, atlasref15_Parse.q0.t, atlasref15_Parse.q0.l k k⟩ :=
  piece_loop (gamOf_cons (atlasref01_Fields.ok k) atlasref01_Fields.callable (gamOf_cons (atlasref15_verbs.ok) atlasref15_verbs.callable (gamOf_nil _))) (lamOf_nil _ _) mixed atlasref15_Parse.q0.at atlasref15_Parse.q0.np atlasref15_Parse.q0.nn (atlasref15_Parse.q0.z k) (atlasref15_Parse.q0.goes k) k
def atlasref15_Parse.q0.p (k : Nat) : Piece := ⟨[false, true, false, true, true, true, true, true], _, _, atlasref15_Parse.q0.h, atlasref15_Parse.q0.t, atlasref15_Parse.q0.l k k⟩
theorem atlasref15_Parse.q0.ok (k : Nat) : PieceOk Tryz.prog (bodyOf Tryz.f5) (atlasref15_Parse.q0.p k) := atlasref15_Parse.q0.ok_ k
def atlasref15_Parse.f (k : Nat) (x0 : ByteArray) : Option (T32 × Int × Int) := (bif (decide (((x0).size : Int) > 256)) then (some ((⟨0, 0, 0, 0, 0, 0, 0, 0, 0, 0, 0, false, 0, false, ByteArray.empty, ByteArray.empty, 0, 0, 0, 0, 0, false, false, false, 0, 0, false, 0, 0, 0, 0, 0⟩ : T32), 153, (-1))) else ((atlasref01_Fields.f k x0).bind fun r1 => (bif (((r1.length : Nat) : Int) == 0) then (some ((⟨0, 0, 0, 0, 0, 0, 0, 0, 0, 0, 0, false, 0, false, ByteArray.empty, ByteArray.empty, 0, 0, 0, 0, 0, false, false, false, 0, 0, false, 0, 0, 0, 0, 0⟩ : T32), 0, (-1))) else ((atlasref15_Parse.q0.l k k (r1, 0, 1, 0, 0, 0, 0, 0, 0, 0, 0, 0, 0, 0, false, 0, false, ByteArray.empty, ByteArray.empty, 0, 0, 0, 0, 0, false, false, false, 0, 0, false, 0, 0, 0, 0, 0)).bind fun r3 => (bif (r3.2.1 == 0) then (some ((⟨0, 0, 0, 0, 0, 0, 0, 0, 0, 0, 0, false, 0, false, ByteArray.empty, ByteArray.empty, 0, 0, 0, 0, 0, false, false, false, 0, 0, false, 0, 0, 0, 0, 0⟩ : T32), 151, 0)) else ((atlasref15_rest.f k r3.2.1 r3.1).bind fun r4 => (bif (r4.2.1 != 0) then (some ((⟨0, 0, 0, 0, 0, 0, 0, 0, 0, 0, 0, false, 0, false, ByteArray.empty, ByteArray.empty, 0, 0, 0, 0, 0, false, false, false, 0, 0, false, 0, 0, 0, 0, 0⟩ : T32), r4.2.1, r4.2.2)) else (some ((⟨r4.1.f0, r4.1.f1, r4.1.f2, r4.1.f3, r4.1.f4, r4.1.f5, r4.1.f6, r4.1.f7, r4.1.f8, r4.1.f9, r4.1.f10, r4.1.f11, r4.1.f12, r4.1.f13, r4.1.f14, r4.1.f15, r4.1.f16, r4.1.f17, r4.1.f18, r4.1.f19, r4.1.f20, r4.1.f21, r4.1.f22, r4.1.f23, r4.1.f24, r4.1.f25, r4.1.f26, r4.1.f27, r4.1.f28, r4.1.f29, r4.1.f30, r4.1.f31⟩ : T32), 0, (-1))))))))))
theorem atlasref15_Parse.run (k : Nat) (x0 : ByteArray) : runF Tryz.prog (gamOf [(9, atlasref01_Fields.g k), (10, atlasref15_verbs.g), (11, atlasref15_rest.g k)]) (lamOf [atlasref15_Parse.q0.p k]) Tryz.f5 [(.val (.string x0))] some = (atlasref15_Parse.f k x0).bind fun r => some (.ret (.tup [(T32.av r.1), (.val (.int .i64 r.2.1)), (.val (.int .i64 r.2.2))])) := by
  unfold atlasref15_Parse.f
  try simp only [cond_bind, elim_bind, Option.bind_some, Option.bind_none, Option.bind_assoc, Sum.elim_inl, Sum.elim_inr]
  kernel_rfl
def atlasref15_Parse.g (k : Nat) : GFun := fun β args K => match args with
  | [a0] => (strO a0).bind fun x0 => (atlasref15_Parse.f k x0).bind fun r => K (.ret (.tup [(T32.av r.1), (.val (.int .i64 r.2.1)), (.val (.int .i64 r.2.2))]))
  | _ => none
theorem atlasref15_Parse.callable : callable Tryz.prog 5 = true := callable_of Tryz.func5 (by kernel_rfl)
theorem atlasref15_Parse.ok (k : Nat) : GOk Tryz.prog 5 (atlasref15_Parse.g k) := by
  intro β args K r h
  unfold atlasref15_Parse.g at h
  split at h
  · obtain ⟨x0, e0, h⟩ := bs h
    obtain ⟨y, hy, hK⟩ := bs h
    have hrun := atlasref15_Parse.run k x0
    rw [hy] at hrun
    obtain ⟨out, e, hs⟩ := sim_of_run Tryz.func5 (by kernel_rfl) mixed (gamOf_cons (atlasref01_Fields.ok k) atlasref01_Fields.callable (gamOf_cons (atlasref15_verbs.ok) atlasref15_verbs.callable (gamOf_cons (atlasref15_rest.ok k) atlasref15_rest.callable (gamOf_nil _)))) (lamOf_cons (atlasref15_Parse.q0.ok k) (lamOf_nil _ _)) (args' := [(.val (.string x0))]) (RefsL.cons (Refs.of_eq (strO_eq e0)) RefsL.nil) hrun
    simp only [Option.some.injEq] at e
    subst e
    exact ⟨_, hK, hs⟩
  · cases h
end Go.Va
