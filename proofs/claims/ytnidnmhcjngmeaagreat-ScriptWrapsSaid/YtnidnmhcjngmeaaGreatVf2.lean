import Derived.Test.YtnidnmhcjngmeaaGreatVaTy
import Derived.Test.YtnidnmhcjngmeaaGreatVf1
-- Written by a program of this session (wip/va/vaprint.py). Not trusted: Lean checks it.
set_option linter.unusedVariables false
set_option linter.unusedSimpArgs false
set_option autoImplicit false
set_option maxRecDepth 100000
namespace Go.Va
open Go.Proofs
/-! ### atlas/atlasref15.own: function 43 -/
def atlasref15_own.q0.h : Head (ByteArray × Int × Int × Int × Int × Int × Bool × Int × Bool × Int × Int × Int × Int × Bool × Int × Bool × ByteArray × ByteArray × ByteArray × ByteArray) where
  k γ s F := (sizedN 71 s).bind fun _ => (strO (gt s.tm 2)).bind fun v2 => (ptrN 0 (gt s.tm 3)).bind fun b4 => (ptrN 0 (gt s.tm 6)).bind fun b6 => (ptrN 0 (gt s.tm 8)).bind fun b8 => (intO .i64 (gt s.tm 9)).bind fun v10 => (rowN 26 7 s.hp b4).bind fun l12 => (intO .i64 (gt l12 0)).bind fun v14 => (intO .i64 (gt l12 1)).bind fun v16 => (intO .i64 (gt l12 2)).bind fun v18 => (intO .u32 (gt l12 3)).bind fun v20 => (boolO (gt l12 4)).bind fun v22 => (intO .i64 (gt l12 5)).bind fun v24 => (boolO (gt l12 6)).bind fun v26 => (rowN 26 7 s.hp b6).bind fun l28 => (intO .i64 (gt l28 0)).bind fun v30 => (intO .i64 (gt l28 1)).bind fun v32 => (intO .i64 (gt l28 2)).bind fun v34 => (intO .u32 (gt l28 3)).bind fun v36 => (boolO (gt l28 4)).bind fun v38 => (intO .i64 (gt l28 5)).bind fun v40 => (boolO (gt l28 6)).bind fun v42 => (rowN 122 4 s.hp b8).bind fun l44 => (strO (gt l44 0)).bind fun v46 => (strO (gt l44 1)).bind fun v48 => (strO (gt l44 2)).bind fun v50 => (strO (gt l44 3)).bind fun v52 => (distO [some b4, some b6, some b8]).bind fun _ => F (v2, v10, v14, v16, v18, v20, v22, v24, v26, v30, v32, v34, v36, v38, v40, v42, v46, v48, v50, v52)
  st x := ⟨sparseT [(2, (.val (.string x.1))), (3, (.ptr 0 0)), (6, (.ptr 1 0)), (8, (.ptr 2 0)), (9, (.val (.int .i64 x.2.1)))] 71 0, [.row [(.val (.int .i64 x.2.2.1)), (.val (.int .i64 x.2.2.2.1)), (.val (.int .i64 x.2.2.2.2.1)), (.val (.int .u32 x.2.2.2.2.2.1)), (.val (.bool x.2.2.2.2.2.2.1)), (.val (.int .i64 x.2.2.2.2.2.2.2.1)), (.val (.bool x.2.2.2.2.2.2.2.2.1))] 26 true, .row [(.val (.int .i64 x.2.2.2.2.2.2.2.2.2.1)), (.val (.int .i64 (p8 x).2.2.1)), (.val (.int .i64 (p8 x).2.2.2.1)), (.val (.int .u32 (p8 x).2.2.2.2.1)), (.val (.bool (p8 x).2.2.2.2.2.1)), (.val (.int .i64 (p8 x).2.2.2.2.2.2.1)), (.val (.bool (p8 x).2.2.2.2.2.2.2.1))] 26 true, .row [(.val (.string (p8 (p8 x)).1)), (.val (.string (p8 (p8 x)).2.1)), (.val (.string (p8 (p8 x)).2.2.1)), (.val (.string (p8 (p8 x)).2.2.2))] 122 true]⟩
  ok γ s F r h := by
    have ⟨_, hz, h⟩ := bs h
    have ⟨v2, h1, h⟩ := bs h
    have ⟨b4, h3, h⟩ := bs h
    have ⟨b6, h5, h⟩ := bs h
    have ⟨b8, h7, h⟩ := bs h
    have ⟨v10, h9, h⟩ := bs h
    have ⟨l12, h11, h⟩ := bs h
    have ⟨v14, h13, h⟩ := bs h
    have ⟨v16, h15, h⟩ := bs h
    have ⟨v18, h17, h⟩ := bs h
    have ⟨v20, h19, h⟩ := bs h
    have ⟨v22, h21, h⟩ := bs h
    have ⟨v24, h23, h⟩ := bs h
    have ⟨v26, h25, h⟩ := bs h
    have ⟨l28, h27, h⟩ := bs h
    have ⟨v30, h29, h⟩ := bs h
    have ⟨v32, h31, h⟩ := bs h
    have ⟨v34, h33, h⟩ := bs h
    have ⟨v36, h35, h⟩ := bs h
    have ⟨v38, h37, h⟩ := bs h
    have ⟨v40, h39, h⟩ := bs h
    have ⟨v42, h41, h⟩ := bs h
    have ⟨l44, h43, h⟩ := bs h
    have ⟨v46, h45, h⟩ := bs h
    have ⟨v48, h47, h⟩ := bs h
    have ⟨v50, h49, h⟩ := bs h
    have ⟨v52, h51, h⟩ := bs h
    have ⟨_, h53, h⟩ := bs h
    exact ⟨_, h, weak_ren (l := [some b4, some b6, some b8]) (sizedN_ok hz) (distO_ok h53) (LiveR.cons (pS h1) (LiveR.cons (RefsR.ptr (l := [some b4, some b6, some b8]) (i := 0) rfl (ptrN_eq h3)) (LiveR.cons (RefsR.ptr (l := [some b4, some b6, some b8]) (i := 1) rfl (ptrN_eq h5)) (LiveR.cons (RefsR.ptr (l := [some b4, some b6, some b8]) (i := 2) rfl (ptrN_eq h7)) (LiveR.cons (pI h9) LiveR.nil))))) (BlksR.cons (rowN_refs h11 rfl (GtRefsR.cons (pI h13) (GtRefsR.cons (pI h15) (GtRefsR.cons (pI h17) (GtRefsR.cons (pI h19) (GtRefsR.cons (pB h21) (GtRefsR.cons (pI h23) (GtRefsR.cons (pB h25) GtRefsR.nil))))))) rfl) (BlksR.cons (rowN_refs h27 rfl (GtRefsR.cons (pI h29) (GtRefsR.cons (pI h31) (GtRefsR.cons (pI h33) (GtRefsR.cons (pI h35) (GtRefsR.cons (pB h37) (GtRefsR.cons (pI h39) (GtRefsR.cons (pB h41) GtRefsR.nil))))))) rfl) (BlksR.cons (rowN_refs h43 rfl (GtRefsR.cons (pS h45) (GtRefsR.cons (pS h47) (GtRefsR.cons (pS h49) (GtRefsR.cons (pS h51) GtRefsR.nil)))) rfl) BlksR.nil)))⟩

def atlasref15_own.q0.x0 : Head (Int × Int × Int × Int × Int × Bool × Int × Bool) where
  k γ s F := (sizedN 71 s).bind fun _ => (ptrN 0 (gt s.tm 6)).bind fun b2 => (intO .i64 (gt s.tm 7)).bind fun v4 => (rowN 26 7 s.hp b2).bind fun l6 => (intO .i64 (gt l6 0)).bind fun v8 => (intO .i64 (gt l6 1)).bind fun v10 => (intO .i64 (gt l6 2)).bind fun v12 => (intO .u32 (gt l6 3)).bind fun v14 => (boolO (gt l6 4)).bind fun v16 => (intO .i64 (gt l6 5)).bind fun v18 => (boolO (gt l6 6)).bind fun v20 => (distO [some b2]).bind fun _ => F (v4, v8, v10, v12, v14, v16, v18, v20)
  st x := ⟨sparseT [(6, (.ptr 0 0)), (7, (.val (.int .i64 x.1)))] 71 0, [.row [(.val (.int .i64 x.2.1)), (.val (.int .i64 x.2.2.1)), (.val (.int .i64 x.2.2.2.1)), (.val (.int .u32 x.2.2.2.2.1)), (.val (.bool x.2.2.2.2.2.1)), (.val (.int .i64 x.2.2.2.2.2.2.1)), (.val (.bool x.2.2.2.2.2.2.2))] 26 true]⟩
  ok γ s F r h := by
    have ⟨_, hz, h⟩ := bs h
    have ⟨b2, h1, h⟩ := bs h
    have ⟨v4, h3, h⟩ := bs h
    have ⟨l6, h5, h⟩ := bs h
    have ⟨v8, h7, h⟩ := bs h
    have ⟨v10, h9, h⟩ := bs h
    have ⟨v12, h11, h⟩ := bs h
    have ⟨v14, h13, h⟩ := bs h
    have ⟨v16, h15, h⟩ := bs h
    have ⟨v18, h17, h⟩ := bs h
    have ⟨v20, h19, h⟩ := bs h
    have ⟨_, h21, h⟩ := bs h
    exact ⟨_, h, weak_ren (l := [some b2]) (sizedN_ok hz) (distO_ok h21) (LiveR.cons (RefsR.ptr (l := [some b2]) (i := 0) rfl (ptrN_eq h1)) (LiveR.cons (pI h3) LiveR.nil)) (BlksR.cons (rowN_refs h5 rfl (GtRefsR.cons (pI h7) (GtRefsR.cons (pI h9) (GtRefsR.cons (pI h11) (GtRefsR.cons (pI h13) (GtRefsR.cons (pB h15) (GtRefsR.cons (pI h17) (GtRefsR.cons (pB h19) GtRefsR.nil))))))) rfl) BlksR.nil)⟩

def atlasref15_own.q0.x1 : Head (Int × Int × Int × Int × Bool × Int × Bool × Int × Int × Int × Int × Bool × Int × Bool) where
  k γ s F := (sizedN 71 s).bind fun _ => (ptrN 0 (gt s.tm 3)).bind fun b2 => (ptrN 0 (gt s.tm 6)).bind fun b4 => (rowN 26 7 s.hp b2).bind fun l6 => (intO .i64 (gt l6 0)).bind fun v8 => (intO .i64 (gt l6 1)).bind fun v10 => (intO .i64 (gt l6 2)).bind fun v12 => (intO .u32 (gt l6 3)).bind fun v14 => (boolO (gt l6 4)).bind fun v16 => (intO .i64 (gt l6 5)).bind fun v18 => (boolO (gt l6 6)).bind fun v20 => (rowN 26 7 s.hp b4).bind fun l22 => (intO .i64 (gt l22 0)).bind fun v24 => (intO .i64 (gt l22 1)).bind fun v26 => (intO .i64 (gt l22 2)).bind fun v28 => (intO .u32 (gt l22 3)).bind fun v30 => (boolO (gt l22 4)).bind fun v32 => (intO .i64 (gt l22 5)).bind fun v34 => (boolO (gt l22 6)).bind fun v36 => (distO [some b2, some b4]).bind fun _ => F (v8, v10, v12, v14, v16, v18, v20, v24, v26, v28, v30, v32, v34, v36)
  st x := ⟨sparseT [(3, (.ptr 0 0)), (6, (.ptr 1 0))] 71 0, [.row [(.val (.int .i64 x.1)), (.val (.int .i64 x.2.1)), (.val (.int .i64 x.2.2.1)), (.val (.int .u32 x.2.2.2.1)), (.val (.bool x.2.2.2.2.1)), (.val (.int .i64 x.2.2.2.2.2.1)), (.val (.bool x.2.2.2.2.2.2.1))] 26 true, .row [(.val (.int .i64 x.2.2.2.2.2.2.2.1)), (.val (.int .i64 x.2.2.2.2.2.2.2.2.1)), (.val (.int .i64 x.2.2.2.2.2.2.2.2.2.1)), (.val (.int .u32 (p8 x).2.2.1)), (.val (.bool (p8 x).2.2.2.1)), (.val (.int .i64 (p8 x).2.2.2.2.1)), (.val (.bool (p8 x).2.2.2.2.2))] 26 true]⟩
  ok γ s F r h := by
    have ⟨_, hz, h⟩ := bs h
    have ⟨b2, h1, h⟩ := bs h
    have ⟨b4, h3, h⟩ := bs h
    have ⟨l6, h5, h⟩ := bs h
    have ⟨v8, h7, h⟩ := bs h
    have ⟨v10, h9, h⟩ := bs h
    have ⟨v12, h11, h⟩ := bs h
    have ⟨v14, h13, h⟩ := bs h
    have ⟨v16, h15, h⟩ := bs h
    have ⟨v18, h17, h⟩ := bs h
    have ⟨v20, h19, h⟩ := bs h
    have ⟨l22, h21, h⟩ := bs h
    have ⟨v24, h23, h⟩ := bs h
    have ⟨v26, h25, h⟩ := bs h
    have ⟨v28, h27, h⟩ := bs h
    have ⟨v30, h29, h⟩ := bs h
    have ⟨v32, h31, h⟩ := bs h
    have ⟨v34, h33, h⟩ := bs h
    have ⟨v36, h35, h⟩ := bs h
    have ⟨_, h37, h⟩ := bs h
    exact ⟨_, h, weak_ren (l := [some b2, some b4]) (sizedN_ok hz) (distO_ok h37) (LiveR.cons (RefsR.ptr (l := [some b2, some b4]) (i := 0) rfl (ptrN_eq h1)) (LiveR.cons (RefsR.ptr (l := [some b2, some b4]) (i := 1) rfl (ptrN_eq h3)) LiveR.nil)) (BlksR.cons (rowN_refs h5 rfl (GtRefsR.cons (pI h7) (GtRefsR.cons (pI h9) (GtRefsR.cons (pI h11) (GtRefsR.cons (pI h13) (GtRefsR.cons (pB h15) (GtRefsR.cons (pI h17) (GtRefsR.cons (pB h19) GtRefsR.nil))))))) rfl) (BlksR.cons (rowN_refs h21 rfl (GtRefsR.cons (pI h23) (GtRefsR.cons (pI h25) (GtRefsR.cons (pI h27) (GtRefsR.cons (pI h29) (GtRefsR.cons (pB h31) (GtRefsR.cons (pI h33) (GtRefsR.cons (pB h35) GtRefsR.nil))))))) rfl) BlksR.nil))⟩

def atlasref15_own.q0.t : Tail ((Int × Int × Int × Int × Int × Bool × Int × Bool) ⊕ (Int × Int × Int × Int × Bool × Int × Bool × Int × Int × Int × Int × Bool × Int × Bool)) := Tail.or .ret atlasref15_own.q0.x0 (Tail.one (.exit 1) atlasref15_own.q0.x1)
theorem atlasref15_own.q0.np (y : ((Int × Int × Int × Int × Int × Bool × Int × Bool) ⊕ (Int × Int × Int × Int × Bool × Int × Bool × Int × Int × Int × Int × Bool × Int × Bool))) (v : AV) : (atlasref15_own.q0.t.out y).1 = .panic v → nomem v = true := fun h => by rcases y with _ | y <;> first | (cases h; done) | (cases h; rfl) | (cases h)
theorem atlasref15_own.q0.nn (y : ((Int × Int × Int × Int × Int × Bool × Int × Bool) ⊕ (Int × Int × Int × Int × Bool × Int × Bool × Int × Int × Int × Int × Bool × Int × Bool))) : (atlasref15_own.q0.t.out y).1 ≠ .normal := fun h => by rcases y with _ | y <;> first | (cases h; done) | (cases h; rfl) | (cases h)
def atlasref15_own.q0.l (k : Nat) : Nat → (ByteArray × Int × Int × Int × Int × Int × Bool × Int × Bool × Int × Int × Int × Int × Bool × Int × Bool × ByteArray × ByteArray × ByteArray × ByteArray) → Option ((Int × Int × Int × Int × Int × Bool × Int × Bool) ⊕ (Int × Int × Int × Int × Bool × Int × Bool × Int × Int × Int × Int × Bool × Int × Bool))
  | 0, _ => none
  | n + 1, x => (bif (decide (x.2.1 < 4)) then (bif (decide (0 ≤ x.2.1) && decide (x.2.1 < ((4 : Nat) : Int))) then (bif decide ((0 + (x.2.1).toNat * 1) < 4) then (bif ((([(p8 (p8 x)).1, (p8 (p8 x)).2.1, (p8 (p8 x)).2.2.1, (p8 (p8 x)).2.2.2] : List ByteArray).getD (0 + (x.2.1).toNat * 1) ByteArray.empty).toList == x.1.toList) then (some (Sum.inl (0, x.2.2.1, x.2.1, x.2.2.2.2.1, x.2.2.2.2.2.1, x.2.2.2.2.2.2.1, x.2.2.2.2.2.2.2.1, x.2.2.2.2.2.2.2.2.1))) else (atlasref15_own.q0.l k n (x.1, (IntKind.wrap .i64 (x.2.1 + 1)), x.2.2.1, x.2.2.2.1, x.2.2.2.2.1, x.2.2.2.2.2.1, x.2.2.2.2.2.2.1, x.2.2.2.2.2.2.2.1, x.2.2.2.2.2.2.2.2.1, x.2.2.2.2.2.2.2.2.2.1, (p8 x).2.2.1, (p8 x).2.2.2.1, (p8 x).2.2.2.2.1, (p8 x).2.2.2.2.2.1, (p8 x).2.2.2.2.2.2.1, (p8 x).2.2.2.2.2.2.2.1, (p8 (p8 x)).1, (p8 (p8 x)).2.1, (p8 (p8 x)).2.2.1, (p8 (p8 x)).2.2.2))) else none) else none) else (some (Sum.inr (x.2.2.1, x.2.2.2.1, x.2.2.2.2.1, x.2.2.2.2.2.1, x.2.2.2.2.2.2.1, x.2.2.2.2.2.2.2.1, x.2.2.2.2.2.2.2.2.1, x.2.2.2.2.2.2.2.2.2.1, (p8 x).2.2.1, (p8 x).2.2.2.1, (p8 x).2.2.2.2.1, (p8 x).2.2.2.2.2.1, (p8 x).2.2.2.2.2.2.1, (p8 x).2.2.2.2.2.2.2.1))))
theorem atlasref15_own.q0.z (k : Nat) (x : (ByteArray × Int × Int × Int × Int × Int × Bool × Int × Bool × Int × Int × Int × Int × Bool × Int × Bool × ByteArray × ByteArray × ByteArray × ByteArray)) : atlasref15_own.q0.l k 0 x = none := rfl
theorem atlasref15_own.q0.at : codeAt (bodyOf Tryz.f43) [false, true, false, true, false, true, false, true, false, true] = some (.loop (loopBody (bodyOf Tryz.f43) [false, true, false, true, false, true, false, true, false, true])) := by kernel_rfl
theorem atlasref15_own.q0.goes (k n : Nat) (x : (ByteArray × Int × Int × Int × Int × Int × Bool × Int × Bool × Int × Int × Int × Int × Bool × Int × Bool × ByteArray × ByteArray × ByteArray × ByteArray)) : E Tryz.prog (gamOf []) (lamOf []) (loopBody (bodyOf Tryz.f43) [false, true, false, true, false, true, false, true, false, true]) (false :: [false, true, false, true, false, true, false, true, false, true]) (atlasref15_own.q0.h.st x) (contD atlasref15_own.q0.h atlasref15_own.q0.t (atlasref15_own.q0.l k n) some) = atlasref15_own.q0.l k (n + 1) x := by
  kernel_rfl
theorem atlasref15_own.q0.ok_ (k : Nat) : PieceOk Tryz.prog (bodyOf Tryz.f43) ⟨[false, true, false, true, false, true, false, true, false, true], _, _, atlasref15_own.q0.h, atlasref15_own.q0.t, atlasref15_own.q0.l k k⟩ :=
  piece_loop (gamOf_nil _) (lamOf_nil _ _) mixed atlasref15_own.q0.at atlasref15_own.q0.np atlasref15_own.q0.nn (atlasref15_own.q0.z k) (atlasref15_own.q0.goes k) k
def atlasref15_own.q0.p (k : Nat) : Piece := ⟨[false, true, false, true, false, true, false, true, false, true], _, _, atlasref15_own.q0.h, atlasref15_own.q0.t, atlasref15_own.q0.l k k⟩
theorem atlasref15_own.q0.ok (k : Nat) : PieceOk Tryz.prog (bodyOf Tryz.f43) (atlasref15_own.q0.p k) := atlasref15_own.q0.ok_ k
def atlasref15_own.f (k : Nat) (x0 : T25) (x1 : Int) (x2 : ByteArray) : Option (T25 × Int) := (bif (x1 == 116) then ((atlasref15_own.q0.l k k (x2, 1, x0.f0, x0.f1, x0.f2, x0.f3, x0.f4, x0.f5, x0.f6, 0, 0, 0, 0, false, 0, false, (⟨#[]⟩ : ByteArray), (⟨#[105]⟩ : ByteArray), (⟨#[100]⟩ : ByteArray), (⟨#[109, 97, 105, 110]⟩ : ByteArray))).bind fun r1 => (Sum.elim (fun r2 => (some ((⟨r2.2.1, r2.2.2.1, r2.2.2.2.1, r2.2.2.2.2.1, r2.2.2.2.2.2.1, r2.2.2.2.2.2.2.1, r2.2.2.2.2.2.2.2⟩ : T25), r2.1))) (fun r3 => (some ((⟨r3.1, r3.2.1, r3.2.2.1, r3.2.2.2.1, r3.2.2.2.2.1, r3.2.2.2.2.2.1, r3.2.2.2.2.2.2.1⟩ : T25), 12))) r1)) else (bif (x1 == 104) then (bif (!(x2.toList == (⟨#[102, 101, 116, 99, 104]⟩ : ByteArray).toList)) then (bif (!(x2.toList == (⟨#[108, 111, 97, 100]⟩ : ByteArray).toList)) then (some ((⟨x0.f0, x0.f1, x0.f2, x0.f3, x0.f4, x0.f5, x0.f6⟩ : T25), 12)) else (some ((⟨x0.f0, x0.f1, x0.f2, x0.f3, (x2.toList == (⟨#[102, 101, 116, 99, 104]⟩ : ByteArray).toList), x0.f5, x0.f6⟩ : T25), 0))) else (some ((⟨x0.f0, x0.f1, x0.f2, x0.f3, (x2.toList == (⟨#[102, 101, 116, 99, 104]⟩ : ByteArray).toList), x0.f5, x0.f6⟩ : T25), 0))) else (bif (x1 == 118) then ((atlasref15_number.f k x2 4294967296).bind fun r4 => (some ((⟨x0.f0, x0.f1, x0.f2, (IntKind.wrap .u32 r4.1), x0.f4, x0.f5, x0.f6⟩ : T25), r4.2))) else ((atlasref15_number.f k x2 2147483648).bind fun r5 => (bif (x1 == 107) then (some ((⟨x0.f0, x0.f1, x0.f2, x0.f3, x0.f4, (IntKind.wrap .i64 r5.1), x0.f6⟩ : T25), r5.2)) else (some ((⟨x0.f0, x0.f1, (IntKind.wrap .i64 r5.1), x0.f3, x0.f4, x0.f5, x0.f6⟩ : T25), r5.2)))))))
theorem atlasref15_own.run (k : Nat) (x0 : T25) (x1 : Int) (x2 : ByteArray) : runF Tryz.prog (gamOf [(47, atlasref15_number.g k)]) (lamOf [atlasref15_own.q0.p k]) Tryz.f43 [(T25.av x0), (.val (.int .u8 x1)), (.val (.string x2))] some = (atlasref15_own.f k x0 x1 x2).bind fun r => some (.ret (.tup [(T25.av r.1), (.val (.int .i64 r.2))])) := by
  unfold atlasref15_own.f
  try simp only [cond_bind, elim_bind, Option.bind_some, Option.bind_none, Option.bind_assoc, Sum.elim_inl, Sum.elim_inr]
  kernel_rfl
def atlasref15_own.g (k : Nat) : GFun := fun β args K => match args with
  | [a0, a1, a2] => (T25.of a0).bind fun x0 => (intO .u8 a1).bind fun x1 => (strO a2).bind fun x2 => (atlasref15_own.f k x0 x1 x2).bind fun r => K (.ret (.tup [(T25.av r.1), (.val (.int .i64 r.2))]))
  | _ => none
theorem atlasref15_own.callable : callable Tryz.prog 43 = true := callable_of Tryz.func43 (by kernel_rfl)
theorem atlasref15_own.ok (k : Nat) : GOk Tryz.prog 43 (atlasref15_own.g k) := by
  intro β args K r h
  unfold atlasref15_own.g at h
  split at h
  · obtain ⟨x0, e0, h⟩ := bs h
    have ⟨x1, e1, h⟩ := bs h
    have ⟨x2, e2, h⟩ := bs h
    obtain ⟨y, hy, hK⟩ := bs h
    have hrun := atlasref15_own.run k x0 x1 x2
    rw [hy] at hrun
    obtain ⟨out, e, hs⟩ := sim_of_run Tryz.func43 (by kernel_rfl) mixed (gamOf_cons (atlasref15_number.ok k) atlasref15_number.callable (gamOf_nil _)) (lamOf_cons (atlasref15_own.q0.ok k) (lamOf_nil _ _)) (args' := [(T25.av x0), (.val (.int .u8 x1)), (.val (.string x2))]) (RefsL.cons (T25.refs e0) (RefsL.cons (Refs.of_eq (intO_eq e1)) (RefsL.cons (Refs.of_eq (strO_eq e2)) RefsL.nil))) hrun
    simp only [Option.some.injEq] at e
    subst e
    exact ⟨_, hK, hs⟩
  · cases h
end Go.Va
