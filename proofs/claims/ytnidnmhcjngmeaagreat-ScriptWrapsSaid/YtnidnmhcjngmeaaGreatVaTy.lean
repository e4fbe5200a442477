import Derived.Test.YtnidnmhcjngmeaaGreatVaRead
import Derived.Test.YtnidnmhcjngmeaaGreatProg
-- Written by a program of this session (wip/va/vaprint.py). Not trusted: Lean checks it.
set_option linter.unusedVariables false
set_option linter.unusedSimpArgs false
set_option autoImplicit false
set_option maxRecDepth 100000
namespace Go.Va
abbrev p8 {A B C D E F G H I : Type} (x : A × B × C × D × E × F × G × H × I) : I := x.2.2.2.2.2.2.2.2
open Go.Proofs
theorem mixed : Tryz.prog.follows .mixedOrders = true := by kernel_rfl
structure T25 where
  f0 : Int
  f1 : Int
  f2 : Int
  f3 : Int
  f4 : Bool
  f5 : Int
  f6 : Bool
def T25.z : T25 := ⟨0, 0, 0, 0, false, 0, false⟩
def T25.cells (x : T25) : List AV := [(.val (.int .i64 x.f0)), (.val (.int .i64 x.f1)), (.val (.int .i64 x.f2)), (.val (.int .u32 x.f3)), (.val (.bool x.f4)), (.val (.int .i64 x.f5)), (.val (.bool x.f6))]
def T25.av (x : T25) : AV := .agg x.cells
def T25.ofc (l : List AV) : Option T25 := match l with
  | [a0, a1, a2, a3, a4, a5, a6] => (intO .i64 a0).bind fun c0 => (intO .i64 a1).bind fun c1 => (intO .i64 a2).bind fun c2 => (intO .u32 a3).bind fun c3 => (boolO a4).bind fun c4 => (intO .i64 a5).bind fun c5 => (boolO a6).bind fun c6 => some ⟨c0, c1, c2, c3, c4, c5, c6⟩
  | _ => none
def T25.of (v : AV) : Option T25 := match v with
  | .agg l => T25.ofc l
  | _ => none
theorem T25.ofc_refs (l : List AV) (x : T25) (h : T25.ofc l = some x) : RefsL l x.cells := by
  unfold T25.ofc at h
  split at h
  · obtain ⟨c0, e0, h⟩ := bs h
    have ⟨c1, e1, h⟩ := bs h
    have ⟨c2, e2, h⟩ := bs h
    have ⟨c3, e3, h⟩ := bs h
    have ⟨c4, e4, h⟩ := bs h
    have ⟨c5, e5, h⟩ := bs h
    have ⟨c6, e6, h⟩ := bs h
    simp only [Option.some.injEq] at h
    subst h
    exact (RefsL.cons (Refs.of_eq (intO_eq e0)) (RefsL.cons (Refs.of_eq (intO_eq e1)) (RefsL.cons (Refs.of_eq (intO_eq e2)) (RefsL.cons (Refs.of_eq (intO_eq e3)) (RefsL.cons (Refs.of_eq (boolO_eq e4)) (RefsL.cons (Refs.of_eq (intO_eq e5)) (RefsL.cons (Refs.of_eq (boolO_eq e6)) RefsL.nil)))))))
  · cases h
theorem T25.refs {v : AV} {x : T25} (h : T25.of v = some x) : Refs v x.av := by
  unfold T25.of at h
  split at h
  · exact refs_agg (T25.ofc_refs _ _ h)
  · cases h
structure T32 where
  f0 : Int
  f1 : Int
  f2 : Int
  f3 : Int
  f4 : Int
  f5 : Int
  f6 : Int
  f7 : Int
  f8 : Int
  f9 : Int
  f10 : Int
  f11 : Bool
  f12 : Int
  f13 : Bool
  f14 : ByteArray
  f15 : ByteArray
  f16 : Int
  f17 : Int
  f18 : Int
  f19 : Int
  f20 : Int
  f21 : Bool
  f22 : Bool
  f23 : Bool
  f24 : Int
  f25 : Int
  f26 : Bool
  f27 : Int
  f28 : Int
  f29 : Int
  f30 : Int
  f31 : Int
def T32.z : T32 := ⟨0, 0, 0, 0, 0, 0, 0, 0, 0, 0, 0, false, 0, false, ByteArray.empty, ByteArray.empty, 0, 0, 0, 0, 0, false, false, false, 0, 0, false, 0, 0, 0, 0, 0⟩
def T32.cells (x : T32) : List AV := [(.val (.int .i64 x.f0)), (.val (.int .i64 x.f1)), (.val (.int .i64 x.f2)), (.val (.int .i64 x.f3)), (.val (.int .i64 x.f4)), (.val (.int .i64 x.f5)), (.val (.int .i64 x.f6)), (.val (.int .i64 x.f7)), (.val (.int .i64 x.f8)), (.val (.int .i64 x.f9)), (.val (.int .u32 x.f10)), (.val (.bool x.f11)), (.val (.int .i64 x.f12)), (.val (.bool x.f13)), (.val (.string x.f14)), (.val (.string x.f15)), (.val (.int .u32 x.f16)), (.val (.int .u32 x.f17)), (.val (.int .i64 x.f18)), (.val (.int .i64 x.f19)), (.val (.int .u64 x.f20)), (.val (.bool x.f21)), (.val (.bool x.f22)), (.val (.bool x.f23)), (.val (.int .i64 x.f24)), (.val (.int .u32 x.f25)), (.val (.bool x.f26)), (.val (.int .u64 x.f27)), (.val (.int .i64 x.f28)), (.val (.int .i64 x.f29)), (.val (.int .i64 x.f30)), (.val (.int .i64 x.f31))]
def T32.av (x : T32) : AV := .agg x.cells
def T32.ofc (l : List AV) : Option T32 := match l with
  | [a0, a1, a2, a3, a4, a5, a6, a7, a8, a9, a10, a11, a12, a13, a14, a15, a16, a17, a18, a19, a20, a21, a22, a23, a24, a25, a26, a27, a28, a29, a30, a31] => (intO .i64 a0).bind fun c0 => (intO .i64 a1).bind fun c1 => (intO .i64 a2).bind fun c2 => (intO .i64 a3).bind fun c3 => (intO .i64 a4).bind fun c4 => (intO .i64 a5).bind fun c5 => (intO .i64 a6).bind fun c6 => (intO .i64 a7).bind fun c7 => (intO .i64 a8).bind fun c8 => (intO .i64 a9).bind fun c9 => (intO .u32 a10).bind fun c10 => (boolO a11).bind fun c11 => (intO .i64 a12).bind fun c12 => (boolO a13).bind fun c13 => (strO a14).bind fun c14 => (strO a15).bind fun c15 => (intO .u32 a16).bind fun c16 => (intO .u32 a17).bind fun c17 => (intO .i64 a18).bind fun c18 => (intO .i64 a19).bind fun c19 => (intO .u64 a20).bind fun c20 => (boolO a21).bind fun c21 => (boolO a22).bind fun c22 => (boolO a23).bind fun c23 => (intO .i64 a24).bind fun c24 => (intO .u32 a25).bind fun c25 => (boolO a26).bind fun c26 => (intO .u64 a27).bind fun c27 => (intO .i64 a28).bind fun c28 => (intO .i64 a29).bind fun c29 => (intO .i64 a30).bind fun c30 => (intO .i64 a31).bind fun c31 => some ⟨c0, c1, c2, c3, c4, c5, c6, c7, c8, c9, c10, c11, c12, c13, c14, c15, c16, c17, c18, c19, c20, c21, c22, c23, c24, c25, c26, c27, c28, c29, c30, c31⟩
  | _ => none
def T32.of (v : AV) : Option T32 := match v with
  | .agg l => T32.ofc l
  | _ => none
theorem T32.ofc_refs (l : List AV) (x : T32) (h : T32.ofc l = some x) : RefsL l x.cells := by
  unfold T32.ofc at h
  split at h
  · obtain ⟨c0, e0, h⟩ := bs h
    have ⟨c1, e1, h⟩ := bs h
    have ⟨c2, e2, h⟩ := bs h
    have ⟨c3, e3, h⟩ := bs h
    have ⟨c4, e4, h⟩ := bs h
    have ⟨c5, e5, h⟩ := bs h
    have ⟨c6, e6, h⟩ := bs h
    have ⟨c7, e7, h⟩ := bs h
    have ⟨c8, e8, h⟩ := bs h
    have ⟨c9, e9, h⟩ := bs h
    have ⟨c10, e10, h⟩ := bs h
    have ⟨c11, e11, h⟩ := bs h
    have ⟨c12, e12, h⟩ := bs h
    have ⟨c13, e13, h⟩ := bs h
    have ⟨c14, e14, h⟩ := bs h
    have ⟨c15, e15, h⟩ := bs h
    have ⟨c16, e16, h⟩ := bs h
    have ⟨c17, e17, h⟩ := bs h
    have ⟨c18, e18, h⟩ := bs h
    have ⟨c19, e19, h⟩ := bs h
    have ⟨c20, e20, h⟩ := bs h
    have ⟨c21, e21, h⟩ := bs h
    have ⟨c22, e22, h⟩ := bs h
    have ⟨c23, e23, h⟩ := bs h
    have ⟨c24, e24, h⟩ := bs h
    have ⟨c25, e25, h⟩ := bs h
    have ⟨c26, e26, h⟩ := bs h
    have ⟨c27, e27, h⟩ := bs h
    have ⟨c28, e28, h⟩ := bs h
    have ⟨c29, e29, h⟩ := bs h
    have ⟨c30, e30, h⟩ := bs h
    have ⟨c31, e31, h⟩ := bs h
    simp only [Option.some.injEq] at h
    subst h
    exact (RefsL.cons (Refs.of_eq (intO_eq e0)) (RefsL.cons (Refs.of_eq (intO_eq e1)) (RefsL.cons (Refs.of_eq (intO_eq e2)) (RefsL.cons (Refs.of_eq (intO_eq e3)) (RefsL.cons (Refs.of_eq (intO_eq e4)) (RefsL.cons (Refs.of_eq (intO_eq e5)) (RefsL.cons (Refs.of_eq (intO_eq e6)) (RefsL.cons (Refs.of_eq (intO_eq e7)) (RefsL.cons (Refs.of_eq (intO_eq e8)) (RefsL.cons (Refs.of_eq (intO_eq e9)) (RefsL.cons (Refs.of_eq (intO_eq e10)) (RefsL.cons (Refs.of_eq (boolO_eq e11)) (RefsL.cons (Refs.of_eq (intO_eq e12)) (RefsL.cons (Refs.of_eq (boolO_eq e13)) (RefsL.cons (Refs.of_eq (strO_eq e14)) (RefsL.cons (Refs.of_eq (strO_eq e15)) (RefsL.cons (Refs.of_eq (intO_eq e16)) (RefsL.cons (Refs.of_eq (intO_eq e17)) (RefsL.cons (Refs.of_eq (intO_eq e18)) (RefsL.cons (Refs.of_eq (intO_eq e19)) (RefsL.cons (Refs.of_eq (intO_eq e20)) (RefsL.cons (Refs.of_eq (boolO_eq e21)) (RefsL.cons (Refs.of_eq (boolO_eq e22)) (RefsL.cons (Refs.of_eq (boolO_eq e23)) (RefsL.cons (Refs.of_eq (intO_eq e24)) (RefsL.cons (Refs.of_eq (intO_eq e25)) (RefsL.cons (Refs.of_eq (boolO_eq e26)) (RefsL.cons (Refs.of_eq (intO_eq e27)) (RefsL.cons (Refs.of_eq (intO_eq e28)) (RefsL.cons (Refs.of_eq (intO_eq e29)) (RefsL.cons (Refs.of_eq (intO_eq e30)) (RefsL.cons (Refs.of_eq (intO_eq e31)) RefsL.nil))))))))))))))))))))))))))))))))
  · cases h
theorem T32.refs {v : AV} {x : T32} (h : T32.of v = some x) : Refs v x.av := by
  unfold T32.of at h
  split at h
  · exact refs_agg (T32.ofc_refs _ _ h)
  · cases h
structure T28 where
  f0 : Bool
  f1 : Bool
  f2 : Bool
def T28.z : T28 := ⟨false, false, false⟩
def T28.cells (x : T28) : List AV := [(.val (.bool x.f0)), (.val (.bool x.f1)), (.val (.bool x.f2))]
def T28.av (x : T28) : AV := .agg x.cells
def T28.ofc (l : List AV) : Option T28 := match l with
  | [a0, a1, a2] => (boolO a0).bind fun c0 => (boolO a1).bind fun c1 => (boolO a2).bind fun c2 => some ⟨c0, c1, c2⟩
  | _ => none
def T28.of (v : AV) : Option T28 := match v with
  | .agg l => T28.ofc l
  | _ => none
theorem T28.ofc_refs (l : List AV) (x : T28) (h : T28.ofc l = some x) : RefsL l x.cells := by
  unfold T28.ofc at h
  split at h
  · obtain ⟨c0, e0, h⟩ := bs h
    have ⟨c1, e1, h⟩ := bs h
    have ⟨c2, e2, h⟩ := bs h
    simp only [Option.some.injEq] at h
    subst h
    exact (RefsL.cons (Refs.of_eq (boolO_eq e0)) (RefsL.cons (Refs.of_eq (boolO_eq e1)) (RefsL.cons (Refs.of_eq (boolO_eq e2)) RefsL.nil)))
  · cases h
theorem T28.refs {v : AV} {x : T28} (h : T28.of v = some x) : Refs v x.av := by
  unfold T28.of at h
  split at h
  · exact refs_agg (T28.ofc_refs _ _ h)
  · cases h
end Go.Va
