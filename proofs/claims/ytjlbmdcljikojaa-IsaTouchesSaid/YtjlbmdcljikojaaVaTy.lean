-- Written by a program of this session (wip/va/vaprint.py). Not trusted: Lean checks it.
import Derived.Test.YtjlbmdcljikojaaVaLoop
import Derived.Test.YtjlbmdcljikojaaProg
set_option linter.unusedVariables false
set_option linter.unusedSimpArgs false
set_option autoImplicit false
set_option maxRecDepth 100000
namespace Go.Va
open Go.Proofs
theorem mixed : Try.prog.follows .mixedOrders = true := by kernel_rfl
structure T26 where
  f0_Cond : Int
  f1_Op : Int
  f2_S : Bool
  f3_Form : Int
  f4_Rd : Int
  f5_Rn : Int
  f6_Rm : Int
  f7_Rs : Int
  f8_Ra : Int
  f9_Imm : Int
  f10_Shift : Int
  f11_Amount : Int
  f12_Pre : Bool
  f13_Up : Bool
  f14_Write : Bool
  f15_List : Int
  f16_Tuple_CRn : Int
  f17_Tuple_Op1 : Int
  f18_Tuple_CRm : Int
  f19_Tuple_Op2 : Int
def T26.z : T26 := ⟨0, 0, false, 0, 0, 0, 0, 0, 0, 0, 0, 0, false, false, false, 0, 0, 0, 0, 0⟩
def T26.cells (x : T26) : List AV := [(.val (.int .i64 x.f0_Cond)), (.val (.int .i64 x.f1_Op)), (.val (.bool x.f2_S)), (.val (.int .i64 x.f3_Form)), (.val (.int .i64 x.f4_Rd)), (.val (.int .i64 x.f5_Rn)), (.val (.int .i64 x.f6_Rm)), (.val (.int .i64 x.f7_Rs)), (.val (.int .i64 x.f8_Ra)), (.val (.int .u32 x.f9_Imm)), (.val (.int .i64 x.f10_Shift)), (.val (.int .i64 x.f11_Amount)), (.val (.bool x.f12_Pre)), (.val (.bool x.f13_Up)), (.val (.bool x.f14_Write)), (.val (.int .u16 x.f15_List)), (.val (.int .i64 x.f16_Tuple_CRn)), (.val (.int .i64 x.f17_Tuple_Op1)), (.val (.int .i64 x.f18_Tuple_CRm)), (.val (.int .i64 x.f19_Tuple_Op2))]
def T26.av (x : T26) : AV := .agg x.cells
def T26.ofc (l : List AV) : Option T26 := match l with
  | [a0, a1, a2, a3, a4, a5, a6, a7, a8, a9, a10, a11, a12, a13, a14, a15, a16, a17, a18, a19] => (intO .i64 a0).bind fun c0 => (intO .i64 a1).bind fun c1 => (boolO a2).bind fun c2 => (intO .i64 a3).bind fun c3 => (intO .i64 a4).bind fun c4 => (intO .i64 a5).bind fun c5 => (intO .i64 a6).bind fun c6 => (intO .i64 a7).bind fun c7 => (intO .i64 a8).bind fun c8 => (intO .u32 a9).bind fun c9 => (intO .i64 a10).bind fun c10 => (intO .i64 a11).bind fun c11 => (boolO a12).bind fun c12 => (boolO a13).bind fun c13 => (boolO a14).bind fun c14 => (intO .u16 a15).bind fun c15 => (intO .i64 a16).bind fun c16 => (intO .i64 a17).bind fun c17 => (intO .i64 a18).bind fun c18 => (intO .i64 a19).bind fun c19 => some ⟨c0, c1, c2, c3, c4, c5, c6, c7, c8, c9, c10, c11, c12, c13, c14, c15, c16, c17, c18, c19⟩
  | _ => none
def T26.of (v : AV) : Option T26 := match v with
  | .agg l => T26.ofc l
  | _ => none
theorem T26.ofc_refs (l : List AV) (x : T26) (h : T26.ofc l = some x) : RefsL l x.cells := by
  unfold T26.ofc at h
  split at h
  · obtain ⟨c0, e0, h⟩ := Option.bind_eq_some_iff.1 h
    obtain ⟨c1, e1, h⟩ := Option.bind_eq_some_iff.1 h
    obtain ⟨c2, e2, h⟩ := Option.bind_eq_some_iff.1 h
    obtain ⟨c3, e3, h⟩ := Option.bind_eq_some_iff.1 h
    obtain ⟨c4, e4, h⟩ := Option.bind_eq_some_iff.1 h
    obtain ⟨c5, e5, h⟩ := Option.bind_eq_some_iff.1 h
    obtain ⟨c6, e6, h⟩ := Option.bind_eq_some_iff.1 h
    obtain ⟨c7, e7, h⟩ := Option.bind_eq_some_iff.1 h
    obtain ⟨c8, e8, h⟩ := Option.bind_eq_some_iff.1 h
    obtain ⟨c9, e9, h⟩ := Option.bind_eq_some_iff.1 h
    obtain ⟨c10, e10, h⟩ := Option.bind_eq_some_iff.1 h
    obtain ⟨c11, e11, h⟩ := Option.bind_eq_some_iff.1 h
    obtain ⟨c12, e12, h⟩ := Option.bind_eq_some_iff.1 h
    obtain ⟨c13, e13, h⟩ := Option.bind_eq_some_iff.1 h
    obtain ⟨c14, e14, h⟩ := Option.bind_eq_some_iff.1 h
    obtain ⟨c15, e15, h⟩ := Option.bind_eq_some_iff.1 h
    obtain ⟨c16, e16, h⟩ := Option.bind_eq_some_iff.1 h
    obtain ⟨c17, e17, h⟩ := Option.bind_eq_some_iff.1 h
    obtain ⟨c18, e18, h⟩ := Option.bind_eq_some_iff.1 h
    obtain ⟨c19, e19, h⟩ := Option.bind_eq_some_iff.1 h
    simp only [Option.some.injEq] at h
    subst h
    exact (RefsL.cons (Refs.of_eq (intO_eq e0)) (RefsL.cons (Refs.of_eq (intO_eq e1)) (RefsL.cons (Refs.of_eq (boolO_eq e2)) (RefsL.cons (Refs.of_eq (intO_eq e3)) (RefsL.cons (Refs.of_eq (intO_eq e4)) (RefsL.cons (Refs.of_eq (intO_eq e5)) (RefsL.cons (Refs.of_eq (intO_eq e6)) (RefsL.cons (Refs.of_eq (intO_eq e7)) (RefsL.cons (Refs.of_eq (intO_eq e8)) (RefsL.cons (Refs.of_eq (intO_eq e9)) (RefsL.cons (Refs.of_eq (intO_eq e10)) (RefsL.cons (Refs.of_eq (intO_eq e11)) (RefsL.cons (Refs.of_eq (boolO_eq e12)) (RefsL.cons (Refs.of_eq (boolO_eq e13)) (RefsL.cons (Refs.of_eq (boolO_eq e14)) (RefsL.cons (Refs.of_eq (intO_eq e15)) (RefsL.cons (Refs.of_eq (intO_eq e16)) (RefsL.cons (Refs.of_eq (intO_eq e17)) (RefsL.cons (Refs.of_eq (intO_eq e18)) (RefsL.cons (Refs.of_eq (intO_eq e19)) RefsL.nil))))))))))))))))))))
  · cases h
theorem T26.refs {v : AV} {x : T26} (h : T26.of v = some x) : Refs v x.av := by
  unfold T26.of at h
  split at h
  · exact refs_agg (T26.ofc_refs _ _ h)
  · cases h
structure T42 where
  f0_Ops : (List Int)
  f1_Form : Int
  f2_Pattern : ByteArray
def T42.z : T42 := ⟨[], 0, ByteArray.empty⟩
def T42.cells (x : T42) : List AV := [(.vt (.int .i64) x.f0_Ops), (.val (.int .i64 x.f1_Form)), (.val (.string x.f2_Pattern))]
def T42.av (x : T42) : AV := .agg x.cells
def T42.ofc (l : List AV) : Option T42 := match l with
  | [a0, a1, a2] => (vtO (.int .i64) a0).bind fun c0 => (intO .i64 a1).bind fun c1 => (strO a2).bind fun c2 => some ⟨c0, c1, c2⟩
  | _ => none
def T42.of (v : AV) : Option T42 := match v with
  | .agg l => T42.ofc l
  | _ => none
theorem T42.ofc_refs (l : List AV) (x : T42) (h : T42.ofc l = some x) : RefsL l x.cells := by
  unfold T42.ofc at h
  split at h
  · obtain ⟨c0, e0, h⟩ := Option.bind_eq_some_iff.1 h
    obtain ⟨c1, e1, h⟩ := Option.bind_eq_some_iff.1 h
    obtain ⟨c2, e2, h⟩ := Option.bind_eq_some_iff.1 h
    simp only [Option.some.injEq] at h
    subst h
    exact (RefsL.cons (vtO_refs e0) (RefsL.cons (Refs.of_eq (intO_eq e1)) (RefsL.cons (Refs.of_eq (strO_eq e2)) RefsL.nil)))
  · cases h
theorem T42.refs {v : AV} {x : T42} (h : T42.of v = some x) : Refs v x.av := by
  unfold T42.of at h
  split at h
  · exact refs_agg (T42.ofc_refs _ _ h)
  · cases h
end Go.Va
