-- Written by a program of this session (wip/va/vaprint.py). Not trusted: Lean checks it.
import Derived.Test.YtjlbmdcljikojaaVaLaw
import Derived.Test.YtjlbmdcljikojaaVf2
import Derived.Test.YtjlbmdcljikojaaVf4
import Derived.Test.YtjlbmdcljikojaaVf8
import Derived.Test.YtjlbmdcljikojaaVf9
import Derived.Test.YtjlbmdcljikojaaVf10
set_option linter.unusedVariables false
set_option linter.unusedSimpArgs false
set_option autoImplicit false
set_option maxRecDepth 100000
namespace Go.Va
open Go.Proofs
theorem atlaslaw19_IsaBack.calls (k : Nat) (x0 : Int) (r : Bool) (w : World) (h : atlaslaw19_IsaBack.f k x0 = some r) :
    Calls Try.prog 6 #[.int .u32 x0] w fun e w' => e = .returned (.bool r) ∧ RowKit.Below w.heap.size w w' := by
  have e : atlaslaw19_IsaBack.g k Out [(.val (.int .u32 x0))] some = (atlaslaw19_IsaBack.f k x0).bind fun r => some (.ret (.val (.bool r))) := by kernel_rfl
  rw [h] at e
  exact calls_of (atlaslaw19_IsaBack.ok k) e w (vs := [.int .u32 x0]) (cells_cons (.val _) cells_nil)
theorem atlaslaw19_IsaBits.calls (k : Nat) (x0 : Int) (x1 : Int) (x2 : Int) (r : Bool) (w : World) (h : atlaslaw19_IsaBits.f k x0 x1 x2 = some r) :
    Calls Try.prog 4 #[.int .u32 x0, .int .i64 x1, .int .i64 x2] w fun e w' => e = .returned (.bool r) ∧ RowKit.Below w.heap.size w w' := by
  have e : atlaslaw19_IsaBits.g k Out [(.val (.int .u32 x0)), (.val (.int .i64 x1)), (.val (.int .i64 x2))] some = (atlaslaw19_IsaBits.f k x0 x1 x2).bind fun r => some (.ret (.val (.bool r))) := by kernel_rfl
  rw [h] at e
  exact calls_of (atlaslaw19_IsaBits.ok k) e w (vs := [.int .u32 x0, .int .i64 x1, .int .i64 x2]) (cells_cons (.val _) (cells_cons (.val _) (cells_cons (.val _) cells_nil)))
theorem atlaslaw19_IsaSaid.calls (k : Nat) (x0 : T26) (r : Bool) (w : World) (h : atlaslaw19_IsaSaid.f k x0 = some r) :
    Calls Try.prog 8 #[.agg #[.int .i64 x0.f0_Cond, .int .i64 x0.f1_Op, .bool x0.f2_S, .int .i64 x0.f3_Form, .int .i64 x0.f4_Rd, .int .i64 x0.f5_Rn, .int .i64 x0.f6_Rm, .int .i64 x0.f7_Rs, .int .i64 x0.f8_Ra, .int .u32 x0.f9_Imm, .int .i64 x0.f10_Shift, .int .i64 x0.f11_Amount, .bool x0.f12_Pre, .bool x0.f13_Up, .bool x0.f14_Write, .int .u16 x0.f15_List, .int .i64 x0.f16_Tuple_CRn, .int .i64 x0.f17_Tuple_Op1, .int .i64 x0.f18_Tuple_CRm, .int .i64 x0.f19_Tuple_Op2]] w fun e w' => e = .returned (.bool r) ∧ RowKit.Below w.heap.size w w' := by
  have e : atlaslaw19_IsaSaid.g k Out [(T26.av x0)] some = (atlaslaw19_IsaSaid.f k x0).bind fun r => some (.ret (.val (.bool r))) := by kernel_rfl
  rw [h] at e
  exact calls_of (atlaslaw19_IsaSaid.ok k) e w (vs := [.agg #[.int .i64 x0.f0_Cond, .int .i64 x0.f1_Op, .bool x0.f2_S, .int .i64 x0.f3_Form, .int .i64 x0.f4_Rd, .int .i64 x0.f5_Rn, .int .i64 x0.f6_Rm, .int .i64 x0.f7_Rs, .int .i64 x0.f8_Ra, .int .u32 x0.f9_Imm, .int .i64 x0.f10_Shift, .int .i64 x0.f11_Amount, .bool x0.f12_Pre, .bool x0.f13_Up, .bool x0.f14_Write, .int .u16 x0.f15_List, .int .i64 x0.f16_Tuple_CRn, .int .i64 x0.f17_Tuple_Op1, .int .i64 x0.f18_Tuple_CRm, .int .i64 x0.f19_Tuple_Op2]]) (cells_cons (rel_agg (cells_cons (.val _) (cells_cons (.val _) (cells_cons (.val _) (cells_cons (.val _) (cells_cons (.val _) (cells_cons (.val _) (cells_cons (.val _) (cells_cons (.val _) (cells_cons (.val _) (cells_cons (.val _) (cells_cons (.val _) (cells_cons (.val _) (cells_cons (.val _) (cells_cons (.val _) (cells_cons (.val _) (cells_cons (.val _) (cells_cons (.val _) (cells_cons (.val _) (cells_cons (.val _) (cells_cons (.val _) cells_nil))))))))))))))))))))) cells_nil)
theorem atlaslaw19_IsaDecodes.calls (k : Nat) (x0 : Int) (r : Bool) (w : World) (h : atlaslaw19_IsaDecodes.f k x0 = some r) :
    Calls Try.prog 3 #[.int .u32 x0] w fun e w' => e = .returned (.bool r) ∧ RowKit.Below w.heap.size w w' := by
  have e : atlaslaw19_IsaDecodes.g k Out [(.val (.int .u32 x0))] some = (atlaslaw19_IsaDecodes.f k x0).bind fun r => some (.ret (.val (.bool r))) := by kernel_rfl
  rw [h] at e
  exact calls_of (atlaslaw19_IsaDecodes.ok k) e w (vs := [.int .u32 x0]) (cells_cons (.val _) cells_nil)
theorem atlaslaw19_IsaEncodes.calls (k : Nat) (x0 : T26) (r : Bool) (w : World) (h : atlaslaw19_IsaEncodes.f k x0 = some r) :
    Calls Try.prog 5 #[.agg #[.int .i64 x0.f0_Cond, .int .i64 x0.f1_Op, .bool x0.f2_S, .int .i64 x0.f3_Form, .int .i64 x0.f4_Rd, .int .i64 x0.f5_Rn, .int .i64 x0.f6_Rm, .int .i64 x0.f7_Rs, .int .i64 x0.f8_Ra, .int .u32 x0.f9_Imm, .int .i64 x0.f10_Shift, .int .i64 x0.f11_Amount, .bool x0.f12_Pre, .bool x0.f13_Up, .bool x0.f14_Write, .int .u16 x0.f15_List, .int .i64 x0.f16_Tuple_CRn, .int .i64 x0.f17_Tuple_Op1, .int .i64 x0.f18_Tuple_CRm, .int .i64 x0.f19_Tuple_Op2]] w fun e w' => e = .returned (.bool r) ∧ RowKit.Below w.heap.size w w' := by
  have e : atlaslaw19_IsaEncodes.g k Out [(T26.av x0)] some = (atlaslaw19_IsaEncodes.f k x0).bind fun r => some (.ret (.val (.bool r))) := by kernel_rfl
  rw [h] at e
  exact calls_of (atlaslaw19_IsaEncodes.ok k) e w (vs := [.agg #[.int .i64 x0.f0_Cond, .int .i64 x0.f1_Op, .bool x0.f2_S, .int .i64 x0.f3_Form, .int .i64 x0.f4_Rd, .int .i64 x0.f5_Rn, .int .i64 x0.f6_Rm, .int .i64 x0.f7_Rs, .int .i64 x0.f8_Ra, .int .u32 x0.f9_Imm, .int .i64 x0.f10_Shift, .int .i64 x0.f11_Amount, .bool x0.f12_Pre, .bool x0.f13_Up, .bool x0.f14_Write, .int .u16 x0.f15_List, .int .i64 x0.f16_Tuple_CRn, .int .i64 x0.f17_Tuple_Op1, .int .i64 x0.f18_Tuple_CRm, .int .i64 x0.f19_Tuple_Op2]]) (cells_cons (rel_agg (cells_cons (.val _) (cells_cons (.val _) (cells_cons (.val _) (cells_cons (.val _) (cells_cons (.val _) (cells_cons (.val _) (cells_cons (.val _) (cells_cons (.val _) (cells_cons (.val _) (cells_cons (.val _) (cells_cons (.val _) (cells_cons (.val _) (cells_cons (.val _) (cells_cons (.val _) (cells_cons (.val _) (cells_cons (.val _) (cells_cons (.val _) (cells_cons (.val _) (cells_cons (.val _) (cells_cons (.val _) cells_nil))))))))))))))))))))) cells_nil)
theorem atlaslaw19_IsaTouches.calls (k : Nat) (x0 : T26) (r : Bool) (w : World) (h : atlaslaw19_IsaTouches.f k x0 = some r) :
    Calls Try.prog 7 #[.agg #[.int .i64 x0.f0_Cond, .int .i64 x0.f1_Op, .bool x0.f2_S, .int .i64 x0.f3_Form, .int .i64 x0.f4_Rd, .int .i64 x0.f5_Rn, .int .i64 x0.f6_Rm, .int .i64 x0.f7_Rs, .int .i64 x0.f8_Ra, .int .u32 x0.f9_Imm, .int .i64 x0.f10_Shift, .int .i64 x0.f11_Amount, .bool x0.f12_Pre, .bool x0.f13_Up, .bool x0.f14_Write, .int .u16 x0.f15_List, .int .i64 x0.f16_Tuple_CRn, .int .i64 x0.f17_Tuple_Op1, .int .i64 x0.f18_Tuple_CRm, .int .i64 x0.f19_Tuple_Op2]] w fun e w' => e = .returned (.bool r) ∧ RowKit.Below w.heap.size w w' := by
  have e : atlaslaw19_IsaTouches.g k Out [(T26.av x0)] some = (atlaslaw19_IsaTouches.f k x0).bind fun r => some (.ret (.val (.bool r))) := by kernel_rfl
  rw [h] at e
  exact calls_of (atlaslaw19_IsaTouches.ok k) e w (vs := [.agg #[.int .i64 x0.f0_Cond, .int .i64 x0.f1_Op, .bool x0.f2_S, .int .i64 x0.f3_Form, .int .i64 x0.f4_Rd, .int .i64 x0.f5_Rn, .int .i64 x0.f6_Rm, .int .i64 x0.f7_Rs, .int .i64 x0.f8_Ra, .int .u32 x0.f9_Imm, .int .i64 x0.f10_Shift, .int .i64 x0.f11_Amount, .bool x0.f12_Pre, .bool x0.f13_Up, .bool x0.f14_Write, .int .u16 x0.f15_List, .int .i64 x0.f16_Tuple_CRn, .int .i64 x0.f17_Tuple_Op1, .int .i64 x0.f18_Tuple_CRm, .int .i64 x0.f19_Tuple_Op2]]) (cells_cons (rel_agg (cells_cons (.val _) (cells_cons (.val _) (cells_cons (.val _) (cells_cons (.val _) (cells_cons (.val _) (cells_cons (.val _) (cells_cons (.val _) (cells_cons (.val _) (cells_cons (.val _) (cells_cons (.val _) (cells_cons (.val _) (cells_cons (.val _) (cells_cons (.val _) (cells_cons (.val _) (cells_cons (.val _) (cells_cons (.val _) (cells_cons (.val _) (cells_cons (.val _) (cells_cons (.val _) (cells_cons (.val _) cells_nil))))))))))))))))))))) cells_nil)
end Go.Va
