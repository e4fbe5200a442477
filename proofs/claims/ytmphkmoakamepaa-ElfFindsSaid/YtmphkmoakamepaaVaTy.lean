-- Written by a program of this session (wip/va/vaprint.py). Not trusted: Lean checks it.
import Derived.Test.YtmphkmoakamepaaVaLoop
import Derived.Test.YtmphkmoakamepaaProg
set_option linter.unusedVariables false
set_option linter.unusedSimpArgs false
set_option autoImplicit false
set_option maxRecDepth 100000
namespace Go.Va
open Go.Proofs
theorem mixed : Try.prog.follows .mixedOrders = true := by kernel_rfl
structure T25 where
  f0_Entry : Int
  f1_Segments : (List (Int × Int × (Bool × Bool × Bool × Unit) × (List Int) × Unit))
  f2_Symbols : (List (ByteArray × Int × Unit))
def T25.z : T25 := ⟨0, [], []⟩
def T25.cells (x : T25) : List AV := [(.val (.int .u32 x.f0_Entry)), (.vt (.pair (.int .u32) (.pair (.int .u32) (.pair (.pair .bool (.pair .bool (.pair .bool .unit))) (.pair (.vec (.int .u8)) .unit)))) x.f1_Segments), (.vt (.pair .str (.pair (.int .u32) .unit)) x.f2_Symbols)]
def T25.av (x : T25) : AV := .agg x.cells
def T25.ofc (l : List AV) : Option T25 := match l with
  | [a0, a1, a2] => (intO .u32 a0).bind fun c0 => (vtO (.pair (.int .u32) (.pair (.int .u32) (.pair (.pair .bool (.pair .bool (.pair .bool .unit))) (.pair (.vec (.int .u8)) .unit)))) a1).bind fun c1 => (vtO (.pair .str (.pair (.int .u32) .unit)) a2).bind fun c2 => some ⟨c0, c1, c2⟩
  | _ => none
def T25.of (v : AV) : Option T25 := match v with
  | .agg l => T25.ofc l
  | _ => none
theorem T25.ofc_refs (l : List AV) (x : T25) (h : T25.ofc l = some x) : RefsL l x.cells := by
  unfold T25.ofc at h
  split at h
  · obtain ⟨c0, e0, h⟩ := Option.bind_eq_some_iff.1 h
    obtain ⟨c1, e1, h⟩ := Option.bind_eq_some_iff.1 h
    obtain ⟨c2, e2, h⟩ := Option.bind_eq_some_iff.1 h
    simp only [Option.some.injEq] at h
    subst h
    exact (RefsL.cons (Refs.of_eq (intO_eq e0)) (RefsL.cons (vtO_refs e1) (RefsL.cons (vtO_refs e2) RefsL.nil)))
  · cases h
theorem T25.refs {v : AV} {x : T25} (h : T25.of v = some x) : Refs v x.av := by
  unfold T25.of at h
  split at h
  · exact refs_agg (T25.ofc_refs _ _ h)
  · cases h
end Go.Va
