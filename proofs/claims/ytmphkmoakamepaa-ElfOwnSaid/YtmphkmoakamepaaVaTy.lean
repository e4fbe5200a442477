-- Written by a program of this session (wip/va/vaprint.py). Not trusted: Lean checks it.
import Derived.Test.YtmphkmoakamepaaVaRead
import Derived.Test.YtmphkmoakamepaaProg
set_option linter.unusedVariables false
set_option linter.unusedSimpArgs false
set_option autoImplicit false
set_option maxRecDepth 100000
namespace Go.Va
abbrev SgL : Type := (List (Int × Int × (Bool × Bool × Bool × Unit) × (List Int) × Unit))
abbrev SyL : Type := (List (ByteArray × Int × Unit))
abbrev SgT : Type := (Int × Int × (Bool × Bool × Bool × Unit) × (List Int) × Unit)
abbrev SgC : CT := (.pair (.int .u32) (.pair (.int .u32) (.pair (.pair .bool (.pair .bool (.pair .bool .unit))) (.pair (.vec (.int .u8)) .unit))))
abbrev SyC : CT := (.pair .str (.pair (.int .u32) .unit))
open Go.Proofs
theorem mixed : Try.prog.follows .mixedOrders = true := by kernel_rfl
structure T45 where
  f0_VA : Int
  f1_Size : Int
  f2_Rights_Read : Bool
  f3_Rights_Write : Bool
  f4_Rights_Exec : Bool
  f5_Data : (List Int)
def T45.z : T45 := ⟨0, 0, false, false, false, []⟩
def T45.cells (x : T45) : List AV := [(.val (.int .u32 x.f0_VA)), (.val (.int .u32 x.f1_Size)), (.val (.bool x.f2_Rights_Read)), (.val (.bool x.f3_Rights_Write)), (.val (.bool x.f4_Rights_Exec)), (.vt (.int .u8) x.f5_Data)]
def T45.av (x : T45) : AV := .agg x.cells
def T45.ofc (l : List AV) : Option T45 := match l with
  | [a0, a1, a2, a3, a4, a5] => (intO .u32 a0).bind fun c0 => (intO .u32 a1).bind fun c1 => (boolO a2).bind fun c2 => (boolO a3).bind fun c3 => (boolO a4).bind fun c4 => (vtO (.int .u8) a5).bind fun c5 => some ⟨c0, c1, c2, c3, c4, c5⟩
  | _ => none
def T45.of (v : AV) : Option T45 := match v with
  | .agg l => T45.ofc l
  | _ => none
theorem T45.ofc_refs (l : List AV) (x : T45) (h : T45.ofc l = some x) : RefsL l x.cells := by
  unfold T45.ofc at h
  split at h
  · obtain ⟨c0, e0, h⟩ := bs h
    have ⟨c1, e1, h⟩ := bs h
    have ⟨c2, e2, h⟩ := bs h
    have ⟨c3, e3, h⟩ := bs h
    have ⟨c4, e4, h⟩ := bs h
    have ⟨c5, e5, h⟩ := bs h
    simp only [Option.some.injEq] at h
    subst h
    exact (RefsL.cons (Refs.of_eq (intO_eq e0)) (RefsL.cons (Refs.of_eq (intO_eq e1)) (RefsL.cons (Refs.of_eq (boolO_eq e2)) (RefsL.cons (Refs.of_eq (boolO_eq e3)) (RefsL.cons (Refs.of_eq (boolO_eq e4)) (RefsL.cons (vtO_refs e5) RefsL.nil))))))
  · cases h
theorem T45.refs {v : AV} {x : T45} (h : T45.of v = some x) : Refs v x.av := by
  unfold T45.of at h
  split at h
  · exact refs_agg (T45.ofc_refs _ _ h)
  · cases h
structure T25 where
  f0_Entry : Int
  f1_Segments : SgL
  f2_Symbols : SyL
def T25.z : T25 := ⟨0, [], []⟩
def T25.cells (x : T25) : List AV := [(.val (.int .u32 x.f0_Entry)), (.vt SgC x.f1_Segments), (.vt SyC x.f2_Symbols)]
def T25.av (x : T25) : AV := .agg x.cells
def T25.ofc (l : List AV) : Option T25 := match l with
  | [a0, a1, a2] => (intO .u32 a0).bind fun c0 => (vtO SgC a1).bind fun c1 => (vtO SyC a2).bind fun c2 => some ⟨c0, c1, c2⟩
  | _ => none
def T25.of (v : AV) : Option T25 := match v with
  | .agg l => T25.ofc l
  | _ => none
theorem T25.ofc_refs (l : List AV) (x : T25) (h : T25.ofc l = some x) : RefsL l x.cells := by
  unfold T25.ofc at h
  split at h
  · obtain ⟨c0, e0, h⟩ := bs h
    have ⟨c1, e1, h⟩ := bs h
    have ⟨c2, e2, h⟩ := bs h
    simp only [Option.some.injEq] at h
    subst h
    exact (RefsL.cons (Refs.of_eq (intO_eq e0)) (RefsL.cons (vtO_refs e1) (RefsL.cons (vtO_refs e2) RefsL.nil)))
  · cases h
theorem T25.refs {v : AV} {x : T25} (h : T25.of v = some x) : Refs v x.av := by
  unfold T25.of at h
  split at h
  · exact refs_agg (T25.ofc_refs _ _ h)
  · cases h
structure T58 where
  f0_places : (List Int)
  f1_symbols : Int
  f2_names : Int
  f3_titles : Int
  f4_sections : Int
  f5_size : Int
def T58.z : T58 := ⟨[], 0, 0, 0, 0, 0⟩
def T58.cells (x : T58) : List AV := [(.vt (.int .u64) x.f0_places), (.val (.int .u64 x.f1_symbols)), (.val (.int .u64 x.f2_names)), (.val (.int .u64 x.f3_titles)), (.val (.int .u64 x.f4_sections)), (.val (.int .u64 x.f5_size))]
def T58.av (x : T58) : AV := .agg x.cells
def T58.ofc (l : List AV) : Option T58 := match l with
  | [a0, a1, a2, a3, a4, a5] => (vtO (.int .u64) a0).bind fun c0 => (intO .u64 a1).bind fun c1 => (intO .u64 a2).bind fun c2 => (intO .u64 a3).bind fun c3 => (intO .u64 a4).bind fun c4 => (intO .u64 a5).bind fun c5 => some ⟨c0, c1, c2, c3, c4, c5⟩
  | _ => none
def T58.of (v : AV) : Option T58 := match v with
  | .agg l => T58.ofc l
  | _ => none
theorem T58.ofc_refs (l : List AV) (x : T58) (h : T58.ofc l = some x) : RefsL l x.cells := by
  unfold T58.ofc at h
  split at h
  · obtain ⟨c0, e0, h⟩ := bs h
    have ⟨c1, e1, h⟩ := bs h
    have ⟨c2, e2, h⟩ := bs h
    have ⟨c3, e3, h⟩ := bs h
    have ⟨c4, e4, h⟩ := bs h
    have ⟨c5, e5, h⟩ := bs h
    simp only [Option.some.injEq] at h
    subst h
    exact (RefsL.cons (vtO_refs e0) (RefsL.cons (Refs.of_eq (intO_eq e1)) (RefsL.cons (Refs.of_eq (intO_eq e2)) (RefsL.cons (Refs.of_eq (intO_eq e3)) (RefsL.cons (Refs.of_eq (intO_eq e4)) (RefsL.cons (Refs.of_eq (intO_eq e5)) RefsL.nil))))))
  · cases h
theorem T58.refs {v : AV} {x : T58} (h : T58.of v = some x) : Refs v x.av := by
  unfold T58.of at h
  split at h
  · exact refs_agg (T58.ofc_refs _ _ h)
  · cases h
structure T43 where
  f0_Read : Bool
  f1_Write : Bool
  f2_Exec : Bool
def T43.z : T43 := ⟨false, false, false⟩
def T43.cells (x : T43) : List AV := [(.val (.bool x.f0_Read)), (.val (.bool x.f1_Write)), (.val (.bool x.f2_Exec))]
def T43.av (x : T43) : AV := .agg x.cells
def T43.ofc (l : List AV) : Option T43 := match l with
  | [a0, a1, a2] => (boolO a0).bind fun c0 => (boolO a1).bind fun c1 => (boolO a2).bind fun c2 => some ⟨c0, c1, c2⟩
  | _ => none
def T43.of (v : AV) : Option T43 := match v with
  | .agg l => T43.ofc l
  | _ => none
theorem T43.ofc_refs (l : List AV) (x : T43) (h : T43.ofc l = some x) : RefsL l x.cells := by
  unfold T43.ofc at h
  split at h
  · obtain ⟨c0, e0, h⟩ := bs h
    have ⟨c1, e1, h⟩ := bs h
    have ⟨c2, e2, h⟩ := bs h
    simp only [Option.some.injEq] at h
    subst h
    exact (RefsL.cons (Refs.of_eq (boolO_eq e0)) (RefsL.cons (Refs.of_eq (boolO_eq e1)) (RefsL.cons (Refs.of_eq (boolO_eq e2)) RefsL.nil)))
  · cases h
theorem T43.refs {v : AV} {x : T43} (h : T43.of v = some x) : Refs v x.av := by
  unfold T43.of at h
  split at h
  · exact refs_agg (T43.ofc_refs _ _ h)
  · cases h
structure T77 where
  f0_e : Int
def T77.z : T77 := ⟨0⟩
def T77.cells (x : T77) : List AV := [(.val (.int .i64 x.f0_e))]
def T77.av (x : T77) : AV := .agg x.cells
def T77.ofc (l : List AV) : Option T77 := match l with
  | [a0] => (intO .i64 a0).bind fun c0 => some ⟨c0⟩
  | _ => none
def T77.of (v : AV) : Option T77 := match v with
  | .agg l => T77.ofc l
  | _ => none
theorem T77.ofc_refs (l : List AV) (x : T77) (h : T77.ofc l = some x) : RefsL l x.cells := by
  unfold T77.ofc at h
  split at h
  · obtain ⟨c0, e0, h⟩ := bs h
    simp only [Option.some.injEq] at h
    subst h
    exact (RefsL.cons (Refs.of_eq (intO_eq e0)) RefsL.nil)
  · cases h
theorem T77.refs {v : AV} {x : T77} (h : T77.of v = some x) : Refs v x.av := by
  unfold T77.of at h
  split at h
  · exact refs_agg (T77.ofc_refs _ _ h)
  · cases h
structure T62 where
  f0_b : (List Int)
def T62.z : T62 := ⟨[]⟩
def T62.cells (x : T62) : List AV := [(.vt (.int .u8) x.f0_b)]
def T62.av (x : T62) : AV := .agg x.cells
def T62.ofc (l : List AV) : Option T62 := match l with
  | [a0] => (vtO (.int .u8) a0).bind fun c0 => some ⟨c0⟩
  | _ => none
def T62.of (v : AV) : Option T62 := match v with
  | .agg l => T62.ofc l
  | _ => none
theorem T62.ofc_refs (l : List AV) (x : T62) (h : T62.ofc l = some x) : RefsL l x.cells := by
  unfold T62.ofc at h
  split at h
  · obtain ⟨c0, e0, h⟩ := bs h
    simp only [Option.some.injEq] at h
    subst h
    exact (RefsL.cons (vtO_refs e0) RefsL.nil)
  · cases h
theorem T62.refs {v : AV} {x : T62} (h : T62.of v = some x) : Refs v x.av := by
  unfold T62.of at h
  split at h
  · exact refs_agg (T62.ofc_refs _ _ h)
  · cases h
structure F58_0 where
  f0 : Int
def F58_0.cells (x : F58_0) : List AV := [(.cell [(.val (.int .u32 x.f0))])]
def F58_0.av (x : F58_0) : AV := .fn 58 x.cells
def F58_0.ofc (l : List AV) : Option F58_0 := match l with
  | [a0] => (cellD (oneO (intO .u32)) a0).bind fun c0 => some ⟨c0⟩
  | _ => none
def F58_0.of (v : AV) : Option F58_0 := match v with
  | .fn f l => bif f == 58 then F58_0.ofc l else none
  | _ => none
theorem F58_0.ofc_refs (l : List AV) (x : F58_0) (h : F58_0.ofc l = some x) : RefsL l x.cells := by
  unfold F58_0.ofc at h
  split at h
  · obtain ⟨c0, e0, h⟩ := bs h
    simp only [Option.some.injEq] at h
    subst h
    exact (RefsL.cons (cellD_refs1 e0 (fun v h => (Refs.of_eq (intO_eq h)))) RefsL.nil)
  · cases h
theorem F58_0.refs {v : AV} {x : F58_0} (h : F58_0.of v = some x) : Refs v x.av := by
  unfold F58_0.of at h
  split at h
  · rename_i f l
    cases hf : (f == 58) with
    | false => rw [hf] at h; cases h
    | true =>
      rw [hf, cond_true] at h
      rw [beq_iff_eq.1 hf]
      exact refs_fn (F58_0.ofc_refs _ _ h)
  · cases h
end Go.Va
