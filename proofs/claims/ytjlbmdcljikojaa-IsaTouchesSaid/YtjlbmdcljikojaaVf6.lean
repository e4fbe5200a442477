-- Written by a program of this session (wip/va/vaprint.py). Not trusted: Lean checks it.
import Derived.Test.YtjlbmdcljikojaaVaTy
import Derived.Test.YtjlbmdcljikojaaVf5
set_option linter.unusedVariables false
set_option linter.unusedSimpArgs false
set_option autoImplicit false
set_option maxRecDepth 100000
namespace Go.Va
open Go.Proofs
/-! ### atlas/atlasref19.any15: function 61 -/
def atlasref19_any15.f (k : Nat) (x0 : T42) (x1 : T26) : Option (Bool) := ((atlasref19_Has.f k (⟨x0.f0_Ops, x0.f1_Form, x0.f2_Pattern⟩ : T42) 100).bind fun r1 => (bif r1 then (bif (x1.f4_Rd == 15) then (some true) else ((atlasref19_Has.f k (⟨x0.f0_Ops, x0.f1_Form, x0.f2_Pattern⟩ : T42) 110).bind fun r2 => (bif r2 then (bif (x1.f5_Rn == 15) then (some true) else ((atlasref19_Has.f k (⟨x0.f0_Ops, x0.f1_Form, x0.f2_Pattern⟩ : T42) 109).bind fun r3 => (bif r3 then (bif (x1.f6_Rm == 15) then (some true) else ((atlasref19_Has.f k (⟨x0.f0_Ops, x0.f1_Form, x0.f2_Pattern⟩ : T42) 114).bind fun r4 => (bif r4 then (bif (x1.f7_Rs == 15) then (some true) else ((atlasref19_Has.f k (⟨x0.f0_Ops, x0.f1_Form, x0.f2_Pattern⟩ : T42) 97).bind fun r5 => (bif r5 then (some (x1.f8_Ra == 15)) else (some false)))) else ((atlasref19_Has.f k (⟨x0.f0_Ops, x0.f1_Form, x0.f2_Pattern⟩ : T42) 97).bind fun r6 => (bif r6 then (some (x1.f8_Ra == 15)) else (some false)))))) else ((atlasref19_Has.f k (⟨x0.f0_Ops, x0.f1_Form, x0.f2_Pattern⟩ : T42) 114).bind fun r7 => (bif r7 then (bif (x1.f7_Rs == 15) then (some true) else ((atlasref19_Has.f k (⟨x0.f0_Ops, x0.f1_Form, x0.f2_Pattern⟩ : T42) 97).bind fun r8 => (bif r8 then (some (x1.f8_Ra == 15)) else (some false)))) else ((atlasref19_Has.f k (⟨x0.f0_Ops, x0.f1_Form, x0.f2_Pattern⟩ : T42) 97).bind fun r9 => (bif r9 then (some (x1.f8_Ra == 15)) else (some false)))))))) else ((atlasref19_Has.f k (⟨x0.f0_Ops, x0.f1_Form, x0.f2_Pattern⟩ : T42) 109).bind fun r10 => (bif r10 then (bif (x1.f6_Rm == 15) then (some true) else ((atlasref19_Has.f k (⟨x0.f0_Ops, x0.f1_Form, x0.f2_Pattern⟩ : T42) 114).bind fun r11 => (bif r11 then (bif (x1.f7_Rs == 15) then (some true) else ((atlasref19_Has.f k (⟨x0.f0_Ops, x0.f1_Form, x0.f2_Pattern⟩ : T42) 97).bind fun r12 => (bif r12 then (some (x1.f8_Ra == 15)) else (some false)))) else ((atlasref19_Has.f k (⟨x0.f0_Ops, x0.f1_Form, x0.f2_Pattern⟩ : T42) 97).bind fun r13 => (bif r13 then (some (x1.f8_Ra == 15)) else (some false)))))) else ((atlasref19_Has.f k (⟨x0.f0_Ops, x0.f1_Form, x0.f2_Pattern⟩ : T42) 114).bind fun r14 => (bif r14 then (bif (x1.f7_Rs == 15) then (some true) else ((atlasref19_Has.f k (⟨x0.f0_Ops, x0.f1_Form, x0.f2_Pattern⟩ : T42) 97).bind fun r15 => (bif r15 then (some (x1.f8_Ra == 15)) else (some false)))) else ((atlasref19_Has.f k (⟨x0.f0_Ops, x0.f1_Form, x0.f2_Pattern⟩ : T42) 97).bind fun r16 => (bif r16 then (some (x1.f8_Ra == 15)) else (some false)))))))))) else ((atlasref19_Has.f k (⟨x0.f0_Ops, x0.f1_Form, x0.f2_Pattern⟩ : T42) 110).bind fun r17 => (bif r17 then (bif (x1.f5_Rn == 15) then (some true) else ((atlasref19_Has.f k (⟨x0.f0_Ops, x0.f1_Form, x0.f2_Pattern⟩ : T42) 109).bind fun r18 => (bif r18 then (bif (x1.f6_Rm == 15) then (some true) else ((atlasref19_Has.f k (⟨x0.f0_Ops, x0.f1_Form, x0.f2_Pattern⟩ : T42) 114).bind fun r19 => (bif r19 then (bif (x1.f7_Rs == 15) then (some true) else ((atlasref19_Has.f k (⟨x0.f0_Ops, x0.f1_Form, x0.f2_Pattern⟩ : T42) 97).bind fun r20 => (bif r20 then (some (x1.f8_Ra == 15)) else (some false)))) else ((atlasref19_Has.f k (⟨x0.f0_Ops, x0.f1_Form, x0.f2_Pattern⟩ : T42) 97).bind fun r21 => (bif r21 then (some (x1.f8_Ra == 15)) else (some false)))))) else ((atlasref19_Has.f k (⟨x0.f0_Ops, x0.f1_Form, x0.f2_Pattern⟩ : T42) 114).bind fun r22 => (bif r22 then (bif (x1.f7_Rs == 15) then (some true) else ((atlasref19_Has.f k (⟨x0.f0_Ops, x0.f1_Form, x0.f2_Pattern⟩ : T42) 97).bind fun r23 => (bif r23 then (some (x1.f8_Ra == 15)) else (some false)))) else ((atlasref19_Has.f k (⟨x0.f0_Ops, x0.f1_Form, x0.f2_Pattern⟩ : T42) 97).bind fun r24 => (bif r24 then (some (x1.f8_Ra == 15)) else (some false)))))))) else ((atlasref19_Has.f k (⟨x0.f0_Ops, x0.f1_Form, x0.f2_Pattern⟩ : T42) 109).bind fun r25 => (bif r25 then (bif (x1.f6_Rm == 15) then (some true) else ((atlasref19_Has.f k (⟨x0.f0_Ops, x0.f1_Form, x0.f2_Pattern⟩ : T42) 114).bind fun r26 => (bif r26 then (bif (x1.f7_Rs == 15) then (some true) else ((atlasref19_Has.f k (⟨x0.f0_Ops, x0.f1_Form, x0.f2_Pattern⟩ : T42) 97).bind fun r27 => (bif r27 then (some (x1.f8_Ra == 15)) else (some false)))) else ((atlasref19_Has.f k (⟨x0.f0_Ops, x0.f1_Form, x0.f2_Pattern⟩ : T42) 97).bind fun r28 => (bif r28 then (some (x1.f8_Ra == 15)) else (some false)))))) else ((atlasref19_Has.f k (⟨x0.f0_Ops, x0.f1_Form, x0.f2_Pattern⟩ : T42) 114).bind fun r29 => (bif r29 then (bif (x1.f7_Rs == 15) then (some true) else ((atlasref19_Has.f k (⟨x0.f0_Ops, x0.f1_Form, x0.f2_Pattern⟩ : T42) 97).bind fun r30 => (bif r30 then (some (x1.f8_Ra == 15)) else (some false)))) else ((atlasref19_Has.f k (⟨x0.f0_Ops, x0.f1_Form, x0.f2_Pattern⟩ : T42) 97).bind fun r31 => (bif r31 then (some (x1.f8_Ra == 15)) else (some false)))))))))))
theorem atlasref19_any15.run (k : Nat) (x0 : T42) (x1 : T26) : runF Try.prog (gamOf [(30, atlasref19_Has.g k)]) noLam Try.f61 [(T42.av x0), (T26.av x1)] some = (atlasref19_any15.f k x0 x1).bind fun r => some (.ret (.val (.bool r))) := by
  unfold atlasref19_any15.f
  try simp only [cond_bind, elim_bind, Option.bind_some, Option.bind_none, Option.bind_assoc]
  kernel_rfl
def atlasref19_any15.g (k : Nat) : GFun := fun β args K => match args with
  | [a0, a1] => (T42.of a0).bind fun x0 => (T26.of a1).bind fun x1 => (atlasref19_any15.f k x0 x1).bind fun r => K (.ret (.val (.bool r)))
  | _ => none
theorem atlasref19_any15.callable : callable Try.prog 61 = true := callable_of Try.func61 (by kernel_rfl)
theorem atlasref19_any15.ok (k : Nat) : GOk Try.prog 61 (atlasref19_any15.g k) := by
  intro β args K r h
  unfold atlasref19_any15.g at h
  split at h
  · obtain ⟨x0, e0, h⟩ := Option.bind_eq_some_iff.1 h
    obtain ⟨x1, e1, h⟩ := Option.bind_eq_some_iff.1 h
    obtain ⟨y, hy, hK⟩ := Option.bind_eq_some_iff.1 h
    have hrun := atlasref19_any15.run k x0 x1
    rw [hy] at hrun
    obtain ⟨out, e, hs⟩ := sim_of_run Try.func61 (by kernel_rfl) mixed (gamOf_cons (atlasref19_Has.ok k) atlasref19_Has.callable (gamOf_nil _)) (noLam_ok _ _) (args' := [(T42.av x0), (T26.av x1)]) (RefsL.cons (T42.refs e0) (RefsL.cons (T26.refs e1) RefsL.nil)) hrun
    simp only [Option.some.injEq] at e
    subst e
    exact ⟨_, hK, hs⟩
  · cases h
/-! ### atlas/atlasref19.listed: function 62 -/
def atlasref19_listed.f (x0 : Int) (x1 : Int) : Option (Bool) := (bif decide ((IntKind.wrap .u64 x1) < 0) then none else (some ((Int.tmod (shrI .u16 x0 (IntKind.wrap .u64 x1)) 2) == 1)))
theorem atlasref19_listed.run (x0 : Int) (x1 : Int) : runF Try.prog (gamOf []) noLam Try.f62 [(.val (.int .u16 x0)), (.val (.int .i64 x1))] some = (atlasref19_listed.f x0 x1).bind fun r => some (.ret (.val (.bool r))) := by
  unfold atlasref19_listed.f
  try simp only [cond_bind, elim_bind, Option.bind_some, Option.bind_none, Option.bind_assoc]
  kernel_rfl
def atlasref19_listed.g : GFun := fun β args K => match args with
  | [a0, a1] => (intO .u16 a0).bind fun x0 => (intO .i64 a1).bind fun x1 => (atlasref19_listed.f x0 x1).bind fun r => K (.ret (.val (.bool r)))
  | _ => none
theorem atlasref19_listed.callable : callable Try.prog 62 = true := callable_of Try.func62 (by kernel_rfl)
theorem atlasref19_listed.ok : GOk Try.prog 62 (atlasref19_listed.g) := by
  intro β args K r h
  unfold atlasref19_listed.g at h
  split at h
  · obtain ⟨x0, e0, h⟩ := Option.bind_eq_some_iff.1 h
    obtain ⟨x1, e1, h⟩ := Option.bind_eq_some_iff.1 h
    obtain ⟨y, hy, hK⟩ := Option.bind_eq_some_iff.1 h
    have hrun := atlasref19_listed.run x0 x1
    rw [hy] at hrun
    obtain ⟨out, e, hs⟩ := sim_of_run Try.func62 (by kernel_rfl) mixed (gamOf_nil _) (noLam_ok _ _) (args' := [(.val (.int .u16 x0)), (.val (.int .i64 x1))]) (RefsL.cons (Refs.of_eq (intO_eq e0)) (RefsL.cons (Refs.of_eq (intO_eq e1)) RefsL.nil)) hrun
    simp only [Option.some.injEq] at e
    subst e
    exact ⟨_, hK, hs⟩
  · cases h
end Go.Va
