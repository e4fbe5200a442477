/-
  The steps of a command's forms, over a whole command (printed by gen7.py).
  Conditions: none.
-/
import Derived.Test.YtnidnmhcjngmeaaGreatScrB
import Derived.Deep.RegionWith

set_option linter.unusedVariables false
set_option linter.unusedSimpArgs false
set_option autoImplicit false
namespace Go.Proofs.YtnidnmhcjngmeaaGreat.Scr
open Go.RowKit Go.Proofs.YtnidnmhcjngmeaaGreatW.PrintWords Go.Proofs.YtnidnmhcjngmeaaGreatW.PrintLast Go.Proofs.YtnidnmhcjngmeaaGreatW.PrintMore
abbrev Cmd := Va.T32
/-- The cells of a command. -/
def enc (x : Cmd) : Array Value := #[(.int .i64 x.f0), (.int .i64 x.f1), (.int .i64 x.f2), (.int .i64 x.f3), (.int .i64 x.f4), (.int .i64 x.f5), (.int .i64 x.f6), (.int .i64 x.f7), (.int .i64 x.f8), (.int .i64 x.f9), (.int .u32 x.f10), (.bool x.f11), (.int .i64 x.f12), (.bool x.f13), (.string x.f14), (.string x.f15), (.int .u32 x.f16), (.int .u32 x.f17), (.int .i64 x.f18), (.int .i64 x.f19), (.int .u64 x.f20), (.bool x.f21), (.bool x.f22), (.bool x.f23), (.int .i64 x.f24), (.int .u32 x.f25), (.bool x.f26), (.int .u64 x.f27), (.int .i64 x.f28), (.int .i64 x.f29), (.int .i64 x.f30), (.int .i64 x.f31)]
theorem enc_get0 (x : Cmd) : (enc x)[0]? = some (.int .i64 x.f0) := rfl
theorem enc_get1 (x : Cmd) : (enc x)[1]? = some (.int .i64 x.f1) := rfl
theorem enc_get2 (x : Cmd) : (enc x)[2]? = some (.int .i64 x.f2) := rfl
theorem enc_get3 (x : Cmd) : (enc x)[3]? = some (.int .i64 x.f3) := rfl
theorem enc_get4 (x : Cmd) : (enc x)[4]? = some (.int .i64 x.f4) := rfl
theorem enc_get5 (x : Cmd) : (enc x)[5]? = some (.int .i64 x.f5) := rfl
theorem enc_get6 (x : Cmd) : (enc x)[6]? = some (.int .i64 x.f6) := rfl
theorem enc_get7 (x : Cmd) : (enc x)[7]? = some (.int .i64 x.f7) := rfl
theorem enc_set7 (x : Cmd) (v : Int) : (enc x).setIfInBounds 7 (.int .i64 v) = enc { x with f7 := v } := rfl
theorem enc_get8 (x : Cmd) : (enc x)[8]? = some (.int .i64 x.f8) := rfl
theorem enc_set8 (x : Cmd) (v : Int) : (enc x).setIfInBounds 8 (.int .i64 v) = enc { x with f8 := v } := rfl
theorem enc_get9 (x : Cmd) : (enc x)[9]? = some (.int .i64 x.f9) := rfl
theorem enc_set9 (x : Cmd) (v : Int) : (enc x).setIfInBounds 9 (.int .i64 v) = enc { x with f9 := v } := rfl
theorem enc_get10 (x : Cmd) : (enc x)[10]? = some (.int .u32 x.f10) := rfl
theorem enc_set10 (x : Cmd) (v : Int) : (enc x).setIfInBounds 10 (.int .u32 v) = enc { x with f10 := v } := rfl
theorem enc_get11 (x : Cmd) : (enc x)[11]? = some (.bool x.f11) := rfl
theorem enc_set11 (x : Cmd) (v : Bool) : (enc x).setIfInBounds 11 (.bool v) = enc { x with f11 := v } := rfl
theorem enc_get12 (x : Cmd) : (enc x)[12]? = some (.int .i64 x.f12) := rfl
theorem enc_set12 (x : Cmd) (v : Int) : (enc x).setIfInBounds 12 (.int .i64 v) = enc { x with f12 := v } := rfl
theorem enc_get13 (x : Cmd) : (enc x)[13]? = some (.bool x.f13) := rfl
theorem enc_set13 (x : Cmd) (v : Bool) : (enc x).setIfInBounds 13 (.bool v) = enc { x with f13 := v } := rfl
theorem enc_get14 (x : Cmd) : (enc x)[14]? = some (.string x.f14) := rfl
theorem enc_set14 (x : Cmd) (v : ByteArray) : (enc x).setIfInBounds 14 (.string v) = enc { x with f14 := v } := rfl
theorem enc_get15 (x : Cmd) : (enc x)[15]? = some (.string x.f15) := rfl
theorem enc_set15 (x : Cmd) (v : ByteArray) : (enc x).setIfInBounds 15 (.string v) = enc { x with f15 := v } := rfl
theorem enc_get16 (x : Cmd) : (enc x)[16]? = some (.int .u32 x.f16) := rfl
theorem enc_set16 (x : Cmd) (v : Int) : (enc x).setIfInBounds 16 (.int .u32 v) = enc { x with f16 := v } := rfl
theorem enc_get17 (x : Cmd) : (enc x)[17]? = some (.int .u32 x.f17) := rfl
theorem enc_set17 (x : Cmd) (v : Int) : (enc x).setIfInBounds 17 (.int .u32 v) = enc { x with f17 := v } := rfl
theorem enc_get18 (x : Cmd) : (enc x)[18]? = some (.int .i64 x.f18) := rfl
theorem enc_set18 (x : Cmd) (v : Int) : (enc x).setIfInBounds 18 (.int .i64 v) = enc { x with f18 := v } := rfl
theorem enc_get19 (x : Cmd) : (enc x)[19]? = some (.int .i64 x.f19) := rfl
theorem enc_set19 (x : Cmd) (v : Int) : (enc x).setIfInBounds 19 (.int .i64 v) = enc { x with f19 := v } := rfl
theorem enc_get20 (x : Cmd) : (enc x)[20]? = some (.int .u64 x.f20) := rfl
theorem enc_set20 (x : Cmd) (v : Int) : (enc x).setIfInBounds 20 (.int .u64 v) = enc { x with f20 := v } := rfl
theorem enc_get21 (x : Cmd) : (enc x)[21]? = some (.bool x.f21) := rfl
theorem enc_get22 (x : Cmd) : (enc x)[22]? = some (.bool x.f22) := rfl
theorem enc_get23 (x : Cmd) : (enc x)[23]? = some (.bool x.f23) := rfl
theorem enc_get24 (x : Cmd) : (enc x)[24]? = some (.int .i64 x.f24) := rfl
theorem enc_set24 (x : Cmd) (v : Int) : (enc x).setIfInBounds 24 (.int .i64 v) = enc { x with f24 := v } := rfl
theorem enc_get25 (x : Cmd) : (enc x)[25]? = some (.int .u32 x.f25) := rfl
theorem enc_set25 (x : Cmd) (v : Int) : (enc x).setIfInBounds 25 (.int .u32 v) = enc { x with f25 := v } := rfl
theorem enc_get26 (x : Cmd) : (enc x)[26]? = some (.bool x.f26) := rfl
theorem enc_set26 (x : Cmd) (v : Bool) : (enc x).setIfInBounds 26 (.bool v) = enc { x with f26 := v } := rfl
theorem enc_get27 (x : Cmd) : (enc x)[27]? = some (.int .u64 x.f27) := rfl
theorem enc_set27 (x : Cmd) (v : Int) : (enc x).setIfInBounds 27 (.int .u64 v) = enc { x with f27 := v } := rfl
theorem enc_get28 (x : Cmd) : (enc x)[28]? = some (.int .i64 x.f28) := rfl
theorem enc_set28 (x : Cmd) (v : Int) : (enc x).setIfInBounds 28 (.int .i64 v) = enc { x with f28 := v } := rfl
theorem enc_get29 (x : Cmd) : (enc x)[29]? = some (.int .i64 x.f29) := rfl
theorem enc_set29 (x : Cmd) (v : Int) : (enc x).setIfInBounds 29 (.int .i64 v) = enc { x with f29 := v } := rfl
theorem enc_get30 (x : Cmd) : (enc x)[30]? = some (.int .i64 x.f30) := rfl
theorem enc_set30 (x : Cmd) (v : Int) : (enc x).setIfInBounds 30 (.int .i64 v) = enc { x with f30 := v } := rfl
theorem enc_get31 (x : Cmd) : (enc x)[31]? = some (.int .i64 x.f31) := rfl
theorem enc_set31 (x : Cmd) (v : Int) : (enc x).setIfInBounds 31 (.int .i64 v) = enc { x with f31 := v } := rfl
abbrev St := Nat × Bad × Cmd
structure At (m : Nat) (g : Nat × Nat) (cp : Nat) (ws : List ByteArray) (R C : Nat) (w0 : World) (st : St) (w : World) : Prop where
  rd : Rd m g cp ws R st.1 st.2.1 w
  blk : w.heap[C]? = some (.cells (enc st.2.2) 33 (0, 0))
  fr : Fr (fun k => k = R ∨ k = C) w0 w
  mC : m ≤ C
  ne : C ≠ R
variable {m : Nat} {g : Nat × Nat} {cp : Nat} {ws : List ByteArray} {R C : Nat} {w0 : World} {st : St} {w : World}
theorem At.drew (h : At m g cp ws R C w0 st w) : At m g cp ws R C w0 st w.drew :=
  ⟨h.rd.keep ((Fr.refl (fun _ => False) w).drew) (fun _ _ h => h.elim) (fun h => h), h.blk, h.fr.drew, h.mC, h.ne⟩
theorem At.drewN (h : At m g cp ws R C w0 st w) (k : Nat) : At m g cp ws R C w0 st (w.drewN k) :=
  ⟨h.rd.keep ((Fr.refl (fun _ => False) w).drewN k) (fun _ _ h => h.elim) (fun h => h), h.blk, h.fr.drewN k, h.mC, h.ne⟩
theorem At.alloc (h : At m g cp ws R C w0 st w) (o : Obj) : At m g cp ws R C w0 st (w.alloc o) :=
  ⟨h.rd.box o, blk_alloc h.blk o, h.fr.alloc o, h.mC, h.ne⟩
theorem At.mp (h : At m g cp ws R C w0 st w) {st' : St} {cs : Array Value} {e : Ending} {w' : World} (hp : MP m g cp ws R C 33 w st'.1 st'.2.1 cs e w') (hc : cs = enc st'.2.2) : e = .returned (.tuple #[]) ∧ At m g cp ws R C w0 st' w' := by
  subst hc
  exact ⟨hp.1, hp.2.1, hp.2.2.1, h.fr.trans hp.2.2.2, h.mC, h.ne⟩
abbrev nmG (S : Says) (x : ByteArray) : Except Int ByteArray := if S.nm x then .ok x else .error 10
abbrev szG (S : Says) (x : ByteArray) : Except Int Int := if (S.sz x).2 == 0 then .ok (S.sz x).1 else .error (S.sz x).2
abbrev rtG (x : ByteArray) : Except Int (Bool × Bool × Bool) := if (rtP x).2 == 0 then .ok (rtP x).1 else .error (rtP x).2
def sName (S : Says) (ws : List ByteArray) (st : St) : St := let r := step ws st.1 st.2.1 st.2.2.f14 (nmG S); (r.1, r.2.1, { st.2.2 with f14 := r.2.2 })
theorem sName_ok (S : Says) (hS : S.ok ws) (h : At m g cp ws R C w0 st w) : Calls Tryz.prog 78 #[.pointer (some ⟨R, 0, none⟩), .pointer (some ⟨C, 14, none⟩)] w fun e w' => e = .returned (.tuple #[]) ∧ At m g cp ws R C w0 (sName S ws st) w' :=
  (name_ok S m g cp ws R st.1 st.2.1 C 14 (enc st.2.2) 33 st.2.2.f14 w h.rd hS h.blk (enc_get14 _) h.mC (by decide) h.ne).mono fun e w' hp => h.mp hp (enc_set14 _ _)
def sOther (S : Says) (ws : List ByteArray) (st : St) : St := let r := step ws st.1 st.2.1 st.2.2.f15 (nmG S); (r.1, r.2.1, { st.2.2 with f15 := r.2.2 })
theorem sOther_ok (S : Says) (hS : S.ok ws) (h : At m g cp ws R C w0 st w) : Calls Tryz.prog 78 #[.pointer (some ⟨R, 0, none⟩), .pointer (some ⟨C, 15, none⟩)] w fun e w' => e = .returned (.tuple #[]) ∧ At m g cp ws R C w0 (sOther S ws st) w' :=
  (name_ok S m g cp ws R st.1 st.2.1 C 15 (enc st.2.2) 33 st.2.2.f15 w h.rd hS h.blk (enc_get15 _) h.mC (by decide) h.ne).mono fun e w' hp => h.mp hp (enc_set15 _ _)
def sSize (S : Says) (ws : List ByteArray) (st : St) : St := let r := step ws st.1 st.2.1 st.2.2.f18 (szG S); (r.1, r.2.1, { st.2.2 with f18 := r.2.2 })
theorem sSize_ok (S : Says) (hS : S.ok ws) (h : At m g cp ws R C w0 st w) : Calls Tryz.prog 81 #[.pointer (some ⟨R, 0, none⟩), .pointer (some ⟨C, 18, none⟩)] w fun e w' => e = .returned (.tuple #[]) ∧ At m g cp ws R C w0 (sSize S ws st) w' :=
  (size_ok S m g cp ws R st.1 st.2.1 C 18 (enc st.2.2) 33 st.2.2.f18 w h.rd hS h.blk (enc_get18 _) h.mC (by decide) h.ne).mono fun e w' hp => h.mp hp (enc_set18 _ _)
def sVA (S : Says) (ws : List ByteArray) (st : St) : St := let r := step ws st.1 st.2.1 st.2.2.f16 (numG S 4294967296); (r.1, r.2.1, { st.2.2 with f16 := r.2.2 })
theorem sVA_ok (S : Says) (hS : S.ok ws) (h : At m g cp ws R C w0 st w) (h0 : st.2.2.f16 = 0) : Calls Tryz.prog 31 #[.iface 59 (.pointer (some ⟨R, 0, none⟩)), .pointer (some ⟨C, 16, none⟩), .bool true] w fun e w' => e = .returned (.tuple #[]) ∧ At m g cp ws R C w0 (sVA S ws st) w' :=
  (short_ok S m g cp ws R st.1 st.2.1 C 16 (enc st.2.2) 33 st.2.2.f16 w h.rd hS h.blk (enc_get16 _) (by rw [h0]; decide) h.mC (by decide) h.ne true).mono fun e w' hp => h.mp hp (enc_set16 _ _)
def sFrom (S : Says) (ws : List ByteArray) (st : St) : St := let r := step ws st.1 st.2.1 st.2.2.f17 (numG S 4294967296); (r.1, r.2.1, { st.2.2 with f17 := r.2.2 })
theorem sFrom_ok (S : Says) (hS : S.ok ws) (h : At m g cp ws R C w0 st w) (h0 : st.2.2.f17 = 0) : Calls Tryz.prog 31 #[.iface 59 (.pointer (some ⟨R, 0, none⟩)), .pointer (some ⟨C, 17, none⟩), .bool true] w fun e w' => e = .returned (.tuple #[]) ∧ At m g cp ws R C w0 (sFrom S ws st) w' :=
  (short_ok S m g cp ws R st.1 st.2.1 C 17 (enc st.2.2) 33 st.2.2.f17 w h.rd hS h.blk (enc_get17 _) (by rw [h0]; decide) h.mC (by decide) h.ne true).mono fun e w' hp => h.mp hp (enc_set17 _ _)
def sValue (S : Says) (ws : List ByteArray) (st : St) : St := let r := step ws st.1 st.2.1 st.2.2.f25 (numG S 4294967296); (r.1, r.2.1, { st.2.2 with f25 := r.2.2 })
theorem sValue_ok (S : Says) (hS : S.ok ws) (h : At m g cp ws R C w0 st w) (h0 : st.2.2.f25 = 0) : Calls Tryz.prog 31 #[.iface 59 (.pointer (some ⟨R, 0, none⟩)), .pointer (some ⟨C, 25, none⟩), .bool true] w fun e w' => e = .returned (.tuple #[]) ∧ At m g cp ws R C w0 (sValue S ws st) w' :=
  (short_ok S m g cp ws R st.1 st.2.1 C 25 (enc st.2.2) 33 st.2.2.f25 w h.rd hS h.blk (enc_get25 _) (by rw [h0]; decide) h.mC (by decide) h.ne true).mono fun e w' hp => h.mp hp (enc_set25 _ _)
def sNVA (S : Says) (ws : List ByteArray) (st : St) : St := let r := step ws st.1 st.2.1 st.2.2.f10 (numG S 4294967296); (r.1, r.2.1, { st.2.2 with f10 := r.2.2 })
theorem sNVA_ok (S : Says) (hS : S.ok ws) (h : At m g cp ws R C w0 st w) (h0 : st.2.2.f10 = 0) : Calls Tryz.prog 31 #[.iface 59 (.pointer (some ⟨R, 0, none⟩)), .pointer (some ⟨C, 10, none⟩), .bool true] w fun e w' => e = .returned (.tuple #[]) ∧ At m g cp ws R C w0 (sNVA S ws st) w' :=
  (short_ok S m g cp ws R st.1 st.2.1 C 10 (enc st.2.2) 33 st.2.2.f10 w h.rd hS h.blk (enc_get10 _) (by rw [h0]; decide) h.mC (by decide) h.ne true).mono fun e w' hp => h.mp hp (enc_set10 _ _)
def sLen (S : Says) (ws : List ByteArray) (st : St) : St := let r := step ws st.1 st.2.1 st.2.2.f20 (numG S 1099511627776); (r.1, r.2.1, { st.2.2 with f20 := r.2.2 })
theorem sLen_ok (S : Says) (hS : S.ok ws) (h : At m g cp ws R C w0 st w) : Calls Tryz.prog 34 #[.iface 59 (.pointer (some ⟨R, 0, none⟩)), .pointer (some ⟨C, 20, none⟩)] w fun e w' => e = .returned (.tuple #[]) ∧ At m g cp ws R C w0 (sLen S ws st) w' :=
  (long_ok S m g cp ws R st.1 st.2.1 C 20 (enc st.2.2) 33 st.2.2.f20 w h.rd hS h.blk (enc_get20 _) h.mC (by decide) h.ne).mono fun e w' hp => h.mp hp (enc_set20 _ _)
def sPA (S : Says) (ws : List ByteArray) (st : St) : St := let r := step ws st.1 st.2.1 st.2.2.f27 (numG S 1099511627776); (r.1, r.2.1, { st.2.2 with f27 := r.2.2 })
theorem sPA_ok (S : Says) (hS : S.ok ws) (h : At m g cp ws R C w0 st w) : Calls Tryz.prog 34 #[.iface 59 (.pointer (some ⟨R, 0, none⟩)), .pointer (some ⟨C, 27, none⟩)] w fun e w' => e = .returned (.tuple #[]) ∧ At m g cp ws R C w0 (sPA S ws st) w' :=
  (long_ok S m g cp ws R st.1 st.2.1 C 27 (enc st.2.2) 33 st.2.2.f27 w h.rd hS h.blk (enc_get27 _) h.mC (by decide) h.ne).mono fun e w' hp => h.mp hp (enc_set27 _ _)
def sCount (S : Says) (ws : List ByteArray) (st : St) : St := let r := step ws st.1 st.2.1 st.2.2.f19 (numG S 2147483648); (r.1, r.2.1, { st.2.2 with f19 := r.2.2 })
theorem sCount_ok (S : Says) (hS : S.ok ws) (h : At m g cp ws R C w0 st w) (h0 : st.2.2.f19 = 0) : Calls Tryz.prog 32 #[.iface 59 (.pointer (some ⟨R, 0, none⟩)), .pointer (some ⟨C, 19, none⟩), .int .u64 2147483648] w fun e w' => e = .returned (.tuple #[]) ∧ At m g cp ws R C w0 (sCount S ws st) w' :=
  (small_ok S m g cp ws R st.1 st.2.1 C 19 (enc st.2.2) 33 st.2.2.f19 2147483648 w h.rd hS h.blk (enc_get19 _) (by rw [h0]; decide) (by decide) h.mC (by decide) h.ne).mono fun e w' hp => h.mp hp (enc_set19 _ _)
def sBytes (S : Says) (ws : List ByteArray) (st : St) : St := let r := step ws st.1 st.2.1 st.2.2.f24 (numG S 2147483648); (r.1, r.2.1, { st.2.2 with f24 := r.2.2 })
theorem sBytes_ok (S : Says) (hS : S.ok ws) (h : At m g cp ws R C w0 st w) (h0 : st.2.2.f24 = 0) : Calls Tryz.prog 32 #[.iface 59 (.pointer (some ⟨R, 0, none⟩)), .pointer (some ⟨C, 24, none⟩), .int .u64 2147483648] w fun e w' => e = .returned (.tuple #[]) ∧ At m g cp ws R C w0 (sBytes S ws st) w' :=
  (small_ok S m g cp ws R st.1 st.2.1 C 24 (enc st.2.2) 33 st.2.2.f24 2147483648 w h.rd hS h.blk (enc_get24 _) (by rw [h0]; decide) (by decide) h.mC (by decide) h.ne).mono fun e w' hp => h.mp hp (enc_set24 _ _)
def sCRn (S : Says) (ws : List ByteArray) (st : St) : St := let r := step ws st.1 st.2.1 st.2.2.f28 (numG S 16); (r.1, r.2.1, { st.2.2 with f28 := r.2.2 })
theorem sCRn_ok (S : Says) (hS : S.ok ws) (h : At m g cp ws R C w0 st w) (h0 : st.2.2.f28 = 0) : Calls Tryz.prog 32 #[.iface 59 (.pointer (some ⟨R, 0, none⟩)), .pointer (some ⟨C, 28, none⟩), .int .u64 16] w fun e w' => e = .returned (.tuple #[]) ∧ At m g cp ws R C w0 (sCRn S ws st) w' :=
  (small_ok S m g cp ws R st.1 st.2.1 C 28 (enc st.2.2) 33 st.2.2.f28 16 w h.rd hS h.blk (enc_get28 _) (by rw [h0]; decide) (by decide) h.mC (by decide) h.ne).mono fun e w' hp => h.mp hp (enc_set28 _ _)
def sOp1 (S : Says) (ws : List ByteArray) (st : St) : St := let r := step ws st.1 st.2.1 st.2.2.f29 (numG S 8); (r.1, r.2.1, { st.2.2 with f29 := r.2.2 })
theorem sOp1_ok (S : Says) (hS : S.ok ws) (h : At m g cp ws R C w0 st w) (h0 : st.2.2.f29 = 0) : Calls Tryz.prog 32 #[.iface 59 (.pointer (some ⟨R, 0, none⟩)), .pointer (some ⟨C, 29, none⟩), .int .u64 8] w fun e w' => e = .returned (.tuple #[]) ∧ At m g cp ws R C w0 (sOp1 S ws st) w' :=
  (small_ok S m g cp ws R st.1 st.2.1 C 29 (enc st.2.2) 33 st.2.2.f29 8 w h.rd hS h.blk (enc_get29 _) (by rw [h0]; decide) (by decide) h.mC (by decide) h.ne).mono fun e w' hp => h.mp hp (enc_set29 _ _)
def sCRm (S : Says) (ws : List ByteArray) (st : St) : St := let r := step ws st.1 st.2.1 st.2.2.f30 (numG S 16); (r.1, r.2.1, { st.2.2 with f30 := r.2.2 })
theorem sCRm_ok (S : Says) (hS : S.ok ws) (h : At m g cp ws R C w0 st w) (h0 : st.2.2.f30 = 0) : Calls Tryz.prog 32 #[.iface 59 (.pointer (some ⟨R, 0, none⟩)), .pointer (some ⟨C, 30, none⟩), .int .u64 16] w fun e w' => e = .returned (.tuple #[]) ∧ At m g cp ws R C w0 (sCRm S ws st) w' :=
  (small_ok S m g cp ws R st.1 st.2.1 C 30 (enc st.2.2) 33 st.2.2.f30 16 w h.rd hS h.blk (enc_get30 _) (by rw [h0]; decide) (by decide) h.mC (by decide) h.ne).mono fun e w' hp => h.mp hp (enc_set30 _ _)
def sOp2 (S : Says) (ws : List ByteArray) (st : St) : St := let r := step ws st.1 st.2.1 st.2.2.f31 (numG S 8); (r.1, r.2.1, { st.2.2 with f31 := r.2.2 })
theorem sOp2_ok (S : Says) (hS : S.ok ws) (h : At m g cp ws R C w0 st w) (h0 : st.2.2.f31 = 0) : Calls Tryz.prog 32 #[.iface 59 (.pointer (some ⟨R, 0, none⟩)), .pointer (some ⟨C, 31, none⟩), .int .u64 8] w fun e w' => e = .returned (.tuple #[]) ∧ At m g cp ws R C w0 (sOp2 S ws st) w' :=
  (small_ok S m g cp ws R st.1 st.2.1 C 31 (enc st.2.2) 33 st.2.2.f31 8 w h.rd hS h.blk (enc_get31 _) (by rw [h0]; decide) (by decide) h.mC (by decide) h.ne).mono fun e w' hp => h.mp hp (enc_set31 _ _)
def sSlot (S : Says) (ws : List ByteArray) (st : St) : St := let r := step ws st.1 st.2.1 st.2.2.f9 (numG S 2147483648); (r.1, r.2.1, { st.2.2 with f9 := r.2.2 })
theorem sSlot_ok (S : Says) (hS : S.ok ws) (h : At m g cp ws R C w0 st w) (h0 : st.2.2.f9 = 0) : Calls Tryz.prog 32 #[.iface 59 (.pointer (some ⟨R, 0, none⟩)), .pointer (some ⟨C, 9, none⟩), .int .u64 2147483648] w fun e w' => e = .returned (.tuple #[]) ∧ At m g cp ws R C w0 (sSlot S ws st) w' :=
  (small_ok S m g cp ws R st.1 st.2.1 C 9 (enc st.2.2) 33 st.2.2.f9 2147483648 w h.rd hS h.blk (enc_get9 _) (by rw [h0]; decide) (by decide) h.mC (by decide) h.ne).mono fun e w' hp => h.mp hp (enc_set9 _ _)
def sPick (S : Says) (ws : List ByteArray) (st : St) : St := let r := step ws st.1 st.2.1 st.2.2.f12 (numG S 2147483648); (r.1, r.2.1, { st.2.2 with f12 := r.2.2 })
theorem sPick_ok (S : Says) (hS : S.ok ws) (h : At m g cp ws R C w0 st w) (h0 : st.2.2.f12 = 0) : Calls Tryz.prog 32 #[.iface 59 (.pointer (some ⟨R, 0, none⟩)), .pointer (some ⟨C, 12, none⟩), .int .u64 2147483648] w fun e w' => e = .returned (.tuple #[]) ∧ At m g cp ws R C w0 (sPick S ws st) w' :=
  (small_ok S m g cp ws R st.1 st.2.1 C 12 (enc st.2.2) 33 st.2.2.f12 2147483648 w h.rd hS h.blk (enc_get12 _) (by rw [h0]; decide) (by decide) h.mC (by decide) h.ne).mono fun e w' hp => h.mp hp (enc_set12 _ _)
def sRights (S : Says) (ws : List ByteArray) (st : St) : St := let r := step ws st.1 st.2.1 (st.2.2.f21, st.2.2.f22, st.2.2.f23) rtG; (r.1, r.2.1, { st.2.2 with f21 := r.2.2.1, f22 := r.2.2.2.1, f23 := r.2.2.2.2 })
theorem sRights_ok (S : Says) (hS : S.ok ws) (h : At m g cp ws R C w0 st w) : Calls Tryz.prog 80 #[.pointer (some ⟨R, 0, none⟩), .pointer (some ⟨C, 21, none⟩)] w fun e w' => e = .returned (.tuple #[]) ∧ At m g cp ws R C w0 (sRights S ws st) w' :=
  (rrights_ok m g cp ws R st.1 st.2.1 C 21 (enc st.2.2) 33 (st.2.2.f21, st.2.2.f22, st.2.2.f23) w h.rd h.blk (enc_get21 _) (enc_get22 _) (enc_get23 _) h.mC (by decide) h.ne).mono fun e w' hp => h.mp hp rfl
def sFlag (f : ByteArray) (S : Says) (ws : List ByteArray) (st : St) : St := let r := flagP ws st.1 st.2.1 st.2.2.f26 f; (r.1, r.2.1, { st.2.2 with f26 := r.2.2 })
theorem sFlag_ok (x : ByteArray) (S : Says) (hS : S.ok ws) (h : At m g cp ws R C w0 st w) : Calls Tryz.prog 77 #[.pointer (some ⟨R, 0, none⟩), .pointer (some ⟨C, 26, none⟩), .string x] w fun e w' => e = .returned (.tuple #[]) ∧ At m g cp ws R C w0 (sFlag x S ws st) w' :=
  (flag_ok m g cp ws R st.1 st.2.1 C 26 (enc st.2.2) 33 st.2.2.f26 x w h.rd h.blk (enc_get26 _) h.mC (by decide) h.ne).mono fun e w' hp => h.mp hp (enc_set26 _ _)
def sNot (f : ByteArray) (S : Says) (ws : List ByteArray) (st : St) : St := let r := flagP ws st.1 st.2.1 (!st.2.2.f26) f; (r.1, r.2.1, { st.2.2 with f26 := !r.2.2 })
theorem sNot_ok (x : ByteArray) (S : Says) (hS : S.ok ws) (h : At m g cp ws R C w0 st w) : Calls Tryz.prog 51 #[.iface 59 (.pointer (some ⟨R, 0, none⟩)), .pointer (some ⟨C, 26, none⟩), .string x] w fun e w' => e = .returned (.tuple #[]) ∧ At m g cp ws R C w0 (sNot x S ws st) w' :=
  (not_ok m g cp ws R st.1 st.2.1 C 26 (enc st.2.2) 33 st.2.2.f26 x w h.rd h.blk (enc_get26 _) h.mC (by decide) h.ne).mono fun e w' hp => h.mp hp (enc_set26 _ _)
def sFirst (f : ByteArray) (S : Says) (ws : List ByteArray) (st : St) : St := let r := flagP ws st.1 st.2.1 st.2.2.f13 f; (r.1, r.2.1, { st.2.2 with f13 := r.2.2 })
theorem sFirst_ok (x : ByteArray) (S : Says) (hS : S.ok ws) (h : At m g cp ws R C w0 st w) : Calls Tryz.prog 77 #[.pointer (some ⟨R, 0, none⟩), .pointer (some ⟨C, 13, none⟩), .string x] w fun e w' => e = .returned (.tuple #[]) ∧ At m g cp ws R C w0 (sFirst x S ws st) w' :=
  (flag_ok m g cp ws R st.1 st.2.1 C 13 (enc st.2.2) 33 st.2.2.f13 x w h.rd h.blk (enc_get13 _) h.mC (by decide) h.ne).mono fun e w' hp => h.mp hp (enc_set13 _ _)
end Go.Proofs.YtnidnmhcjngmeaaGreat.Scr

/-
  The forms of the commands that are lists of steps (printed by gen7.py).
  Conditions: none.
-/
namespace Go.Proofs.YtnidnmhcjngmeaaGreat.Scr
open Go.RowKit Go.Proofs.YtnidnmhcjngmeaaGreatW.PrintWords Go.Proofs.YtnidnmhcjngmeaaGreatW.PrintLast Go.Proofs.YtnidnmhcjngmeaaGreatW.PrintMore
variable {m : Nat} {g : Nat × Nat} {cp : Nat} {ws : List ByteArray} {R C : Nat} {w0 : World} {st : St} {w : World}
def fOne (S : Says) (ws : List ByteArray) (st : St) : St := (sName S ws st)
set_option maxRecDepth 100000 in
set_option maxHeartbeats 1000000 in
theorem fOne_ok (S : Says) (hS : S.ok ws) (h : At m g cp ws R C w0 st w)  : Calls Tryz.prog 23 #[.iface 59 (.pointer (some ⟨R, 0, none⟩)), .pointer (some ⟨C, 0, none⟩)] w fun e w' => e = .returned (.tuple #[]) ∧ At m g cp ws R C w0 (fOne S ws st) w' := by
  have m_name := met_name
  have n_name := nil_name
  have m_size := met_size
  have n_size := nil_size
  have m_rights := met_rights
  have n_rights := nil_rights
  go_enter Tryz.func23, Tryz.ntmps23
  try go_wp2
  go_still_tail 7, (by kernel_rfl)
  change wpList _ _ _ _ _ w.drew
  go_wp2_with (first
    | (go_at_call 78; (with_reducible refine (sName_ok S hS h.drew).mono ?_); rintro e w1 ⟨rfl, h1⟩))
  go_end0
  exact ⟨rfl, h1⟩
def fMap (S : Says) (ws : List ByteArray) (st : St) : St := (sRights S ws (sCount S ws (sSize S ws (sVA S ws (sName S ws st)))))
set_option maxRecDepth 100000 in
set_option maxHeartbeats 1000000 in
theorem fMap_ok (S : Says) (hS : S.ok ws) (h : At m g cp ws R C w0 st w) (z16 : st.2.2.f16 = 0) (z19 : st.2.2.f19 = 0) : Calls Tryz.prog 30 #[.iface 59 (.pointer (some ⟨R, 0, none⟩)), .pointer (some ⟨C, 0, none⟩)] w fun e w' => e = .returned (.tuple #[]) ∧ At m g cp ws R C w0 (fMap S ws st) w' := by
  have m_name := met_name
  have n_name := nil_name
  have m_size := met_size
  have n_size := nil_size
  have m_rights := met_rights
  have n_rights := nil_rights
  have y2 : (sName S ws st).2.2.f16 = 0 := z16
  have y4 : (sSize S ws (sVA S ws (sName S ws st))).2.2.f19 = 0 := z19
  go_enter Tryz.func30, Tryz.ntmps30
  try go_wp2
  go_still_tail 7, (by kernel_rfl)
  change wpList _ _ _ _ _ w.drew
  go_wp2_with (first
    | (go_at_call 78; (with_reducible refine (sName_ok S hS h.drew).mono ?_); rintro e w1 ⟨rfl, h1⟩)
    | (go_at_call 31; (with_reducible refine (sVA_ok S hS h1 y2).mono ?_); rintro e w2 ⟨rfl, h2⟩))
  try go_wp2
  go_still_tail 7, (by kernel_rfl)
  change wpList _ _ _ _ _ w2.drew
  go_wp2_with (first
    | (go_at_call 81; (with_reducible refine (sSize_ok S hS (h2).drew).mono ?_); rintro e w3 ⟨rfl, h3⟩)
    | (go_at_call 32; (with_reducible refine (sCount_ok S hS h3 y4).mono ?_); rintro e w4 ⟨rfl, h4⟩))
  try go_wp2
  go_still_tail 7, (by kernel_rfl)
  change wpList _ _ _ _ _ w4.drew
  go_wp2_with (first
    | (go_at_call 80; (with_reducible refine (sRights_ok S hS (h4).drew).mono ?_); rintro e w5 ⟨rfl, h5⟩))
  go_end0
  exact ⟨rfl, h5⟩
def fUnmap (S : Says) (ws : List ByteArray) (st : St) : St := (sLen S ws (sVA S ws (sName S ws st)))
set_option maxRecDepth 100000 in
set_option maxHeartbeats 1000000 in
theorem fUnmap_ok (S : Says) (hS : S.ok ws) (h : At m g cp ws R C w0 st w) (z16 : st.2.2.f16 = 0) : Calls Tryz.prog 33 #[.iface 59 (.pointer (some ⟨R, 0, none⟩)), .pointer (some ⟨C, 0, none⟩)] w fun e w' => e = .returned (.tuple #[]) ∧ At m g cp ws R C w0 (fUnmap S ws st) w' := by
  have m_name := met_name
  have n_name := nil_name
  have m_size := met_size
  have n_size := nil_size
  have m_rights := met_rights
  have n_rights := nil_rights
  have y2 : (sName S ws st).2.2.f16 = 0 := z16
  go_enter Tryz.func33, Tryz.ntmps33
  try go_wp2
  go_still_tail 7, (by kernel_rfl)
  change wpList _ _ _ _ _ w.drew
  go_wp2_with (first
    | (go_at_call 78; (with_reducible refine (sName_ok S hS h.drew).mono ?_); rintro e w1 ⟨rfl, h1⟩)
    | (go_at_call 31; (with_reducible refine (sVA_ok S hS h1 y2).mono ?_); rintro e w2 ⟨rfl, h2⟩)
    | (go_at_call 34; (with_reducible refine (sLen_ok S hS h2).mono ?_); rintro e w3 ⟨rfl, h3⟩))
  go_end0
  exact ⟨rfl, h3⟩
def fProtect (S : Says) (ws : List ByteArray) (st : St) : St := (sRights S ws (sLen S ws (sVA S ws (sName S ws st))))
set_option maxRecDepth 100000 in
set_option maxHeartbeats 1000000 in
theorem fProtect_ok (S : Says) (hS : S.ok ws) (h : At m g cp ws R C w0 st w) (z16 : st.2.2.f16 = 0) : Calls Tryz.prog 35 #[.iface 59 (.pointer (some ⟨R, 0, none⟩)), .pointer (some ⟨C, 0, none⟩)] w fun e w' => e = .returned (.tuple #[]) ∧ At m g cp ws R C w0 (fProtect S ws st) w' := by
  have m_name := met_name
  have n_name := nil_name
  have m_size := met_size
  have n_size := nil_size
  have m_rights := met_rights
  have n_rights := nil_rights
  have y2 : (sName S ws st).2.2.f16 = 0 := z16
  go_enter Tryz.func35, Tryz.ntmps35
  try go_wp2
  go_still_tail 7, (by kernel_rfl)
  change wpList _ _ _ _ _ w.drew
  go_wp2_with (first
    | (go_at_call 78; (with_reducible refine (sName_ok S hS h.drew).mono ?_); rintro e w1 ⟨rfl, h1⟩)
    | (go_at_call 31; (with_reducible refine (sVA_ok S hS h1 y2).mono ?_); rintro e w2 ⟨rfl, h2⟩)
    | (go_at_call 34; (with_reducible refine (sLen_ok S hS h2).mono ?_); rintro e w3 ⟨rfl, h3⟩))
  try go_wp2
  go_still_tail 7, (by kernel_rfl)
  change wpList _ _ _ _ _ w3.drew
  go_wp2_with (first
    | (go_at_call 80; (with_reducible refine (sRights_ok S hS (h3).drew).mono ?_); rintro e w4 ⟨rfl, h4⟩))
  go_end0
  exact ⟨rfl, h4⟩
def fShare (S : Says) (ws : List ByteArray) (st : St) : St := (sRights S ws (sLen S ws (sFrom S ws (sOther S ws (sVA S ws (sName S ws st))))))
set_option maxRecDepth 100000 in
set_option maxHeartbeats 1000000 in
theorem fShare_ok (S : Says) (hS : S.ok ws) (h : At m g cp ws R C w0 st w) (z16 : st.2.2.f16 = 0) (z17 : st.2.2.f17 = 0) : Calls Tryz.prog 36 #[.iface 59 (.pointer (some ⟨R, 0, none⟩)), .pointer (some ⟨C, 0, none⟩)] w fun e w' => e = .returned (.tuple #[]) ∧ At m g cp ws R C w0 (fShare S ws st) w' := by
  have m_name := met_name
  have n_name := nil_name
  have m_size := met_size
  have n_size := nil_size
  have m_rights := met_rights
  have n_rights := nil_rights
  have y2 : (sName S ws st).2.2.f16 = 0 := z16
  have y4 : (sOther S ws (sVA S ws (sName S ws st))).2.2.f17 = 0 := z17
  go_enter Tryz.func36, Tryz.ntmps36
  try go_wp2
  go_still_tail 7, (by kernel_rfl)
  change wpList _ _ _ _ _ w.drew
  go_wp2_with (first
    | (go_at_call 78; (with_reducible refine (sName_ok S hS h.drew).mono ?_); rintro e w1 ⟨rfl, h1⟩)
    | (go_at_call 31; (with_reducible refine (sVA_ok S hS h1 y2).mono ?_); rintro e w2 ⟨rfl, h2⟩))
  try go_wp2
  go_still_tail 7, (by kernel_rfl)
  change wpList _ _ _ _ _ w2.drew
  go_wp2_with (first
    | (go_at_call 78; (with_reducible refine (sOther_ok S hS (h2).drew).mono ?_); rintro e w3 ⟨rfl, h3⟩)
    | (go_at_call 31; (with_reducible refine (sFrom_ok S hS h3 y4).mono ?_); rintro e w4 ⟨rfl, h4⟩)
    | (go_at_call 34; (with_reducible refine (sLen_ok S hS h4).mono ?_); rintro e w5 ⟨rfl, h5⟩))
  try go_wp2
  go_still_tail 7, (by kernel_rfl)
  change wpList _ _ _ _ _ w5.drew
  go_wp2_with (first
    | (go_at_call 80; (with_reducible refine (sRights_ok S hS (h5).drew).mono ?_); rintro e w6 ⟨rfl, h6⟩))
  go_end0
  exact ⟨rfl, h6⟩
def fQuery (S : Says) (ws : List ByteArray) (st : St) : St := (sVA S ws (sName S ws st))
set_option maxRecDepth 100000 in
set_option maxHeartbeats 1000000 in
theorem fQuery_ok (S : Says) (hS : S.ok ws) (h : At m g cp ws R C w0 st w) (z16 : st.2.2.f16 = 0) : Calls Tryz.prog 37 #[.iface 59 (.pointer (some ⟨R, 0, none⟩)), .pointer (some ⟨C, 0, none⟩)] w fun e w' => e = .returned (.tuple #[]) ∧ At m g cp ws R C w0 (fQuery S ws st) w' := by
  have m_name := met_name
  have n_name := nil_name
  have m_size := met_size
  have n_size := nil_size
  have m_rights := met_rights
  have n_rights := nil_rights
  have y2 : (sName S ws st).2.2.f16 = 0 := z16
  go_enter Tryz.func37, Tryz.ntmps37
  try go_wp2
  go_still_tail 7, (by kernel_rfl)
  change wpList _ _ _ _ _ w.drew
  go_wp2_with (first
    | (go_at_call 78; (with_reducible refine (sName_ok S hS h.drew).mono ?_); rintro e w1 ⟨rfl, h1⟩)
    | (go_at_call 31; (with_reducible refine (sVA_ok S hS h1 y2).mono ?_); rintro e w2 ⟨rfl, h2⟩))
  go_end0
  exact ⟨rfl, h2⟩
def fPoke (S : Says) (ws : List ByteArray) (st : St) : St := (sValue S ws (sPA S ws st))
set_option maxRecDepth 100000 in
set_option maxHeartbeats 1000000 in
theorem fPoke_ok (S : Says) (hS : S.ok ws) (h : At m g cp ws R C w0 st w) (z25 : st.2.2.f25 = 0) : Calls Tryz.prog 39 #[.iface 59 (.pointer (some ⟨R, 0, none⟩)), .pointer (some ⟨C, 0, none⟩)] w fun e w' => e = .returned (.tuple #[]) ∧ At m g cp ws R C w0 (fPoke S ws st) w' := by
  have m_name := met_name
  have n_name := nil_name
  have m_size := met_size
  have n_size := nil_size
  have m_rights := met_rights
  have n_rights := nil_rights
  have y2 : (sPA S ws st).2.2.f25 = 0 := z25
  go_enter Tryz.func39, Tryz.ntmps39
  go_wp2_with (first
    | (go_at_call 34; (with_reducible refine (sPA_ok S hS h).mono ?_); rintro e w1 ⟨rfl, h1⟩)
    | (go_at_call 31; (with_reducible refine (sValue_ok S hS h1 y2).mono ?_); rintro e w2 ⟨rfl, h2⟩))
  go_end0
  exact ⟨rfl, h2⟩
def fPeek (S : Says) (ws : List ByteArray) (st : St) : St := (sPA S ws st)
set_option maxRecDepth 100000 in
set_option maxHeartbeats 1000000 in
theorem fPeek_ok (S : Says) (hS : S.ok ws) (h : At m g cp ws R C w0 st w)  : Calls Tryz.prog 40 #[.iface 59 (.pointer (some ⟨R, 0, none⟩)), .pointer (some ⟨C, 0, none⟩)] w fun e w' => e = .returned (.tuple #[]) ∧ At m g cp ws R C w0 (fPeek S ws st) w' := by
  have m_name := met_name
  have n_name := nil_name
  have m_size := met_size
  have n_size := nil_size
  have m_rights := met_rights
  have n_rights := nil_rights
  go_enter Tryz.func40, Tryz.ntmps40
  go_wp2_with (first
    | (go_at_call 34; (with_reducible refine (sPA_ok S hS h).mono ?_); rintro e w1 ⟨rfl, h1⟩))
  go_end0
  exact ⟨rfl, h1⟩
end Go.Proofs.YtnidnmhcjngmeaaGreat.Scr

/-
  The forms with numbers, of accesses and of tuples.
  Conditions: none.
-/
namespace Go.Proofs.YtnidnmhcjngmeaaGreat.Scr
open Go.RowKit Go.Proofs.YtnidnmhcjngmeaaGreatW.PrintWords Go.Proofs.YtnidnmhcjngmeaaGreatW.PrintLast Go.Proofs.YtnidnmhcjngmeaaGreatW.PrintMore
variable {m : Nat} {g : Nat × Nat} {cp : Nat} {ws : List ByteArray} {R C : Nat} {w0 : World} {st : St} {w : World}
def sC1 (S : Says) (ws : List ByteArray) (st : St) : St := let r := step ws st.1 st.2.1 st.2.2.f1 (numG S 2147483648); (r.1, r.2.1, { st.2.2 with f1 := r.2.2 })
def sC2 (S : Says) (ws : List ByteArray) (st : St) : St := let r := step ws st.1 st.2.1 st.2.2.f2 (numG S 2147483648); (r.1, r.2.1, { st.2.2 with f2 := r.2.2 })
def sC3 (S : Says) (ws : List ByteArray) (st : St) : St := let r := step ws st.1 st.2.1 st.2.2.f3 (numG S 2147483648); (r.1, r.2.1, { st.2.2 with f3 := r.2.2 })
def sC4 (S : Says) (ws : List ByteArray) (st : St) : St := let r := step ws st.1 st.2.1 st.2.2.f4 (numG S 2147483648); (r.1, r.2.1, { st.2.2 with f4 := r.2.2 })
def sC5 (S : Says) (ws : List ByteArray) (st : St) : St := let r := step ws st.1 st.2.1 st.2.2.f5 (numG S 2147483648); (r.1, r.2.1, { st.2.2 with f5 := r.2.2 })
def sC6 (S : Says) (ws : List ByteArray) (st : St) : St := let r := step ws st.1 st.2.1 st.2.2.f6 (numG S 2147483648); (r.1, r.2.1, { st.2.2 with f6 := r.2.2 })
def fBoot (S : Says) (ws : List ByteArray) (st : St) : St := (sC6 S ws (sC5 S ws (sC4 S ws (sC3 S ws (sC2 S ws (sC1 S ws st))))))
def fBare (S : Says) (ws : List ByteArray) (st : St) : St := (sC4 S ws (sC3 S ws (sC2 S ws (sC1 S ws st))))
theorem fBoot_nums (S : Says) (z1 : st.2.2.f1 = 0) (z2 : st.2.2.f2 = 0) (z3 : st.2.2.f3 = 0) (z4 : st.2.2.f4 = 0) (z5 : st.2.2.f5 = 0) (z6 : st.2.2.f6 = 0) : numsP S ws 1 6 (st.1, st.2.1, enc st.2.2) = ((fBoot S ws st).1, (fBoot S ws st).2.1, enc (fBoot S ws st).2.2) := by
  obtain ⟨n, bad, c⟩ := st
  simp only at z1 z2 z3 z4 z5 z6
  simp only [fBoot, sC1, sC2, sC3, sC4, sC5, sC6, numsP, z1, z2, z3, z4, z5, z6]
  rfl
theorem fBare_nums (S : Says) (z1 : st.2.2.f1 = 0) (z2 : st.2.2.f2 = 0) (z3 : st.2.2.f3 = 0) (z4 : st.2.2.f4 = 0) : numsP S ws 1 4 (st.1, st.2.1, enc st.2.2) = ((fBare S ws st).1, (fBare S ws st).2.1, enc (fBare S ws st).2.2) := by
  obtain ⟨n, bad, c⟩ := st
  simp only at z1 z2 z3 z4
  simp only [fBare, sC1, sC2, sC3, sC4, numsP, z1, z2, z3, z4]
  rfl
set_option maxRecDepth 100000 in
set_option maxHeartbeats 1000000 in
theorem fBoot_ok (S : Says) (hS : S.ok ws) (h : At m g cp ws R C w0 st w) (z1 : st.2.2.f1 = 0) (z2 : st.2.2.f2 = 0) (z3 : st.2.2.f3 = 0) (z4 : st.2.2.f4 = 0) (z5 : st.2.2.f5 = 0) (z6 : st.2.2.f6 = 0) : Calls Tryz.prog 25 #[.iface 59 (.pointer (some ⟨R, 0, none⟩)), .pointer (some ⟨C, 0, none⟩)] w fun e w' => e = .returned (.tuple #[]) ∧ At m g cp ws R C w0 (fBoot S ws st) w' := by
  have lR := h.rd.lt
  have lC := blk_lt h.blk
  have hn := fBoot_nums (ws := ws) S z1 z2 z3 z4 z5 z6
  have h1 := (h.alloc (.cells #[.pointer (some ⟨C, 1, none⟩), .pointer (some ⟨C, 2, none⟩), .pointer (some ⟨C, 3, none⟩), .pointer (some ⟨C, 4, none⟩), .pointer (some ⟨C, 5, none⟩), .pointer (some ⟨C, 6, none⟩)] 90 (0, 0))).drew
  have hb := blk_new w (.cells #[.pointer (some ⟨C, 1, none⟩), .pointer (some ⟨C, 2, none⟩), .pointer (some ⟨C, 3, none⟩), .pointer (some ⟨C, 4, none⟩), .pointer (some ⟨C, 5, none⟩), .pointer (some ⟨C, 6, none⟩)] 90 (0, 0))
  have hl : ∀ j, j < 6 → (w.alloc (.cells #[.pointer (some ⟨C, 1, none⟩), .pointer (some ⟨C, 2, none⟩), .pointer (some ⟨C, 3, none⟩), .pointer (some ⟨C, 4, none⟩), .pointer (some ⟨C, 5, none⟩), .pointer (some ⟨C, 6, none⟩)] 90 (0, 0))).drew.cell? ⟨w.heap.size, j, none⟩ = some (.pointer (some ⟨C, 1 + j, none⟩)) := fun j hj => (blk_cell hb j).trans (by
    match j, hj with
    | 0, _ => rfl
    | 1, _ => rfl
    | 2, _ => rfl
    | 3, _ => rfl
    | 4, _ => rfl
    | 5, _ => rfl)
  have hc := numbers_ok S m g cp ws R st.1 st.2.1 C 1 6 w.heap.size (enc st.2.2) 33 _ h1.rd hS h1.blk (fun j hj => by
    match j, hj with
    | 0, _ => rw [show 1 + 0 = 1 from rfl, enc_get1, z1]
    | 1, _ => rw [show 1 + 1 = 2 from rfl, enc_get2, z2]
    | 2, _ => rw [show 1 + 2 = 3 from rfl, enc_get3, z3]
    | 3, _ => rw [show 1 + 3 = 4 from rfl, enc_get4, z4]
    | 4, _ => rw [show 1 + 4 = 5 from rfl, enc_get5, z5]
    | 5, _ => rw [show 1 + 5 = 6 from rfl, enc_get6, z6]) (by decide) h.mC (by decide) h.ne hl (by omega) (by omega)
  rw [hn] at hc
  go_enter Tryz.func25, Tryz.ntmps25
  try go_wp2
  go_region_with (go_at_call 26; refine hc.mono ?_; rintro e w1 hp; obtain ⟨rfl, h2⟩ := h1.mp hp rfl)
  go_wp2
  go_end0
  exact ⟨rfl, h2⟩
set_option maxRecDepth 100000 in
set_option maxHeartbeats 1000000 in
theorem fBare_ok (S : Says) (hS : S.ok ws) (h : At m g cp ws R C w0 st w) (z1 : st.2.2.f1 = 0) (z2 : st.2.2.f2 = 0) (z3 : st.2.2.f3 = 0) (z4 : st.2.2.f4 = 0) : Calls Tryz.prog 27 #[.iface 59 (.pointer (some ⟨R, 0, none⟩)), .pointer (some ⟨C, 0, none⟩)] w fun e w' => e = .returned (.tuple #[]) ∧ At m g cp ws R C w0 (fBare S ws st) w' := by
  have lR := h.rd.lt
  have lC := blk_lt h.blk
  have hn := fBare_nums (ws := ws) S z1 z2 z3 z4
  have h1 := (h.alloc (.cells #[.pointer (some ⟨C, 1, none⟩), .pointer (some ⟨C, 2, none⟩), .pointer (some ⟨C, 3, none⟩), .pointer (some ⟨C, 4, none⟩)] 90 (0, 0))).drew
  have hb := blk_new w (.cells #[.pointer (some ⟨C, 1, none⟩), .pointer (some ⟨C, 2, none⟩), .pointer (some ⟨C, 3, none⟩), .pointer (some ⟨C, 4, none⟩)] 90 (0, 0))
  have hl : ∀ j, j < 4 → (w.alloc (.cells #[.pointer (some ⟨C, 1, none⟩), .pointer (some ⟨C, 2, none⟩), .pointer (some ⟨C, 3, none⟩), .pointer (some ⟨C, 4, none⟩)] 90 (0, 0))).drew.cell? ⟨w.heap.size, j, none⟩ = some (.pointer (some ⟨C, 1 + j, none⟩)) := fun j hj => (blk_cell hb j).trans (by
    match j, hj with
    | 0, _ => rfl
    | 1, _ => rfl
    | 2, _ => rfl
    | 3, _ => rfl)
  have hc := numbers_ok S m g cp ws R st.1 st.2.1 C 1 4 w.heap.size (enc st.2.2) 33 _ h1.rd hS h1.blk (fun j hj => by
    match j, hj with
    | 0, _ => rw [show 1 + 0 = 1 from rfl, enc_get1, z1]
    | 1, _ => rw [show 1 + 1 = 2 from rfl, enc_get2, z2]
    | 2, _ => rw [show 1 + 2 = 3 from rfl, enc_get3, z3]
    | 3, _ => rw [show 1 + 3 = 4 from rfl, enc_get4, z4]) (by decide) h.mC (by decide) h.ne hl (by omega) (by omega)
  rw [hn] at hc
  go_enter Tryz.func27, Tryz.ntmps27
  try go_wp2
  go_region_with (go_at_call 26; refine hc.mono ?_; rintro e w1 hp; obtain ⟨rfl, h2⟩ := h1.mp hp rfl)
  go_wp2
  go_end0
  exact ⟨rfl, h2⟩
end Go.Proofs.YtnidnmhcjngmeaaGreat.Scr

/-
  The forms of accesses and of tuples (printed by gen10.py).
  Conditions: none.
-/
namespace Go.Proofs.YtnidnmhcjngmeaaGreat.Scr
open Go.RowKit Go.Proofs.YtnidnmhcjngmeaaGreatW.PrintWords Go.Proofs.YtnidnmhcjngmeaaGreatW.PrintLast Go.Proofs.YtnidnmhcjngmeaaGreatW.PrintMore
variable {m : Nat} {g : Nat × Nat} {cp : Nat} {ws : List ByteArray} {R C : Nat} {w0 : World} {st : St} {w : World}
abbrev tPriv : ByteArray := ⟨#[112, 114, 105, 118]⟩
abbrev tUser : ByteArray := ⟨#[117, 115, 101, 114]⟩
/-- VALUE, if the kind is this one. -/
def valIf (S : Says) (ws : List ByteArray) (k f : Int) (s : St) : St := if f = k then sValue S ws s else s
theorem valIf_pos (S : Says) (ws : List ByteArray) {k f : Int} (s : St) (h : f = k) : valIf S ws k f s = sValue S ws s := if_pos h
theorem valIf_neg (S : Says) (ws : List ByteArray) {k f : Int} (s : St) (h : ¬ f = k) : valIf S ws k f s = s := if_neg h
def fAccess (S : Says) (ws : List ByteArray) (st : St) : St := sFlag tPriv S ws (valIf S ws 13 st.2.2.f0 (sBytes S ws (sVA S ws st)))
def fTuple (S : Says) (ws : List ByteArray) (st : St) : St := sNot tUser S ws (valIf S ws 18 st.2.2.f0 (sOp2 S ws (sCRm S ws (sOp1 S ws (sCRn S ws st)))))
theorem sBytes_f0 (S : Says) (ws : List ByteArray) (st : St) : (sBytes S ws st).2.2.f0 = st.2.2.f0 := rfl
theorem sBytes_f25 (S : Says) (ws : List ByteArray) (st : St) : (sBytes S ws st).2.2.f25 = st.2.2.f25 := rfl
theorem sCRm_f0 (S : Says) (ws : List ByteArray) (st : St) : (sCRm S ws st).2.2.f0 = st.2.2.f0 := rfl
theorem sCRm_f25 (S : Says) (ws : List ByteArray) (st : St) : (sCRm S ws st).2.2.f25 = st.2.2.f25 := rfl
theorem sCRm_f31 (S : Says) (ws : List ByteArray) (st : St) : (sCRm S ws st).2.2.f31 = st.2.2.f31 := rfl
theorem sCRn_f0 (S : Says) (ws : List ByteArray) (st : St) : (sCRn S ws st).2.2.f0 = st.2.2.f0 := rfl
theorem sCRn_f25 (S : Says) (ws : List ByteArray) (st : St) : (sCRn S ws st).2.2.f25 = st.2.2.f25 := rfl
theorem sCRn_f29 (S : Says) (ws : List ByteArray) (st : St) : (sCRn S ws st).2.2.f29 = st.2.2.f29 := rfl
theorem sCRn_f30 (S : Says) (ws : List ByteArray) (st : St) : (sCRn S ws st).2.2.f30 = st.2.2.f30 := rfl
theorem sCRn_f31 (S : Says) (ws : List ByteArray) (st : St) : (sCRn S ws st).2.2.f31 = st.2.2.f31 := rfl
theorem sOp1_f0 (S : Says) (ws : List ByteArray) (st : St) : (sOp1 S ws st).2.2.f0 = st.2.2.f0 := rfl
theorem sOp1_f25 (S : Says) (ws : List ByteArray) (st : St) : (sOp1 S ws st).2.2.f25 = st.2.2.f25 := rfl
theorem sOp1_f30 (S : Says) (ws : List ByteArray) (st : St) : (sOp1 S ws st).2.2.f30 = st.2.2.f30 := rfl
theorem sOp1_f31 (S : Says) (ws : List ByteArray) (st : St) : (sOp1 S ws st).2.2.f31 = st.2.2.f31 := rfl
theorem sOp2_f0 (S : Says) (ws : List ByteArray) (st : St) : (sOp2 S ws st).2.2.f0 = st.2.2.f0 := rfl
theorem sOp2_f25 (S : Says) (ws : List ByteArray) (st : St) : (sOp2 S ws st).2.2.f25 = st.2.2.f25 := rfl
theorem sVA_f0 (S : Says) (ws : List ByteArray) (st : St) : (sVA S ws st).2.2.f0 = st.2.2.f0 := rfl
theorem sVA_f24 (S : Says) (ws : List ByteArray) (st : St) : (sVA S ws st).2.2.f24 = st.2.2.f24 := rfl
theorem sVA_f25 (S : Says) (ws : List ByteArray) (st : St) : (sVA S ws st).2.2.f25 = st.2.2.f25 := rfl
set_option maxRecDepth 100000 in
set_option maxHeartbeats 1000000 in
theorem fAccess_ok (S : Says) (hS : S.ok ws) (h : At m g cp ws R C w0 st w) (z16 : st.2.2.f16 = 0) (z24 : st.2.2.f24 = 0) (z25 : st.2.2.f25 = 0) : Calls Tryz.prog 38 #[.iface 59 (.pointer (some ⟨R, 0, none⟩)), .pointer (some ⟨C, 0, none⟩)] w fun e w' => e = .returned (.tuple #[]) ∧ At m g cp ws R C w0 (fAccess S ws st) w' := by
  have m_flag := met_flag
  have n_flag := nil_flag
  have y1 : Aside0 (st.2.2.f16 = 0) := ⟨z16⟩
  have y2 : Aside0 ((sVA S ws st).2.2.f24 = 0) := ⟨((sVA_f24 S ws _).trans z24)⟩
  have y3 : Aside0 ((sBytes S ws (sVA S ws st)).2.2.f25 = 0) := ⟨((sBytes_f25 S ws _).trans ((sVA_f25 S ws _).trans z25))⟩
  clear z16 z24 z25
  by_cases hk : st.2.2.f0 = 13
  · have HK2 := Aside0.mk hk
    have HK := Aside0.mk hk
    clear hk
    go_enter Tryz.func38, Tryz.ntmps38
    go_wp2_with (first
      | (go_at_call 31; (with_reducible refine (sVA_ok S hS h y1.out).mono ?_); rintro e w1 ⟨rfl, h1⟩)
      | (go_at_call 32; (with_reducible refine (sBytes_ok S hS h1 y2.out).mono ?_); rintro e w2 ⟨rfl, h2⟩
         have k0 : w2.cell? ⟨C, 0, none⟩ = some (.int .i64 13) := (blk_cell h2.blk 0).trans (by rw [enc_get0]; exact congrArg (fun x => some (Value.int .i64 x)) ((sBytes_f0 S ws _).trans ((sVA_f0 S ws _).trans HK.out))))
      | (go_at_call 31; (with_reducible refine (sValue_ok S hS h2 y3.out).mono ?_); rintro e w3 ⟨rfl, h3⟩))
    try go_wp2
    go_still_tail 7, (by kernel_rfl)
    change wpList _ _ _ _ _ w3.drew
    go_wp2_with (first
      | (go_at_call 77; (with_reducible refine (sFlag_ok tPriv S hS h3.drew).mono ?_); rintro e w9 ⟨rfl, h9⟩))
    go_end0
    refine ⟨rfl, ?_⟩
    unfold fAccess
    rw [valIf_pos _ _ _ HK2.out]
    exact h9
  · have HK2 := Aside0.mk hk
    obtain ⟨kd, hkd⟩ : ∃ kd, kd = st.2.2.f0 := ⟨_, rfl⟩
    have q1 : (kd == 13) = false := by rw [hkd]; simpa using hk
    have HK := Aside0.mk hkd
    clear hk hkd
    go_enter Tryz.func38, Tryz.ntmps38
    go_wp2_with (first
      | (go_at_call 31; (with_reducible refine (sVA_ok S hS h y1.out).mono ?_); rintro e w1 ⟨rfl, h1⟩)
      | (go_at_call 32; (with_reducible refine (sBytes_ok S hS h1 y2.out).mono ?_); rintro e w2 ⟨rfl, h2⟩
         have k0 : w2.cell? ⟨C, 0, none⟩ = some (.int .i64 kd) := (blk_cell h2.blk 0).trans (by rw [enc_get0]; exact congrArg (fun x => some (Value.int .i64 x)) ((sBytes_f0 S ws _).trans ((sVA_f0 S ws _).trans HK.out.symm)))))
    try go_wp2
    go_still_tail 7, (by kernel_rfl)
    change wpList _ _ _ _ _ w2.drew
    go_wp2_with (first
      | (go_at_call 77; (with_reducible refine (sFlag_ok tPriv S hS h2.drew).mono ?_); rintro e w9 ⟨rfl, h9⟩))
    go_end0
    refine ⟨rfl, ?_⟩
    unfold fAccess
    rw [valIf_neg _ _ _ HK2.out]
    exact h9
set_option maxRecDepth 100000 in
set_option maxHeartbeats 1000000 in
theorem fTuple_ok (S : Says) (hS : S.ok ws) (h : At m g cp ws R C w0 st w) (z28 : st.2.2.f28 = 0) (z29 : st.2.2.f29 = 0) (z30 : st.2.2.f30 = 0) (z31 : st.2.2.f31 = 0) (z25 : st.2.2.f25 = 0) : Calls Tryz.prog 41 #[.iface 59 (.pointer (some ⟨R, 0, none⟩)), .pointer (some ⟨C, 0, none⟩)] w fun e w' => e = .returned (.tuple #[]) ∧ At m g cp ws R C w0 (fTuple S ws st) w' := by
  have m_flag := met_flag
  have n_flag := nil_flag
  have y1 : Aside0 (st.2.2.f28 = 0) := ⟨z28⟩
  have y2 : Aside0 ((sCRn S ws st).2.2.f29 = 0) := ⟨((sCRn_f29 S ws _).trans z29)⟩
  have y3 : Aside0 ((sOp1 S ws (sCRn S ws st)).2.2.f30 = 0) := ⟨((sOp1_f30 S ws _).trans ((sCRn_f30 S ws _).trans z30))⟩
  have y4 : Aside0 ((sCRm S ws (sOp1 S ws (sCRn S ws st))).2.2.f31 = 0) := ⟨((sCRm_f31 S ws _).trans ((sOp1_f31 S ws _).trans ((sCRn_f31 S ws _).trans z31)))⟩
  have y5 : Aside0 ((sOp2 S ws (sCRm S ws (sOp1 S ws (sCRn S ws st)))).2.2.f25 = 0) := ⟨((sOp2_f25 S ws _).trans ((sCRm_f25 S ws _).trans ((sOp1_f25 S ws _).trans ((sCRn_f25 S ws _).trans z25))))⟩
  clear z28 z29 z30 z31 z25
  by_cases hk : st.2.2.f0 = 18
  · have HK2 := Aside0.mk hk
    have HK := Aside0.mk hk
    clear hk
    go_enter Tryz.func41, Tryz.ntmps41
    go_wp2_with (first
      | (go_at_call 32; (with_reducible refine (sCRn_ok S hS h y1.out).mono ?_); rintro e w1 ⟨rfl, h1⟩)
      | (go_at_call 32; (with_reducible refine (sOp1_ok S hS h1 y2.out).mono ?_); rintro e w2 ⟨rfl, h2⟩)
      | (go_at_call 32; (with_reducible refine (sCRm_ok S hS h2 y3.out).mono ?_); rintro e w3 ⟨rfl, h3⟩)
      | (go_at_call 32; (with_reducible refine (sOp2_ok S hS h3 y4.out).mono ?_); rintro e w4 ⟨rfl, h4⟩
         have k0 : w4.cell? ⟨C, 0, none⟩ = some (.int .i64 18) := (blk_cell h4.blk 0).trans (by rw [enc_get0]; exact congrArg (fun x => some (Value.int .i64 x)) ((sOp2_f0 S ws _).trans ((sCRm_f0 S ws _).trans ((sOp1_f0 S ws _).trans ((sCRn_f0 S ws _).trans HK.out))))))
      | (go_at_call 31; (with_reducible refine (sValue_ok S hS h4 y5.out).mono ?_); rintro e w5 ⟨rfl, h5⟩)
      | (go_at_call 51; (with_reducible refine (sNot_ok tUser S hS h5).mono ?_); rintro e w9 ⟨rfl, h9⟩))
    go_end0
    refine ⟨rfl, ?_⟩
    unfold fTuple
    rw [valIf_pos _ _ _ HK2.out]
    exact h9
  · have HK2 := Aside0.mk hk
    obtain ⟨kd, hkd⟩ : ∃ kd, kd = st.2.2.f0 := ⟨_, rfl⟩
    have q1 : (kd == 18) = false := by rw [hkd]; simpa using hk
    have HK := Aside0.mk hkd
    clear hk hkd
    go_enter Tryz.func41, Tryz.ntmps41
    go_wp2_with (first
      | (go_at_call 32; (with_reducible refine (sCRn_ok S hS h y1.out).mono ?_); rintro e w1 ⟨rfl, h1⟩)
      | (go_at_call 32; (with_reducible refine (sOp1_ok S hS h1 y2.out).mono ?_); rintro e w2 ⟨rfl, h2⟩)
      | (go_at_call 32; (with_reducible refine (sCRm_ok S hS h2 y3.out).mono ?_); rintro e w3 ⟨rfl, h3⟩)
      | (go_at_call 32; (with_reducible refine (sOp2_ok S hS h3 y4.out).mono ?_); rintro e w4 ⟨rfl, h4⟩
         have k0 : w4.cell? ⟨C, 0, none⟩ = some (.int .i64 kd) := (blk_cell h4.blk 0).trans (by rw [enc_get0]; exact congrArg (fun x => some (Value.int .i64 x)) ((sOp2_f0 S ws _).trans ((sCRm_f0 S ws _).trans ((sOp1_f0 S ws _).trans ((sCRn_f0 S ws _).trans HK.out.symm))))))
      | (go_at_call 51; (with_reducible refine (sNot_ok tUser S hS h4).mono ?_); rintro e w9 ⟨rfl, h9⟩))
    go_end0
    refine ⟨rfl, ?_⟩
    unfold fTuple
    rw [valIf_neg _ _ _ HK2.out]
    exact h9
end Go.Proofs.YtnidnmhcjngmeaaGreat.Scr

/-
  The forms of a space's name or -, and of nothing.
  Conditions: none.
-/
namespace Go.Proofs.YtnidnmhcjngmeaaGreat.Scr
open Go.RowKit Go.Proofs.YtnidnmhcjngmeaaGreatW.PrintWords Go.Proofs.YtnidnmhcjngmeaaGreatW.PrintLast Go.Proofs.YtnidnmhcjngmeaaGreatW.PrintMore
variable {m : Nat} {g : Nat × Nat} {cp : Nat} {ws : List ByteArray} {R C : Nat} {w0 : World} {st : St} {w : World}
def fNone (S : Says) (ws : List ByteArray) (st : St) : St := st
theorem fNone_ok (S : Says) (h : At m g cp ws R C w0 st w) : Calls Tryz.prog 24 #[.iface 59 (.pointer (some ⟨R, 0, none⟩)), .pointer (some ⟨C, 0, none⟩)] w fun e w' => e = .returned (.tuple #[]) ∧ At m g cp ws R C w0 (fNone S ws st) w' := by
  go_enter Tryz.func24, Tryz.ntmps24
  try go_wp2
  go_end0
  exact ⟨rfl, h⟩
theorem ta_reader (v : Value) (w : World) : (Instr.typeAssert (.iface 59 v) 86 59 true).run Tryz.prog w = .ok (.tuple #[v, .bool true]) w := by kernel_rfl
theorem ta_writer (v : Value) (w : World) : (Instr.typeAssert (.iface 59 v) 86 117 true).run Tryz.prog w = .ok (.tuple #[.pointer none, .bool false]) w := by kernel_rfl
def dash (ws : List ByteArray) (n : Nat) (bad : Bad) : Bool := match bad with
  | some _ => false
  | none => if h : n < ws.length then ws[n].toList == [45] else false
def fOther (S : Says) (ws : List ByteArray) (st : St) : St := if dash ws st.1 st.2.1 then (st.1 + 1, st.2.1, st.2.2) else sName S ws st
set_option maxRecDepth 100000 in
set_option maxHeartbeats 1000000 in
theorem fOther_ok (S : Says) (hS : S.ok ws) (h : At m g cp ws R C w0 st w) : Calls Tryz.prog 29 #[.iface 59 (.pointer (some ⟨R, 0, none⟩)), .pointer (some ⟨C, 0, none⟩)] w fun e w' => e = .returned (.tuple #[]) ∧ At m g cp ws R C w0 (fOther S ws st) w' := by
  have m_name := met_name
  have t1 := ta_reader
  have t2 := ta_writer
  have n_name := nil_name
  have h0 := h.rd
  have hlen := h0.len
  obtain ⟨v, h1, h2⟩ := h0.blk
  obtain ⟨n, bad, c⟩ := st
  simp only at h1 h2 h0
  have c0 := (blk_cell h1 0).trans (show (rdc g cp ws.length n v)[0]? = some (.slice (some ⟨g.1, g.2, none⟩) ws.length cp) from rfl)
  have c1 := (blk_cell h1 1).trans (show (rdc g cp ws.length n v)[1]? = some (.int .i64 (n : Int)) from rfl)
  have c2 := (blk_cell h1 2).trans (show (rdc g cp ws.length n v)[2]? = some v from rfl)
  have f1 := blk_frozen h1 1
  have H := Aside0.mk h
  clear h
  rcases bad with _ | f
  · have h2 : v = .pointer none := h2
    subst h2
    by_cases hn : n < ws.length
    · have q1 : (n : Int) < (ws.length : Int) := by omega
      have q2 : 0 ≤ (n : Int) ∧ (n : Int) < (ws.length : Int) := by omega
      have hx := h0.row n hn
      have hd : dash ws n none = (ws[n].toList == [45]) := by simp [dash, hn]
      generalize hb : (ws[n].toList == [45]) = b at hd
      have e1 := hb
      have HD := Aside0.mk hd
      clear hd hb
      cases b with
      | true =>
        go_enter Tryz.func29, Tryz.ntmps29
        go_wp2
        go_quiet (fail)
        go_wp2
        first | go_end0 | ((try simp only [Exit.inBlock, Exit.then]); refine bodyPost_ret (results_none rfl _ _ _) rfl ?_)
        have hh := H.out
        have b1 := blk_set (blk_drewN h1 nq) 1 (.int .i64 ((n : Int) + 1))
        have fr : Fr (fun k => k = R) w ((w.drewN nq).setCell ⟨R, 1, none⟩ (.int .i64 ((n : Int) + 1))) := ((Fr.refl _ w).drewN nq).set _ _ (fun _ => rfl)
        have hF : fOther S ws (n, none, c) = (n + 1, none, c) := by simp only [fOther, HD.out, if_true]
        rw [hF]
        exact ⟨rfl, h0.put (v := .pointer none) fr (fun k hk e => e ▸ h0.mine) (by omega) b1 rfl, fr.blk hh.blk hh.ne, hh.fr.trans (fr.mono fun k _ e => Or.inl e), hh.mC, hh.ne⟩
      | false =>
        go_enter Tryz.func29, Tryz.ntmps29
        go_wp2
        go_quiet (fail)
        go_wp2
        go_still_tail 7, (by kernel_rfl)
        have hh : At m g cp ws R C w0 (n, none, c) (w.drewN nq).drew := (H.out.drewN _).drew
        change wpList _ _ _ _ _ (w.drewN nq).drew
        go_wp2_with (first
          | (go_at_call 78; (go_loud (refine (sName_ok S hS hh).mono ?_)); rintro e w1 ⟨rfl, h9⟩))
        go_end0
        have hF : fOther S ws (n, none, c) = sName S ws (n, none, c) := by simp only [fOther, HD.out, Bool.false_eq_true, if_false]
        rw [hF]
        exact ⟨rfl, h9⟩
    · have q1 : ¬ (n : Int) < (ws.length : Int) := by omega
      have q2 : ¬ n < ws.length := hn
      have q3 : decide ((n : Int) < (ws.length : Int)) = false := decide_eq_false q1
      have HD := Aside0.mk (show dash ws n none = false by simp [dash, hn])
      go_enter Tryz.func29, Tryz.ntmps29
      go_wp2
      go_quiet (fail)
      go_wp2
      go_still_tail 7, (by kernel_rfl)
      have hh : At m g cp ws R C w0 (n, none, c) (w.drewN nq).drew := (H.out.drewN _).drew
      change wpList _ _ _ _ _ (w.drewN nq).drew
      go_wp2_with (first
        | (go_at_call 78; (go_loud (refine (sName_ok S hS hh).mono ?_)); rintro e w1 ⟨rfl, h9⟩))
      go_end0
      have hF : fOther S ws (n, none, c) = sName S ws (n, none, c) := by simp only [fOther, HD.out, Bool.false_eq_true, if_false]
      rw [hF]
      exact ⟨rfl, h9⟩
  · obtain ⟨f1', f2'⟩ := f
    obtain ⟨F, rfl, hF⟩ := h2
    go_enter Tryz.func29, Tryz.ntmps29
    go_wp2
    go_quiet (fail)
    go_wp2
    go_still_tail 7, (by kernel_rfl)
    have hh : At m g cp ws R C w0 (n, some (f1', f2'), c) (w.drewN nq).drew := (H.out.drewN _).drew
    change wpList _ _ _ _ _ (w.drewN nq).drew
    go_wp2_with (first
      | (go_at_call 78; (go_loud (refine (sName_ok S hS hh).mono ?_)); rintro e w1 ⟨rfl, h9⟩))
    go_end0
    have hF : fOther S ws (n, some (f1', f2'), c) = sName S ws (n, some (f1', f2'), c) := by simp only [fOther, dash, Bool.false_eq_true, if_false]
    rw [hF]
    exact ⟨rfl, h9⟩
end Go.Proofs.YtnidnmhcjngmeaaGreat.Scr
