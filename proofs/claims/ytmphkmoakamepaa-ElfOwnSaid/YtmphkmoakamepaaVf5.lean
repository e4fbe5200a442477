-- Written by a program of this session (wip/va/vaprint.py). Not trusted: Lean checks it.
import Derived.Test.YtmphkmoakamepaaVaTy
import Derived.Test.YtmphkmoakamepaaVf3
import Derived.Test.YtmphkmoakamepaaVf4
set_option linter.unusedVariables false
set_option linter.unusedSimpArgs false
set_option autoImplicit false
set_option maxRecDepth 100000
namespace Go.Va
open Go.Proofs
/-! ### (atlas/elf.reader).symbols: function 48 -/
def elf_reader_symbols.q1.h : Head (Int × Int × Int × Int × (List Int)) where
  k γ s F := (sizedN 114 s).bind fun _ => (intO .u64 (gt s.tm 1)).bind fun v2 => (ptrN 0 (gt s.tm 3)).bind fun b4 => (intO .u64 (gt s.tm 9)).bind fun v6 => (intO .u64 (gt s.tm 10)).bind fun v8 => (intO .u64 (gt s.tm 11)).bind fun v10 => (rowN 80 1 s.hp b4).bind fun l12 => (vtO (.int .u8) (gt l12 0)).bind fun v14 => (distO [some b4]).bind fun _ => F (v2, v6, v8, v10, v14)
  st x := ⟨sparseT [(1, (.val (.int .u64 x.1))), (3, (.ptr 0 0)), (9, (.val (.int .u64 x.2.1))), (10, (.val (.int .u64 x.2.2.1))), (11, (.val (.int .u64 x.2.2.2.1)))] 114 0, [.row [(.vt (.int .u8) x.2.2.2.2)] 80 true]⟩
  ok γ s F r h := by
    have ⟨_, hz, h⟩ := bs h
    have ⟨v2, h1, h⟩ := bs h
    have ⟨b4, h3, h⟩ := bs h
    have ⟨v6, h5, h⟩ := bs h
    have ⟨v8, h7, h⟩ := bs h
    have ⟨v10, h9, h⟩ := bs h
    have ⟨l12, h11, h⟩ := bs h
    have ⟨v14, h13, h⟩ := bs h
    have ⟨_, h15, h⟩ := bs h
    exact ⟨_, h, weak_ren (l := [some b4]) (sizedN_ok hz) (distO_ok h15) (LiveR.cons (pI h1) (LiveR.cons (RefsR.ptr (l := [some b4]) (i := 0) rfl (ptrN_eq h3)) (LiveR.cons (pI h5) (LiveR.cons (pI h7) (LiveR.cons (pI h9) LiveR.nil))))) (BlksR.cons (rowN_refs h11 rfl (GtRefsR.cons (pV h13) GtRefsR.nil) rfl) BlksR.nil)⟩

def elf_reader_symbols.q1.x0 : Head (Unit) where
  k γ s F := (sizedN 114 s).bind fun _ => (distO []).bind fun _ => F ()
  st x := ⟨sparseT [] 114 0, []⟩
  ok γ s F r h := by
    have ⟨_, hz, h⟩ := bs h
    have ⟨_, h1, h⟩ := bs h
    exact ⟨_, h, weak_ren (l := []) (sizedN_ok hz) (distO_ok h1) LiveR.nil BlksR.nil⟩

def elf_reader_symbols.q1.x1 : Head (SyL) where
  k γ s F := (sizedN 114 s).bind fun _ => (vtO SyC (gt s.tm 6)).bind fun v2 => (distO []).bind fun _ => F (v2)
  st x := ⟨sparseT [(6, (.vt SyC x))] 114 0, []⟩
  ok γ s F r h := by
    have ⟨_, hz, h⟩ := bs h
    have ⟨v2, h1, h⟩ := bs h
    have ⟨_, h3, h⟩ := bs h
    exact ⟨_, h, weak_ren (l := []) (sizedN_ok hz) (distO_ok h3) (LiveR.cons (pV h1) LiveR.nil) BlksR.nil⟩

def elf_reader_symbols.q1.t : Tail ((T77 × (Unit)) ⊕ (SyL)) := Tail.pan (fun v => (ifaceO 78 v).bind T77.of) (fun x => .iface 78 (T77.av x)) (fun v x h => by obtain ⟨y, h1, h2⟩ := bs h; exact ifaceO_refs h1 (T77.refs h2)) elf_reader_symbols.q1.x0 (Tail.one .ret elf_reader_symbols.q1.x1)
theorem elf_reader_symbols.q1.np (y : ((T77 × (Unit)) ⊕ (SyL))) (v : AV) : (elf_reader_symbols.q1.t.out y).1 = .panic v → nomem v = true := fun h => by rcases y with _ | y <;> first | (cases h; done) | (cases h; rfl) | (cases h)
def elf_reader_symbols.q1.l (k : Nat) (x : (Int × Int × Int × Int × (List Int))) : Option ((T77 × (Unit)) ⊕ (SyL)) := ((elf_reader_word.f k (⟨x.2.2.2.2⟩ : T62) (IntKind.wrap .u64 ((IntKind.wrap .u64 (x.1 + (IntKind.wrap .u64 (x.2.2.2.1 * 40)))) + 16))).bind fun r9 => ((elf_reader_word.f k (⟨x.2.2.2.2⟩ : T62) (IntKind.wrap .u64 ((IntKind.wrap .u64 (x.1 + (IntKind.wrap .u64 (x.2.2.2.1 * 40)))) + 20))).bind fun r10 => ((elf_reader_word.f k (⟨x.2.2.2.2⟩ : T62) (IntKind.wrap .u64 ((IntKind.wrap .u64 (x.1 + (IntKind.wrap .u64 (x.2.2.2.1 * 40)))) + 4))).bind fun r11 => (bif (r11 == 3) then (bif ((IntKind.wrap .u64 r10) == 0) then ((elf_must.f true 238).bind fun r12 => (Sum.elim (fun r14 => (some (Sum.inl ((⟨r14.f0_e⟩ : T77), ())))) (fun r13 => ((elf_must.f (decide ((IntKind.wrap .u64 (Int.tdiv x.2.2.1 16)) ≤ 1025)) 238).bind fun r15 => (Sum.elim (fun r17 => (some (Sum.inl ((⟨r17.f0_e⟩ : T77), ())))) (fun r16 => (bif (decide ((IntKind.wrap .u64 r10) > 0)) then (bif (decide (0 ≤ (IntKind.wrap .u64 ((IntKind.wrap .u64 r9) + (IntKind.wrap .u64 r10)))) && decide ((IntKind.wrap .u64 ((IntKind.wrap .u64 r9) + (IntKind.wrap .u64 r10))) ≤ ((x.2.2.2.2.length : Nat) : Int))) then (bif (decide (0 ≤ (IntKind.wrap .u64 r9)) && decide ((IntKind.wrap .u64 r9) ≤ ((((IntKind.wrap .u64 ((IntKind.wrap .u64 r9) + (IntKind.wrap .u64 r10)))).toNat : Nat) : Int))) then (bif ((x.2.2.2.2.drop (((IntKind.wrap .u64 r9)).toNat)).take (((IntKind.wrap .u64 ((IntKind.wrap .u64 r9) + (IntKind.wrap .u64 r10)))).toNat - ((IntKind.wrap .u64 r9)).toNat)).all (fun b => decide (0 ≤ b) && decide (b < 256)) then ((elf_reader_named.f k (⟨x.2.2.2.2⟩ : T62) x.2.1 (IntKind.wrap .u64 (Int.tdiv x.2.2.1 16)) (bytesO ((x.2.2.2.2.drop (((IntKind.wrap .u64 r9)).toNat)).take (((IntKind.wrap .u64 ((IntKind.wrap .u64 r9) + (IntKind.wrap .u64 r10)))).toNat - ((IntKind.wrap .u64 r9)).toNat)))).bind fun r18 => (Sum.elim (fun r20 => (some (Sum.inl ((⟨r20.f0_e⟩ : T77), ())))) (fun r19 => (some (Sum.inr r19))) r18)) else none) else none) else none) else ((elf_reader_named.f k (⟨x.2.2.2.2⟩ : T62) x.2.1 (IntKind.wrap .u64 (Int.tdiv x.2.2.1 16)) (⟨#[]⟩ : ByteArray)).bind fun r21 => (Sum.elim (fun r23 => (some (Sum.inl ((⟨r23.f0_e⟩ : T77), ())))) (fun r22 => (some (Sum.inr r22))) r21)))) r15))) r12)) else ((elf_reader_holds.f (⟨x.2.2.2.2⟩ : T62) (IntKind.wrap .u64 r9) (IntKind.wrap .u64 r10)).bind fun r24 => ((elf_must.f r24 238).bind fun r25 => (Sum.elim (fun r27 => (some (Sum.inl ((⟨r27.f0_e⟩ : T77), ())))) (fun r26 => ((elf_must.f (decide ((IntKind.wrap .u64 (Int.tdiv x.2.2.1 16)) ≤ 1025)) 238).bind fun r28 => (Sum.elim (fun r30 => (some (Sum.inl ((⟨r30.f0_e⟩ : T77), ())))) (fun r29 => (bif (decide ((IntKind.wrap .u64 r10) > 0)) then (bif (decide (0 ≤ (IntKind.wrap .u64 ((IntKind.wrap .u64 r9) + (IntKind.wrap .u64 r10)))) && decide ((IntKind.wrap .u64 ((IntKind.wrap .u64 r9) + (IntKind.wrap .u64 r10))) ≤ ((x.2.2.2.2.length : Nat) : Int))) then (bif (decide (0 ≤ (IntKind.wrap .u64 r9)) && decide ((IntKind.wrap .u64 r9) ≤ ((((IntKind.wrap .u64 ((IntKind.wrap .u64 r9) + (IntKind.wrap .u64 r10)))).toNat : Nat) : Int))) then (bif ((x.2.2.2.2.drop (((IntKind.wrap .u64 r9)).toNat)).take (((IntKind.wrap .u64 ((IntKind.wrap .u64 r9) + (IntKind.wrap .u64 r10)))).toNat - ((IntKind.wrap .u64 r9)).toNat)).all (fun b => decide (0 ≤ b) && decide (b < 256)) then ((elf_reader_named.f k (⟨x.2.2.2.2⟩ : T62) x.2.1 (IntKind.wrap .u64 (Int.tdiv x.2.2.1 16)) (bytesO ((x.2.2.2.2.drop (((IntKind.wrap .u64 r9)).toNat)).take (((IntKind.wrap .u64 ((IntKind.wrap .u64 r9) + (IntKind.wrap .u64 r10)))).toNat - ((IntKind.wrap .u64 r9)).toNat)))).bind fun r31 => (Sum.elim (fun r33 => (some (Sum.inl ((⟨r33.f0_e⟩ : T77), ())))) (fun r32 => (some (Sum.inr r32))) r31)) else none) else none) else none) else ((elf_reader_named.f k (⟨x.2.2.2.2⟩ : T62) x.2.1 (IntKind.wrap .u64 (Int.tdiv x.2.2.1 16)) (⟨#[]⟩ : ByteArray)).bind fun r34 => (Sum.elim (fun r36 => (some (Sum.inl ((⟨r36.f0_e⟩ : T77), ())))) (fun r35 => (some (Sum.inr r35))) r34)))) r28))) r25)))) else ((elf_must.f false 238).bind fun r37 => (Sum.elim (fun r39 => (some (Sum.inl ((⟨r39.f0_e⟩ : T77), ())))) (fun r38 => ((elf_must.f (decide ((IntKind.wrap .u64 (Int.tdiv x.2.2.1 16)) ≤ 1025)) 238).bind fun r40 => (Sum.elim (fun r42 => (some (Sum.inl ((⟨r42.f0_e⟩ : T77), ())))) (fun r41 => (bif (decide ((IntKind.wrap .u64 r10) > 0)) then (bif (decide (0 ≤ (IntKind.wrap .u64 ((IntKind.wrap .u64 r9) + (IntKind.wrap .u64 r10)))) && decide ((IntKind.wrap .u64 ((IntKind.wrap .u64 r9) + (IntKind.wrap .u64 r10))) ≤ ((x.2.2.2.2.length : Nat) : Int))) then (bif (decide (0 ≤ (IntKind.wrap .u64 r9)) && decide ((IntKind.wrap .u64 r9) ≤ ((((IntKind.wrap .u64 ((IntKind.wrap .u64 r9) + (IntKind.wrap .u64 r10)))).toNat : Nat) : Int))) then (bif ((x.2.2.2.2.drop (((IntKind.wrap .u64 r9)).toNat)).take (((IntKind.wrap .u64 ((IntKind.wrap .u64 r9) + (IntKind.wrap .u64 r10)))).toNat - ((IntKind.wrap .u64 r9)).toNat)).all (fun b => decide (0 ≤ b) && decide (b < 256)) then ((elf_reader_named.f k (⟨x.2.2.2.2⟩ : T62) x.2.1 (IntKind.wrap .u64 (Int.tdiv x.2.2.1 16)) (bytesO ((x.2.2.2.2.drop (((IntKind.wrap .u64 r9)).toNat)).take (((IntKind.wrap .u64 ((IntKind.wrap .u64 r9) + (IntKind.wrap .u64 r10)))).toNat - ((IntKind.wrap .u64 r9)).toNat)))).bind fun r43 => (Sum.elim (fun r45 => (some (Sum.inl ((⟨r45.f0_e⟩ : T77), ())))) (fun r44 => (some (Sum.inr r44))) r43)) else none) else none) else none) else ((elf_reader_named.f k (⟨x.2.2.2.2⟩ : T62) x.2.1 (IntKind.wrap .u64 (Int.tdiv x.2.2.1 16)) (⟨#[]⟩ : ByteArray)).bind fun r46 => (Sum.elim (fun r48 => (some (Sum.inl ((⟨r48.f0_e⟩ : T77), ())))) (fun r47 => (some (Sum.inr r47))) r46)))) r40))) r37))))))
theorem elf_reader_symbols.q1.at : codeAt (bodyOf Try.f48) [true, true, true, true, true, false, false, true, true, false, false, true, false, true] = some (codeOf (bodyOf Try.f48) [true, true, true, true, true, false, false, true, true, false, false, true, false, true]) := by kernel_rfl
theorem elf_reader_symbols.q1.goes (k : Nat) (x : (Int × Int × Int × Int × (List Int))) : E Try.prog (gamOf [(45, elf_reader_word.g k), (46, elf_reader_holds.g), (43, elf_must.g), (65, elf_reader_named.g k)]) (lamOf []) (codeOf (bodyOf Try.f48) [true, true, true, true, true, false, false, true, true, false, false, true, false, true]) [true, true, true, true, true, false, false, true, true, false, false, true, false, true] (elf_reader_symbols.q1.h.st x) (fun ex t => elf_reader_symbols.q1.t.d _ ex t some) = elf_reader_symbols.q1.l k x := by
  kernel_rfl
theorem elf_reader_symbols.q1.ok_ (k : Nat) : PieceOk Try.prog (bodyOf Try.f48) ⟨[true, true, true, true, true, false, false, true, true, false, false, true, false, true], _, _, elf_reader_symbols.q1.h, elf_reader_symbols.q1.t, elf_reader_symbols.q1.l k⟩ :=
  piece_code (gamOf_cons (elf_reader_word.ok k) elf_reader_word.callable (gamOf_cons (elf_reader_holds.ok) elf_reader_holds.callable (gamOf_cons (elf_must.ok) elf_must.callable (gamOf_cons (elf_reader_named.ok k) elf_reader_named.callable (gamOf_nil _))))) (lamOf_nil _ _) mixed elf_reader_symbols.q1.at elf_reader_symbols.q1.np (elf_reader_symbols.q1.goes k)
def elf_reader_symbols.q1.p (k : Nat) : Piece := ⟨[true, true, true, true, true, false, false, true, true, false, false, true, false, true], _, _, elf_reader_symbols.q1.h, elf_reader_symbols.q1.t, elf_reader_symbols.q1.l k⟩
theorem elf_reader_symbols.q1.ok (k : Nat) : PieceOk Try.prog (bodyOf Try.f48) (elf_reader_symbols.q1.p k) := elf_reader_symbols.q1.ok_ k
def elf_reader_symbols.q0.h : Head (Int × Int × Int × Int × (List Int)) where
  k γ s F := (sizedN 114 s).bind fun _ => (intO .u64 (gt s.tm 1)).bind fun v2 => (intO .u64 (gt s.tm 2)).bind fun v4 => (ptrN 0 (gt s.tm 3)).bind fun b6 => (intO .u64 (gt s.tm 16)).bind fun v8 => (intO .u64 (gt s.tm 17)).bind fun v10 => (rowN 80 1 s.hp b6).bind fun l12 => (vtO (.int .u8) (gt l12 0)).bind fun v14 => (distO [some b6]).bind fun _ => F (v2, v4, v8, v10, v14)
  st x := ⟨sparseT [(1, (.val (.int .u64 x.1))), (2, (.val (.int .u64 x.2.1))), (3, (.ptr 0 0)), (16, (.val (.int .u64 x.2.2.1))), (17, (.val (.int .u64 x.2.2.2.1)))] 114 0, [.row [(.vt (.int .u8) x.2.2.2.2)] 80 true]⟩
  ok γ s F r h := by
    have ⟨_, hz, h⟩ := bs h
    have ⟨v2, h1, h⟩ := bs h
    have ⟨v4, h3, h⟩ := bs h
    have ⟨b6, h5, h⟩ := bs h
    have ⟨v8, h7, h⟩ := bs h
    have ⟨v10, h9, h⟩ := bs h
    have ⟨l12, h11, h⟩ := bs h
    have ⟨v14, h13, h⟩ := bs h
    have ⟨_, h15, h⟩ := bs h
    exact ⟨_, h, weak_ren (l := [some b6]) (sizedN_ok hz) (distO_ok h15) (LiveR.cons (pI h1) (LiveR.cons (pI h3) (LiveR.cons (RefsR.ptr (l := [some b6]) (i := 0) rfl (ptrN_eq h5)) (LiveR.cons (pI h7) (LiveR.cons (pI h9) LiveR.nil))))) (BlksR.cons (rowN_refs h11 rfl (GtRefsR.cons (pV h13) GtRefsR.nil) rfl) BlksR.nil)⟩

def elf_reader_symbols.q0.x0 : Head (Unit) where
  k γ s F := (sizedN 114 s).bind fun _ => (distO []).bind fun _ => F ()
  st x := ⟨sparseT [] 114 0, []⟩
  ok γ s F r h := by
    have ⟨_, hz, h⟩ := bs h
    have ⟨_, h1, h⟩ := bs h
    exact ⟨_, h, weak_ren (l := []) (sizedN_ok hz) (distO_ok h1) LiveR.nil BlksR.nil⟩

def elf_reader_symbols.q0.x1 : Head (SyL) where
  k γ s F := (sizedN 114 s).bind fun _ => (vtO SyC (gt s.tm 6)).bind fun v2 => (distO []).bind fun _ => F (v2)
  st x := ⟨sparseT [(6, (.vt SyC x))] 114 0, []⟩
  ok γ s F r h := by
    have ⟨_, hz, h⟩ := bs h
    have ⟨v2, h1, h⟩ := bs h
    have ⟨_, h3, h⟩ := bs h
    exact ⟨_, h, weak_ren (l := []) (sizedN_ok hz) (distO_ok h3) (LiveR.cons (pV h1) LiveR.nil) BlksR.nil⟩

def elf_reader_symbols.q0.x2 : Head (Unit) where
  k γ s F := (sizedN 114 s).bind fun _ => (distO []).bind fun _ => F ()
  st x := ⟨sparseT [] 114 0, []⟩
  ok γ s F r h := by
    have ⟨_, hz, h⟩ := bs h
    have ⟨_, h1, h⟩ := bs h
    exact ⟨_, h, weak_ren (l := []) (sizedN_ok hz) (distO_ok h1) LiveR.nil BlksR.nil⟩

def elf_reader_symbols.q0.t : Tail ((T77 × (Unit)) ⊕ ((SyL) ⊕ (Unit))) := Tail.pan (fun v => (ifaceO 78 v).bind T77.of) (fun x => .iface 78 (T77.av x)) (fun v x h => by obtain ⟨y, h1, h2⟩ := bs h; exact ifaceO_refs h1 (T77.refs h2)) elf_reader_symbols.q0.x0 (Tail.or .ret elf_reader_symbols.q0.x1 (Tail.one (.exit 0) elf_reader_symbols.q0.x2))
theorem elf_reader_symbols.q0.np (y : ((T77 × (Unit)) ⊕ ((SyL) ⊕ (Unit)))) (v : AV) : (elf_reader_symbols.q0.t.out y).1 = .panic v → nomem v = true := fun h => by rcases y with _ | y <;> first | (cases h; done) | (cases h; rfl) | (rcases y with _ | y <;> first | (cases h; done) | (cases h; rfl) | (cases h))
theorem elf_reader_symbols.q0.nn (y : ((T77 × (Unit)) ⊕ ((SyL) ⊕ (Unit)))) : (elf_reader_symbols.q0.t.out y).1 ≠ .normal := fun h => by rcases y with _ | y <;> first | (cases h; done) | (cases h; rfl) | (rcases y with _ | y <;> first | (cases h; done) | (cases h; rfl) | (cases h))
def elf_reader_symbols.q0.l (k : Nat) : Nat → (Int × Int × Int × Int × (List Int)) → Option ((T77 × (Unit)) ⊕ ((SyL) ⊕ (Unit)))
  | 0, _ => none
  | n + 1, x => (bif (decide (x.2.2.2.1 < x.2.2.1)) then ((elf_reader_word.f k (⟨x.2.2.2.2⟩ : T62) (IntKind.wrap .u64 ((IntKind.wrap .u64 (x.1 + (IntKind.wrap .u64 (x.2.2.2.1 * 40)))) + 4))).bind fun r1 => (bif (r1 != 2) then (elf_reader_symbols.q0.l k n (x.1, x.2.1, x.2.2.1, (IntKind.wrap .u64 (x.2.2.2.1 + 1)), x.2.2.2.2)) else ((elf_reader_word.f k (⟨x.2.2.2.2⟩ : T62) (IntKind.wrap .u64 ((IntKind.wrap .u64 (x.1 + (IntKind.wrap .u64 (x.2.2.2.1 * 40)))) + 16))).bind fun r2 => ((elf_reader_word.f k (⟨x.2.2.2.2⟩ : T62) (IntKind.wrap .u64 ((IntKind.wrap .u64 (x.1 + (IntKind.wrap .u64 (x.2.2.2.1 * 40)))) + 20))).bind fun r3 => ((elf_reader_word.f k (⟨x.2.2.2.2⟩ : T62) (IntKind.wrap .u64 ((IntKind.wrap .u64 (x.1 + (IntKind.wrap .u64 (x.2.2.2.1 * 40)))) + 24))).bind fun r4 => (bif (decide ((IntKind.wrap .u64 r3) > 0)) then (bif ((Int.tmod (IntKind.wrap .u64 r3) 16) == 0) then ((elf_reader_holds.f (⟨x.2.2.2.2⟩ : T62) (IntKind.wrap .u64 r2) (IntKind.wrap .u64 r3)).bind fun r5 => (bif r5 then ((elf_must.f (decide ((IntKind.wrap .u64 r4) < x.2.1)) 238).bind fun r6 => (Sum.elim (fun r8 => (some (Sum.inl ((⟨r8.f0_e⟩ : T77), ())))) (fun r7 => ((elf_reader_symbols.q1.l k (x.1, (IntKind.wrap .u64 r2), (IntKind.wrap .u64 r3), (IntKind.wrap .u64 r4), x.2.2.2.2)).bind fun r49 => (Sum.elim (fun r50 => (some (Sum.inl ((⟨r50.1.f0_e⟩ : T77), ())))) (fun r51 => (some (Sum.inr (Sum.inl r51)))) r49))) r6)) else ((elf_must.f false 238).bind fun r52 => (Sum.elim (fun r54 => (some (Sum.inl ((⟨r54.f0_e⟩ : T77), ())))) (fun r53 => ((elf_reader_symbols.q1.l k (x.1, (IntKind.wrap .u64 r2), (IntKind.wrap .u64 r3), (IntKind.wrap .u64 r4), x.2.2.2.2)).bind fun r55 => (Sum.elim (fun r56 => (some (Sum.inl ((⟨r56.1.f0_e⟩ : T77), ())))) (fun r57 => (some (Sum.inr (Sum.inl r57)))) r55))) r52)))) else ((elf_must.f false 238).bind fun r58 => (Sum.elim (fun r60 => (some (Sum.inl ((⟨r60.f0_e⟩ : T77), ())))) (fun r59 => ((elf_reader_symbols.q1.l k (x.1, (IntKind.wrap .u64 r2), (IntKind.wrap .u64 r3), (IntKind.wrap .u64 r4), x.2.2.2.2)).bind fun r61 => (Sum.elim (fun r62 => (some (Sum.inl ((⟨r62.1.f0_e⟩ : T77), ())))) (fun r63 => (some (Sum.inr (Sum.inl r63)))) r61))) r58))) else ((elf_must.f false 238).bind fun r64 => (Sum.elim (fun r66 => (some (Sum.inl ((⟨r66.f0_e⟩ : T77), ())))) (fun r65 => ((elf_reader_symbols.q1.l k (x.1, (IntKind.wrap .u64 r2), (IntKind.wrap .u64 r3), (IntKind.wrap .u64 r4), x.2.2.2.2)).bind fun r67 => (Sum.elim (fun r68 => (some (Sum.inl ((⟨r68.1.f0_e⟩ : T77), ())))) (fun r69 => (some (Sum.inr (Sum.inl r69)))) r67))) r64)))))))) else (some (Sum.inr (Sum.inr ()))))
theorem elf_reader_symbols.q0.z (k : Nat) (x : (Int × Int × Int × Int × (List Int))) : elf_reader_symbols.q0.l k 0 x = none := rfl
theorem elf_reader_symbols.q0.at : codeAt (bodyOf Try.f48) [false, true, false, true] = some (.loop (loopBody (bodyOf Try.f48) [false, true, false, true])) := by kernel_rfl
theorem elf_reader_symbols.q0.goes (k n : Nat) (x : (Int × Int × Int × Int × (List Int))) : E Try.prog (gamOf [(45, elf_reader_word.g k), (46, elf_reader_holds.g), (43, elf_must.g), (65, elf_reader_named.g k)]) (lamOf [elf_reader_symbols.q1.p k]) (loopBody (bodyOf Try.f48) [false, true, false, true]) (false :: [false, true, false, true]) (elf_reader_symbols.q0.h.st x) (contD elf_reader_symbols.q0.h elf_reader_symbols.q0.t (elf_reader_symbols.q0.l k n) some) = elf_reader_symbols.q0.l k (n + 1) x := by
  kernel_rfl
theorem elf_reader_symbols.q0.ok_ (k : Nat) : PieceOk Try.prog (bodyOf Try.f48) ⟨[false, true, false, true], _, _, elf_reader_symbols.q0.h, elf_reader_symbols.q0.t, elf_reader_symbols.q0.l k k⟩ :=
  piece_loop (gamOf_cons (elf_reader_word.ok k) elf_reader_word.callable (gamOf_cons (elf_reader_holds.ok) elf_reader_holds.callable (gamOf_cons (elf_must.ok) elf_must.callable (gamOf_cons (elf_reader_named.ok k) elf_reader_named.callable (gamOf_nil _))))) (lamOf_cons (elf_reader_symbols.q1.ok k) (lamOf_nil _ _)) mixed elf_reader_symbols.q0.at elf_reader_symbols.q0.np elf_reader_symbols.q0.nn (elf_reader_symbols.q0.z k) (elf_reader_symbols.q0.goes k) k
def elf_reader_symbols.q0.p (k : Nat) : Piece := ⟨[false, true, false, true], _, _, elf_reader_symbols.q0.h, elf_reader_symbols.q0.t, elf_reader_symbols.q0.l k k⟩
theorem elf_reader_symbols.q0.ok (k : Nat) : PieceOk Try.prog (bodyOf Try.f48) (elf_reader_symbols.q0.p k) := elf_reader_symbols.q0.ok_ k
def elf_reader_symbols.f (k : Nat) (x0 : T62) (x1 : Int) (x2 : Int) : Option (T77 ⊕ (SyL)) := ((elf_reader_symbols.q0.l k k (x1, x2, x2, 0, x0.f0_b)).bind fun r70 => (Sum.elim (fun r71 => (some (Sum.inl (⟨r71.1.f0_e⟩ : T77)))) (fun r72 => (Sum.elim (fun r73 => (some (Sum.inr r73))) (fun r74 => (some (Sum.inr ([] : List (ByteArray × Int × Unit))))) r72)) r70))
theorem elf_reader_symbols.run (k : Nat) (x0 : T62) (x1 : Int) (x2 : Int) : runF Try.prog (gamOf [(45, elf_reader_word.g k), (46, elf_reader_holds.g), (43, elf_must.g), (65, elf_reader_named.g k)]) (lamOf [elf_reader_symbols.q1.p k, elf_reader_symbols.q0.p k]) Try.f48 [(T62.av x0), (.val (.int .u64 x1)), (.val (.int .u64 x2))] some = (elf_reader_symbols.f k x0 x1 x2).bind fun r => Sum.elim (fun e => some (.pan (.iface 78 (T77.av e)))) (fun r => some (.ret (.vt SyC r))) r := by
  unfold elf_reader_symbols.f
  try simp only [cond_bind, elim_bind, Option.bind_some, Option.bind_none, Option.bind_assoc, Sum.elim_inl, Sum.elim_inr]
  kernel_rfl
def elf_reader_symbols.g (k : Nat) : GFun := fun β args K => match args with
  | [a0, a1, a2] => (T62.of a0).bind fun x0 => (intO .u64 a1).bind fun x1 => (intO .u64 a2).bind fun x2 => (elf_reader_symbols.f k x0 x1 x2).bind fun r => Sum.elim (fun e => K (.pan (.iface 78 (T77.av e)))) (fun r => K (.ret (.vt SyC r))) r
  | _ => none
theorem elf_reader_symbols.callable : callable Try.prog 48 = true := callable_of Try.func48 (by kernel_rfl)
theorem elf_reader_symbols.ok (k : Nat) : GOk Try.prog 48 (elf_reader_symbols.g k) := by
  intro β args K r h
  unfold elf_reader_symbols.g at h
  split at h
  · obtain ⟨x0, e0, h⟩ := bs h
    have ⟨x1, e1, h⟩ := bs h
    have ⟨x2, e2, h⟩ := bs h
    obtain ⟨y, hy, hK⟩ := bs h
    have hrun := elf_reader_symbols.run k x0 x1 x2
    rw [hy] at hrun
    cases y with
    | inl z =>
      obtain ⟨out, e, hs⟩ := sim_of_run Try.func48 (by kernel_rfl) mixed (gamOf_cons (elf_reader_word.ok k) elf_reader_word.callable (gamOf_cons (elf_reader_holds.ok) elf_reader_holds.callable (gamOf_cons (elf_must.ok) elf_must.callable (gamOf_cons (elf_reader_named.ok k) elf_reader_named.callable (gamOf_nil _))))) (lamOf_cons (elf_reader_symbols.q1.ok k) (lamOf_cons (elf_reader_symbols.q0.ok k) (lamOf_nil _ _))) (args' := [(T62.av x0), (.val (.int .u64 x1)), (.val (.int .u64 x2))]) (RefsL.cons (T62.refs e0) (RefsL.cons (Refs.of_eq (intO_eq e1)) (RefsL.cons (Refs.of_eq (intO_eq e2)) RefsL.nil))) hrun
      simp only [Option.some.injEq] at e
      subst e
      exact ⟨_, hK, hs⟩
    | inr z =>
      obtain ⟨out, e, hs⟩ := sim_of_run Try.func48 (by kernel_rfl) mixed (gamOf_cons (elf_reader_word.ok k) elf_reader_word.callable (gamOf_cons (elf_reader_holds.ok) elf_reader_holds.callable (gamOf_cons (elf_must.ok) elf_must.callable (gamOf_cons (elf_reader_named.ok k) elf_reader_named.callable (gamOf_nil _))))) (lamOf_cons (elf_reader_symbols.q1.ok k) (lamOf_cons (elf_reader_symbols.q0.ok k) (lamOf_nil _ _))) (args' := [(T62.av x0), (.val (.int .u64 x1)), (.val (.int .u64 x2))]) (RefsL.cons (T62.refs e0) (RefsL.cons (Refs.of_eq (intO_eq e1)) (RefsL.cons (Refs.of_eq (intO_eq e2)) RefsL.nil))) hrun
      simp only [Option.some.injEq] at e
      subst e
      exact ⟨_, hK, hs⟩
  · cases h
end Go.Va
