/-
  What elf.Read comes to.
  Conditions: none.
-/
import Derived.Test.YtmphkmoakamepaaPureMb
set_option linter.unusedVariables false
set_option linter.unusedSimpArgs false
set_option autoImplicit false
set_option maxRecDepth 100000
namespace Go.Va
def restE (k : Nat) (x : (Int × Int × Int × (List (ByteArray × Int × Unit)) × Int × (List Int) × (List (Int × Int × (Bool × Bool × Bool × Unit) × (List Int) × Unit)))) (r26 r27 : Int) : Option ((T77 × (Int × (List (ByteArray × Int × Unit)) × Int × (List (Int × Int × (Bool × Bool × Bool × Unit) × (List Int) × Unit)))) ⊕ (Int × (List (ByteArray × Int × Unit)) × Int × (List (Int × Int × (Bool × Bool × Bool × Unit) × (List Int) × Unit)))) := ((elf_Read.q1.l k k (x.1, x.2.1, (IntKind.wrap .u64 r27), (IntKind.wrap .u64 r26), 0, x.2.2.1, x.2.2.2.1, x.2.2.2.2.1, x.2.2.2.2.2.1, x.2.2.2.2.2.2)).bind fun r38 => (Sum.elim (fun r39 => (some (Sum.inl ((⟨r39.1.f0_e⟩ : T77), (r39.2.1, r39.2.2.1, r39.2.2.2.1, r39.2.2.2.2))))) (fun r40 => (bif (decide (((r40.2.2.2.2.2.2.length : Nat) : Int) ≥ 1)) then ((elf_must.f (decide (((r40.2.2.2.2.2.2.length : Nat) : Int) ≤ 16)) 235).bind fun r41 => (Sum.elim (fun r43 => (some (Sum.inl ((⟨r43.f0_e⟩ : T77), (r40.2.2.1, r40.2.2.2.1, r40.2.2.2.2.1, r40.2.2.2.2.2.2))))) (fun r42 => ((elf_rising.f k r40.2.2.2.2.2.2).bind fun r44 => ((elf_must.f r44 236).bind fun r45 => (Sum.elim (fun r47 => (some (Sum.inl ((⟨r47.f0_e⟩ : T77), (r40.2.2.1, r40.2.2.2.1, r40.2.2.2.2.1, r40.2.2.2.2.2.2))))) (fun r46 => ((elf_reader_word.f k (⟨r40.2.2.2.2.2.1⟩ : T62) 24).bind fun r48 => ((elf_starts.f k r40.2.2.2.2.2.2 r48).bind fun r49 => ((elf_must.f r49 237).bind fun r50 => (Sum.elim (fun r52 => (some (Sum.inl ((⟨r52.f0_e⟩ : T77), (r48, r40.2.2.2.1, r40.2.2.2.2.1, r40.2.2.2.2.2.2))))) (fun r51 => (bif (r40.1 != 0) then ((elf_reader_symbols.f k (⟨r40.2.2.2.2.2.1⟩ : T62) r40.1 r40.2.1).bind fun r53 => (Sum.elim (fun r55 => (some (Sum.inl ((⟨r55.f0_e⟩ : T77), (r48, r40.2.2.2.1, r40.2.2.2.2.1, r40.2.2.2.2.2.2))))) (fun r54 => (some (Sum.inr (r48, r54, 0, r40.2.2.2.2.2.2)))) r53)) else (some (Sum.inr (r48, r40.2.2.2.1, 0, r40.2.2.2.2.2.2))))) r50))))) r45)))) r41)) else ((elf_must.f false 235).bind fun r56 => (Sum.elim (fun r58 => (some (Sum.inl ((⟨r58.f0_e⟩ : T77), (r40.2.2.1, r40.2.2.2.1, r40.2.2.2.2.1, r40.2.2.2.2.2.2))))) (fun r57 => ((elf_rising.f k r40.2.2.2.2.2.2).bind fun r59 => ((elf_must.f r59 236).bind fun r60 => (Sum.elim (fun r62 => (some (Sum.inl ((⟨r62.f0_e⟩ : T77), (r40.2.2.1, r40.2.2.2.1, r40.2.2.2.2.1, r40.2.2.2.2.2.2))))) (fun r61 => ((elf_reader_word.f k (⟨r40.2.2.2.2.2.1⟩ : T62) 24).bind fun r63 => ((elf_starts.f k r40.2.2.2.2.2.2 r63).bind fun r64 => ((elf_must.f r64 237).bind fun r65 => (Sum.elim (fun r67 => (some (Sum.inl ((⟨r67.f0_e⟩ : T77), (r63, r40.2.2.2.1, r40.2.2.2.2.1, r40.2.2.2.2.2.2))))) (fun r66 => (bif (r40.1 != 0) then ((elf_reader_symbols.f k (⟨r40.2.2.2.2.2.1⟩ : T62) r40.1 r40.2.1).bind fun r68 => (Sum.elim (fun r70 => (some (Sum.inl ((⟨r70.f0_e⟩ : T77), (r63, r40.2.2.2.1, r40.2.2.2.2.1, r40.2.2.2.2.2.2))))) (fun r69 => (some (Sum.inr (r63, r69, 0, r40.2.2.2.2.2.2)))) r68)) else (some (Sum.inr (r63, r40.2.2.2.1, 0, r40.2.2.2.2.2.2))))) r65))))) r60)))) r56)))) r38))
def tailE (k : Nat) (x0 : List Int) (r19 r20 : Int) : Option (T25 × Int) := ((elf_Read.q0.l k ((IntKind.wrap .u64 r19), (IntKind.wrap .u64 r20), 0, ([] : List (ByteArray × Int × Unit)), 0, x0, ([] : List (Int × Int × (Bool × Bool × Bool × Unit) × (List Int) × Unit)))).bind fun r257 => (Sum.elim (fun r258 => (some (T25.z, r258.1.f0_e))) (fun r259 => (some ((⟨r259.1, r259.2.2.2, r259.2.1⟩ : T25), r259.2.2.1))) r257))
theorem q0_short (k : Nat) (x : (Int × Int × Int × (List (ByteArray × Int × Unit)) × Int × (List Int) × (List (Int × Int × (Bool × Bool × Bool × Unit) × (List Int) × Unit)))) : elf_Read.q0.l k x = ((elf_reader_half.f k (⟨x.2.2.2.2.2.1⟩ : T62) 44).bind fun r26 => ((elf_reader_half.f k (⟨x.2.2.2.2.2.1⟩ : T62) 48).bind fun r27 => (bif ((IntKind.wrap .u64 r26) == 0) then ((elf_must.f true 230).bind fun r28 => (Sum.elim (fun r30 => (some (Sum.inl ((⟨r30.f0_e⟩ : T77), (x.2.2.1, x.2.2.2.1, x.2.2.2.2.1, x.2.2.2.2.2.2))))) (fun r29 => (bif (x.2.1 == 0) then ((elf_must.f true 230).bind fun r31 => (Sum.elim (fun r33 => (some (Sum.inl ((⟨r33.f0_e⟩ : T77), (x.2.2.1, x.2.2.2.1, x.2.2.2.2.1, x.2.2.2.2.2.2))))) (fun r32 => (restE k x r26 r27)) r31)) else (bif ((IntKind.wrap .u64 r27) == 0) then ((elf_must.f true 230).bind fun r71 => (Sum.elim (fun r73 => (some (Sum.inl ((⟨r73.f0_e⟩ : T77), (x.2.2.1, x.2.2.2.1, x.2.2.2.2.1, x.2.2.2.2.2.2))))) (fun r72 => (restE k x r26 r27)) r71)) else ((elf_reader_holds.f (⟨x.2.2.2.2.2.1⟩ : T62) x.2.1 (IntKind.wrap .u64 ((IntKind.wrap .u64 r27) * 40))).bind fun r107 => ((elf_must.f r107 230).bind fun r108 => (Sum.elim (fun r110 => (some (Sum.inl ((⟨r110.f0_e⟩ : T77), (x.2.2.1, x.2.2.2.1, x.2.2.2.2.1, x.2.2.2.2.2.2))))) (fun r109 => (restE k x r26 r27)) r108)))))) r28)) else ((elf_reader_holds.f (⟨x.2.2.2.2.2.1⟩ : T62) x.1 (IntKind.wrap .u64 ((IntKind.wrap .u64 r26) * 32))).bind fun r144 => ((elf_must.f r144 230).bind fun r145 => (Sum.elim (fun r147 => (some (Sum.inl ((⟨r147.f0_e⟩ : T77), (x.2.2.1, x.2.2.2.1, x.2.2.2.2.1, x.2.2.2.2.2.2))))) (fun r146 => (bif (x.2.1 == 0) then ((elf_must.f true 230).bind fun r148 => (Sum.elim (fun r150 => (some (Sum.inl ((⟨r150.f0_e⟩ : T77), (x.2.2.1, x.2.2.2.1, x.2.2.2.2.1, x.2.2.2.2.2.2))))) (fun r149 => (restE k x r26 r27)) r148)) else (bif ((IntKind.wrap .u64 r27) == 0) then ((elf_must.f true 230).bind fun r184 => (Sum.elim (fun r186 => (some (Sum.inl ((⟨r186.f0_e⟩ : T77), (x.2.2.1, x.2.2.2.1, x.2.2.2.2.1, x.2.2.2.2.2.2))))) (fun r185 => (restE k x r26 r27)) r184)) else ((elf_reader_holds.f (⟨x.2.2.2.2.2.1⟩ : T62) x.2.1 (IntKind.wrap .u64 ((IntKind.wrap .u64 r27) * 40))).bind fun r220 => ((elf_must.f r220 230).bind fun r221 => (Sum.elim (fun r223 => (some (Sum.inl ((⟨r223.f0_e⟩ : T77), (x.2.2.1, x.2.2.2.1, x.2.2.2.2.1, x.2.2.2.2.2.2))))) (fun r222 => (restE k x r26 r27)) r221)))))) r145)))))) := rfl
theorem f_short (k : Nat) (x0 : List Int) : elf_Read.f k x0 = ((elf_must.f (decide (((x0.length : Nat) : Int) ≥ 52)) 230).bind fun r1 => (Sum.elim (fun r3 => (some (T25.z, r3.f0_e))) (fun r2 => ((elf_must.f (decide (((x0.length : Nat) : Int) ≤ 33554432)) 239).bind fun r4 => (Sum.elim (fun r6 => (some (T25.z, r6.f0_e))) (fun r5 => (bif (decide (0 ≤ 4) && decide (4 ≤ ((x0.length : Nat) : Int))) then (bif ((x0.drop 0).take (4 - 0)).all (fun b => decide (0 ≤ b) && decide (b < 256)) then ((elf_must.f ((bytesO ((x0.drop 0).take (4 - 0))).toList == (⟨#[127, 69, 76, 70]⟩ : ByteArray).toList) 231).bind fun r7 => (Sum.elim (fun r9 => (some (T25.z, r9.f0_e))) (fun r8 => (bif (decide (0 ≤ 4) && decide (4 < ((x0.length : Nat) : Int))) then (bif ((x0.getD 4 0) == 1) then (bif (decide (0 ≤ 5) && decide (5 < ((x0.length : Nat) : Int))) then (bif ((x0.getD 5 0) == 1) then (bif (decide (0 ≤ 6) && decide (6 < ((x0.length : Nat) : Int))) then ((elf_must.f ((x0.getD 6 0) == 1) 232).bind fun r10 => (Sum.elim (fun r12 => (some (T25.z, r12.f0_e))) (fun r11 => ((elf_reader_half.f k (⟨x0⟩ : T62) 16).bind fun r13 => (bif (r13 == 2) then ((elf_reader_half.f k (⟨x0⟩ : T62) 18).bind fun r14 => (bif (r14 == 40) then ((elf_reader_word.f k (⟨x0⟩ : T62) 20).bind fun r15 => ((elf_must.f (r15 == 1) 233).bind fun r16 => (Sum.elim (fun r18 => (some (T25.z, r18.f0_e))) (fun r17 => ((elf_reader_word.f k (⟨x0⟩ : T62) 28).bind fun r19 => ((elf_reader_word.f k (⟨x0⟩ : T62) 32).bind fun r20 => ((elf_reader_half.f k (⟨x0⟩ : T62) 40).bind fun r21 => (bif (r21 == 52) then ((elf_reader_half.f k (⟨x0⟩ : T62) 42).bind fun r22 => (bif (r22 == 32) then (bif ((IntKind.wrap .u64 r20) == 0) then ((elf_must.f true 234).bind fun r23 => (Sum.elim (fun r25 => (some (T25.z, r25.f0_e))) (fun r24 => (tailE k x0 r19 r20)) r23)) else ((elf_reader_half.f k (⟨x0⟩ : T62) 46).bind fun r260 => ((elf_must.f (r260 == 40) 234).bind fun r261 => (Sum.elim (fun r263 => (some (T25.z, r263.f0_e))) (fun r262 => (tailE k x0 r19 r20)) r261)))) else ((elf_must.f false 234).bind fun r267 => (Sum.elim (fun r269 => (some (T25.z, r269.f0_e))) (fun r268 => (tailE k x0 r19 r20)) r267)))) else ((elf_must.f false 234).bind fun r273 => (Sum.elim (fun r275 => (some (T25.z, r275.f0_e))) (fun r274 => (tailE k x0 r19 r20)) r273))))))) r16))) else ((elf_must.f false 233).bind fun r279 => (Sum.elim (fun r281 => (some (T25.z, r281.f0_e))) (fun r280 => ((elf_reader_word.f k (⟨x0⟩ : T62) 28).bind fun r282 => ((elf_reader_word.f k (⟨x0⟩ : T62) 32).bind fun r283 => ((elf_reader_half.f k (⟨x0⟩ : T62) 40).bind fun r284 => (bif (r284 == 52) then ((elf_reader_half.f k (⟨x0⟩ : T62) 42).bind fun r285 => (bif (r285 == 32) then (bif ((IntKind.wrap .u64 r283) == 0) then ((elf_must.f true 234).bind fun r286 => (Sum.elim (fun r288 => (some (T25.z, r288.f0_e))) (fun r287 => (tailE k x0 r282 r283)) r286)) else ((elf_reader_half.f k (⟨x0⟩ : T62) 46).bind fun r292 => ((elf_must.f (r292 == 40) 234).bind fun r293 => (Sum.elim (fun r295 => (some (T25.z, r295.f0_e))) (fun r294 => (tailE k x0 r282 r283)) r293)))) else ((elf_must.f false 234).bind fun r299 => (Sum.elim (fun r301 => (some (T25.z, r301.f0_e))) (fun r300 => (tailE k x0 r282 r283)) r299)))) else ((elf_must.f false 234).bind fun r305 => (Sum.elim (fun r307 => (some (T25.z, r307.f0_e))) (fun r306 => (tailE k x0 r282 r283)) r305))))))) r279)))) else ((elf_must.f false 233).bind fun r311 => (Sum.elim (fun r313 => (some (T25.z, r313.f0_e))) (fun r312 => ((elf_reader_word.f k (⟨x0⟩ : T62) 28).bind fun r314 => ((elf_reader_word.f k (⟨x0⟩ : T62) 32).bind fun r315 => ((elf_reader_half.f k (⟨x0⟩ : T62) 40).bind fun r316 => (bif (r316 == 52) then ((elf_reader_half.f k (⟨x0⟩ : T62) 42).bind fun r317 => (bif (r317 == 32) then (bif ((IntKind.wrap .u64 r315) == 0) then ((elf_must.f true 234).bind fun r318 => (Sum.elim (fun r320 => (some (T25.z, r320.f0_e))) (fun r319 => (tailE k x0 r314 r315)) r318)) else ((elf_reader_half.f k (⟨x0⟩ : T62) 46).bind fun r324 => ((elf_must.f (r324 == 40) 234).bind fun r325 => (Sum.elim (fun r327 => (some (T25.z, r327.f0_e))) (fun r326 => (tailE k x0 r314 r315)) r325)))) else ((elf_must.f false 234).bind fun r331 => (Sum.elim (fun r333 => (some (T25.z, r333.f0_e))) (fun r332 => (tailE k x0 r314 r315)) r331)))) else ((elf_must.f false 234).bind fun r337 => (Sum.elim (fun r339 => (some (T25.z, r339.f0_e))) (fun r338 => (tailE k x0 r314 r315)) r337))))))) r311))))) r10)) else none) else ((elf_must.f false 232).bind fun r343 => (Sum.elim (fun r345 => (some (T25.z, r345.f0_e))) (fun r344 => ((elf_reader_half.f k (⟨x0⟩ : T62) 16).bind fun r346 => (bif (r346 == 2) then ((elf_reader_half.f k (⟨x0⟩ : T62) 18).bind fun r347 => (bif (r347 == 40) then ((elf_reader_word.f k (⟨x0⟩ : T62) 20).bind fun r348 => ((elf_must.f (r348 == 1) 233).bind fun r349 => (Sum.elim (fun r351 => (some (T25.z, r351.f0_e))) (fun r350 => ((elf_reader_word.f k (⟨x0⟩ : T62) 28).bind fun r352 => ((elf_reader_word.f k (⟨x0⟩ : T62) 32).bind fun r353 => ((elf_reader_half.f k (⟨x0⟩ : T62) 40).bind fun r354 => (bif (r354 == 52) then ((elf_reader_half.f k (⟨x0⟩ : T62) 42).bind fun r355 => (bif (r355 == 32) then (bif ((IntKind.wrap .u64 r353) == 0) then ((elf_must.f true 234).bind fun r356 => (Sum.elim (fun r358 => (some (T25.z, r358.f0_e))) (fun r357 => (tailE k x0 r352 r353)) r356)) else ((elf_reader_half.f k (⟨x0⟩ : T62) 46).bind fun r362 => ((elf_must.f (r362 == 40) 234).bind fun r363 => (Sum.elim (fun r365 => (some (T25.z, r365.f0_e))) (fun r364 => (tailE k x0 r352 r353)) r363)))) else ((elf_must.f false 234).bind fun r369 => (Sum.elim (fun r371 => (some (T25.z, r371.f0_e))) (fun r370 => (tailE k x0 r352 r353)) r369)))) else ((elf_must.f false 234).bind fun r375 => (Sum.elim (fun r377 => (some (T25.z, r377.f0_e))) (fun r376 => (tailE k x0 r352 r353)) r375))))))) r349))) else ((elf_must.f false 233).bind fun r381 => (Sum.elim (fun r383 => (some (T25.z, r383.f0_e))) (fun r382 => ((elf_reader_word.f k (⟨x0⟩ : T62) 28).bind fun r384 => ((elf_reader_word.f k (⟨x0⟩ : T62) 32).bind fun r385 => ((elf_reader_half.f k (⟨x0⟩ : T62) 40).bind fun r386 => (bif (r386 == 52) then ((elf_reader_half.f k (⟨x0⟩ : T62) 42).bind fun r387 => (bif (r387 == 32) then (bif ((IntKind.wrap .u64 r385) == 0) then ((elf_must.f true 234).bind fun r388 => (Sum.elim (fun r390 => (some (T25.z, r390.f0_e))) (fun r389 => (tailE k x0 r384 r385)) r388)) else ((elf_reader_half.f k (⟨x0⟩ : T62) 46).bind fun r394 => ((elf_must.f (r394 == 40) 234).bind fun r395 => (Sum.elim (fun r397 => (some (T25.z, r397.f0_e))) (fun r396 => (tailE k x0 r384 r385)) r395)))) else ((elf_must.f false 234).bind fun r401 => (Sum.elim (fun r403 => (some (T25.z, r403.f0_e))) (fun r402 => (tailE k x0 r384 r385)) r401)))) else ((elf_must.f false 234).bind fun r407 => (Sum.elim (fun r409 => (some (T25.z, r409.f0_e))) (fun r408 => (tailE k x0 r384 r385)) r407))))))) r381)))) else ((elf_must.f false 233).bind fun r413 => (Sum.elim (fun r415 => (some (T25.z, r415.f0_e))) (fun r414 => ((elf_reader_word.f k (⟨x0⟩ : T62) 28).bind fun r416 => ((elf_reader_word.f k (⟨x0⟩ : T62) 32).bind fun r417 => ((elf_reader_half.f k (⟨x0⟩ : T62) 40).bind fun r418 => (bif (r418 == 52) then ((elf_reader_half.f k (⟨x0⟩ : T62) 42).bind fun r419 => (bif (r419 == 32) then (bif ((IntKind.wrap .u64 r417) == 0) then ((elf_must.f true 234).bind fun r420 => (Sum.elim (fun r422 => (some (T25.z, r422.f0_e))) (fun r421 => (tailE k x0 r416 r417)) r420)) else ((elf_reader_half.f k (⟨x0⟩ : T62) 46).bind fun r426 => ((elf_must.f (r426 == 40) 234).bind fun r427 => (Sum.elim (fun r429 => (some (T25.z, r429.f0_e))) (fun r428 => (tailE k x0 r416 r417)) r427)))) else ((elf_must.f false 234).bind fun r433 => (Sum.elim (fun r435 => (some (T25.z, r435.f0_e))) (fun r434 => (tailE k x0 r416 r417)) r433)))) else ((elf_must.f false 234).bind fun r439 => (Sum.elim (fun r441 => (some (T25.z, r441.f0_e))) (fun r440 => (tailE k x0 r416 r417)) r439))))))) r413))))) r343))) else none) else ((elf_must.f false 232).bind fun r445 => (Sum.elim (fun r447 => (some (T25.z, r447.f0_e))) (fun r446 => ((elf_reader_half.f k (⟨x0⟩ : T62) 16).bind fun r448 => (bif (r448 == 2) then ((elf_reader_half.f k (⟨x0⟩ : T62) 18).bind fun r449 => (bif (r449 == 40) then ((elf_reader_word.f k (⟨x0⟩ : T62) 20).bind fun r450 => ((elf_must.f (r450 == 1) 233).bind fun r451 => (Sum.elim (fun r453 => (some (T25.z, r453.f0_e))) (fun r452 => ((elf_reader_word.f k (⟨x0⟩ : T62) 28).bind fun r454 => ((elf_reader_word.f k (⟨x0⟩ : T62) 32).bind fun r455 => ((elf_reader_half.f k (⟨x0⟩ : T62) 40).bind fun r456 => (bif (r456 == 52) then ((elf_reader_half.f k (⟨x0⟩ : T62) 42).bind fun r457 => (bif (r457 == 32) then (bif ((IntKind.wrap .u64 r455) == 0) then ((elf_must.f true 234).bind fun r458 => (Sum.elim (fun r460 => (some (T25.z, r460.f0_e))) (fun r459 => (tailE k x0 r454 r455)) r458)) else ((elf_reader_half.f k (⟨x0⟩ : T62) 46).bind fun r464 => ((elf_must.f (r464 == 40) 234).bind fun r465 => (Sum.elim (fun r467 => (some (T25.z, r467.f0_e))) (fun r466 => (tailE k x0 r454 r455)) r465)))) else ((elf_must.f false 234).bind fun r471 => (Sum.elim (fun r473 => (some (T25.z, r473.f0_e))) (fun r472 => (tailE k x0 r454 r455)) r471)))) else ((elf_must.f false 234).bind fun r477 => (Sum.elim (fun r479 => (some (T25.z, r479.f0_e))) (fun r478 => (tailE k x0 r454 r455)) r477))))))) r451))) else ((elf_must.f false 233).bind fun r483 => (Sum.elim (fun r485 => (some (T25.z, r485.f0_e))) (fun r484 => ((elf_reader_word.f k (⟨x0⟩ : T62) 28).bind fun r486 => ((elf_reader_word.f k (⟨x0⟩ : T62) 32).bind fun r487 => ((elf_reader_half.f k (⟨x0⟩ : T62) 40).bind fun r488 => (bif (r488 == 52) then ((elf_reader_half.f k (⟨x0⟩ : T62) 42).bind fun r489 => (bif (r489 == 32) then (bif ((IntKind.wrap .u64 r487) == 0) then ((elf_must.f true 234).bind fun r490 => (Sum.elim (fun r492 => (some (T25.z, r492.f0_e))) (fun r491 => (tailE k x0 r486 r487)) r490)) else ((elf_reader_half.f k (⟨x0⟩ : T62) 46).bind fun r496 => ((elf_must.f (r496 == 40) 234).bind fun r497 => (Sum.elim (fun r499 => (some (T25.z, r499.f0_e))) (fun r498 => (tailE k x0 r486 r487)) r497)))) else ((elf_must.f false 234).bind fun r503 => (Sum.elim (fun r505 => (some (T25.z, r505.f0_e))) (fun r504 => (tailE k x0 r486 r487)) r503)))) else ((elf_must.f false 234).bind fun r509 => (Sum.elim (fun r511 => (some (T25.z, r511.f0_e))) (fun r510 => (tailE k x0 r486 r487)) r509))))))) r483)))) else ((elf_must.f false 233).bind fun r515 => (Sum.elim (fun r517 => (some (T25.z, r517.f0_e))) (fun r516 => ((elf_reader_word.f k (⟨x0⟩ : T62) 28).bind fun r518 => ((elf_reader_word.f k (⟨x0⟩ : T62) 32).bind fun r519 => ((elf_reader_half.f k (⟨x0⟩ : T62) 40).bind fun r520 => (bif (r520 == 52) then ((elf_reader_half.f k (⟨x0⟩ : T62) 42).bind fun r521 => (bif (r521 == 32) then (bif ((IntKind.wrap .u64 r519) == 0) then ((elf_must.f true 234).bind fun r522 => (Sum.elim (fun r524 => (some (T25.z, r524.f0_e))) (fun r523 => (tailE k x0 r518 r519)) r522)) else ((elf_reader_half.f k (⟨x0⟩ : T62) 46).bind fun r528 => ((elf_must.f (r528 == 40) 234).bind fun r529 => (Sum.elim (fun r531 => (some (T25.z, r531.f0_e))) (fun r530 => (tailE k x0 r518 r519)) r529)))) else ((elf_must.f false 234).bind fun r535 => (Sum.elim (fun r537 => (some (T25.z, r537.f0_e))) (fun r536 => (tailE k x0 r518 r519)) r535)))) else ((elf_must.f false 234).bind fun r541 => (Sum.elim (fun r543 => (some (T25.z, r543.f0_e))) (fun r542 => (tailE k x0 r518 r519)) r541))))))) r515))))) r445))) else none)) r7)) else none) else none)) r4))) r1)) := rfl
def finQ (r : (T77 × (Int × List SymT × Int × List SegT)) ⊕ (Int × List SymT × Int × List SegT)) : T25 × Int := Sum.elim (fun r => (T25.z, r.1.f0_e)) (fun r => (⟨r.1, r.2.2.2, r.2.1⟩, r.2.2.1)) r
section
variable (k : Nat) (hk : reachBytes < k) (b : List Int) (hb : ByB b) (hl : b.length ≤ 140737488351232) (hlen : 52 ≤ b.length)
include hk hb hl hlen
theorem rest_eq (hP : okP b = true) (hS : okS b = true) : ∃ r, restE k (word b 28, word b 32, 0, [], 0, b, []) (half b 44) (half b 48) = some r ∧ finQ r = restF b := by
  have hr := reach_v
  have r44 := half_range hb 44; have r48 := half_range hb 48; have r28 := word_range hb 28; have r32 := word_range hb 32; have r24 := word_range hb 24
  have w44 : IntKind.wrap .u64 (half b 44) = (((half b 44).toNat : Nat) : Int) := by rw [wrap_u64e _ (by omega) (by omega)]; omega
  have w48 : IntKind.wrap .u64 (half b 48) = half b 48 := wrap_u64e _ (by omega) (by omega)
  have hP' : (half b 44).toNat = 0 ∨ word b 28 + 32 * ((half b 44).toNat : Int) ≤ (b.length : Int) := by
    unfold okP at hP
    simp only [Bool.or_eq_true, beq_iff_eq, decide_eq_true_eq] at hP
    omega
  have e24 := word_e k (by omega) b hb hl 24 (by omega) (by omega)
  unfold restE restF
  simp only [w44, w48, eloop_eq k hk b hb hl (word b 28) (word b 32) (half b 48) (half b 44).toNat r28.1 r28.2 (by omega) hP']
  rcases sgL_map (fun S => (.inl (⟨235⟩, 0, [], 0, S) : (T77 × (Int × List SymT × Int × List SegT)) ⊕ (Int × Int × Int × List SymT × Int × List Int × List SegT))) (fun S => .inr (word b 32, half b 48, 0, [], 0, b, S)) b (word b 28) (List.range (half b 44).toNat) [] with ⟨S, h1, h2⟩ | ⟨h1, S, h2⟩
  · rw [h1, h2]
    have hgood := segsR_good hb hl _ _ _ _ h1 (fun s hs => by cases hs)
    simp only [Option.bind_some, Sum.elim_inr, must_bind, cond_false]
    have d1 : decide (((S.length : Nat) : Int) ≥ 1) = decide (1 ≤ S.length) := decide_eq_decide.2 (by omega)
    have d2 : decide (((S.length : Nat) : Int) ≤ 16) = decide (S.length ≤ 16) := decide_eq_decide.2 (by omega)
    rw [d1, d2]
    cases c1 : decide (1 ≤ S.length) with
    | false => exact ⟨_, rfl, rfl⟩
    | true =>
      simp only [cond_true, Bool.true_and]
      cases c2 : decide (S.length ≤ 16) with
      | false => exact ⟨_, rfl, rfl⟩
      | true =>
        have c2 := of_decide_eq_true c2
        have hok : ∀ c ∈ S, SegOk c := fun c hc => (hgood c hc).ok
        rw [(rise_eq k S hok (by omega) (by omega)).1]
        simp only [cond_true, Option.bind_some]
        cases riseB S with
        | false => exact ⟨_, rfl, rfl⟩
        | true =>
          simp only [cond_true, e24, Option.bind_some]
          rw [(start_eq k S hok (by omega) (by omega) (word b 24) r24).1]
          simp only [Option.bind_some]
          cases startB S (word b 24) with
          | false => exact ⟨_, rfl, rfl⟩
          | true =>
            simp only [cond_true]
            unfold symsO
            by_cases hz : word b 32 = 0
            · rw [if_pos hz, hz]
              exact ⟨_, rfl, rfl⟩
            · have hS' := (okS_sym hb hS).resolve_left hz
              have es := esyms_eq k hk b hb hl (word b 32) r32.1 r32.2 (half b 48).toNat (by omega) (by omega)
              rw [show (((half b 48).toNat : Nat) : Int) = half b 48 by omega] at es
              have hne : (word b 32 != 0) = true := by rw [bne_iff_ne]; exact hz
              rw [if_neg hz, hne, cond_true, es]
              cases symF b (word b 32) (half b 48).toNat with
              | none => exact ⟨_, rfl, rfl⟩
              | some Y => exact ⟨_, rfl, rfl⟩
  · rw [h1, h2]
    exact ⟨_, rfl, rfl⟩
theorem q0_eq : ∃ r, elf_Read.q0.l k (word b 28, word b 32, 0, [], 0, b, []) = some r ∧ finQ r = bodyF b := by
  have hr := reach_v
  have r44 := half_range hb 44; have r48 := half_range hb 48; have r28 := word_range hb 28; have r32 := word_range hb 32
  have e44 := half_e k (by omega) b hb hl 44 (by omega) (by omega)
  have e48 := half_e k (by omega) b hb hl 48 (by omega) (by omega)
  have w44 : IntKind.wrap .u64 (half b 44) = half b 44 := wrap_u64e _ (by omega) (by omega)
  have w48 : IntKind.wrap .u64 (half b 48) = half b 48 := wrap_u64e _ (by omega) (by omega)
  have w1 : IntKind.wrap .u64 (half b 48 * 40) = 40 * half b 48 := by rw [wrap_u64e _ (by omega) (by omega)]; omega
  have w2 : IntKind.wrap .u64 (half b 44 * 32) = 32 * half b 44 := by rw [wrap_u64e _ (by omega) (by omega)]; omega
  have rest := rest_eq k hk b hb hl hlen
  rw [q0_short]
  simp only [e44, e48, Option.bind_some, must_bind, cond_true, w44, w48, w1, w2, holds_e b (word b 32) (40 * half b 48) (by omega) (by omega) (by omega) hl, holds_e b (word b 28) (32 * half b 44) (by omega) (by omega) (by omega) hl]
  unfold bodyF
  unfold okP okS at rest ⊢
  generalize restE k (word b 28, word b 32, 0, [], 0, b, []) (half b 44) (half b 48) = X at *
  cases c1 : (half b 44 == 0) with
  | true =>
    cases c2 : (word b 32 == 0) with
    | true => rw [c1, c2] at rest; exact rest rfl rfl
    | false =>
      cases c3 : (half b 48 == 0) with
      | true => rw [c1, c2, c3] at rest; exact rest rfl rfl
      | false =>
        cases c4 : decide (word b 32 + 40 * half b 48 ≤ (b.length : Int)) with
        | true => rw [c1, c2, c3, c4] at rest; exact rest rfl rfl
        | false => exact ⟨_, rfl, rfl⟩
  | false =>
    cases c0 : decide (word b 28 + 32 * half b 44 ≤ (b.length : Int)) with
    | false => exact ⟨_, rfl, rfl⟩
    | true =>
      cases c2 : (word b 32 == 0) with
      | true => rw [c1, c0, c2] at rest; exact rest rfl rfl
      | false =>
        cases c3 : (half b 48 == 0) with
        | true => rw [c1, c0, c2, c3] at rest; exact rest rfl rfl
        | false =>
          cases c4 : decide (word b 32 + 40 * half b 48 ≤ (b.length : Int)) with
          | true => rw [c1, c0, c2, c3, c4] at rest; exact rest rfl rfl
          | false => exact ⟨_, rfl, rfl⟩
theorem tail_eq_ : tailE k b (word b 28) (word b 32) = some (bodyF b) := by
  have r28 := word_range hb 28; have r32 := word_range hb 32
  unfold tailE
  rw [wrap_u64e (word b 28) (by omega) (by omega), wrap_u64e (word b 32) (by omega) (by omega)]
  obtain ⟨r, h1, h2⟩ := q0_eq k hk b hb hl hlen
  rw [h1, ← h2]
  cases r <;> rfl
end
theorem eread_eq (k : Nat) (hk : reachBytes < k) (b : List Int) (hb : ByB b) (hl : b.length ≤ 140737488351232) : elf_Read.f k b = some (readF b) := by
  have hr := reach_v
  rw [f_short]
  unfold readF
  have d1 : decide (((b.length : Nat) : Int) ≥ 52) = decide (52 ≤ b.length) := decide_eq_decide.2 (by omega)
  have d2 : decide (((b.length : Nat) : Int) ≤ 33554432) = decide (b.length ≤ 33554432) := decide_eq_decide.2 (by omega)
  simp only [must_bind, d1, d2]
  cases c1 : decide (52 ≤ b.length) with
  | false => rfl
  | true =>
    have hlen := of_decide_eq_true c1
    simp only [cond_true]
    cases c2 : decide (b.length ≤ 33554432) with
    | false => rfl
    | true =>
      have t := tail_eq_ k hk b hb hl hlen
      have e16 := half_e k (by omega) b hb hl 16 (by omega) (by omega)
      have e18 := half_e k (by omega) b hb hl 18 (by omega) (by omega)
      have e20 := word_e k (by omega) b hb hl 20 (by omega) (by omega)
      have e28 := word_e k (by omega) b hb hl 28 (by omega) (by omega)
      have e32 := word_e k (by omega) b hb hl 32 (by omega) (by omega)
      have e40 := half_e k (by omega) b hb hl 40 (by omega) (by omega)
      have e42 := half_e k (by omega) b hb hl 42 (by omega) (by omega)
      have e46 := half_e k (by omega) b hb hl 46 (by omega) (by omega)
      have r32 := word_range hb 32
      have w32 : IntKind.wrap .u64 (word b 32) = word b 32 := wrap_u64e _ (by omega) (by omega)
      have a4 : decide (4 ≤ ((b.length : Nat) : Int)) = true := decide_eq_true (by omega)
      have a5 : decide (4 < ((b.length : Nat) : Int)) = true := decide_eq_true (by omega)
      have a6 : decide (5 < ((b.length : Nat) : Int)) = true := decide_eq_true (by omega)
      have a7 : decide (6 < ((b.length : Nat) : Int)) = true := decide_eq_true (by omega)
      have z4 : decide ((0 : Int) ≤ 4) = true := rfl
      have z5 : decide ((0 : Int) ≤ 5) = true := rfl
      have z6 : decide ((0 : Int) ≤ 6) = true := rfl
      simp only [cond_true, cond_false, z4, z5, z6, a4, a5, a6, a7, Bool.and_self, byB_all ((hb.drop 0).take (4 - 0)), e16, e18, e20, e28, e32, e40, e42, e46, Option.bind_some, w32, t]
      unfold headF_ h3F h4F h5F h6F
      cases ((bytesO ((b.drop 0).take (4 - 0))).toList == (⟨#[127, 69, 76, 70]⟩ : ByteArray).toList) with
      | false => rfl
      | true =>
        cases (b.getD 4 0 == 1) with
        | false => rfl
        | true =>
          cases (b.getD 5 0 == 1) with
          | false => rfl
          | true =>
            cases (b.getD 6 0 == 1) with
            | false => rfl
            | true =>
              cases (half b 16 == 2) with
              | false => rfl
              | true =>
                cases (half b 18 == 40) with
                | false => rfl
                | true =>
                  cases (word b 20 == 1) with
                  | false => rfl
                  | true =>
                    cases (half b 40 == 52) with
                    | false => rfl
                    | true =>
                      cases (half b 42 == 32) with
                      | false => rfl
                      | true =>
                        cases (word b 32 == 0) with
                        | true => rfl
                        | false => cases (half b 46 == 40) <;> rfl
end Go.Va
