/-
  No cell of these rows narrows 'for every input' (looked for: loops, veiled, ifaces, maps, wideKeys, modest, calm, conditions, laid).
  DERIVED. THE GIVEN ROWS OF THIS SEAT. 7 by the template 'for every input the law returns true; each argument reads behind the call as it read before'; 0 by the template 'total and deterministic' (their statements: YtmphkmoakamepaaTotals.lean).
  GIVEN WITH THE SEED: the statements are not yours to turn. If you find one false, say at which input.
  Laid BY PROGRAM, IN A SANDBOX (cutbox-rows.mjs): the forced cells as the released guide's own fill.sh prints them over the translation 0a1f7669f73f6dd2… (all of the seat's roots in one cut). By AI agents, Wed Nov 11 2026. No macro, syntax, notation, axiom, sorry.
-/
import Derived.Test.YtmphkmoakamepaaChecked
import GoSem.Claim
import GoSem.ClaimJoined
import GoSem.ClaimMapViews
import Derived.JoinedTies
import Derived.KernelRfl
namespace Go.Proofs.Ytmphkmoakamepaa
/- THE CELL 'sum', in the pinned program and in every row, IS THE sha256 OF THE DUMP (.gsa) THAT YtmphkmoakamepaaProg.lean LOADS. Nothing in Lean hashes anything: it is a label: what it is worth is what the hold of that sum in a sandbox is worth. -/
noncomputable def Try.pinned : Pinned := { name := "ytmphkmoakamepaa", sum := "0a1f7669f73f6dd2aede63a605e1ac46e0bba02e32c4c79d90e5913a74157706", checked := Try.checked }
namespace Rows
def none {H : Type} : Left H := { results := [], args := [] }

/-- 'atlaslaw23.ElfFinds': WHATEVER THE INPUT: true; the input reads as it did. -/
def elfFindsSpec : ChangeSpec := { name := "elfFinds", fn := fun _ => fun
  | [d1, d2, d3] => { results := [.lit (.bool true)], args := [d1, d2, d3] }
  | _ => none }
def elfFindsRow : OpenClaim := { program := "ytmphkmoakamepaa", sum := "0a1f7669f73f6dd2aede63a605e1ac46e0bba02e32c4c79d90e5913a74157706", func := "atlas/atlaslaw23.ElfFinds", spec := "elfFinds", apart := false }
def ElfFindsSaid : Prop := elfFindsRow.holds Try.pinned (OpenSpec.ofChange elfFindsSpec)

/-- ITS FALSE NEIGHBOUR: 'it returns false'. Refute it at one input. -/
def elfFindsWrong : ChangeSpec := { name := "elfFinds", fn := fun _ => fun
  | [d1, d2, d3] => { results := [.lit (.bool false)], args := [d1, d2, d3] }
  | _ => none }
def ElfFindsWrongFalsely : Prop := elfFindsRow.holds Try.pinned (OpenSpec.ofChange elfFindsWrong)

/-- 'atlaslaw23.ElfRight': WHATEVER THE INPUT: true; the input reads as it did. -/
def elfRightSpec : ChangeSpec := { name := "elfRight", fn := fun _ => fun
  | [d] => { results := [.lit (.bool true)], args := [d] }
  | _ => none }
def elfRightRow : OpenClaim := { program := "ytmphkmoakamepaa", sum := "0a1f7669f73f6dd2aede63a605e1ac46e0bba02e32c4c79d90e5913a74157706", func := "atlas/atlaslaw23.ElfRight", spec := "elfRight", unfollowed := true, recurses := true, apart := false }
def ElfRightSaid : Prop := elfRightRow.holds Try.pinned (OpenSpec.ofChange elfRightSpec)

/-- ITS FALSE NEIGHBOUR: 'it returns false'. Refute it at one input. -/
def elfRightWrong : ChangeSpec := { name := "elfRight", fn := fun _ => fun
  | [d] => { results := [.lit (.bool false)], args := [d] }
  | _ => none }
def ElfRightWrongFalsely : Prop := elfRightRow.holds Try.pinned (OpenSpec.ofChange elfRightWrong)

/-- 'atlaslaw23.ElfWrites': WHATEVER THE INPUT: true; the input reads as it did. -/
def elfWritesSpec : ChangeSpec := { name := "elfWrites", fn := fun _ => fun
  | [d] => { results := [.lit (.bool true)], args := [d] }
  | _ => none }
def elfWritesRow : OpenClaim := { program := "ytmphkmoakamepaa", sum := "0a1f7669f73f6dd2aede63a605e1ac46e0bba02e32c4c79d90e5913a74157706", func := "atlas/atlaslaw23.ElfWrites", spec := "elfWrites", unfollowed := true, recurses := true, apart := false }
def ElfWritesSaid : Prop := elfWritesRow.holds Try.pinned (OpenSpec.ofChange elfWritesSpec)

/-- ITS FALSE NEIGHBOUR: 'it returns false'. Refute it at one input. -/
def elfWritesWrong : ChangeSpec := { name := "elfWrites", fn := fun _ => fun
  | [d] => { results := [.lit (.bool false)], args := [d] }
  | _ => none }
def ElfWritesWrongFalsely : Prop := elfWritesRow.holds Try.pinned (OpenSpec.ofChange elfWritesWrong)

/-- 'atlaslaw23.ElfReads': WHATEVER THE INPUT: true; the input reads as it did. -/
def elfReadsSpec : ChangeSpec := { name := "elfReads", fn := fun _ => fun
  | [d] => { results := [.lit (.bool true)], args := [d] }
  | _ => none }
def elfReadsRow : OpenClaim := { program := "ytmphkmoakamepaa", sum := "0a1f7669f73f6dd2aede63a605e1ac46e0bba02e32c4c79d90e5913a74157706", func := "atlas/atlaslaw23.ElfReads", spec := "elfReads", inPlace := ["internal/bytealg.IndexByteString", "internal/bytealg.IndexString"], unfollowed := true, recurses := true, named := ["internal/bytealg.MaxLen"], apart := false }
def ElfReadsSaid : Prop := elfReadsRow.holds Try.pinned (OpenSpec.ofChange elfReadsSpec)

/-- ITS FALSE NEIGHBOUR: 'it returns false'. Refute it at one input. -/
def elfReadsWrong : ChangeSpec := { name := "elfReads", fn := fun _ => fun
  | [d] => { results := [.lit (.bool false)], args := [d] }
  | _ => none }
def ElfReadsWrongFalsely : Prop := elfReadsRow.holds Try.pinned (OpenSpec.ofChange elfReadsWrong)

/-- 'atlaslaw23.ElfOwn': WHATEVER THE INPUT: true; the input reads as it did. -/
def elfOwnSpec : ChangeSpec := { name := "elfOwn", fn := fun _ => fun
  | [d] => { results := [.lit (.bool true)], args := [d] }
  | _ => none }
def elfOwnRow : OpenClaim := { program := "ytmphkmoakamepaa", sum := "0a1f7669f73f6dd2aede63a605e1ac46e0bba02e32c4c79d90e5913a74157706", func := "atlas/atlaslaw23.ElfOwn", spec := "elfOwn", inPlace := ["internal/bytealg.IndexByteString", "internal/bytealg.IndexString"], unfollowed := true, recurses := true, named := ["internal/bytealg.MaxLen"], apart := false }
def ElfOwnSaid : Prop := elfOwnRow.holds Try.pinned (OpenSpec.ofChange elfOwnSpec)

/-- ITS FALSE NEIGHBOUR: 'it returns false'. Refute it at one input. -/
def elfOwnWrong : ChangeSpec := { name := "elfOwn", fn := fun _ => fun
  | [d] => { results := [.lit (.bool false)], args := [d] }
  | _ => none }
def ElfOwnWrongFalsely : Prop := elfOwnRow.holds Try.pinned (OpenSpec.ofChange elfOwnWrong)

/-- 'atlaslaw23.ElfBack': WHATEVER THE INPUT: true; the input reads as it did. -/
def elfBackSpec : ChangeSpec := { name := "elfBack", fn := fun _ => fun
  | [d1, d2] => { results := [.lit (.bool true)], args := [d1, d2] }
  | _ => none }
def elfBackRow : OpenClaim := { program := "ytmphkmoakamepaa", sum := "0a1f7669f73f6dd2aede63a605e1ac46e0bba02e32c4c79d90e5913a74157706", func := "atlas/atlaslaw23.ElfBack", spec := "elfBack", inPlace := ["internal/bytealg.IndexByteString", "internal/bytealg.IndexString"], unfollowed := true, recurses := true, named := ["internal/bytealg.MaxLen"], apart := false }
def ElfBackSaid : Prop := elfBackRow.holds Try.pinned (OpenSpec.ofChange elfBackSpec)

/-- ITS FALSE NEIGHBOUR: 'it returns false'. Refute it at one input. -/
def elfBackWrong : ChangeSpec := { name := "elfBack", fn := fun _ => fun
  | [d1, d2] => { results := [.lit (.bool false)], args := [d1, d2] }
  | _ => none }
def ElfBackWrongFalsely : Prop := elfBackRow.holds Try.pinned (OpenSpec.ofChange elfBackWrong)

/-- 'atlaslaw23.ElfCut': WHATEVER THE INPUT: true; the input reads as it did. -/
def elfCutSpec : ChangeSpec := { name := "elfCut", fn := fun _ => fun
  | [d1, d2, d3] => { results := [.lit (.bool true)], args := [d1, d2, d3] }
  | _ => none }
def elfCutRow : OpenClaim := { program := "ytmphkmoakamepaa", sum := "0a1f7669f73f6dd2aede63a605e1ac46e0bba02e32c4c79d90e5913a74157706", func := "atlas/atlaslaw23.ElfCut", spec := "elfCut", inPlace := ["internal/bytealg.IndexByteString", "internal/bytealg.IndexString"], unfollowed := true, recurses := true, named := ["internal/bytealg.MaxLen"], apart := false }
def ElfCutSaid : Prop := elfCutRow.holds Try.pinned (OpenSpec.ofChange elfCutSpec)

/-- ITS FALSE NEIGHBOUR: 'it returns false'. Refute it at one input. -/
def elfCutWrong : ChangeSpec := { name := "elfCut", fn := fun _ => fun
  | [d1, d2, d3] => { results := [.lit (.bool false)], args := [d1, d2, d3] }
  | _ => none }
def ElfCutWrongFalsely : Prop := elfCutRow.holds Try.pinned (OpenSpec.ofChange elfCutWrong)

/- THE SECOND FORM. 'bulk': how many values and letters a reading holds, each counted each time it is reached (what is shared counts as often as it is met; a slice's spare places count too). A statement '..UptoSaid' is the law's where the arguments, and the package variables that the reading takes, are together of bulk at most 1048576: NARROWER than '..Said'. Prove '..Said' where nothing that the law and all that it calls make is longer than what came in: it says more and counts as full. Else prove '..UptoSaid'. A law counts once. -/
mutual
def uptoBulk {H : Type} : DataW H → Nat
  | .lit (.string bytes) => bytes.length + 1
  | .lit _ => 1
  | .nil => 1
  | .ptr d => uptoBulk d + 1
  | .slice elems spare => uptoBulkAll elems + uptoBulkAll spare + 1
  | .agg parts => uptoBulkAll parts + 1
  | .iface _ d => uptoBulk d + 1
  | .map entries => uptoBulkEntries entries + 1
  | .held _ => 1
def uptoBulkAll {H : Type} : List (DataW H) → Nat
  | [] => 0
  | d :: r => uptoBulk d + uptoBulkAll r
def uptoBulkEntries {H : Type} : List (Lit × DataW H) → Nat
  | [] => 0
  | x :: r => uptoBulkEntry x + uptoBulkEntries r
def uptoBulkEntry {H : Type} : Lit × DataW H → Nat
  | (.string bytes, d) => bytes.length + uptoBulk d + 1
  | (_, d) => uptoBulk d + 1
 end
def uptoSmall : (H : Type) → List (DataW H) → Bool := fun _ ds => decide (uptoBulkAll ds ≤ 1048576)
def OpenSpec.upto (s : _root_.Go.ChangeSpec) : _root_.Go.OpenSpec := { _root_.Go.OpenSpec.ofChange s with cond := some uptoSmall }

/-- 'atlaslaw23.ElfFinds', WHERE WHAT IT READS IS OF BULK AT MOST 1048576: true; the input reads as it did. -/
def elfFindsUptoRow : OpenClaim := { program := "ytmphkmoakamepaa", sum := "0a1f7669f73f6dd2aede63a605e1ac46e0bba02e32c4c79d90e5913a74157706", func := "atlas/atlaslaw23.ElfFinds", spec := "elfFinds", apart := false, narrowed := true }
def ElfFindsUptoSaid : Prop := elfFindsUptoRow.holds Try.pinned (OpenSpec.upto elfFindsSpec)

/-- 'atlaslaw23.ElfRight', WHERE WHAT IT READS IS OF BULK AT MOST 1048576: true; the input reads as it did. -/
def elfRightUptoRow : OpenClaim := { program := "ytmphkmoakamepaa", sum := "0a1f7669f73f6dd2aede63a605e1ac46e0bba02e32c4c79d90e5913a74157706", func := "atlas/atlaslaw23.ElfRight", spec := "elfRight", unfollowed := true, recurses := true, apart := false, narrowed := true }
def ElfRightUptoSaid : Prop := elfRightUptoRow.holds Try.pinned (OpenSpec.upto elfRightSpec)

/-- 'atlaslaw23.ElfWrites', WHERE WHAT IT READS IS OF BULK AT MOST 1048576: true; the input reads as it did. -/
def elfWritesUptoRow : OpenClaim := { program := "ytmphkmoakamepaa", sum := "0a1f7669f73f6dd2aede63a605e1ac46e0bba02e32c4c79d90e5913a74157706", func := "atlas/atlaslaw23.ElfWrites", spec := "elfWrites", unfollowed := true, recurses := true, apart := false, narrowed := true }
def ElfWritesUptoSaid : Prop := elfWritesUptoRow.holds Try.pinned (OpenSpec.upto elfWritesSpec)

/-- 'atlaslaw23.ElfReads', WHERE WHAT IT READS IS OF BULK AT MOST 1048576: true; the input reads as it did. -/
def elfReadsUptoRow : OpenClaim := { program := "ytmphkmoakamepaa", sum := "0a1f7669f73f6dd2aede63a605e1ac46e0bba02e32c4c79d90e5913a74157706", func := "atlas/atlaslaw23.ElfReads", spec := "elfReads", inPlace := ["internal/bytealg.IndexByteString", "internal/bytealg.IndexString"], unfollowed := true, recurses := true, named := ["internal/bytealg.MaxLen"], apart := false, narrowed := true }
def ElfReadsUptoSaid : Prop := elfReadsUptoRow.holds Try.pinned (OpenSpec.upto elfReadsSpec)

/-- 'atlaslaw23.ElfOwn', WHERE WHAT IT READS IS OF BULK AT MOST 1048576: true; the input reads as it did. -/
def elfOwnUptoRow : OpenClaim := { program := "ytmphkmoakamepaa", sum := "0a1f7669f73f6dd2aede63a605e1ac46e0bba02e32c4c79d90e5913a74157706", func := "atlas/atlaslaw23.ElfOwn", spec := "elfOwn", inPlace := ["internal/bytealg.IndexByteString", "internal/bytealg.IndexString"], unfollowed := true, recurses := true, named := ["internal/bytealg.MaxLen"], apart := false, narrowed := true }
def ElfOwnUptoSaid : Prop := elfOwnUptoRow.holds Try.pinned (OpenSpec.upto elfOwnSpec)

/-- 'atlaslaw23.ElfBack', WHERE WHAT IT READS IS OF BULK AT MOST 1048576: true; the input reads as it did. -/
def elfBackUptoRow : OpenClaim := { program := "ytmphkmoakamepaa", sum := "0a1f7669f73f6dd2aede63a605e1ac46e0bba02e32c4c79d90e5913a74157706", func := "atlas/atlaslaw23.ElfBack", spec := "elfBack", inPlace := ["internal/bytealg.IndexByteString", "internal/bytealg.IndexString"], unfollowed := true, recurses := true, named := ["internal/bytealg.MaxLen"], apart := false, narrowed := true }
def ElfBackUptoSaid : Prop := elfBackUptoRow.holds Try.pinned (OpenSpec.upto elfBackSpec)

/-- 'atlaslaw23.ElfCut', WHERE WHAT IT READS IS OF BULK AT MOST 1048576: true; the input reads as it did. -/
def elfCutUptoRow : OpenClaim := { program := "ytmphkmoakamepaa", sum := "0a1f7669f73f6dd2aede63a605e1ac46e0bba02e32c4c79d90e5913a74157706", func := "atlas/atlaslaw23.ElfCut", spec := "elfCut", inPlace := ["internal/bytealg.IndexByteString", "internal/bytealg.IndexString"], unfollowed := true, recurses := true, named := ["internal/bytealg.MaxLen"], apart := false, narrowed := true }
def ElfCutUptoSaid : Prop := elfCutUptoRow.holds Try.pinned (OpenSpec.upto elfCutSpec)

end Rows
end Go.Proofs.Ytmphkmoakamepaa
