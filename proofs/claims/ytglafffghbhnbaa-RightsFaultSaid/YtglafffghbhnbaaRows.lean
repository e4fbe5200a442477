/-
  No cell of these rows narrows 'for every input' (looked for: loops, veiled, ifaces, maps, wideKeys, modest, calm, conditions, laid).
  DERIVED. THE GIVEN ROWS OF THIS SEAT. 3 by the template 'for every input the law returns true; each argument reads behind the call as it read before'; 0 by the template 'total and deterministic' (their statements: YtglafffghbhnbaaTotals.lean).
  GIVEN WITH THE SEED: the statements are not yours to turn. If you find one false, say at which input.
  Laid BY PROGRAM, IN A SANDBOX (cutbox-rows.mjs): the forced cells as the released guide's own fill.sh prints them over the translation 9c819a4478de5d8c… (all of the seat's roots in one cut). By AI agents, Wed Nov 11 2026. No macro, syntax, notation, axiom, sorry.
-/
import Derived.Test.YtglafffghbhnbaaChecked
import GoSem.Claim
import GoSem.ClaimJoined
import GoSem.ClaimMapViews
import Derived.JoinedTies
import Derived.KernelRfl
namespace Go.Proofs.Ytglafffghbhnbaa
/- THE CELL 'sum', in the pinned program and in every row, IS THE sha256 OF THE DUMP (.gsa) THAT YtglafffghbhnbaaProg.lean LOADS. Nothing in Lean hashes anything: it is a label: what it is worth is what the hold of that sum in a sandbox is worth. -/
noncomputable def Try.pinned : Pinned := { name := "ytglafffghbhnbaa", sum := "9c819a4478de5d8c0cc959fa9537b7e35b4d85a6f3ec700db06d7b7e1ca7ef81", checked := Try.checked }
namespace Rows
def none {H : Type} : Left H := { results := [], args := [] }

/-- 'atlaslaw07.RightsLevel': WHATEVER THE INPUT: true; the input reads as it did. -/
def rightsLevelSpec : ChangeSpec := { name := "rightsLevel", fn := fun _ => fun
  | [d] => { results := [.lit (.bool true)], args := [d] }
  | _ => none }
def rightsLevelRow : OpenClaim := { program := "ytglafffghbhnbaa", sum := "9c819a4478de5d8c0cc959fa9537b7e35b4d85a6f3ec700db06d7b7e1ca7ef81", func := "atlas/atlaslaw07.RightsLevel", spec := "rightsLevel", apart := false }
def RightsLevelSaid : Prop := rightsLevelRow.holds Try.pinned (OpenSpec.ofChange rightsLevelSpec)

/-- ITS FALSE NEIGHBOUR: 'it returns false'. Refute it at one input. -/
def rightsLevelWrong : ChangeSpec := { name := "rightsLevel", fn := fun _ => fun
  | [d] => { results := [.lit (.bool false)], args := [d] }
  | _ => none }
def RightsLevelWrongFalsely : Prop := rightsLevelRow.holds Try.pinned (OpenSpec.ofChange rightsLevelWrong)

/-- 'atlaslaw07.RightsStatus': WHATEVER THE INPUT: true; the input reads as it did. -/
def rightsStatusSpec : ChangeSpec := { name := "rightsStatus", fn := fun _ => fun
  | [d] => { results := [.lit (.bool true)], args := [d] }
  | _ => none }
def rightsStatusRow : OpenClaim := { program := "ytglafffghbhnbaa", sum := "9c819a4478de5d8c0cc959fa9537b7e35b4d85a6f3ec700db06d7b7e1ca7ef81", func := "atlas/atlaslaw07.RightsStatus", spec := "rightsStatus", apart := false }
def RightsStatusSaid : Prop := rightsStatusRow.holds Try.pinned (OpenSpec.ofChange rightsStatusSpec)

/-- ITS FALSE NEIGHBOUR: 'it returns false'. Refute it at one input. -/
def rightsStatusWrong : ChangeSpec := { name := "rightsStatus", fn := fun _ => fun
  | [d] => { results := [.lit (.bool false)], args := [d] }
  | _ => none }
def RightsStatusWrongFalsely : Prop := rightsStatusRow.holds Try.pinned (OpenSpec.ofChange rightsStatusWrong)

/-- 'atlaslaw07.RightsFault': WHATEVER THE INPUT: true; the input reads as it did. -/
def rightsFaultSpec : ChangeSpec := { name := "rightsFault", fn := fun _ => fun
  | [d] => { results := [.lit (.bool true)], args := [d] }
  | _ => none }
def rightsFaultRow : OpenClaim := { program := "ytglafffghbhnbaa", sum := "9c819a4478de5d8c0cc959fa9537b7e35b4d85a6f3ec700db06d7b7e1ca7ef81", func := "atlas/atlaslaw07.RightsFault", spec := "rightsFault", apart := false }
def RightsFaultSaid : Prop := rightsFaultRow.holds Try.pinned (OpenSpec.ofChange rightsFaultSpec)

/-- ITS FALSE NEIGHBOUR: 'it returns false'. Refute it at one input. -/
def rightsFaultWrong : ChangeSpec := { name := "rightsFault", fn := fun _ => fun
  | [d] => { results := [.lit (.bool false)], args := [d] }
  | _ => none }
def RightsFaultWrongFalsely : Prop := rightsFaultRow.holds Try.pinned (OpenSpec.ofChange rightsFaultWrong)

/- THE SECOND FORM. 'bulk': how many values and letters a reading holds, each counted each time it is reached (what is shared counts as often as it is met; a slice's spare places count too). A statement '..UptoSaid' is the law's where the arguments, and the package variables that the reading takes, are together of bulk at most 1048576: NARROWER than '..Said'. Prove '..Said' where nothing that the law and all that it calls make is longer than what came in: it says more and counts as full. Else prove '..UptoSaid'. A law counts once. -/
mutual
def uptoBulk {H : Type} : DataW H → Nat
  | .lit (.string bytes) => bytes.length + 1
  | .lit _ => 1
  | .nil => 1
  | .ptr d => uptoBulk d + 1
  | .slice elems spare => uptoBulkAll elems + uptoBulkAll spare + 1
  | .agg parts => uptoBulkAll parts + 1
  | .iface _ d => uptoBulk d + 1
  | .map entries => uptoBulkEntries entries + 1
  | .held _ => 1
def uptoBulkAll {H : Type} : List (DataW H) → Nat
  | [] => 0
  | d :: r => uptoBulk d + uptoBulkAll r
def uptoBulkEntries {H : Type} : List (Lit × DataW H) → Nat
  | [] => 0
  | x :: r => uptoBulkEntry x + uptoBulkEntries r
def uptoBulkEntry {H : Type} : Lit × DataW H → Nat
  | (.string bytes, d) => bytes.length + uptoBulk d + 1
  | (_, d) => uptoBulk d + 1
 end
def uptoSmall : (H : Type) → List (DataW H) → Bool := fun _ ds => decide (uptoBulkAll ds ≤ 1048576)
def OpenSpec.upto (s : _root_.Go.ChangeSpec) : _root_.Go.OpenSpec := { _root_.Go.OpenSpec.ofChange s with cond := some uptoSmall }

/-- 'atlaslaw07.RightsLevel', WHERE WHAT IT READS IS OF BULK AT MOST 1048576: true; the input reads as it did. -/
def rightsLevelUptoRow : OpenClaim := { program := "ytglafffghbhnbaa", sum := "9c819a4478de5d8c0cc959fa9537b7e35b4d85a6f3ec700db06d7b7e1ca7ef81", func := "atlas/atlaslaw07.RightsLevel", spec := "rightsLevel", apart := false, narrowed := true }
def RightsLevelUptoSaid : Prop := rightsLevelUptoRow.holds Try.pinned (OpenSpec.upto rightsLevelSpec)

/-- 'atlaslaw07.RightsStatus', WHERE WHAT IT READS IS OF BULK AT MOST 1048576: true; the input reads as it did. -/
def rightsStatusUptoRow : OpenClaim := { program := "ytglafffghbhnbaa", sum := "9c819a4478de5d8c0cc959fa9537b7e35b4d85a6f3ec700db06d7b7e1ca7ef81", func := "atlas/atlaslaw07.RightsStatus", spec := "rightsStatus", apart := false, narrowed := true }
def RightsStatusUptoSaid : Prop := rightsStatusUptoRow.holds Try.pinned (OpenSpec.upto rightsStatusSpec)

/-- 'atlaslaw07.RightsFault', WHERE WHAT IT READS IS OF BULK AT MOST 1048576: true; the input reads as it did. -/
def rightsFaultUptoRow : OpenClaim := { program := "ytglafffghbhnbaa", sum := "9c819a4478de5d8c0cc959fa9537b7e35b4d85a6f3ec700db06d7b7e1ca7ef81", func := "atlas/atlaslaw07.RightsFault", spec := "rightsFault", apart := false, narrowed := true }
def RightsFaultUptoSaid : Prop := rightsFaultUptoRow.holds Try.pinned (OpenSpec.upto rightsFaultSpec)

end Rows
end Go.Proofs.Ytglafffghbhnbaa
