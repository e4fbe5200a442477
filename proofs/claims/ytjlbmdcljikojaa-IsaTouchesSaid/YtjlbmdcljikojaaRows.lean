/-
  No cell of these rows narrows 'for every input' (looked for: loops, veiled, ifaces, maps, wideKeys, modest, calm, conditions, laid).
  DERIVED. THE GIVEN ROWS OF THIS SEAT. 6 by the template 'for every input the law returns true; each argument reads behind the call as it read before'; 0 by the template 'total and deterministic' (their statements: YtjlbmdcljikojaaTotals.lean).
  GIVEN WITH THE SEED: the statements are not yours to turn. If you find one false, say at which input.
  Laid BY PROGRAM, IN A SANDBOX (cutbox-rows.mjs): the forced cells as the released guide's own fill.sh prints them over the translation f425064a15819b5b… (all of the seat's roots in one cut). By AI agents, Wed Nov 11 2026. No macro, syntax, notation, axiom, sorry.
-/
import Derived.Test.YtjlbmdcljikojaaChecked
import GoSem.Claim
import GoSem.ClaimJoined
import GoSem.ClaimMapViews
import Derived.JoinedTies
import Derived.KernelRfl
namespace Go.Proofs.Ytjlbmdcljikojaa
/- THE CELL 'sum', in the pinned program and in every row, IS THE sha256 OF THE DUMP (.gsa) THAT YtjlbmdcljikojaaProg.lean LOADS. Nothing in Lean hashes anything: it is a label: what it is worth is what the hold of that sum in a sandbox is worth. -/
noncomputable def Try.pinned : Pinned := { name := "ytjlbmdcljikojaa", sum := "f425064a15819b5b2c8bf2b51b6b8832d53c7b98d7ad23878cd9197ee16de4c7", checked := Try.checked }
namespace Rows
def none {H : Type} : Left H := { results := [], args := [] }

/-- 'atlaslaw19.IsaDecodes': WHATEVER THE INPUT: true; the input reads as it did. -/
def isaDecodesSpec : ChangeSpec := { name := "isaDecodes", fn := fun _ => fun
  | [d] => { results := [.lit (.bool true)], args := [d] }
  | _ => none }
def isaDecodesRow : OpenClaim := { program := "ytjlbmdcljikojaa", sum := "f425064a15819b5b2c8bf2b51b6b8832d53c7b98d7ad23878cd9197ee16de4c7", func := "atlas/atlaslaw19.IsaDecodes", spec := "isaDecodes", apart := false }
def IsaDecodesSaid : Prop := isaDecodesRow.holds Try.pinned (OpenSpec.ofChange isaDecodesSpec)

/-- ITS FALSE NEIGHBOUR: 'it returns false'. Refute it at one input. -/
def isaDecodesWrong : ChangeSpec := { name := "isaDecodes", fn := fun _ => fun
  | [d] => { results := [.lit (.bool false)], args := [d] }
  | _ => none }
def IsaDecodesWrongFalsely : Prop := isaDecodesRow.holds Try.pinned (OpenSpec.ofChange isaDecodesWrong)

/-- 'atlaslaw19.IsaBits': WHATEVER THE INPUT: true; the input reads as it did. -/
def isaBitsSpec : ChangeSpec := { name := "isaBits", fn := fun _ => fun
  | [d1, d2, d3] => { results := [.lit (.bool true)], args := [d1, d2, d3] }
  | _ => none }
def isaBitsRow : OpenClaim := { program := "ytjlbmdcljikojaa", sum := "f425064a15819b5b2c8bf2b51b6b8832d53c7b98d7ad23878cd9197ee16de4c7", func := "atlas/atlaslaw19.IsaBits", spec := "isaBits", apart := false }
def IsaBitsSaid : Prop := isaBitsRow.holds Try.pinned (OpenSpec.ofChange isaBitsSpec)

/-- ITS FALSE NEIGHBOUR: 'it returns false'. Refute it at one input. -/
def isaBitsWrong : ChangeSpec := { name := "isaBits", fn := fun _ => fun
  | [d1, d2, d3] => { results := [.lit (.bool false)], args := [d1, d2, d3] }
  | _ => none }
def IsaBitsWrongFalsely : Prop := isaBitsRow.holds Try.pinned (OpenSpec.ofChange isaBitsWrong)

/-- 'atlaslaw19.IsaEncodes': WHATEVER THE INPUT: true; the input reads as it did. -/
def isaEncodesSpec : ChangeSpec := { name := "isaEncodes", fn := fun _ => fun
  | [d] => { results := [.lit (.bool true)], args := [d] }
  | _ => none }
def isaEncodesRow : OpenClaim := { program := "ytjlbmdcljikojaa", sum := "f425064a15819b5b2c8bf2b51b6b8832d53c7b98d7ad23878cd9197ee16de4c7", func := "atlas/atlaslaw19.IsaEncodes", spec := "isaEncodes", apart := false }
def IsaEncodesSaid : Prop := isaEncodesRow.holds Try.pinned (OpenSpec.ofChange isaEncodesSpec)

/-- ITS FALSE NEIGHBOUR: 'it returns false'. Refute it at one input. -/
def isaEncodesWrong : ChangeSpec := { name := "isaEncodes", fn := fun _ => fun
  | [d] => { results := [.lit (.bool false)], args := [d] }
  | _ => none }
def IsaEncodesWrongFalsely : Prop := isaEncodesRow.holds Try.pinned (OpenSpec.ofChange isaEncodesWrong)

/-- 'atlaslaw19.IsaBack': WHATEVER THE INPUT: true; the input reads as it did. -/
def isaBackSpec : ChangeSpec := { name := "isaBack", fn := fun _ => fun
  | [d] => { results := [.lit (.bool true)], args := [d] }
  | _ => none }
def isaBackRow : OpenClaim := { program := "ytjlbmdcljikojaa", sum := "f425064a15819b5b2c8bf2b51b6b8832d53c7b98d7ad23878cd9197ee16de4c7", func := "atlas/atlaslaw19.IsaBack", spec := "isaBack", apart := false }
def IsaBackSaid : Prop := isaBackRow.holds Try.pinned (OpenSpec.ofChange isaBackSpec)

/-- ITS FALSE NEIGHBOUR: 'it returns false'. Refute it at one input. -/
def isaBackWrong : ChangeSpec := { name := "isaBack", fn := fun _ => fun
  | [d] => { results := [.lit (.bool false)], args := [d] }
  | _ => none }
def IsaBackWrongFalsely : Prop := isaBackRow.holds Try.pinned (OpenSpec.ofChange isaBackWrong)

/-- 'atlaslaw19.IsaTouches': WHATEVER THE INPUT: true; the input reads as it did. -/
def isaTouchesSpec : ChangeSpec := { name := "isaTouches", fn := fun _ => fun
  | [d] => { results := [.lit (.bool true)], args := [d] }
  | _ => none }
def isaTouchesRow : OpenClaim := { program := "ytjlbmdcljikojaa", sum := "f425064a15819b5b2c8bf2b51b6b8832d53c7b98d7ad23878cd9197ee16de4c7", func := "atlas/atlaslaw19.IsaTouches", spec := "isaTouches", apart := false }
def IsaTouchesSaid : Prop := isaTouchesRow.holds Try.pinned (OpenSpec.ofChange isaTouchesSpec)

/-- ITS FALSE NEIGHBOUR: 'it returns false'. Refute it at one input. -/
def isaTouchesWrong : ChangeSpec := { name := "isaTouches", fn := fun _ => fun
  | [d] => { results := [.lit (.bool false)], args := [d] }
  | _ => none }
def IsaTouchesWrongFalsely : Prop := isaTouchesRow.holds Try.pinned (OpenSpec.ofChange isaTouchesWrong)

/-- 'atlaslaw19.IsaSaid': WHATEVER THE INPUT: true; the input reads as it did. -/
def isaSaidSpec : ChangeSpec := { name := "isaSaid", fn := fun _ => fun
  | [d] => { results := [.lit (.bool true)], args := [d] }
  | _ => none }
def isaSaidRow : OpenClaim := { program := "ytjlbmdcljikojaa", sum := "f425064a15819b5b2c8bf2b51b6b8832d53c7b98d7ad23878cd9197ee16de4c7", func := "atlas/atlaslaw19.IsaSaid", spec := "isaSaid", apart := false }
def IsaSaidSaid : Prop := isaSaidRow.holds Try.pinned (OpenSpec.ofChange isaSaidSpec)

/-- ITS FALSE NEIGHBOUR: 'it returns false'. Refute it at one input. -/
def isaSaidWrong : ChangeSpec := { name := "isaSaid", fn := fun _ => fun
  | [d] => { results := [.lit (.bool false)], args := [d] }
  | _ => none }
def IsaSaidWrongFalsely : Prop := isaSaidRow.holds Try.pinned (OpenSpec.ofChange isaSaidWrong)

/- THE SECOND FORM. 'bulk': how many values and letters a reading holds, each counted each time it is reached (what is shared counts as often as it is met; a slice's spare places count too). A statement '..UptoSaid' is the law's where the arguments, and the package variables that the reading takes, are together of bulk at most 1048576: NARROWER than '..Said'. Prove '..Said' where nothing that the law and all that it calls make is longer than what came in: it says more and counts as full. Else prove '..UptoSaid'. A law counts once. -/
mutual
def uptoBulk {H : Type} : DataW H → Nat
  | .lit (.string bytes) => bytes.length + 1
  | .lit _ => 1
  | .nil => 1
  | .ptr d => uptoBulk d + 1
  | .slice elems spare => uptoBulkAll elems + uptoBulkAll spare + 1
  | .agg parts => uptoBulkAll parts + 1
  | .iface _ d => uptoBulk d + 1
  | .map entries => uptoBulkEntries entries + 1
  | .held _ => 1
def uptoBulkAll {H : Type} : List (DataW H) → Nat
  | [] => 0
  | d :: r => uptoBulk d + uptoBulkAll r
def uptoBulkEntries {H : Type} : List (Lit × DataW H) → Nat
  | [] => 0
  | x :: r => uptoBulkEntry x + uptoBulkEntries r
def uptoBulkEntry {H : Type} : Lit × DataW H → Nat
  | (.string bytes, d) => bytes.length + uptoBulk d + 1
  | (_, d) => uptoBulk d + 1
 end
def uptoSmall : (H : Type) → List (DataW H) → Bool := fun _ ds => decide (uptoBulkAll ds ≤ 1048576)
def OpenSpec.upto (s : _root_.Go.ChangeSpec) : _root_.Go.OpenSpec := { _root_.Go.OpenSpec.ofChange s with cond := some uptoSmall }

/-- 'atlaslaw19.IsaDecodes', WHERE WHAT IT READS IS OF BULK AT MOST 1048576: true; the input reads as it did. -/
def isaDecodesUptoRow : OpenClaim := { program := "ytjlbmdcljikojaa", sum := "f425064a15819b5b2c8bf2b51b6b8832d53c7b98d7ad23878cd9197ee16de4c7", func := "atlas/atlaslaw19.IsaDecodes", spec := "isaDecodes", apart := false, narrowed := true }
def IsaDecodesUptoSaid : Prop := isaDecodesUptoRow.holds Try.pinned (OpenSpec.upto isaDecodesSpec)

/-- 'atlaslaw19.IsaBits', WHERE WHAT IT READS IS OF BULK AT MOST 1048576: true; the input reads as it did. -/
def isaBitsUptoRow : OpenClaim := { program := "ytjlbmdcljikojaa", sum := "f425064a15819b5b2c8bf2b51b6b8832d53c7b98d7ad23878cd9197ee16de4c7", func := "atlas/atlaslaw19.IsaBits", spec := "isaBits", apart := false, narrowed := true }
def IsaBitsUptoSaid : Prop := isaBitsUptoRow.holds Try.pinned (OpenSpec.upto isaBitsSpec)

/-- 'atlaslaw19.IsaEncodes', WHERE WHAT IT READS IS OF BULK AT MOST 1048576: true; the input reads as it did. -/
def isaEncodesUptoRow : OpenClaim := { program := "ytjlbmdcljikojaa", sum := "f425064a15819b5b2c8bf2b51b6b8832d53c7b98d7ad23878cd9197ee16de4c7", func := "atlas/atlaslaw19.IsaEncodes", spec := "isaEncodes", apart := false, narrowed := true }
def IsaEncodesUptoSaid : Prop := isaEncodesUptoRow.holds Try.pinned (OpenSpec.upto isaEncodesSpec)

/-- 'atlaslaw19.IsaBack', WHERE WHAT IT READS IS OF BULK AT MOST 1048576: true; the input reads as it did. -/
def isaBackUptoRow : OpenClaim := { program := "ytjlbmdcljikojaa", sum := "f425064a15819b5b2c8bf2b51b6b8832d53c7b98d7ad23878cd9197ee16de4c7", func := "atlas/atlaslaw19.IsaBack", spec := "isaBack", apart := false, narrowed := true }
def IsaBackUptoSaid : Prop := isaBackUptoRow.holds Try.pinned (OpenSpec.upto isaBackSpec)

/-- 'atlaslaw19.IsaTouches', WHERE WHAT IT READS IS OF BULK AT MOST 1048576: true; the input reads as it did. -/
def isaTouchesUptoRow : OpenClaim := { program := "ytjlbmdcljikojaa", sum := "f425064a15819b5b2c8bf2b51b6b8832d53c7b98d7ad23878cd9197ee16de4c7", func := "atlas/atlaslaw19.IsaTouches", spec := "isaTouches", apart := false, narrowed := true }
def IsaTouchesUptoSaid : Prop := isaTouchesUptoRow.holds Try.pinned (OpenSpec.upto isaTouchesSpec)

/-- 'atlaslaw19.IsaSaid', WHERE WHAT IT READS IS OF BULK AT MOST 1048576: true; the input reads as it did. -/
def isaSaidUptoRow : OpenClaim := { program := "ytjlbmdcljikojaa", sum := "f425064a15819b5b2c8bf2b51b6b8832d53c7b98d7ad23878cd9197ee16de4c7", func := "atlas/atlaslaw19.IsaSaid", spec := "isaSaid", apart := false, narrowed := true }
def IsaSaidUptoSaid : Prop := isaSaidUptoRow.holds Try.pinned (OpenSpec.upto isaSaidSpec)

end Rows
end Go.Proofs.Ytjlbmdcljikojaa
