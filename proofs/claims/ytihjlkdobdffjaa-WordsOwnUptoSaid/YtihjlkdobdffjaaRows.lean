/-
  No cell of these rows narrows 'for every input' (looked for: loops, veiled, ifaces, maps, wideKeys, modest, calm, conditions, laid).
  DERIVED. THE GIVEN ROWS OF THIS SEAT. 8 by the template 'for every input the law returns true; each argument reads behind the call as it read before'; 0 by the template 'total and deterministic' (their statements: YtihjlkdobdffjaaTotals.lean).
  GIVEN WITH THE SEED: the statements are not yours to turn. If you find one false, say at which input.
  Laid BY PROGRAM, IN A SANDBOX (cutbox-rows.mjs): the forced cells as the released guide's own fill.sh prints them over the translation cb51a3433f263c21… (all of the seat's roots in one cut). By AI agents, Wed Nov 11 2026. No macro, syntax, notation, axiom, sorry.
-/
import Derived.Test.YtihjlkdobdffjaaChecked
import GoSem.Claim
import GoSem.ClaimJoined
import GoSem.ClaimMapViews
import Derived.JoinedTies
import Derived.KernelRfl
namespace Go.Proofs.Ytihjlkdobdffjaa
/- THE CELL 'sum', in the pinned program and in every row, IS THE sha256 OF THE DUMP (.gsa) THAT YtihjlkdobdffjaaProg.lean LOADS. Nothing in Lean hashes anything: it is a label: what it is worth is what the hold of that sum in a sandbox is worth. -/
noncomputable def Try.pinned : Pinned := { name := "ytihjlkdobdffjaa", sum := "cb51a3433f263c21fb556fdae49d9004a34aa9d63cbbef2d046b6a6b88dcdc4b", checked := Try.checked }
namespace Rows
def none {H : Type} : Left H := { results := [], args := [] }

/-- 'atlaslaw01.WordsWidth': WHATEVER THE INPUT: true; the input reads as it did. -/
def wordsWidthSpec : ChangeSpec := { name := "wordsWidth", fn := fun _ => fun
  | [d] => { results := [.lit (.bool true)], args := [d] }
  | _ => none }
def wordsWidthRow : OpenClaim := { program := "ytihjlkdobdffjaa", sum := "cb51a3433f263c21fb556fdae49d9004a34aa9d63cbbef2d046b6a6b88dcdc4b", func := "atlas/atlaslaw01.WordsWidth", spec := "wordsWidth", apart := false }
def WordsWidthSaid : Prop := wordsWidthRow.holds Try.pinned (OpenSpec.ofChange wordsWidthSpec)

/-- ITS FALSE NEIGHBOUR: 'it returns false'. Refute it at one input. -/
def wordsWidthWrong : ChangeSpec := { name := "wordsWidth", fn := fun _ => fun
  | [d] => { results := [.lit (.bool false)], args := [d] }
  | _ => none }
def WordsWidthWrongFalsely : Prop := wordsWidthRow.holds Try.pinned (OpenSpec.ofChange wordsWidthWrong)

/-- 'atlaslaw01.WordsName': WHATEVER THE INPUT: true; the input reads as it did. -/
def wordsNameSpec : ChangeSpec := { name := "wordsName", fn := fun _ => fun
  | [d] => { results := [.lit (.bool true)], args := [d] }
  | _ => none }
def wordsNameRow : OpenClaim := { program := "ytihjlkdobdffjaa", sum := "cb51a3433f263c21fb556fdae49d9004a34aa9d63cbbef2d046b6a6b88dcdc4b", func := "atlas/atlaslaw01.WordsName", spec := "wordsName", apart := false }
def WordsNameSaid : Prop := wordsNameRow.holds Try.pinned (OpenSpec.ofChange wordsNameSpec)

/-- ITS FALSE NEIGHBOUR: 'it returns false'. Refute it at one input. -/
def wordsNameWrong : ChangeSpec := { name := "wordsName", fn := fun _ => fun
  | [d] => { results := [.lit (.bool false)], args := [d] }
  | _ => none }
def WordsNameWrongFalsely : Prop := wordsNameRow.holds Try.pinned (OpenSpec.ofChange wordsNameWrong)

/-- 'atlaslaw01.WordsFields': WHATEVER THE INPUT: true; the input reads as it did. -/
def wordsFieldsSpec : ChangeSpec := { name := "wordsFields", fn := fun _ => fun
  | [d] => { results := [.lit (.bool true)], args := [d] }
  | _ => none }
def wordsFieldsRow : OpenClaim := { program := "ytihjlkdobdffjaa", sum := "cb51a3433f263c21fb556fdae49d9004a34aa9d63cbbef2d046b6a6b88dcdc4b", func := "atlas/atlaslaw01.WordsFields", spec := "wordsFields", apart := false }
def WordsFieldsSaid : Prop := wordsFieldsRow.holds Try.pinned (OpenSpec.ofChange wordsFieldsSpec)

/-- ITS FALSE NEIGHBOUR: 'it returns false'. Refute it at one input. -/
def wordsFieldsWrong : ChangeSpec := { name := "wordsFields", fn := fun _ => fun
  | [d] => { results := [.lit (.bool false)], args := [d] }
  | _ => none }
def WordsFieldsWrongFalsely : Prop := wordsFieldsRow.holds Try.pinned (OpenSpec.ofChange wordsFieldsWrong)

/-- 'atlaslaw01.WordsOwn': WHATEVER THE INPUT: true; the input reads as it did. -/
def wordsOwnSpec : ChangeSpec := { name := "wordsOwn", fn := fun _ => fun
  | [d1, d2] => { results := [.lit (.bool true)], args := [d1, d2] }
  | _ => none }
def wordsOwnRow : OpenClaim := { program := "ytihjlkdobdffjaa", sum := "cb51a3433f263c21fb556fdae49d9004a34aa9d63cbbef2d046b6a6b88dcdc4b", func := "atlas/atlaslaw01.WordsOwn", spec := "wordsOwn", apart := false }
def WordsOwnSaid : Prop := wordsOwnRow.holds Try.pinned (OpenSpec.ofChange wordsOwnSpec)

/-- ITS FALSE NEIGHBOUR: 'it returns false'. Refute it at one input. -/
def wordsOwnWrong : ChangeSpec := { name := "wordsOwn", fn := fun _ => fun
  | [d1, d2] => { results := [.lit (.bool false)], args := [d1, d2] }
  | _ => none }
def WordsOwnWrongFalsely : Prop := wordsOwnRow.holds Try.pinned (OpenSpec.ofChange wordsOwnWrong)

/-- 'atlaslaw01.WordsNumber': WHATEVER THE INPUT: true; the input reads as it did. -/
def wordsNumberSpec : ChangeSpec := { name := "wordsNumber", fn := fun _ => fun
  | [d] => { results := [.lit (.bool true)], args := [d] }
  | _ => none }
def wordsNumberRow : OpenClaim := { program := "ytihjlkdobdffjaa", sum := "cb51a3433f263c21fb556fdae49d9004a34aa9d63cbbef2d046b6a6b88dcdc4b", func := "atlas/atlaslaw01.WordsNumber", spec := "wordsNumber", apart := false }
def WordsNumberSaid : Prop := wordsNumberRow.holds Try.pinned (OpenSpec.ofChange wordsNumberSpec)

/-- ITS FALSE NEIGHBOUR: 'it returns false'. Refute it at one input. -/
def wordsNumberWrong : ChangeSpec := { name := "wordsNumber", fn := fun _ => fun
  | [d] => { results := [.lit (.bool false)], args := [d] }
  | _ => none }
def WordsNumberWrongFalsely : Prop := wordsNumberRow.holds Try.pinned (OpenSpec.ofChange wordsNumberWrong)

/-- 'atlaslaw01.WordsSizes': WHATEVER THE INPUT: true; the input reads as it did. -/
def wordsSizesSpec : ChangeSpec := { name := "wordsSizes", fn := fun _ => fun
  | [d1, d2] => { results := [.lit (.bool true)], args := [d1, d2] }
  | _ => none }
def wordsSizesRow : OpenClaim := { program := "ytihjlkdobdffjaa", sum := "cb51a3433f263c21fb556fdae49d9004a34aa9d63cbbef2d046b6a6b88dcdc4b", func := "atlas/atlaslaw01.WordsSizes", spec := "wordsSizes", apart := false }
def WordsSizesSaid : Prop := wordsSizesRow.holds Try.pinned (OpenSpec.ofChange wordsSizesSpec)

/-- ITS FALSE NEIGHBOUR: 'it returns false'. Refute it at one input. -/
def wordsSizesWrong : ChangeSpec := { name := "wordsSizes", fn := fun _ => fun
  | [d1, d2] => { results := [.lit (.bool false)], args := [d1, d2] }
  | _ => none }
def WordsSizesWrongFalsely : Prop := wordsSizesRow.holds Try.pinned (OpenSpec.ofChange wordsSizesWrong)

/-- 'atlaslaw01.WordsJoined': WHATEVER THE INPUT: true; the input reads as it did. -/
def wordsJoinedSpec : ChangeSpec := { name := "wordsJoined", fn := fun _ => fun
  | [d1, d2] => { results := [.lit (.bool true)], args := [d1, d2] }
  | _ => none }
def wordsJoinedRow : OpenClaim := { program := "ytihjlkdobdffjaa", sum := "cb51a3433f263c21fb556fdae49d9004a34aa9d63cbbef2d046b6a6b88dcdc4b", func := "atlas/atlaslaw01.WordsJoined", spec := "wordsJoined", apart := false }
def WordsJoinedSaid : Prop := wordsJoinedRow.holds Try.pinned (OpenSpec.ofChange wordsJoinedSpec)

/-- ITS FALSE NEIGHBOUR: 'it returns false'. Refute it at one input. -/
def wordsJoinedWrong : ChangeSpec := { name := "wordsJoined", fn := fun _ => fun
  | [d1, d2] => { results := [.lit (.bool false)], args := [d1, d2] }
  | _ => none }
def WordsJoinedWrongFalsely : Prop := wordsJoinedRow.holds Try.pinned (OpenSpec.ofChange wordsJoinedWrong)

/-- 'atlaslaw01.WordsParts': WHATEVER THE INPUT: true; the input reads as it did. -/
def wordsPartsSpec : ChangeSpec := { name := "wordsParts", fn := fun _ => fun
  | [d] => { results := [.lit (.bool true)], args := [d] }
  | _ => none }
def wordsPartsRow : OpenClaim := { program := "ytihjlkdobdffjaa", sum := "cb51a3433f263c21fb556fdae49d9004a34aa9d63cbbef2d046b6a6b88dcdc4b", func := "atlas/atlaslaw01.WordsParts", spec := "wordsParts", apart := false }
def WordsPartsSaid : Prop := wordsPartsRow.holds Try.pinned (OpenSpec.ofChange wordsPartsSpec)

/-- ITS FALSE NEIGHBOUR: 'it returns false'. Refute it at one input. -/
def wordsPartsWrong : ChangeSpec := { name := "wordsParts", fn := fun _ => fun
  | [d] => { results := [.lit (.bool false)], args := [d] }
  | _ => none }
def WordsPartsWrongFalsely : Prop := wordsPartsRow.holds Try.pinned (OpenSpec.ofChange wordsPartsWrong)

/- THE SECOND FORM. 'bulk': how many values and letters a reading holds, each counted each time it is reached (what is shared counts as often as it is met; a slice's spare places count too). A statement '..UptoSaid' is the law's where the arguments, and the package variables that the reading takes, are together of bulk at most 1048576: NARROWER than '..Said'. Prove '..Said' where nothing that the law and all that it calls make is longer than what came in: it says more and counts as full. Else prove '..UptoSaid'. A law counts once. -/
mutual
def uptoBulk {H : Type} : DataW H → Nat
  | .lit (.string bytes) => bytes.length + 1
  | .lit _ => 1
  | .nil => 1
  | .ptr d => uptoBulk d + 1
  | .slice elems spare => uptoBulkAll elems + uptoBulkAll spare + 1
  | .agg parts => uptoBulkAll parts + 1
  | .iface _ d => uptoBulk d + 1
  | .map entries => uptoBulkEntries entries + 1
  | .held _ => 1
def uptoBulkAll {H : Type} : List (DataW H) → Nat
  | [] => 0
  | d :: r => uptoBulk d + uptoBulkAll r
def uptoBulkEntries {H : Type} : List (Lit × DataW H) → Nat
  | [] => 0
  | x :: r => uptoBulkEntry x + uptoBulkEntries r
def uptoBulkEntry {H : Type} : Lit × DataW H → Nat
  | (.string bytes, d) => bytes.length + uptoBulk d + 1
  | (_, d) => uptoBulk d + 1
 end
def uptoSmall : (H : Type) → List (DataW H) → Bool := fun _ ds => decide (uptoBulkAll ds ≤ 1048576)
def OpenSpec.upto (s : _root_.Go.ChangeSpec) : _root_.Go.OpenSpec := { _root_.Go.OpenSpec.ofChange s with cond := some uptoSmall }

/-- 'atlaslaw01.WordsWidth', WHERE WHAT IT READS IS OF BULK AT MOST 1048576: true; the input reads as it did. -/
def wordsWidthUptoRow : OpenClaim := { program := "ytihjlkdobdffjaa", sum := "cb51a3433f263c21fb556fdae49d9004a34aa9d63cbbef2d046b6a6b88dcdc4b", func := "atlas/atlaslaw01.WordsWidth", spec := "wordsWidth", apart := false, narrowed := true }
def WordsWidthUptoSaid : Prop := wordsWidthUptoRow.holds Try.pinned (OpenSpec.upto wordsWidthSpec)

/-- 'atlaslaw01.WordsName', WHERE WHAT IT READS IS OF BULK AT MOST 1048576: true; the input reads as it did. -/
def wordsNameUptoRow : OpenClaim := { program := "ytihjlkdobdffjaa", sum := "cb51a3433f263c21fb556fdae49d9004a34aa9d63cbbef2d046b6a6b88dcdc4b", func := "atlas/atlaslaw01.WordsName", spec := "wordsName", apart := false, narrowed := true }
def WordsNameUptoSaid : Prop := wordsNameUptoRow.holds Try.pinned (OpenSpec.upto wordsNameSpec)

/-- 'atlaslaw01.WordsFields', WHERE WHAT IT READS IS OF BULK AT MOST 1048576: true; the input reads as it did. -/
def wordsFieldsUptoRow : OpenClaim := { program := "ytihjlkdobdffjaa", sum := "cb51a3433f263c21fb556fdae49d9004a34aa9d63cbbef2d046b6a6b88dcdc4b", func := "atlas/atlaslaw01.WordsFields", spec := "wordsFields", apart := false, narrowed := true }
def WordsFieldsUptoSaid : Prop := wordsFieldsUptoRow.holds Try.pinned (OpenSpec.upto wordsFieldsSpec)

/-- 'atlaslaw01.WordsOwn', WHERE WHAT IT READS IS OF BULK AT MOST 1048576: true; the input reads as it did. -/
def wordsOwnUptoRow : OpenClaim := { program := "ytihjlkdobdffjaa", sum := "cb51a3433f263c21fb556fdae49d9004a34aa9d63cbbef2d046b6a6b88dcdc4b", func := "atlas/atlaslaw01.WordsOwn", spec := "wordsOwn", apart := false, narrowed := true }
def WordsOwnUptoSaid : Prop := wordsOwnUptoRow.holds Try.pinned (OpenSpec.upto wordsOwnSpec)

/-- 'atlaslaw01.WordsNumber', WHERE WHAT IT READS IS OF BULK AT MOST 1048576: true; the input reads as it did. -/
def wordsNumberUptoRow : OpenClaim := { program := "ytihjlkdobdffjaa", sum := "cb51a3433f263c21fb556fdae49d9004a34aa9d63cbbef2d046b6a6b88dcdc4b", func := "atlas/atlaslaw01.WordsNumber", spec := "wordsNumber", apart := false, narrowed := true }
def WordsNumberUptoSaid : Prop := wordsNumberUptoRow.holds Try.pinned (OpenSpec.upto wordsNumberSpec)

/-- 'atlaslaw01.WordsSizes', WHERE WHAT IT READS IS OF BULK AT MOST 1048576: true; the input reads as it did. -/
def wordsSizesUptoRow : OpenClaim := { program := "ytihjlkdobdffjaa", sum := "cb51a3433f263c21fb556fdae49d9004a34aa9d63cbbef2d046b6a6b88dcdc4b", func := "atlas/atlaslaw01.WordsSizes", spec := "wordsSizes", apart := false, narrowed := true }
def WordsSizesUptoSaid : Prop := wordsSizesUptoRow.holds Try.pinned (OpenSpec.upto wordsSizesSpec)

/-- 'atlaslaw01.WordsJoined', WHERE WHAT IT READS IS OF BULK AT MOST 1048576: true; the input reads as it did. -/
def wordsJoinedUptoRow : OpenClaim := { program := "ytihjlkdobdffjaa", sum := "cb51a3433f263c21fb556fdae49d9004a34aa9d63cbbef2d046b6a6b88dcdc4b", func := "atlas/atlaslaw01.WordsJoined", spec := "wordsJoined", apart := false, narrowed := true }
def WordsJoinedUptoSaid : Prop := wordsJoinedUptoRow.holds Try.pinned (OpenSpec.upto wordsJoinedSpec)

/-- 'atlaslaw01.WordsParts', WHERE WHAT IT READS IS OF BULK AT MOST 1048576: true; the input reads as it did. -/
def wordsPartsUptoRow : OpenClaim := { program := "ytihjlkdobdffjaa", sum := "cb51a3433f263c21fb556fdae49d9004a34aa9d63cbbef2d046b6a6b88dcdc4b", func := "atlas/atlaslaw01.WordsParts", spec := "wordsParts", apart := false, narrowed := true }
def WordsPartsUptoSaid : Prop := wordsPartsUptoRow.holds Try.pinned (OpenSpec.upto wordsPartsSpec)

end Rows
end Go.Proofs.Ytihjlkdobdffjaa
