/-
  DERIVED. GIVEN WITH THE SEED: THE CARDS: each row of YtihjlkdobdffjaaDoorRows.lean that lists a variable, with what it lists TIED to the program's text (the seventh form; the later family's looks); each row that meets fmt, with fmt's text TOLD by the authors' own Lean function (tested against real Go, not proved from fmt's source: count such statements apart). THE CARD IS WHAT COUNTS. Prove the row's statement (the work); the ties are given (YtihjlkdobdffjaaDoorTie.lean); close each card by the builder's one call (the guide's Derived/Test/ToyasCard.lean, 'card_holds'). Laid BY PROGRAM, IN A SANDBOX (cutbox-door.mjs). By AI agents, Wed Nov 11 2026. No macro, syntax, notation, axiom, sorry.
-/
import Derived.Test.YtihjlkdobdffjaaDoorRows
import GoSem.ClaimSeven
namespace Go.Proofs.YtihjlkdobdffjaaDoor
namespace Rows

/-- THE TIED CARD OF 'atlaslaw01.WordsHex'. -/
def wordsHexCard : Claim7 := { stood := { row := wordsHexRow, standIns := [], harness := (true, "433b722ddacd44faded4bd8e223203d4f77d560dce81d915b839018922151526"), looks := false }, kinds := [], alts := [], laidByText := true, laidKinds := [.data, .data, .data], laidTests := true, laidLooks := .later }
def WordsHexCardSaid : Prop := Claim7.holds Tryd.pinned (.plain (OpenSpec.ofChange wordsHexSpec)) wordsHexCard

/-- THE TIED CARD OF 'atlaslaw01.WordsAgain'. -/
def wordsAgainCard : Claim7 := { stood := { row := wordsAgainRow, standIns := [], harness := (true, "433b722ddacd44faded4bd8e223203d4f77d560dce81d915b839018922151526"), looks := false }, kinds := [], alts := [], laidByText := true, laidKinds := [.data, .data, .data], laidTests := true, laidLooks := .later }
def WordsAgainCardSaid : Prop := Claim7.holds Tryd.pinned (.plain (OpenSpec.ofChange wordsAgainSpec)) wordsAgainCard

/-- THE SECOND FORM's CARD OF 'atlaslaw01.WordsHex'. -/
def wordsHexUptoCard : Claim7 := { stood := { row := wordsHexUptoRow, standIns := [], harness := (true, "433b722ddacd44faded4bd8e223203d4f77d560dce81d915b839018922151526"), looks := false }, kinds := [], alts := [], laidByText := true, laidKinds := [.data, .data, .data], laidTests := true, laidLooks := .later }
def WordsHexUptoCardSaid : Prop := Claim7.holds Tryd.pinned (.plain (OpenSpec.upto wordsHexSpec)) wordsHexUptoCard

/-- THE SECOND FORM's CARD OF 'atlaslaw01.WordsAgain'. -/
def wordsAgainUptoCard : Claim7 := { stood := { row := wordsAgainUptoRow, standIns := [], harness := (true, "433b722ddacd44faded4bd8e223203d4f77d560dce81d915b839018922151526"), looks := false }, kinds := [], alts := [], laidByText := true, laidKinds := [.data, .data, .data], laidTests := true, laidLooks := .later }
def WordsAgainUptoCardSaid : Prop := Claim7.holds Tryd.pinned (.plain (OpenSpec.upto wordsAgainSpec)) wordsAgainUptoCard
end Rows
end Go.Proofs.YtihjlkdobdffjaaDoor
