/-
  DERIVED. GIVEN WITH THE SEED: THE CARDS: each row of YtglafffghbhnbaaDoorRows.lean that lists a variable, with what it lists TIED to the program's text (the seventh form; the later family's looks); each row that meets fmt, with fmt's text TOLD by the authors' own Lean function (tested against real Go, not proved from fmt's source: count such statements apart). THE CARD IS WHAT COUNTS. Prove the row's statement (the work); the ties are given (YtglafffghbhnbaaDoorTie.lean); close each card by the builder's one call (the guide's Derived/Test/ToyasCard.lean, 'card_holds'). Laid BY PROGRAM, IN A SANDBOX (cutbox-door.mjs). By AI agents, Wed Nov 11 2026. No macro, syntax, notation, axiom, sorry.
-/
import Derived.Test.YtglafffghbhnbaaDoorRows
import GoSem.ClaimSeven
namespace Go.Proofs.YtglafffghbhnbaaDoor
namespace Rows

/-- THE TIED CARD OF 'atlaslaw07.RightsAllows'. -/
def rightsAllowsCard : Claim7 := { stood := { row := rightsAllowsRow, standIns := [], harness := (true, "da4fa68ca548b32ab478bcae053b12acd9bf18a52aa515e0fbb15ac1e4532161"), looks := false }, kinds := [], alts := [], laidByText := true, laidKinds := [.data, .data], laidTests := true, laidLooks := .later }
def RightsAllowsCardSaid : Prop := Claim7.holds Tryd.pinned (.plain (OpenSpec.ofChange rightsAllowsSpec)) rightsAllowsCard

/-- THE TIED CARD OF 'atlaslaw07.RightsLeaf'. -/
def rightsLeafCard : Claim7 := { stood := { row := rightsLeafRow, standIns := [], harness := (true, "da4fa68ca548b32ab478bcae053b12acd9bf18a52aa515e0fbb15ac1e4532161"), looks := false }, kinds := [], alts := [], laidByText := true, laidKinds := [.data, .data], laidTests := true, laidLooks := .later }
def RightsLeafCardSaid : Prop := Claim7.holds Tryd.pinned (.plain (OpenSpec.ofChange rightsLeafSpec)) rightsLeafCard

/-- THE TIED CARD OF 'atlaslaw07.RightsCheck'. -/
def rightsCheckCard : Claim7 := { stood := { row := rightsCheckRow, standIns := [], harness := (true, "da4fa68ca548b32ab478bcae053b12acd9bf18a52aa515e0fbb15ac1e4532161"), looks := false }, kinds := [], alts := [], laidByText := true, laidKinds := [.data, .data, .data], laidTests := true, laidLooks := .later }
def RightsCheckCardSaid : Prop := Claim7.holds Tryd.pinned (.plain (OpenSpec.ofChange rightsCheckSpec)) rightsCheckCard

/-- THE TIED CARD OF 'atlaslaw07.RightsMore'. -/
def rightsMoreCard : Claim7 := { stood := { row := rightsMoreRow, standIns := [], harness := (true, "da4fa68ca548b32ab478bcae053b12acd9bf18a52aa515e0fbb15ac1e4532161"), looks := false }, kinds := [], alts := [], laidByText := true, laidKinds := [.data, .data], laidTests := true, laidLooks := .later }
def RightsMoreCardSaid : Prop := Claim7.holds Tryd.pinned (.plain (OpenSpec.ofChange rightsMoreSpec)) rightsMoreCard

/-- THE TIED CARD OF 'atlaslaw07.RightsWords'. -/
def rightsWordsCard : Claim7 := { stood := { row := rightsWordsRow, standIns := [], harness := (true, "da4fa68ca548b32ab478bcae053b12acd9bf18a52aa515e0fbb15ac1e4532161"), looks := false }, kinds := [], alts := [], laidByText := true, laidKinds := [.data, .data], laidTests := true, laidLooks := .later }
def RightsWordsCardSaid : Prop := Claim7.holds Tryd.pinned (.plain (OpenSpec.ofChange rightsWordsSpec)) rightsWordsCard

/-- THE TIED CARD OF 'atlaslaw07.RightsPriv'. -/
def rightsPrivCard : Claim7 := { stood := { row := rightsPrivRow, standIns := [], harness := (true, "da4fa68ca548b32ab478bcae053b12acd9bf18a52aa515e0fbb15ac1e4532161"), looks := false }, kinds := [], alts := [], laidByText := true, laidKinds := [.data, .data, .data], laidTests := true, laidLooks := .later }
def RightsPrivCardSaid : Prop := Claim7.holds Tryd.pinned (.plain (OpenSpec.ofChange rightsPrivSpec)) rightsPrivCard

/-- THE TIED CARD OF 'atlaslaw07.RightsText'. -/
def rightsTextCard : Claim7 := { stood := { row := rightsTextRow, standIns := [], harness := (true, "da4fa68ca548b32ab478bcae053b12acd9bf18a52aa515e0fbb15ac1e4532161"), looks := false }, kinds := [], alts := [], laidByText := true, laidKinds := [.data, .data, .data, .data], laidTests := true, laidLooks := .later }
def RightsTextCardSaid : Prop := Claim7.holds Tryd.pinned (.plain (OpenSpec.ofChange rightsTextSpec)) rightsTextCard

/-- THE SECOND FORM's CARD OF 'atlaslaw07.RightsAllows'. -/
def rightsAllowsUptoCard : Claim7 := { stood := { row := rightsAllowsUptoRow, standIns := [], harness := (true, "da4fa68ca548b32ab478bcae053b12acd9bf18a52aa515e0fbb15ac1e4532161"), looks := false }, kinds := [], alts := [], laidByText := true, laidKinds := [.data, .data], laidTests := true, laidLooks := .later }
def RightsAllowsUptoCardSaid : Prop := Claim7.holds Tryd.pinned (.plain (OpenSpec.upto rightsAllowsSpec)) rightsAllowsUptoCard

/-- THE SECOND FORM's CARD OF 'atlaslaw07.RightsLeaf'. -/
def rightsLeafUptoCard : Claim7 := { stood := { row := rightsLeafUptoRow, standIns := [], harness := (true, "da4fa68ca548b32ab478bcae053b12acd9bf18a52aa515e0fbb15ac1e4532161"), looks := false }, kinds := [], alts := [], laidByText := true, laidKinds := [.data, .data], laidTests := true, laidLooks := .later }
def RightsLeafUptoCardSaid : Prop := Claim7.holds Tryd.pinned (.plain (OpenSpec.upto rightsLeafSpec)) rightsLeafUptoCard

/-- THE SECOND FORM's CARD OF 'atlaslaw07.RightsCheck'. -/
def rightsCheckUptoCard : Claim7 := { stood := { row := rightsCheckUptoRow, standIns := [], harness := (true, "da4fa68ca548b32ab478bcae053b12acd9bf18a52aa515e0fbb15ac1e4532161"), looks := false }, kinds := [], alts := [], laidByText := true, laidKinds := [.data, .data, .data], laidTests := true, laidLooks := .later }
def RightsCheckUptoCardSaid : Prop := Claim7.holds Tryd.pinned (.plain (OpenSpec.upto rightsCheckSpec)) rightsCheckUptoCard

/-- THE SECOND FORM's CARD OF 'atlaslaw07.RightsMore'. -/
def rightsMoreUptoCard : Claim7 := { stood := { row := rightsMoreUptoRow, standIns := [], harness := (true, "da4fa68ca548b32ab478bcae053b12acd9bf18a52aa515e0fbb15ac1e4532161"), looks := false }, kinds := [], alts := [], laidByText := true, laidKinds := [.data, .data], laidTests := true, laidLooks := .later }
def RightsMoreUptoCardSaid : Prop := Claim7.holds Tryd.pinned (.plain (OpenSpec.upto rightsMoreSpec)) rightsMoreUptoCard

/-- THE SECOND FORM's CARD OF 'atlaslaw07.RightsWords'. -/
def rightsWordsUptoCard : Claim7 := { stood := { row := rightsWordsUptoRow, standIns := [], harness := (true, "da4fa68ca548b32ab478bcae053b12acd9bf18a52aa515e0fbb15ac1e4532161"), looks := false }, kinds := [], alts := [], laidByText := true, laidKinds := [.data, .data], laidTests := true, laidLooks := .later }
def RightsWordsUptoCardSaid : Prop := Claim7.holds Tryd.pinned (.plain (OpenSpec.upto rightsWordsSpec)) rightsWordsUptoCard

/-- THE SECOND FORM's CARD OF 'atlaslaw07.RightsPriv'. -/
def rightsPrivUptoCard : Claim7 := { stood := { row := rightsPrivUptoRow, standIns := [], harness := (true, "da4fa68ca548b32ab478bcae053b12acd9bf18a52aa515e0fbb15ac1e4532161"), looks := false }, kinds := [], alts := [], laidByText := true, laidKinds := [.data, .data, .data], laidTests := true, laidLooks := .later }
def RightsPrivUptoCardSaid : Prop := Claim7.holds Tryd.pinned (.plain (OpenSpec.upto rightsPrivSpec)) rightsPrivUptoCard

/-- THE SECOND FORM's CARD OF 'atlaslaw07.RightsText'. -/
def rightsTextUptoCard : Claim7 := { stood := { row := rightsTextUptoRow, standIns := [], harness := (true, "da4fa68ca548b32ab478bcae053b12acd9bf18a52aa515e0fbb15ac1e4532161"), looks := false }, kinds := [], alts := [], laidByText := true, laidKinds := [.data, .data, .data, .data], laidTests := true, laidLooks := .later }
def RightsTextUptoCardSaid : Prop := Claim7.holds Tryd.pinned (.plain (OpenSpec.upto rightsTextSpec)) rightsTextUptoCard
end Rows
end Go.Proofs.YtglafffghbhnbaaDoor
