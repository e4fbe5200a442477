/-
  DERIVED. GIVEN WITH THE SEED: THE CARDS: each row of YtkljijkejbfopaaDoorRows.lean that lists a variable, with what it lists TIED to the program's text (the seventh form; the later family's looks); each row that meets fmt, with fmt's text TOLD by the authors' own Lean function (tested against real Go, not proved from fmt's source: count such statements apart). THE CARD IS WHAT COUNTS. Prove the row's statement (the work); the ties are given (YtkljijkejbfopaaDoorTie.lean); close each card by the builder's one call (the guide's Derived/Test/ToyasCard.lean, 'card_holds'). Laid BY PROGRAM, IN A SANDBOX (cutbox-door.mjs). By AI agents, Wed Nov 11 2026. No macro, syntax, notation, axiom, sorry.
-/
import Derived.Test.YtkljijkejbfopaaDoorRows
import GoSem.ClaimSeven
namespace Go.Proofs.YtkljijkejbfopaaDoor
namespace Rows

/-- THE TIED CARD OF 'atlaslaw06.AttrPlain'. -/
def attrPlainCard : Claim7 := { stood := { row := attrPlainRow, standIns := [], harness := (true, "da7953c67169d45657e836a2482f6813b5035dafca3778ba4c9c0b25ea20ef21"), looks := false }, kinds := [], alts := [], laidByText := true, laidKinds := [.data, .data, .data, .data, .pinned], laidTests := true, laidLooks := .later }
def AttrPlainCardSaid : Prop := Claim7.holds Tryd.pinned (.plain (OpenSpec.ofChange attrPlainSpec)) attrPlainCard

/-- THE TIED CARD OF 'atlaslaw06.AttrRemaps'. -/
def attrRemapsCard : Claim7 := { stood := { row := attrRemapsRow, standIns := [], harness := (true, "da7953c67169d45657e836a2482f6813b5035dafca3778ba4c9c0b25ea20ef21"), looks := false }, kinds := [], alts := [], laidByText := true, laidKinds := [.data, .data, .data, .data, .pinned], laidTests := true, laidLooks := .later }
def AttrRemapsCardSaid : Prop := Claim7.holds Tryd.pinned (.plain (OpenSpec.ofChange attrRemapsSpec)) attrRemapsCard

/-- THE TIED CARD OF 'atlaslaw06.AttrFinds'. -/
def attrFindsCard : Claim7 := { stood := { row := attrFindsRow, standIns := [], harness := (true, "da7953c67169d45657e836a2482f6813b5035dafca3778ba4c9c0b25ea20ef21"), looks := false }, kinds := [], alts := [], laidByText := true, laidKinds := [.data, .data, .data, .data, .pinned], laidTests := true, laidLooks := .later }
def AttrFindsCardSaid : Prop := Claim7.holds Tryd.pinned (.plain (OpenSpec.ofChange attrFindsSpec)) attrFindsCard

/-- THE TIED CARD OF 'atlaslaw06.AttrTexts'. -/
def attrTextsCard : Claim7 := { stood := { row := attrTextsRow, standIns := [], harness := (true, "da7953c67169d45657e836a2482f6813b5035dafca3778ba4c9c0b25ea20ef21"), looks := false }, kinds := [], alts := [], laidByText := true, laidKinds := [.data, .data, .data, .data, .pinned], laidTests := true, laidLooks := .later }
def AttrTextsCardSaid : Prop := Claim7.holds Tryd.pinned (.plain (OpenSpec.ofChange attrTextsSpec)) attrTextsCard

/-- THE TIED CARD OF 'atlaslaw06.AttrLeast'. -/
def attrLeastCard : Claim7 := { stood := { row := attrLeastRow, standIns := [], harness := (true, "da7953c67169d45657e836a2482f6813b5035dafca3778ba4c9c0b25ea20ef21"), looks := false }, kinds := [], alts := [], laidByText := true, laidKinds := [.data, .data, .data, .data, .pinned], laidTests := true, laidLooks := .later }
def AttrLeastCardSaid : Prop := Claim7.holds Tryd.pinned (.plain (OpenSpec.ofChange attrLeastSpec)) attrLeastCard

/-- THE TIED CARD OF 'atlaslaw06.AttrBack'. -/
def attrBackCard : Claim7 := { stood := { row := attrBackRow, standIns := [], harness := (true, "da7953c67169d45657e836a2482f6813b5035dafca3778ba4c9c0b25ea20ef21"), looks := false }, kinds := [], alts := [], laidByText := true, laidKinds := [.data, .data, .data, .data, .pinned], laidTests := true, laidLooks := .later }
def AttrBackCardSaid : Prop := Claim7.holds Tryd.pinned (.plain (OpenSpec.ofChange attrBackSpec)) attrBackCard

/-- THE TIED CARD OF 'atlaslaw06.AttrKinds'. -/
def attrKindsCard : Claim7 := { stood := { row := attrKindsRow, standIns := [], harness := (true, "da7953c67169d45657e836a2482f6813b5035dafca3778ba4c9c0b25ea20ef21"), looks := false }, kinds := [], alts := [], laidByText := true, laidKinds := [.data, .data, .data, .data, .pinned], laidTests := true, laidLooks := .later }
def AttrKindsCardSaid : Prop := Claim7.holds Tryd.pinned (.plain (OpenSpec.ofChange attrKindsSpec)) attrKindsCard

/-- THE TIED CARD OF 'atlaslaw06.AttrLeft'. -/
def attrLeftCard : Claim7 := { stood := { row := attrLeftRow, standIns := [], harness := (true, "da7953c67169d45657e836a2482f6813b5035dafca3778ba4c9c0b25ea20ef21"), looks := false }, kinds := [], alts := [], laidByText := true, laidKinds := [.data, .data, .data, .data, .pinned], laidTests := true, laidLooks := .later }
def AttrLeftCardSaid : Prop := Claim7.holds Tryd.pinned (.plain (OpenSpec.ofChange attrLeftSpec)) attrLeftCard

/-- THE TIED CARD OF 'atlaslaw06.AttrUsual'. -/
def attrUsualCard : Claim7 := { stood := { row := attrUsualRow, standIns := [], harness := (true, "da7953c67169d45657e836a2482f6813b5035dafca3778ba4c9c0b25ea20ef21"), looks := false }, kinds := [], alts := [], laidByText := true, laidKinds := [.data, .data, .data, .data, .pinned], laidTests := true, laidLooks := .later }
def AttrUsualCardSaid : Prop := Claim7.holds Tryd.pinned (.plain (OpenSpec.ofChange attrUsualSpec)) attrUsualCard

/-- THE SECOND FORM's CARD OF 'atlaslaw06.AttrPlain'. -/
def attrPlainUptoCard : Claim7 := { stood := { row := attrPlainUptoRow, standIns := [], harness := (true, "da7953c67169d45657e836a2482f6813b5035dafca3778ba4c9c0b25ea20ef21"), looks := false }, kinds := [], alts := [], laidByText := true, laidKinds := [.data, .data, .data, .data, .pinned], laidTests := true, laidLooks := .later }
def AttrPlainUptoCardSaid : Prop := Claim7.holds Tryd.pinned (.plain (OpenSpec.upto attrPlainSpec)) attrPlainUptoCard

/-- THE SECOND FORM's CARD OF 'atlaslaw06.AttrRemaps'. -/
def attrRemapsUptoCard : Claim7 := { stood := { row := attrRemapsUptoRow, standIns := [], harness := (true, "da7953c67169d45657e836a2482f6813b5035dafca3778ba4c9c0b25ea20ef21"), looks := false }, kinds := [], alts := [], laidByText := true, laidKinds := [.data, .data, .data, .data, .pinned], laidTests := true, laidLooks := .later }
def AttrRemapsUptoCardSaid : Prop := Claim7.holds Tryd.pinned (.plain (OpenSpec.upto attrRemapsSpec)) attrRemapsUptoCard

/-- THE SECOND FORM's CARD OF 'atlaslaw06.AttrFinds'. -/
def attrFindsUptoCard : Claim7 := { stood := { row := attrFindsUptoRow, standIns := [], harness := (true, "da7953c67169d45657e836a2482f6813b5035dafca3778ba4c9c0b25ea20ef21"), looks := false }, kinds := [], alts := [], laidByText := true, laidKinds := [.data, .data, .data, .data, .pinned], laidTests := true, laidLooks := .later }
def AttrFindsUptoCardSaid : Prop := Claim7.holds Tryd.pinned (.plain (OpenSpec.upto attrFindsSpec)) attrFindsUptoCard

/-- THE SECOND FORM's CARD OF 'atlaslaw06.AttrTexts'. -/
def attrTextsUptoCard : Claim7 := { stood := { row := attrTextsUptoRow, standIns := [], harness := (true, "da7953c67169d45657e836a2482f6813b5035dafca3778ba4c9c0b25ea20ef21"), looks := false }, kinds := [], alts := [], laidByText := true, laidKinds := [.data, .data, .data, .data, .pinned], laidTests := true, laidLooks := .later }
def AttrTextsUptoCardSaid : Prop := Claim7.holds Tryd.pinned (.plain (OpenSpec.upto attrTextsSpec)) attrTextsUptoCard

/-- THE SECOND FORM's CARD OF 'atlaslaw06.AttrLeast'. -/
def attrLeastUptoCard : Claim7 := { stood := { row := attrLeastUptoRow, standIns := [], harness := (true, "da7953c67169d45657e836a2482f6813b5035dafca3778ba4c9c0b25ea20ef21"), looks := false }, kinds := [], alts := [], laidByText := true, laidKinds := [.data, .data, .data, .data, .pinned], laidTests := true, laidLooks := .later }
def AttrLeastUptoCardSaid : Prop := Claim7.holds Tryd.pinned (.plain (OpenSpec.upto attrLeastSpec)) attrLeastUptoCard

/-- THE SECOND FORM's CARD OF 'atlaslaw06.AttrBack'. -/
def attrBackUptoCard : Claim7 := { stood := { row := attrBackUptoRow, standIns := [], harness := (true, "da7953c67169d45657e836a2482f6813b5035dafca3778ba4c9c0b25ea20ef21"), looks := false }, kinds := [], alts := [], laidByText := true, laidKinds := [.data, .data, .data, .data, .pinned], laidTests := true, laidLooks := .later }
def AttrBackUptoCardSaid : Prop := Claim7.holds Tryd.pinned (.plain (OpenSpec.upto attrBackSpec)) attrBackUptoCard

/-- THE SECOND FORM's CARD OF 'atlaslaw06.AttrKinds'. -/
def attrKindsUptoCard : Claim7 := { stood := { row := attrKindsUptoRow, standIns := [], harness := (true, "da7953c67169d45657e836a2482f6813b5035dafca3778ba4c9c0b25ea20ef21"), looks := false }, kinds := [], alts := [], laidByText := true, laidKinds := [.data, .data, .data, .data, .pinned], laidTests := true, laidLooks := .later }
def AttrKindsUptoCardSaid : Prop := Claim7.holds Tryd.pinned (.plain (OpenSpec.upto attrKindsSpec)) attrKindsUptoCard

/-- THE SECOND FORM's CARD OF 'atlaslaw06.AttrLeft'. -/
def attrLeftUptoCard : Claim7 := { stood := { row := attrLeftUptoRow, standIns := [], harness := (true, "da7953c67169d45657e836a2482f6813b5035dafca3778ba4c9c0b25ea20ef21"), looks := false }, kinds := [], alts := [], laidByText := true, laidKinds := [.data, .data, .data, .data, .pinned], laidTests := true, laidLooks := .later }
def AttrLeftUptoCardSaid : Prop := Claim7.holds Tryd.pinned (.plain (OpenSpec.upto attrLeftSpec)) attrLeftUptoCard

/-- THE SECOND FORM's CARD OF 'atlaslaw06.AttrUsual'. -/
def attrUsualUptoCard : Claim7 := { stood := { row := attrUsualUptoRow, standIns := [], harness := (true, "da7953c67169d45657e836a2482f6813b5035dafca3778ba4c9c0b25ea20ef21"), looks := false }, kinds := [], alts := [], laidByText := true, laidKinds := [.data, .data, .data, .data, .pinned], laidTests := true, laidLooks := .later }
def AttrUsualUptoCardSaid : Prop := Claim7.holds Tryd.pinned (.plain (OpenSpec.upto attrUsualSpec)) attrUsualUptoCard
end Rows
end Go.Proofs.YtkljijkejbfopaaDoor
