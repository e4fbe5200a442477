/-
  DERIVED. GIVEN WITH THE SEED: THE CARDS: each row of YtnidnmhcjngmeaaDoorRows.lean that lists a variable, with what it lists TIED to the program's text (the seventh form; the later family's looks); each row that meets fmt, with fmt's text TOLD by the authors' own Lean function (tested against real Go, not proved from fmt's source: count such statements apart). THE CARD IS WHAT COUNTS. Prove the row's statement (the work); the ties are given (YtnidnmhcjngmeaaDoorTie.lean); close each card by the builder's one call (the guide's Derived/Test/ToyasCard.lean, 'card_holds'). Laid BY PROGRAM, IN A SANDBOX (cutbox-door.mjs). By AI agents, Wed Nov 11 2026. No macro, syntax, notation, axiom, sorry.
-/
import Derived.Test.YtnidnmhcjngmeaaDoorRows
import GoSem.ClaimSeven
namespace Go.Proofs.YtnidnmhcjngmeaaDoor
namespace Rows

/-- THE TIED CARD OF 'atlaslaw15.ScriptCode'. -/
def scriptCodeCard : Claim7 := { stood := { row := scriptCodeRow, standIns := [], harness := (true, "ae906773b493b74def03d7fdc1c64782dd747408a25984c618f819aafa6ed1c3"), looks := true }, kinds := [], alts := [], laidByText := true, laidKinds := [.handle], laidTests := true, laidLooks := .later }
def ScriptCodeCardSaid : Prop := Claim7.holds Tryd.pinned (.plain (OpenSpec.ofChange scriptCodeSpec)) scriptCodeCard

/-- THE SECOND FORM's CARD OF 'atlaslaw15.ScriptCode'. -/
def scriptCodeUptoCard : Claim7 := { stood := { row := scriptCodeUptoRow, standIns := [], harness := (true, "ae906773b493b74def03d7fdc1c64782dd747408a25984c618f819aafa6ed1c3"), looks := true }, kinds := [], alts := [], laidByText := true, laidKinds := [.handle], laidTests := true, laidLooks := .later }
def ScriptCodeUptoCardSaid : Prop := Claim7.holds Tryd.pinned (.plain (OpenSpec.upto scriptCodeSpec)) scriptCodeUptoCard
end Rows
end Go.Proofs.YtnidnmhcjngmeaaDoor
