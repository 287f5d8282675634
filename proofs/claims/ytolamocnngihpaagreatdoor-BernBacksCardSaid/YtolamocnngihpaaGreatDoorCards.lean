/-
  DERIVED. GIVEN WITH THE SEED: THE CARDS: each row of YtolamocnngihpaaGreatDoorRows.lean that lists a variable, with what it lists TIED to the program's text (the seventh form; the later family's looks); each row that meets fmt, with fmt's text TOLD by the authors' own Lean function (tested against real Go, not proved from fmt's source: count such statements apart). THE CARD IS WHAT COUNTS. Prove the row's statement (the work); the ties are given (YtolamocnngihpaaGreatDoorTie.lean); close each card by the builder's one call (the guide's Derived/Test/ToyasCard.lean, 'card_holds'). Laid BY PROGRAM, IN A SANDBOX (cutbox-door.mjs). By AI agents, Wed Nov 11 2026. No macro, syntax, notation, axiom, sorry.
-/
import Derived.Test.YtolamocnngihpaaGreatDoorRows
import GoSem.ClaimSeven
namespace Go.Proofs.YtolamocnngihpaaGreatDoor
namespace Rows

/-- THE TIED CARD OF 'ogeelaw12.BernValues'. -/
def bernValuesCard : Claim7 := { stood := { row := bernValuesRow, standIns := [], harness := (true, "15fc428570404c1c4f877d5cd081ecd01040701ee8595d1e80cdc073447d7c3e"), looks := false }, kinds := [], alts := [], laidByText := true, laidKinds := [.data, .data, .pinned], laidTests := true, laidLooks := .later }
def BernValuesCardSaid : Prop := Claim7.holds Tryz.pinned (.plain (OpenSpec.ofChange bernValuesSpec)) bernValuesCard

/-- THE TIED CARD OF 'ogeelaw12.BernParts'. -/
def bernPartsCard : Claim7 := { stood := { row := bernPartsRow, standIns := [], harness := (true, "15fc428570404c1c4f877d5cd081ecd01040701ee8595d1e80cdc073447d7c3e"), looks := false }, kinds := [], alts := [], laidByText := true, laidKinds := [.data, .data, .pinned], laidTests := true, laidLooks := .later }
def BernPartsCardSaid : Prop := Claim7.holds Tryz.pinned (.plain (OpenSpec.ofChange bernPartsSpec)) bernPartsCard

/-- THE TIED CARD OF 'ogeelaw12.BernBacks'. -/
def bernBacksCard : Claim7 := { stood := { row := bernBacksRow, standIns := [], harness := (true, "15fc428570404c1c4f877d5cd081ecd01040701ee8595d1e80cdc073447d7c3e"), looks := false }, kinds := [], alts := [], laidByText := true, laidKinds := [.data, .data, .pinned], laidTests := true, laidLooks := .later }
def BernBacksCardSaid : Prop := Claim7.holds Tryz.pinned (.plain (OpenSpec.ofChange bernBacksSpec)) bernBacksCard

/-- THE SECOND FORM's CARD OF 'ogeelaw12.BernValues'. -/
def bernValuesUptoCard : Claim7 := { stood := { row := bernValuesUptoRow, standIns := [], harness := (true, "15fc428570404c1c4f877d5cd081ecd01040701ee8595d1e80cdc073447d7c3e"), looks := false }, kinds := [], alts := [], laidByText := true, laidKinds := [.data, .data, .pinned], laidTests := true, laidLooks := .later }
def BernValuesUptoCardSaid : Prop := Claim7.holds Tryz.pinned (.plain (OpenSpec.upto bernValuesSpec)) bernValuesUptoCard

/-- THE SECOND FORM's CARD OF 'ogeelaw12.BernParts'. -/
def bernPartsUptoCard : Claim7 := { stood := { row := bernPartsUptoRow, standIns := [], harness := (true, "15fc428570404c1c4f877d5cd081ecd01040701ee8595d1e80cdc073447d7c3e"), looks := false }, kinds := [], alts := [], laidByText := true, laidKinds := [.data, .data, .pinned], laidTests := true, laidLooks := .later }
def BernPartsUptoCardSaid : Prop := Claim7.holds Tryz.pinned (.plain (OpenSpec.upto bernPartsSpec)) bernPartsUptoCard

/-- THE SECOND FORM's CARD OF 'ogeelaw12.BernBacks'. -/
def bernBacksUptoCard : Claim7 := { stood := { row := bernBacksUptoRow, standIns := [], harness := (true, "15fc428570404c1c4f877d5cd081ecd01040701ee8595d1e80cdc073447d7c3e"), looks := false }, kinds := [], alts := [], laidByText := true, laidKinds := [.data, .data, .pinned], laidTests := true, laidLooks := .later }
def BernBacksUptoCardSaid : Prop := Claim7.holds Tryz.pinned (.plain (OpenSpec.upto bernBacksSpec)) bernBacksUptoCard
end Rows
end Go.Proofs.YtolamocnngihpaaGreatDoor
