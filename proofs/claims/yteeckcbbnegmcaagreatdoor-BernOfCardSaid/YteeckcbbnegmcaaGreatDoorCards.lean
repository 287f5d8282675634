/-
  DERIVED. GIVEN WITH THE SEED: THE CARDS: each row of YteeckcbbnegmcaaGreatDoorRows.lean that lists a variable, with what it lists TIED to the program's text (the seventh form; the later family's looks); each row that meets fmt, with fmt's text TOLD by the authors' own Lean function (tested against real Go, not proved from fmt's source: count such statements apart). THE CARD IS WHAT COUNTS. Prove the row's statement (the work); the ties are given (YteeckcbbnegmcaaGreatDoorTie.lean); close each card by the builder's one call (the guide's Derived/Test/ToyasCard.lean, 'card_holds'). Laid BY PROGRAM, IN A SANDBOX (cutbox-door.mjs). By AI agents, Wed Nov 11 2026. No macro, syntax, notation, axiom, sorry.
-/
import Derived.Test.YteeckcbbnegmcaaGreatDoorRows
import GoSem.ClaimSeven
namespace Go.Proofs.YteeckcbbnegmcaaGreatDoor
namespace Rows

/-- THE TIED CARD OF 'ogeelaw09.CalcSlopes'. -/
def calcSlopesCard : Claim7 := { stood := { row := calcSlopesRow, standIns := [], harness := (true, "2e00f90462f683c83fa0963bfbbf790e29f51abb4608f860dd030f3668376368"), looks := false }, kinds := [], alts := [], laidByText := true, laidKinds := [.data, .data, .pinned], laidTests := true, laidLooks := .later }
def CalcSlopesCardSaid : Prop := Claim7.holds Tryz.pinned (.plain (OpenSpec.ofChange calcSlopesSpec)) calcSlopesCard

/-- THE TIED CARD OF 'ogeelaw13.CastSame'. -/
def castSameCard : Claim7 := { stood := { row := castSameRow, standIns := [], harness := (true, "2e00f90462f683c83fa0963bfbbf790e29f51abb4608f860dd030f3668376368"), looks := false }, kinds := [], alts := [], laidByText := true, laidKinds := [.data, .data, .pinned], laidTests := true, laidLooks := .later }
def CastSameCardSaid : Prop := Claim7.holds Tryz.pinned (.plain (OpenSpec.ofChange castSameSpec)) castSameCard

/-- THE TIED CARD OF 'ogeelaw12.BernOf'. -/
def bernOfCard : Claim7 := { stood := { row := bernOfRow, standIns := [], harness := (true, "2e00f90462f683c83fa0963bfbbf790e29f51abb4608f860dd030f3668376368"), looks := false }, kinds := [], alts := [], laidByText := true, laidKinds := [.data, .data, .pinned], laidTests := true, laidLooks := .later }
def BernOfCardSaid : Prop := Claim7.holds Tryz.pinned (.plain (OpenSpec.ofChange bernOfSpec)) bernOfCard

/-- THE TIED CARD OF 'ogeelaw12.BernBacks'. -/
def bernBacksCard : Claim7 := { stood := { row := bernBacksRow, standIns := [], harness := (true, "2e00f90462f683c83fa0963bfbbf790e29f51abb4608f860dd030f3668376368"), looks := false }, kinds := [], alts := [], laidByText := true, laidKinds := [.data, .data, .pinned], laidTests := true, laidLooks := .later }
def BernBacksCardSaid : Prop := Claim7.holds Tryz.pinned (.plain (OpenSpec.ofChange bernBacksSpec)) bernBacksCard

/-- THE TIED CARD OF 'ogeelaw12.BernSums'. -/
def bernSumsCard : Claim7 := { stood := { row := bernSumsRow, standIns := [], harness := (true, "2e00f90462f683c83fa0963bfbbf790e29f51abb4608f860dd030f3668376368"), looks := false }, kinds := [], alts := [], laidByText := true, laidKinds := [.data, .data, .pinned], laidTests := true, laidLooks := .later }
def BernSumsCardSaid : Prop := Claim7.holds Tryz.pinned (.plain (OpenSpec.ofChange bernSumsSpec)) bernSumsCard

/-- THE TIED CARD OF 'ogeelaw12.BernBack'. -/
def bernBackCard : Claim7 := { stood := { row := bernBackRow, standIns := [], harness := (true, "2e00f90462f683c83fa0963bfbbf790e29f51abb4608f860dd030f3668376368"), looks := false }, kinds := [], alts := [], laidByText := true, laidKinds := [.data, .data, .pinned], laidTests := true, laidLooks := .later }
def BernBackCardSaid : Prop := Claim7.holds Tryz.pinned (.plain (OpenSpec.ofChange bernBackSpec)) bernBackCard

/-- THE TIED CARD OF 'ogeelaw12.BernSlopes'. -/
def bernSlopesCard : Claim7 := { stood := { row := bernSlopesRow, standIns := [], harness := (true, "2e00f90462f683c83fa0963bfbbf790e29f51abb4608f860dd030f3668376368"), looks := false }, kinds := [], alts := [], laidByText := true, laidKinds := [.data, .data, .pinned], laidTests := true, laidLooks := .later }
def BernSlopesCardSaid : Prop := Claim7.holds Tryz.pinned (.plain (OpenSpec.ofChange bernSlopesSpec)) bernSlopesCard

/-- THE TIED CARD OF 'ogeelaw12.BernParts'. -/
def bernPartsCard : Claim7 := { stood := { row := bernPartsRow, standIns := [], harness := (true, "2e00f90462f683c83fa0963bfbbf790e29f51abb4608f860dd030f3668376368"), looks := false }, kinds := [], alts := [], laidByText := true, laidKinds := [.data, .data, .pinned], laidTests := true, laidLooks := .later }
def BernPartsCardSaid : Prop := Claim7.holds Tryz.pinned (.plain (OpenSpec.ofChange bernPartsSpec)) bernPartsCard

/-- THE TIED CARD OF 'ogeelaw12.BernValues'. -/
def bernValuesCard : Claim7 := { stood := { row := bernValuesRow, standIns := [], harness := (true, "2e00f90462f683c83fa0963bfbbf790e29f51abb4608f860dd030f3668376368"), looks := false }, kinds := [], alts := [], laidByText := true, laidKinds := [.data, .data, .pinned], laidTests := true, laidLooks := .later }
def BernValuesCardSaid : Prop := Claim7.holds Tryz.pinned (.plain (OpenSpec.ofChange bernValuesSpec)) bernValuesCard

/-- THE SECOND FORM's CARD OF 'ogeelaw09.CalcSlopes'. -/
def calcSlopesUptoCard : Claim7 := { stood := { row := calcSlopesUptoRow, standIns := [], harness := (true, "2e00f90462f683c83fa0963bfbbf790e29f51abb4608f860dd030f3668376368"), looks := false }, kinds := [], alts := [], laidByText := true, laidKinds := [.data, .data, .pinned], laidTests := true, laidLooks := .later }
def CalcSlopesUptoCardSaid : Prop := Claim7.holds Tryz.pinned (.plain (OpenSpec.upto calcSlopesSpec)) calcSlopesUptoCard

/-- THE SECOND FORM's CARD OF 'ogeelaw13.CastSame'. -/
def castSameUptoCard : Claim7 := { stood := { row := castSameUptoRow, standIns := [], harness := (true, "2e00f90462f683c83fa0963bfbbf790e29f51abb4608f860dd030f3668376368"), looks := false }, kinds := [], alts := [], laidByText := true, laidKinds := [.data, .data, .pinned], laidTests := true, laidLooks := .later }
def CastSameUptoCardSaid : Prop := Claim7.holds Tryz.pinned (.plain (OpenSpec.upto castSameSpec)) castSameUptoCard

/-- THE SECOND FORM's CARD OF 'ogeelaw12.BernOf'. -/
def bernOfUptoCard : Claim7 := { stood := { row := bernOfUptoRow, standIns := [], harness := (true, "2e00f90462f683c83fa0963bfbbf790e29f51abb4608f860dd030f3668376368"), looks := false }, kinds := [], alts := [], laidByText := true, laidKinds := [.data, .data, .pinned], laidTests := true, laidLooks := .later }
def BernOfUptoCardSaid : Prop := Claim7.holds Tryz.pinned (.plain (OpenSpec.upto bernOfSpec)) bernOfUptoCard

/-- THE SECOND FORM's CARD OF 'ogeelaw12.BernBacks'. -/
def bernBacksUptoCard : Claim7 := { stood := { row := bernBacksUptoRow, standIns := [], harness := (true, "2e00f90462f683c83fa0963bfbbf790e29f51abb4608f860dd030f3668376368"), looks := false }, kinds := [], alts := [], laidByText := true, laidKinds := [.data, .data, .pinned], laidTests := true, laidLooks := .later }
def BernBacksUptoCardSaid : Prop := Claim7.holds Tryz.pinned (.plain (OpenSpec.upto bernBacksSpec)) bernBacksUptoCard

/-- THE SECOND FORM's CARD OF 'ogeelaw12.BernSums'. -/
def bernSumsUptoCard : Claim7 := { stood := { row := bernSumsUptoRow, standIns := [], harness := (true, "2e00f90462f683c83fa0963bfbbf790e29f51abb4608f860dd030f3668376368"), looks := false }, kinds := [], alts := [], laidByText := true, laidKinds := [.data, .data, .pinned], laidTests := true, laidLooks := .later }
def BernSumsUptoCardSaid : Prop := Claim7.holds Tryz.pinned (.plain (OpenSpec.upto bernSumsSpec)) bernSumsUptoCard

/-- THE SECOND FORM's CARD OF 'ogeelaw12.BernBack'. -/
def bernBackUptoCard : Claim7 := { stood := { row := bernBackUptoRow, standIns := [], harness := (true, "2e00f90462f683c83fa0963bfbbf790e29f51abb4608f860dd030f3668376368"), looks := false }, kinds := [], alts := [], laidByText := true, laidKinds := [.data, .data, .pinned], laidTests := true, laidLooks := .later }
def BernBackUptoCardSaid : Prop := Claim7.holds Tryz.pinned (.plain (OpenSpec.upto bernBackSpec)) bernBackUptoCard

/-- THE SECOND FORM's CARD OF 'ogeelaw12.BernSlopes'. -/
def bernSlopesUptoCard : Claim7 := { stood := { row := bernSlopesUptoRow, standIns := [], harness := (true, "2e00f90462f683c83fa0963bfbbf790e29f51abb4608f860dd030f3668376368"), looks := false }, kinds := [], alts := [], laidByText := true, laidKinds := [.data, .data, .pinned], laidTests := true, laidLooks := .later }
def BernSlopesUptoCardSaid : Prop := Claim7.holds Tryz.pinned (.plain (OpenSpec.upto bernSlopesSpec)) bernSlopesUptoCard

/-- THE SECOND FORM's CARD OF 'ogeelaw12.BernParts'. -/
def bernPartsUptoCard : Claim7 := { stood := { row := bernPartsUptoRow, standIns := [], harness := (true, "2e00f90462f683c83fa0963bfbbf790e29f51abb4608f860dd030f3668376368"), looks := false }, kinds := [], alts := [], laidByText := true, laidKinds := [.data, .data, .pinned], laidTests := true, laidLooks := .later }
def BernPartsUptoCardSaid : Prop := Claim7.holds Tryz.pinned (.plain (OpenSpec.upto bernPartsSpec)) bernPartsUptoCard

/-- THE SECOND FORM's CARD OF 'ogeelaw12.BernValues'. -/
def bernValuesUptoCard : Claim7 := { stood := { row := bernValuesUptoRow, standIns := [], harness := (true, "2e00f90462f683c83fa0963bfbbf790e29f51abb4608f860dd030f3668376368"), looks := false }, kinds := [], alts := [], laidByText := true, laidKinds := [.data, .data, .pinned], laidTests := true, laidLooks := .later }
def BernValuesUptoCardSaid : Prop := Claim7.holds Tryz.pinned (.plain (OpenSpec.upto bernValuesSpec)) bernValuesUptoCard
end Rows
end Go.Proofs.YteeckcbbnegmcaaGreatDoor
