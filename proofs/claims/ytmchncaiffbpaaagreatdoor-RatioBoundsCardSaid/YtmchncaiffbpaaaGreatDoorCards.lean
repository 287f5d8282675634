/-
  DERIVED. GIVEN WITH THE SEED: THE CARDS: each row of YtmchncaiffbpaaaGreatDoorRows.lean that lists a variable, with what it lists TIED to the program's text (the seventh form; the later family's looks); each row that meets fmt, with fmt's text TOLD by the authors' own Lean function (tested against real Go, not proved from fmt's source: count such statements apart). THE CARD IS WHAT COUNTS. Prove the row's statement (the work); the ties are given (YtmchncaiffbpaaaGreatDoorTie.lean); close each card by the builder's one call (the guide's Derived/Test/ToyasCard.lean, 'card_holds'). Laid BY PROGRAM, IN A SANDBOX (cutbox-door.mjs). By AI agents, Wed Nov 11 2026. No macro, syntax, notation, axiom, sorry.
-/
import Derived.Test.YtmchncaiffbpaaaGreatDoorRows
import GoSem.ClaimSeven
namespace Go.Proofs.YtmchncaiffbpaaaGreatDoor
namespace Rows

/-- THE TIED CARD OF 'ogeelaw20.RatioHolds'. -/
def ratioHoldsCard : Claim7 := { stood := { row := ratioHoldsRow, standIns := [], harness := (true, "ecf3ceebdc447751b8c20a115345f3577276edbf64951cb3738b238e6a07027b"), looks := false }, kinds := [], alts := [], laidByText := true, laidKinds := [.data, .data, .pinned], laidTests := true, laidLooks := .later }
def RatioHoldsCardSaid : Prop := Claim7.holds Tryz.pinned (.plain (OpenSpec.ofChange ratioHoldsSpec)) ratioHoldsCard

/-- THE TIED CARD OF 'ogeelaw20.RatioBounds'. -/
def ratioBoundsCard : Claim7 := { stood := { row := ratioBoundsRow, standIns := [], harness := (true, "ecf3ceebdc447751b8c20a115345f3577276edbf64951cb3738b238e6a07027b"), looks := false }, kinds := [], alts := [], laidByText := true, laidKinds := [.data, .data, .pinned], laidTests := true, laidLooks := .later }
def RatioBoundsCardSaid : Prop := Claim7.holds Tryz.pinned (.plain (OpenSpec.ofChange ratioBoundsSpec)) ratioBoundsCard

/-- THE TIED CARD OF 'ogeelaw20.RatioTrue'. -/
def ratioTrueCard : Claim7 := { stood := { row := ratioTrueRow, standIns := [], harness := (true, "ecf3ceebdc447751b8c20a115345f3577276edbf64951cb3738b238e6a07027b"), looks := false }, kinds := [], alts := [], laidByText := true, laidKinds := [.data, .data, .pinned], laidTests := true, laidLooks := .later }
def RatioTrueCardSaid : Prop := Claim7.holds Tryz.pinned (.plain (OpenSpec.ofChange ratioTrueSpec)) ratioTrueCard

/-- THE SECOND FORM's CARD OF 'ogeelaw20.RatioHolds'. -/
def ratioHoldsUptoCard : Claim7 := { stood := { row := ratioHoldsUptoRow, standIns := [], harness := (true, "ecf3ceebdc447751b8c20a115345f3577276edbf64951cb3738b238e6a07027b"), looks := false }, kinds := [], alts := [], laidByText := true, laidKinds := [.data, .data, .pinned], laidTests := true, laidLooks := .later }
def RatioHoldsUptoCardSaid : Prop := Claim7.holds Tryz.pinned (.plain (OpenSpec.upto ratioHoldsSpec)) ratioHoldsUptoCard

/-- THE SECOND FORM's CARD OF 'ogeelaw20.RatioBounds'. -/
def ratioBoundsUptoCard : Claim7 := { stood := { row := ratioBoundsUptoRow, standIns := [], harness := (true, "ecf3ceebdc447751b8c20a115345f3577276edbf64951cb3738b238e6a07027b"), looks := false }, kinds := [], alts := [], laidByText := true, laidKinds := [.data, .data, .pinned], laidTests := true, laidLooks := .later }
def RatioBoundsUptoCardSaid : Prop := Claim7.holds Tryz.pinned (.plain (OpenSpec.upto ratioBoundsSpec)) ratioBoundsUptoCard

/-- THE SECOND FORM's CARD OF 'ogeelaw20.RatioTrue'. -/
def ratioTrueUptoCard : Claim7 := { stood := { row := ratioTrueUptoRow, standIns := [], harness := (true, "ecf3ceebdc447751b8c20a115345f3577276edbf64951cb3738b238e6a07027b"), looks := false }, kinds := [], alts := [], laidByText := true, laidKinds := [.data, .data, .pinned], laidTests := true, laidLooks := .later }
def RatioTrueUptoCardSaid : Prop := Claim7.holds Tryz.pinned (.plain (OpenSpec.upto ratioTrueSpec)) ratioTrueUptoCard
end Rows
end Go.Proofs.YtmchncaiffbpaaaGreatDoor
