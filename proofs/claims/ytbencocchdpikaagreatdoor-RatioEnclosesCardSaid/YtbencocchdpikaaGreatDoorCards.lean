/-
  DERIVED. GIVEN WITH THE SEED: THE CARDS: each row of YtbencocchdpikaaGreatDoorRows.lean that lists a variable, with what it lists TIED to the program's text (the seventh form; the later family's looks); each row that meets fmt, with fmt's text TOLD by the authors' own Lean function (tested against real Go, not proved from fmt's source: count such statements apart). THE CARD IS WHAT COUNTS. Prove the row's statement (the work); the ties are given (YtbencocchdpikaaGreatDoorTie.lean); close each card by the builder's one call (the guide's Derived/Test/ToyasCard.lean, 'card_holds'). Laid BY PROGRAM, IN A SANDBOX (cutbox-door.mjs). By AI agents, Wed Nov 11 2026. No macro, syntax, notation, axiom, sorry.
-/
import Derived.Test.YtbencocchdpikaaGreatDoorRows
import GoSem.ClaimSeven
namespace Go.Proofs.YtbencocchdpikaaGreatDoor
namespace Rows

/-- THE TIED CARD OF 'ogeelaw20.RatioEncloses'. -/
def ratioEnclosesCard : Claim7 := { stood := { row := ratioEnclosesRow, standIns := [], harness := (true, "29254e130a85e7bc3d2bb522da3cda22bede667dc2cd1008b15860ef8c3e3f2a"), looks := false }, kinds := [], alts := [], laidByText := true, laidKinds := [.data, .data, .pinned], laidTests := true, laidLooks := .later }
def RatioEnclosesCardSaid : Prop := Claim7.holds Tryz.pinned (.plain (OpenSpec.ofChange ratioEnclosesSpec)) ratioEnclosesCard

/-- THE TIED CARD OF 'ogeelaw27.SolveAll'. -/
def solveAllCard : Claim7 := { stood := { row := solveAllRow, standIns := [], harness := (true, "29254e130a85e7bc3d2bb522da3cda22bede667dc2cd1008b15860ef8c3e3f2a"), looks := false }, kinds := [], alts := [], laidByText := true, laidKinds := [.data, .data, .pinned], laidTests := true, laidLooks := .later }
def SolveAllCardSaid : Prop := Claim7.holds Tryz.pinned (.plain (OpenSpec.ofChange solveAllSpec)) solveAllCard

/-- THE TIED CARD OF 'ogeelaw27.SolveApart'. -/
def solveApartCard : Claim7 := { stood := { row := solveApartRow, standIns := [], harness := (true, "29254e130a85e7bc3d2bb522da3cda22bede667dc2cd1008b15860ef8c3e3f2a"), looks := false }, kinds := [], alts := [], laidByText := true, laidKinds := [.data, .data, .pinned], laidTests := true, laidLooks := .later }
def SolveApartCardSaid : Prop := Claim7.holds Tryz.pinned (.plain (OpenSpec.ofChange solveApartSpec)) solveApartCard

/-- THE SECOND FORM's CARD OF 'ogeelaw20.RatioEncloses'. -/
def ratioEnclosesUptoCard : Claim7 := { stood := { row := ratioEnclosesUptoRow, standIns := [], harness := (true, "29254e130a85e7bc3d2bb522da3cda22bede667dc2cd1008b15860ef8c3e3f2a"), looks := false }, kinds := [], alts := [], laidByText := true, laidKinds := [.data, .data, .pinned], laidTests := true, laidLooks := .later }
def RatioEnclosesUptoCardSaid : Prop := Claim7.holds Tryz.pinned (.plain (OpenSpec.upto ratioEnclosesSpec)) ratioEnclosesUptoCard

/-- THE SECOND FORM's CARD OF 'ogeelaw27.SolveAll'. -/
def solveAllUptoCard : Claim7 := { stood := { row := solveAllUptoRow, standIns := [], harness := (true, "29254e130a85e7bc3d2bb522da3cda22bede667dc2cd1008b15860ef8c3e3f2a"), looks := false }, kinds := [], alts := [], laidByText := true, laidKinds := [.data, .data, .pinned], laidTests := true, laidLooks := .later }
def SolveAllUptoCardSaid : Prop := Claim7.holds Tryz.pinned (.plain (OpenSpec.upto solveAllSpec)) solveAllUptoCard

/-- THE SECOND FORM's CARD OF 'ogeelaw27.SolveApart'. -/
def solveApartUptoCard : Claim7 := { stood := { row := solveApartUptoRow, standIns := [], harness := (true, "29254e130a85e7bc3d2bb522da3cda22bede667dc2cd1008b15860ef8c3e3f2a"), looks := false }, kinds := [], alts := [], laidByText := true, laidKinds := [.data, .data, .pinned], laidTests := true, laidLooks := .later }
def SolveApartUptoCardSaid : Prop := Claim7.holds Tryz.pinned (.plain (OpenSpec.upto solveApartSpec)) solveApartUptoCard
end Rows
end Go.Proofs.YtbencocchdpikaaGreatDoor
