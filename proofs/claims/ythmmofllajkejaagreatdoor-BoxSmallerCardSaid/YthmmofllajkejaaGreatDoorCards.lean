/-
  DERIVED. GIVEN WITH THE SEED: THE CARDS: each row of YthmmofllajkejaaGreatDoorRows.lean that lists a variable, with what it lists TIED to the program's text (the seventh form; the later family's looks); each row that meets fmt, with fmt's text TOLD by the authors' own Lean function (tested against real Go, not proved from fmt's source: count such statements apart). THE CARD IS WHAT COUNTS. Prove the row's statement (the work); the ties are given (YthmmofllajkejaaGreatDoorTie.lean); close each card by the builder's one call (the guide's Derived/Test/ToyasCard.lean, 'card_holds'). Laid BY PROGRAM, IN A SANDBOX (cutbox-door.mjs). By AI agents, Wed Nov 11 2026. No macro, syntax, notation, axiom, sorry.
-/
import Derived.Test.YthmmofllajkejaaGreatDoorRows
import GoSem.ClaimSeven
namespace Go.Proofs.YthmmofllajkejaaGreatDoor
namespace Rows

/-- THE TIED CARD OF 'ogeelaw04.DyadOrder'. -/
def dyadOrderCard : Claim7 := { stood := { row := dyadOrderRow, standIns := [], harness := (true, "10ade194d52d5c25a0ec1d6f2a35c2a903623eb29e80927960a03cc56bbc1e6d"), looks := false }, kinds := [], alts := [], laidByText := true, laidKinds := [.data, .data, .pinned], laidTests := true, laidLooks := .later }
def DyadOrderCardSaid : Prop := Claim7.holds Tryz.pinned (.plain (OpenSpec.ofChange dyadOrderSpec)) dyadOrderCard

/-- THE TIED CARD OF 'ogeelaw19.HeapPlays'. -/
def heapPlaysCard : Claim7 := { stood := { row := heapPlaysRow, standIns := [], harness := (true, "10ade194d52d5c25a0ec1d6f2a35c2a903623eb29e80927960a03cc56bbc1e6d"), looks := false }, kinds := [], alts := [], laidByText := true, laidKinds := [.data, .data, .pinned], laidTests := true, laidLooks := .later }
def HeapPlaysCardSaid : Prop := Claim7.holds Tryz.pinned (.plain (OpenSpec.ofChange heapPlaysSpec)) heapPlaysCard

/-- THE TIED CARD OF 'ogeelaw11.BoxChecks'. -/
def boxChecksCard : Claim7 := { stood := { row := boxChecksRow, standIns := [], harness := (true, "10ade194d52d5c25a0ec1d6f2a35c2a903623eb29e80927960a03cc56bbc1e6d"), looks := false }, kinds := [], alts := [], laidByText := true, laidKinds := [.data, .data, .pinned], laidTests := true, laidLooks := .later }
def BoxChecksCardSaid : Prop := Claim7.holds Tryz.pinned (.plain (OpenSpec.ofChange boxChecksSpec)) boxChecksCard

/-- THE TIED CARD OF 'ogeelaw11.BoxPoints'. -/
def boxPointsCard : Claim7 := { stood := { row := boxPointsRow, standIns := [], harness := (true, "10ade194d52d5c25a0ec1d6f2a35c2a903623eb29e80927960a03cc56bbc1e6d"), looks := false }, kinds := [], alts := [], laidByText := true, laidKinds := [.data, .data, .pinned], laidTests := true, laidLooks := .later }
def BoxPointsCardSaid : Prop := Claim7.holds Tryz.pinned (.plain (OpenSpec.ofChange boxPointsSpec)) boxPointsCard

/-- THE TIED CARD OF 'ogeelaw11.BoxParts'. -/
def boxPartsCard : Claim7 := { stood := { row := boxPartsRow, standIns := [], harness := (true, "10ade194d52d5c25a0ec1d6f2a35c2a903623eb29e80927960a03cc56bbc1e6d"), looks := false }, kinds := [], alts := [], laidByText := true, laidKinds := [.data, .data, .pinned], laidTests := true, laidLooks := .later }
def BoxPartsCardSaid : Prop := Claim7.holds Tryz.pinned (.plain (OpenSpec.ofChange boxPartsSpec)) boxPartsCard

/-- THE TIED CARD OF 'ogeelaw11.BoxHalves'. -/
def boxHalvesCard : Claim7 := { stood := { row := boxHalvesRow, standIns := [], harness := (true, "10ade194d52d5c25a0ec1d6f2a35c2a903623eb29e80927960a03cc56bbc1e6d"), looks := false }, kinds := [], alts := [], laidByText := true, laidKinds := [.data, .data, .pinned], laidTests := true, laidLooks := .later }
def BoxHalvesCardSaid : Prop := Claim7.holds Tryz.pinned (.plain (OpenSpec.ofChange boxHalvesSpec)) boxHalvesCard

/-- THE TIED CARD OF 'ogeelaw11.BoxEnds'. -/
def boxEndsCard : Claim7 := { stood := { row := boxEndsRow, standIns := [], harness := (true, "10ade194d52d5c25a0ec1d6f2a35c2a903623eb29e80927960a03cc56bbc1e6d"), looks := false }, kinds := [], alts := [], laidByText := true, laidKinds := [.data, .data, .pinned], laidTests := true, laidLooks := .later }
def BoxEndsCardSaid : Prop := Claim7.holds Tryz.pinned (.plain (OpenSpec.ofChange boxEndsSpec)) boxEndsCard

/-- THE TIED CARD OF 'ogeelaw11.BoxSmaller'. -/
def boxSmallerCard : Claim7 := { stood := { row := boxSmallerRow, standIns := [], harness := (true, "10ade194d52d5c25a0ec1d6f2a35c2a903623eb29e80927960a03cc56bbc1e6d"), looks := false }, kinds := [], alts := [], laidByText := true, laidKinds := [.data, .data, .pinned], laidTests := true, laidLooks := .later }
def BoxSmallerCardSaid : Prop := Claim7.holds Tryz.pinned (.plain (OpenSpec.ofChange boxSmallerSpec)) boxSmallerCard

/-- THE SECOND FORM's CARD OF 'ogeelaw04.DyadOrder'. -/
def dyadOrderUptoCard : Claim7 := { stood := { row := dyadOrderUptoRow, standIns := [], harness := (true, "10ade194d52d5c25a0ec1d6f2a35c2a903623eb29e80927960a03cc56bbc1e6d"), looks := false }, kinds := [], alts := [], laidByText := true, laidKinds := [.data, .data, .pinned], laidTests := true, laidLooks := .later }
def DyadOrderUptoCardSaid : Prop := Claim7.holds Tryz.pinned (.plain (OpenSpec.upto dyadOrderSpec)) dyadOrderUptoCard

/-- THE SECOND FORM's CARD OF 'ogeelaw19.HeapPlays'. -/
def heapPlaysUptoCard : Claim7 := { stood := { row := heapPlaysUptoRow, standIns := [], harness := (true, "10ade194d52d5c25a0ec1d6f2a35c2a903623eb29e80927960a03cc56bbc1e6d"), looks := false }, kinds := [], alts := [], laidByText := true, laidKinds := [.data, .data, .pinned], laidTests := true, laidLooks := .later }
def HeapPlaysUptoCardSaid : Prop := Claim7.holds Tryz.pinned (.plain (OpenSpec.upto heapPlaysSpec)) heapPlaysUptoCard

/-- THE SECOND FORM's CARD OF 'ogeelaw11.BoxChecks'. -/
def boxChecksUptoCard : Claim7 := { stood := { row := boxChecksUptoRow, standIns := [], harness := (true, "10ade194d52d5c25a0ec1d6f2a35c2a903623eb29e80927960a03cc56bbc1e6d"), looks := false }, kinds := [], alts := [], laidByText := true, laidKinds := [.data, .data, .pinned], laidTests := true, laidLooks := .later }
def BoxChecksUptoCardSaid : Prop := Claim7.holds Tryz.pinned (.plain (OpenSpec.upto boxChecksSpec)) boxChecksUptoCard

/-- THE SECOND FORM's CARD OF 'ogeelaw11.BoxPoints'. -/
def boxPointsUptoCard : Claim7 := { stood := { row := boxPointsUptoRow, standIns := [], harness := (true, "10ade194d52d5c25a0ec1d6f2a35c2a903623eb29e80927960a03cc56bbc1e6d"), looks := false }, kinds := [], alts := [], laidByText := true, laidKinds := [.data, .data, .pinned], laidTests := true, laidLooks := .later }
def BoxPointsUptoCardSaid : Prop := Claim7.holds Tryz.pinned (.plain (OpenSpec.upto boxPointsSpec)) boxPointsUptoCard

/-- THE SECOND FORM's CARD OF 'ogeelaw11.BoxParts'. -/
def boxPartsUptoCard : Claim7 := { stood := { row := boxPartsUptoRow, standIns := [], harness := (true, "10ade194d52d5c25a0ec1d6f2a35c2a903623eb29e80927960a03cc56bbc1e6d"), looks := false }, kinds := [], alts := [], laidByText := true, laidKinds := [.data, .data, .pinned], laidTests := true, laidLooks := .later }
def BoxPartsUptoCardSaid : Prop := Claim7.holds Tryz.pinned (.plain (OpenSpec.upto boxPartsSpec)) boxPartsUptoCard

/-- THE SECOND FORM's CARD OF 'ogeelaw11.BoxHalves'. -/
def boxHalvesUptoCard : Claim7 := { stood := { row := boxHalvesUptoRow, standIns := [], harness := (true, "10ade194d52d5c25a0ec1d6f2a35c2a903623eb29e80927960a03cc56bbc1e6d"), looks := false }, kinds := [], alts := [], laidByText := true, laidKinds := [.data, .data, .pinned], laidTests := true, laidLooks := .later }
def BoxHalvesUptoCardSaid : Prop := Claim7.holds Tryz.pinned (.plain (OpenSpec.upto boxHalvesSpec)) boxHalvesUptoCard

/-- THE SECOND FORM's CARD OF 'ogeelaw11.BoxEnds'. -/
def boxEndsUptoCard : Claim7 := { stood := { row := boxEndsUptoRow, standIns := [], harness := (true, "10ade194d52d5c25a0ec1d6f2a35c2a903623eb29e80927960a03cc56bbc1e6d"), looks := false }, kinds := [], alts := [], laidByText := true, laidKinds := [.data, .data, .pinned], laidTests := true, laidLooks := .later }
def BoxEndsUptoCardSaid : Prop := Claim7.holds Tryz.pinned (.plain (OpenSpec.upto boxEndsSpec)) boxEndsUptoCard

/-- THE SECOND FORM's CARD OF 'ogeelaw11.BoxSmaller'. -/
def boxSmallerUptoCard : Claim7 := { stood := { row := boxSmallerUptoRow, standIns := [], harness := (true, "10ade194d52d5c25a0ec1d6f2a35c2a903623eb29e80927960a03cc56bbc1e6d"), looks := false }, kinds := [], alts := [], laidByText := true, laidKinds := [.data, .data, .pinned], laidTests := true, laidLooks := .later }
def BoxSmallerUptoCardSaid : Prop := Claim7.holds Tryz.pinned (.plain (OpenSpec.upto boxSmallerSpec)) boxSmallerUptoCard
end Rows
end Go.Proofs.YthmmofllajkejaaGreatDoor
