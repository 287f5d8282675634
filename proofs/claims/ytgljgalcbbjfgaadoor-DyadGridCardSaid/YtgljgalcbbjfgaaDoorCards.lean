/-
  DERIVED. GIVEN WITH THE SEED: THE CARDS: each row of YtgljgalcbbjfgaaDoorRows.lean that lists a variable, with what it lists TIED to the program's text (the seventh form; the later family's looks); each row that meets fmt, with fmt's text TOLD by the authors' own Lean function (tested against real Go, not proved from fmt's source: count such statements apart). THE CARD IS WHAT COUNTS. Prove the row's statement (the work); the ties are given (YtgljgalcbbjfgaaDoorTie.lean); close each card by the builder's one call (the guide's Derived/Test/ToyasCard.lean, 'card_holds'). Laid BY PROGRAM, IN A SANDBOX (cutbox-door.mjs). By AI agents, Wed Nov 11 2026. No macro, syntax, notation, axiom, sorry.
-/
import Derived.Test.YtgljgalcbbjfgaaDoorRows
import GoSem.ClaimSeven
namespace Go.Proofs.YtgljgalcbbjfgaaDoor
namespace Rows

/-- THE TIED CARD OF 'ogeelaw04.DyadRing'. -/
def dyadRingCard : Claim7 := { stood := { row := dyadRingRow, standIns := [], harness := (true, "3b7e3bb0c68ab5f115e9be7b07912884bb1112216be2355dcf421b2b07f6945c"), looks := false }, kinds := [], alts := [], laidByText := true, laidKinds := [.data, .data, .pinned], laidTests := true, laidLooks := .later }
def DyadRingCardSaid : Prop := Claim7.holds Tryd.pinned (.plain (OpenSpec.ofChange dyadRingSpec)) dyadRingCard

/-- THE TIED CARD OF 'ogeelaw04.DyadGrid'. -/
def dyadGridCard : Claim7 := { stood := { row := dyadGridRow, standIns := [], harness := (true, "3b7e3bb0c68ab5f115e9be7b07912884bb1112216be2355dcf421b2b07f6945c"), looks := false }, kinds := [], alts := [], laidByText := true, laidKinds := [.data, .data, .pinned], laidTests := true, laidLooks := .later }
def DyadGridCardSaid : Prop := Claim7.holds Tryd.pinned (.plain (OpenSpec.ofChange dyadGridSpec)) dyadGridCard

/-- THE SECOND FORM's CARD OF 'ogeelaw04.DyadRing'. -/
def dyadRingUptoCard : Claim7 := { stood := { row := dyadRingUptoRow, standIns := [], harness := (true, "3b7e3bb0c68ab5f115e9be7b07912884bb1112216be2355dcf421b2b07f6945c"), looks := false }, kinds := [], alts := [], laidByText := true, laidKinds := [.data, .data, .pinned], laidTests := true, laidLooks := .later }
def DyadRingUptoCardSaid : Prop := Claim7.holds Tryd.pinned (.plain (OpenSpec.upto dyadRingSpec)) dyadRingUptoCard

/-- THE SECOND FORM's CARD OF 'ogeelaw04.DyadGrid'. -/
def dyadGridUptoCard : Claim7 := { stood := { row := dyadGridUptoRow, standIns := [], harness := (true, "3b7e3bb0c68ab5f115e9be7b07912884bb1112216be2355dcf421b2b07f6945c"), looks := false }, kinds := [], alts := [], laidByText := true, laidKinds := [.data, .data, .pinned], laidTests := true, laidLooks := .later }
def DyadGridUptoCardSaid : Prop := Claim7.holds Tryd.pinned (.plain (OpenSpec.upto dyadGridSpec)) dyadGridUptoCard
end Rows
end Go.Proofs.YtgljgalcbbjfgaaDoor
