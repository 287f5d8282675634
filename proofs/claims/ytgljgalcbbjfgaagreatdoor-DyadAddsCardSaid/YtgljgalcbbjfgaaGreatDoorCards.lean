/-
  DERIVED. GIVEN WITH THE SEED: THE CARDS: each row of YtgljgalcbbjfgaaGreatDoorRows.lean that lists a variable, with what it lists TIED to the program's text (the seventh form; the later family's looks); each row that meets fmt, with fmt's text TOLD by the authors' own Lean function (tested against real Go, not proved from fmt's source: count such statements apart). THE CARD IS WHAT COUNTS. Prove the row's statement (the work); the ties are given (YtgljgalcbbjfgaaGreatDoorTie.lean); close each card by the builder's one call (the guide's Derived/Test/ToyasCard.lean, 'card_holds'). Laid BY PROGRAM, IN A SANDBOX (cutbox-door.mjs). By AI agents, Wed Nov 11 2026. No macro, syntax, notation, axiom, sorry.
-/
import Derived.Test.YtgljgalcbbjfgaaGreatDoorRows
import GoSem.ClaimSeven
namespace Go.Proofs.YtgljgalcbbjfgaaGreatDoor
namespace Rows

/-- THE TIED CARD OF 'ogeelaw04.DyadMuls'. -/
def dyadMulsCard : Claim7 := { stood := { row := dyadMulsRow, standIns := [], harness := (true, "d8fcb0d8805d148efcba0ca88617d5d61575116e721bfa336e0f466fc2b987b6"), looks := false }, kinds := [], alts := [], laidByText := true, laidKinds := [.data, .data, .pinned], laidTests := true, laidLooks := .later }
def DyadMulsCardSaid : Prop := Claim7.holds Tryz.pinned (.plain (OpenSpec.ofChange dyadMulsSpec)) dyadMulsCard

/-- THE TIED CARD OF 'ogeelaw04.DyadGrids'. -/
def dyadGridsCard : Claim7 := { stood := { row := dyadGridsRow, standIns := [], harness := (true, "d8fcb0d8805d148efcba0ca88617d5d61575116e721bfa336e0f466fc2b987b6"), looks := false }, kinds := [], alts := [], laidByText := true, laidKinds := [.data, .data, .pinned], laidTests := true, laidLooks := .later }
def DyadGridsCardSaid : Prop := Claim7.holds Tryz.pinned (.plain (OpenSpec.ofChange dyadGridsSpec)) dyadGridsCard

/-- THE TIED CARD OF 'ogeelaw04.DyadForms'. -/
def dyadFormsCard : Claim7 := { stood := { row := dyadFormsRow, standIns := [], harness := (true, "d8fcb0d8805d148efcba0ca88617d5d61575116e721bfa336e0f466fc2b987b6"), looks := false }, kinds := [], alts := [], laidByText := true, laidKinds := [.data, .data, .pinned], laidTests := true, laidLooks := .later }
def DyadFormsCardSaid : Prop := Claim7.holds Tryz.pinned (.plain (OpenSpec.ofChange dyadFormsSpec)) dyadFormsCard

/-- THE TIED CARD OF 'ogeelaw04.DyadAdds'. -/
def dyadAddsCard : Claim7 := { stood := { row := dyadAddsRow, standIns := [], harness := (true, "d8fcb0d8805d148efcba0ca88617d5d61575116e721bfa336e0f466fc2b987b6"), looks := false }, kinds := [], alts := [], laidByText := true, laidKinds := [.data, .data, .pinned], laidTests := true, laidLooks := .later }
def DyadAddsCardSaid : Prop := Claim7.holds Tryz.pinned (.plain (OpenSpec.ofChange dyadAddsSpec)) dyadAddsCard

/-- THE TIED CARD OF 'ogeelaw04.DyadOrder'. -/
def dyadOrderCard : Claim7 := { stood := { row := dyadOrderRow, standIns := [], harness := (true, "d8fcb0d8805d148efcba0ca88617d5d61575116e721bfa336e0f466fc2b987b6"), looks := false }, kinds := [], alts := [], laidByText := true, laidKinds := [.data, .data, .pinned], laidTests := true, laidLooks := .later }
def DyadOrderCardSaid : Prop := Claim7.holds Tryz.pinned (.plain (OpenSpec.ofChange dyadOrderSpec)) dyadOrderCard

/-- THE SECOND FORM's CARD OF 'ogeelaw04.DyadMuls'. -/
def dyadMulsUptoCard : Claim7 := { stood := { row := dyadMulsUptoRow, standIns := [], harness := (true, "d8fcb0d8805d148efcba0ca88617d5d61575116e721bfa336e0f466fc2b987b6"), looks := false }, kinds := [], alts := [], laidByText := true, laidKinds := [.data, .data, .pinned], laidTests := true, laidLooks := .later }
def DyadMulsUptoCardSaid : Prop := Claim7.holds Tryz.pinned (.plain (OpenSpec.upto dyadMulsSpec)) dyadMulsUptoCard

/-- THE SECOND FORM's CARD OF 'ogeelaw04.DyadGrids'. -/
def dyadGridsUptoCard : Claim7 := { stood := { row := dyadGridsUptoRow, standIns := [], harness := (true, "d8fcb0d8805d148efcba0ca88617d5d61575116e721bfa336e0f466fc2b987b6"), looks := false }, kinds := [], alts := [], laidByText := true, laidKinds := [.data, .data, .pinned], laidTests := true, laidLooks := .later }
def DyadGridsUptoCardSaid : Prop := Claim7.holds Tryz.pinned (.plain (OpenSpec.upto dyadGridsSpec)) dyadGridsUptoCard

/-- THE SECOND FORM's CARD OF 'ogeelaw04.DyadForms'. -/
def dyadFormsUptoCard : Claim7 := { stood := { row := dyadFormsUptoRow, standIns := [], harness := (true, "d8fcb0d8805d148efcba0ca88617d5d61575116e721bfa336e0f466fc2b987b6"), looks := false }, kinds := [], alts := [], laidByText := true, laidKinds := [.data, .data, .pinned], laidTests := true, laidLooks := .later }
def DyadFormsUptoCardSaid : Prop := Claim7.holds Tryz.pinned (.plain (OpenSpec.upto dyadFormsSpec)) dyadFormsUptoCard

/-- THE SECOND FORM's CARD OF 'ogeelaw04.DyadAdds'. -/
def dyadAddsUptoCard : Claim7 := { stood := { row := dyadAddsUptoRow, standIns := [], harness := (true, "d8fcb0d8805d148efcba0ca88617d5d61575116e721bfa336e0f466fc2b987b6"), looks := false }, kinds := [], alts := [], laidByText := true, laidKinds := [.data, .data, .pinned], laidTests := true, laidLooks := .later }
def DyadAddsUptoCardSaid : Prop := Claim7.holds Tryz.pinned (.plain (OpenSpec.upto dyadAddsSpec)) dyadAddsUptoCard

/-- THE SECOND FORM's CARD OF 'ogeelaw04.DyadOrder'. -/
def dyadOrderUptoCard : Claim7 := { stood := { row := dyadOrderUptoRow, standIns := [], harness := (true, "d8fcb0d8805d148efcba0ca88617d5d61575116e721bfa336e0f466fc2b987b6"), looks := false }, kinds := [], alts := [], laidByText := true, laidKinds := [.data, .data, .pinned], laidTests := true, laidLooks := .later }
def DyadOrderUptoCardSaid : Prop := Claim7.holds Tryz.pinned (.plain (OpenSpec.upto dyadOrderSpec)) dyadOrderUptoCard
end Rows
end Go.Proofs.YtgljgalcbbjfgaaGreatDoor
