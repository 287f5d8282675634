/-
  DERIVED. GIVEN WITH THE SEED: THE CARDS: each row of YthmmofllajkejaaDoorRows.lean that lists a variable, with what it lists TIED to the program's text (the seventh form; the later family's looks); each row that meets fmt, with fmt's text TOLD by the authors' own Lean function (tested against real Go, not proved from fmt's source: count such statements apart). THE CARD IS WHAT COUNTS. Prove the row's statement (the work); the ties are given (YthmmofllajkejaaDoorTie.lean); close each card by the builder's one call (the guide's Derived/Test/ToyasCard.lean, 'card_holds'). Laid BY PROGRAM, IN A SANDBOX (cutbox-door.mjs). By AI agents, Wed Nov 11 2026. No macro, syntax, notation, axiom, sorry.
-/
import Derived.Test.YthmmofllajkejaaDoorRows
import GoSem.ClaimSeven
namespace Go.Proofs.YthmmofllajkejaaDoor
namespace Rows

/-- THE TIED CARD OF 'ogeelaw19.HeapNobody'. -/
def heapNobodyCard : Claim7 := { stood := { row := heapNobodyRow, standIns := [], harness := (true, "3a08d3b8b4f39a17dbf14c3f4f1056d896f6375d0205346bbcb416e1c755d6ab"), looks := false }, kinds := [], alts := [], laidByText := true, laidKinds := [.data, .data, .pinned], laidTests := true, laidLooks := .later }
def HeapNobodyCardSaid : Prop := Claim7.holds Tryd.pinned (.plain (OpenSpec.ofChange heapNobodySpec)) heapNobodyCard

/-- THE TIED CARD OF 'ogeelaw19.HeapSorts'. -/
def heapSortsCard : Claim7 := { stood := { row := heapSortsRow, standIns := [], harness := (true, "3a08d3b8b4f39a17dbf14c3f4f1056d896f6375d0205346bbcb416e1c755d6ab"), looks := false }, kinds := [], alts := [], laidByText := true, laidKinds := [.data, .data, .pinned], laidTests := true, laidLooks := .later }
def HeapSortsCardSaid : Prop := Claim7.holds Tryd.pinned (.plain (OpenSpec.ofChange heapSortsSpec)) heapSortsCard

/-- THE TIED CARD OF 'ogeelaw19.HeapBetween'. -/
def heapBetweenCard : Claim7 := { stood := { row := heapBetweenRow, standIns := [], harness := (true, "3a08d3b8b4f39a17dbf14c3f4f1056d896f6375d0205346bbcb416e1c755d6ab"), looks := false }, kinds := [], alts := [], laidByText := true, laidKinds := [.data, .data, .pinned], laidTests := true, laidLooks := .later }
def HeapBetweenCardSaid : Prop := Claim7.holds Tryd.pinned (.plain (OpenSpec.ofChange heapBetweenSpec)) heapBetweenCard

/-- THE SECOND FORM's CARD OF 'ogeelaw19.HeapNobody'. -/
def heapNobodyUptoCard : Claim7 := { stood := { row := heapNobodyUptoRow, standIns := [], harness := (true, "3a08d3b8b4f39a17dbf14c3f4f1056d896f6375d0205346bbcb416e1c755d6ab"), looks := false }, kinds := [], alts := [], laidByText := true, laidKinds := [.data, .data, .pinned], laidTests := true, laidLooks := .later }
def HeapNobodyUptoCardSaid : Prop := Claim7.holds Tryd.pinned (.plain (OpenSpec.upto heapNobodySpec)) heapNobodyUptoCard

/-- THE SECOND FORM's CARD OF 'ogeelaw19.HeapSorts'. -/
def heapSortsUptoCard : Claim7 := { stood := { row := heapSortsUptoRow, standIns := [], harness := (true, "3a08d3b8b4f39a17dbf14c3f4f1056d896f6375d0205346bbcb416e1c755d6ab"), looks := false }, kinds := [], alts := [], laidByText := true, laidKinds := [.data, .data, .pinned], laidTests := true, laidLooks := .later }
def HeapSortsUptoCardSaid : Prop := Claim7.holds Tryd.pinned (.plain (OpenSpec.upto heapSortsSpec)) heapSortsUptoCard

/-- THE SECOND FORM's CARD OF 'ogeelaw19.HeapBetween'. -/
def heapBetweenUptoCard : Claim7 := { stood := { row := heapBetweenUptoRow, standIns := [], harness := (true, "3a08d3b8b4f39a17dbf14c3f4f1056d896f6375d0205346bbcb416e1c755d6ab"), looks := false }, kinds := [], alts := [], laidByText := true, laidKinds := [.data, .data, .pinned], laidTests := true, laidLooks := .later }
def HeapBetweenUptoCardSaid : Prop := Claim7.holds Tryd.pinned (.plain (OpenSpec.upto heapBetweenSpec)) heapBetweenUptoCard
end Rows
end Go.Proofs.YthmmofllajkejaaDoor
