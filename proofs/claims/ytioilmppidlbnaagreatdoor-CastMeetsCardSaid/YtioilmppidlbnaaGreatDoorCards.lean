/-
  DERIVED. GIVEN WITH THE SEED: THE CARDS: each row of YtioilmppidlbnaaGreatDoorRows.lean that lists a variable, with what it lists TIED to the program's text (the seventh form; the later family's looks); each row that meets fmt, with fmt's text TOLD by the authors' own Lean function (tested against real Go, not proved from fmt's source: count such statements apart). THE CARD IS WHAT COUNTS. Prove the row's statement (the work); the ties are given (YtioilmppidlbnaaGreatDoorTie.lean); close each card by the builder's one call (the guide's Derived/Test/ToyasCard.lean, 'card_holds'). Laid BY PROGRAM, IN A SANDBOX (cutbox-door.mjs). By AI agents, Wed Nov 11 2026. No macro, syntax, notation, axiom, sorry.
-/
import Derived.Test.YtioilmppidlbnaaGreatDoorRows
import GoSem.ClaimSeven
namespace Go.Proofs.YtioilmppidlbnaaGreatDoor
namespace Rows

/-- THE TIED CARD OF 'ogeelaw14.LiftMuls'. -/
def liftMulsCard : Claim7 := { stood := { row := liftMulsRow, standIns := [], harness := (true, "0b215af0b67f448459599e78ac8335c1e55d291f4b1ea5a16e79847ce8851b12"), looks := false }, kinds := [], alts := [], laidByText := true, laidKinds := [.data, .data, .pinned], laidTests := true, laidLooks := .later }
def LiftMulsCardSaid : Prop := Claim7.holds Tryz.pinned (.plain (OpenSpec.ofChange liftMulsSpec)) liftMulsCard

/-- THE TIED CARD OF 'ogeelaw14.LiftRaises'. -/
def liftRaisesCard : Claim7 := { stood := { row := liftRaisesRow, standIns := [], harness := (true, "0b215af0b67f448459599e78ac8335c1e55d291f4b1ea5a16e79847ce8851b12"), looks := false }, kinds := [], alts := [], laidByText := true, laidKinds := [.data, .data, .pinned], laidTests := true, laidLooks := .later }
def LiftRaisesCardSaid : Prop := Claim7.holds Tryz.pinned (.plain (OpenSpec.ofChange liftRaisesSpec)) liftRaisesCard

/-- THE TIED CARD OF 'ogeelaw14.LiftValues'. -/
def liftValuesCard : Claim7 := { stood := { row := liftValuesRow, standIns := [], harness := (true, "0b215af0b67f448459599e78ac8335c1e55d291f4b1ea5a16e79847ce8851b12"), looks := false }, kinds := [], alts := [], laidByText := true, laidKinds := [.data, .data, .pinned], laidTests := true, laidLooks := .later }
def LiftValuesCardSaid : Prop := Claim7.holds Tryz.pinned (.plain (OpenSpec.ofChange liftValuesSpec)) liftValuesCard

/-- THE TIED CARD OF 'ogeelaw14.LiftSame'. -/
def liftSameCard : Claim7 := { stood := { row := liftSameRow, standIns := [], harness := (true, "0b215af0b67f448459599e78ac8335c1e55d291f4b1ea5a16e79847ce8851b12"), looks := false }, kinds := [], alts := [], laidByText := true, laidKinds := [.data, .data, .pinned], laidTests := true, laidLooks := .later }
def LiftSameCardSaid : Prop := Claim7.holds Tryz.pinned (.plain (OpenSpec.ofChange liftSameSpec)) liftSameCard

/-- THE TIED CARD OF 'ogeelaw13.CastCuts'. -/
def castCutsCard : Claim7 := { stood := { row := castCutsRow, standIns := [], harness := (true, "0b215af0b67f448459599e78ac8335c1e55d291f4b1ea5a16e79847ce8851b12"), looks := false }, kinds := [], alts := [], laidByText := true, laidKinds := [.data, .data, .pinned], laidTests := true, laidLooks := .later }
def CastCutsCardSaid : Prop := Claim7.holds Tryz.pinned (.plain (OpenSpec.ofChange castCutsSpec)) castCutsCard

/-- THE TIED CARD OF 'ogeelaw13.CastParts'. -/
def castPartsCard : Claim7 := { stood := { row := castPartsRow, standIns := [], harness := (true, "0b215af0b67f448459599e78ac8335c1e55d291f4b1ea5a16e79847ce8851b12"), looks := false }, kinds := [], alts := [], laidByText := true, laidKinds := [.data, .data, .pinned], laidTests := true, laidLooks := .later }
def CastPartsCardSaid : Prop := Claim7.holds Tryz.pinned (.plain (OpenSpec.ofChange castPartsSpec)) castPartsCard

/-- THE TIED CARD OF 'ogeelaw13.CastOrder'. -/
def castOrderCard : Claim7 := { stood := { row := castOrderRow, standIns := [], harness := (true, "0b215af0b67f448459599e78ac8335c1e55d291f4b1ea5a16e79847ce8851b12"), looks := false }, kinds := [], alts := [], laidByText := true, laidKinds := [.data, .data, .pinned], laidTests := true, laidLooks := .later }
def CastOrderCardSaid : Prop := Claim7.holds Tryz.pinned (.plain (OpenSpec.ofChange castOrderSpec)) castOrderCard

/-- THE TIED CARD OF 'ogeelaw13.CastMeets'. -/
def castMeetsCard : Claim7 := { stood := { row := castMeetsRow, standIns := [], harness := (true, "0b215af0b67f448459599e78ac8335c1e55d291f4b1ea5a16e79847ce8851b12"), looks := false }, kinds := [], alts := [], laidByText := true, laidKinds := [.data, .data, .pinned], laidTests := true, laidLooks := .later }
def CastMeetsCardSaid : Prop := Claim7.holds Tryz.pinned (.plain (OpenSpec.ofChange castMeetsSpec)) castMeetsCard

/-- THE TIED CARD OF 'ogeelaw13.CastSame'. -/
def castSameCard : Claim7 := { stood := { row := castSameRow, standIns := [], harness := (true, "0b215af0b67f448459599e78ac8335c1e55d291f4b1ea5a16e79847ce8851b12"), looks := false }, kinds := [], alts := [], laidByText := true, laidKinds := [.data, .data, .pinned], laidTests := true, laidLooks := .later }
def CastSameCardSaid : Prop := Claim7.holds Tryz.pinned (.plain (OpenSpec.ofChange castSameSpec)) castSameCard

/-- THE SECOND FORM's CARD OF 'ogeelaw14.LiftMuls'. -/
def liftMulsUptoCard : Claim7 := { stood := { row := liftMulsUptoRow, standIns := [], harness := (true, "0b215af0b67f448459599e78ac8335c1e55d291f4b1ea5a16e79847ce8851b12"), looks := false }, kinds := [], alts := [], laidByText := true, laidKinds := [.data, .data, .pinned], laidTests := true, laidLooks := .later }
def LiftMulsUptoCardSaid : Prop := Claim7.holds Tryz.pinned (.plain (OpenSpec.upto liftMulsSpec)) liftMulsUptoCard

/-- THE SECOND FORM's CARD OF 'ogeelaw14.LiftRaises'. -/
def liftRaisesUptoCard : Claim7 := { stood := { row := liftRaisesUptoRow, standIns := [], harness := (true, "0b215af0b67f448459599e78ac8335c1e55d291f4b1ea5a16e79847ce8851b12"), looks := false }, kinds := [], alts := [], laidByText := true, laidKinds := [.data, .data, .pinned], laidTests := true, laidLooks := .later }
def LiftRaisesUptoCardSaid : Prop := Claim7.holds Tryz.pinned (.plain (OpenSpec.upto liftRaisesSpec)) liftRaisesUptoCard

/-- THE SECOND FORM's CARD OF 'ogeelaw14.LiftValues'. -/
def liftValuesUptoCard : Claim7 := { stood := { row := liftValuesUptoRow, standIns := [], harness := (true, "0b215af0b67f448459599e78ac8335c1e55d291f4b1ea5a16e79847ce8851b12"), looks := false }, kinds := [], alts := [], laidByText := true, laidKinds := [.data, .data, .pinned], laidTests := true, laidLooks := .later }
def LiftValuesUptoCardSaid : Prop := Claim7.holds Tryz.pinned (.plain (OpenSpec.upto liftValuesSpec)) liftValuesUptoCard

/-- THE SECOND FORM's CARD OF 'ogeelaw14.LiftSame'. -/
def liftSameUptoCard : Claim7 := { stood := { row := liftSameUptoRow, standIns := [], harness := (true, "0b215af0b67f448459599e78ac8335c1e55d291f4b1ea5a16e79847ce8851b12"), looks := false }, kinds := [], alts := [], laidByText := true, laidKinds := [.data, .data, .pinned], laidTests := true, laidLooks := .later }
def LiftSameUptoCardSaid : Prop := Claim7.holds Tryz.pinned (.plain (OpenSpec.upto liftSameSpec)) liftSameUptoCard

/-- THE SECOND FORM's CARD OF 'ogeelaw13.CastCuts'. -/
def castCutsUptoCard : Claim7 := { stood := { row := castCutsUptoRow, standIns := [], harness := (true, "0b215af0b67f448459599e78ac8335c1e55d291f4b1ea5a16e79847ce8851b12"), looks := false }, kinds := [], alts := [], laidByText := true, laidKinds := [.data, .data, .pinned], laidTests := true, laidLooks := .later }
def CastCutsUptoCardSaid : Prop := Claim7.holds Tryz.pinned (.plain (OpenSpec.upto castCutsSpec)) castCutsUptoCard

/-- THE SECOND FORM's CARD OF 'ogeelaw13.CastParts'. -/
def castPartsUptoCard : Claim7 := { stood := { row := castPartsUptoRow, standIns := [], harness := (true, "0b215af0b67f448459599e78ac8335c1e55d291f4b1ea5a16e79847ce8851b12"), looks := false }, kinds := [], alts := [], laidByText := true, laidKinds := [.data, .data, .pinned], laidTests := true, laidLooks := .later }
def CastPartsUptoCardSaid : Prop := Claim7.holds Tryz.pinned (.plain (OpenSpec.upto castPartsSpec)) castPartsUptoCard

/-- THE SECOND FORM's CARD OF 'ogeelaw13.CastOrder'. -/
def castOrderUptoCard : Claim7 := { stood := { row := castOrderUptoRow, standIns := [], harness := (true, "0b215af0b67f448459599e78ac8335c1e55d291f4b1ea5a16e79847ce8851b12"), looks := false }, kinds := [], alts := [], laidByText := true, laidKinds := [.data, .data, .pinned], laidTests := true, laidLooks := .later }
def CastOrderUptoCardSaid : Prop := Claim7.holds Tryz.pinned (.plain (OpenSpec.upto castOrderSpec)) castOrderUptoCard

/-- THE SECOND FORM's CARD OF 'ogeelaw13.CastMeets'. -/
def castMeetsUptoCard : Claim7 := { stood := { row := castMeetsUptoRow, standIns := [], harness := (true, "0b215af0b67f448459599e78ac8335c1e55d291f4b1ea5a16e79847ce8851b12"), looks := false }, kinds := [], alts := [], laidByText := true, laidKinds := [.data, .data, .pinned], laidTests := true, laidLooks := .later }
def CastMeetsUptoCardSaid : Prop := Claim7.holds Tryz.pinned (.plain (OpenSpec.upto castMeetsSpec)) castMeetsUptoCard

/-- THE SECOND FORM's CARD OF 'ogeelaw13.CastSame'. -/
def castSameUptoCard : Claim7 := { stood := { row := castSameUptoRow, standIns := [], harness := (true, "0b215af0b67f448459599e78ac8335c1e55d291f4b1ea5a16e79847ce8851b12"), looks := false }, kinds := [], alts := [], laidByText := true, laidKinds := [.data, .data, .pinned], laidTests := true, laidLooks := .later }
def CastSameUptoCardSaid : Prop := Claim7.holds Tryz.pinned (.plain (OpenSpec.upto castSameSpec)) castSameUptoCard
end Rows
end Go.Proofs.YtioilmppidlbnaaGreatDoor
