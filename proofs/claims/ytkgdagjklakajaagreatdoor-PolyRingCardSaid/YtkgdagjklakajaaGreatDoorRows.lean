/-
  NARROWER THAN 'FOR EVERY INPUT', by the rows' own cells (each row's printed sentence says how): PolyMakes: laid · PolyMuls: laid · PolyRing: laid · PolyForm: laid · CalcEvals: laid · CalcSubsts: laid · CalcSlopes: laid · BernOf: laid · BernBacks: laid · BernSums: laid · BernBack: laid · BernParts: laid.
  DERIVED. THE GIVEN ROWS OF THIS SEAT. 12 by the template 'for every input the law returns true; each argument reads behind the call as it read before'; 0 by the template 'total and deterministic' (their statements: YtkgdagjklakajaaGreatDoorTotals.lean).
  GIVEN WITH THE SEED: the statements are not yours to turn. If you find one false, say at which input.
  Laid BY PROGRAM, IN A SANDBOX (cutbox-rows.mjs): the forced cells as the released guide's own fill.sh prints them over the translation b008bf130bdd98a4… (all of the seat's roots in one cut). By AI agents, Wed Nov 11 2026. No macro, syntax, notation, axiom, sorry.
-/
import Derived.Test.YtkgdagjklakajaaGreatDoorChecked
import GoSem.PinnedTables
import GoSem.Claim
import GoSem.ClaimJoined
import GoSem.ClaimMapViews
import Derived.JoinedTies
import Derived.KernelRfl
namespace Go.Proofs.YtkgdagjklakajaaGreatDoor
/- THE CELL 'sum', in the pinned program and in every row, IS THE sha256 OF THE DUMP (.gsa) THAT YtkgdagjklakajaaGreatDoorProg.lean LOADS. Nothing in Lean hashes anything: it is a label: what it is worth is what the hold of that sum in a sandbox is worth. -/
noncomputable def Tryz.pinned : Pinned := { name := "ytkgdagjklakajaagreatdoor", sum := "b008bf130bdd98a487b9b557773c594bc17424677efee95dc9f8e1a1c0751ed1", checked := Tryz.checked }
namespace Rows
def none {H : Type} : Left H := { results := [], args := [] }

/- WHAT THE LISTED PACKAGE-LEVEL VARIABLES READ AS WHEN THE CALL BEGINS. Each datum BY PROGRAM (the guide's laid-datum.mjs) off the statement by which the dump's own 'gosem.cut.vars' lays the variable. In a bare row this is a premise. The card (YtkgdagjklakajaaGreatDoorCards.lean) ties it to the program's text. -/
def laid_math_bits_deBruijn64tab {H : Type} : DataW H := .agg [.lit (.int .u8 0), .lit (.int .u8 1), .lit (.int .u8 56), .lit (.int .u8 2), .lit (.int .u8 57), .lit (.int .u8 49), .lit (.int .u8 28), .lit (.int .u8 3), .lit (.int .u8 61), .lit (.int .u8 58), .lit (.int .u8 42), .lit (.int .u8 50), .lit (.int .u8 38), .lit (.int .u8 29), .lit (.int .u8 17), .lit (.int .u8 4), .lit (.int .u8 62), .lit (.int .u8 47), .lit (.int .u8 59), .lit (.int .u8 36), .lit (.int .u8 45), .lit (.int .u8 43), .lit (.int .u8 51), .lit (.int .u8 22), .lit (.int .u8 53), .lit (.int .u8 39), .lit (.int .u8 33), .lit (.int .u8 30), .lit (.int .u8 24), .lit (.int .u8 18), .lit (.int .u8 12), .lit (.int .u8 5), .lit (.int .u8 63), .lit (.int .u8 55), .lit (.int .u8 48), .lit (.int .u8 27), .lit (.int .u8 60), .lit (.int .u8 41), .lit (.int .u8 37), .lit (.int .u8 16), .lit (.int .u8 46), .lit (.int .u8 35), .lit (.int .u8 44), .lit (.int .u8 21), .lit (.int .u8 52), .lit (.int .u8 32), .lit (.int .u8 23), .lit (.int .u8 11), .lit (.int .u8 54), .lit (.int .u8 26), .lit (.int .u8 40), .lit (.int .u8 15), .lit (.int .u8 34), .lit (.int .u8 20), .lit (.int .u8 31), .lit (.int .u8 10), .lit (.int .u8 25), .lit (.int .u8 14), .lit (.int .u8 19), .lit (.int .u8 9), .lit (.int .u8 13), .lit (.int .u8 8), .lit (.int .u8 7), .lit (.int .u8 6)]
def laid_unicode_utf8_acceptRanges {H : Type} : DataW H := .agg [.agg [.lit (.int .u8 128), .lit (.int .u8 191)], .agg [.lit (.int .u8 160), .lit (.int .u8 191)], .agg [.lit (.int .u8 128), .lit (.int .u8 159)], .agg [.lit (.int .u8 144), .lit (.int .u8 191)], .agg [.lit (.int .u8 128), .lit (.int .u8 143)], .agg [.lit (.int .u8 0), .lit (.int .u8 0)], .agg [.lit (.int .u8 0), .lit (.int .u8 0)], .agg [.lit (.int .u8 0), .lit (.int .u8 0)], .agg [.lit (.int .u8 0), .lit (.int .u8 0)], .agg [.lit (.int .u8 0), .lit (.int .u8 0)], .agg [.lit (.int .u8 0), .lit (.int .u8 0)], .agg [.lit (.int .u8 0), .lit (.int .u8 0)], .agg [.lit (.int .u8 0), .lit (.int .u8 0)], .agg [.lit (.int .u8 0), .lit (.int .u8 0)], .agg [.lit (.int .u8 0), .lit (.int .u8 0)], .agg [.lit (.int .u8 0), .lit (.int .u8 0)]]
/-- One of Go's own tables, pinned by name: the form's constant. -/
def laid_unicode_utf8_first : DataW Unit := Go.Pinned.utf8First

/-- 'ogeelaw08.PolyMakes': WHATEVER THE INPUT: true; the input reads as it did. -/
def polyMakesSpec : ChangeSpec := { name := "polyMakes", fn := fun _ => fun
  | [d1, d2, d3, d4] => { results := [.lit (.bool true)], args := [d1, d2, d3, d4] }
  | _ => none }
def polyMakesRow : OpenClaim := { program := "ytkgdagjklakajaagreatdoor", sum := "b008bf130bdd98a487b9b557773c594bc17424677efee95dc9f8e1a1c0751ed1", func := "ogee/ogeelaw08.PolyMakes", spec := "polyMakes", inPlace := ["internal/bytealg.IndexByteString", "internal/bytealg.IndexString", "math/bits.Add64", "math/bits.Sub64"], unfollowed := true, recurses := true, named := ["unicode/utf8.first", "unicode/utf8.acceptRanges", "math/bits.deBruijn64tab", "internal/bytealg.MaxLen"], apart := false, laid := [("math/bits.deBruijn64tab", laid_math_bits_deBruijn64tab), ("unicode/utf8.acceptRanges", laid_unicode_utf8_acceptRanges), ("unicode/utf8.first", laid_unicode_utf8_first)] }
def PolyMakesSaid : Prop := polyMakesRow.holds Tryz.pinned (OpenSpec.ofChange polyMakesSpec)

/-- ITS FALSE NEIGHBOUR: 'it returns false'. Refute it at one input. -/
def polyMakesWrong : ChangeSpec := { name := "polyMakes", fn := fun _ => fun
  | [d1, d2, d3, d4] => { results := [.lit (.bool false)], args := [d1, d2, d3, d4] }
  | _ => none }
def PolyMakesWrongFalsely : Prop := polyMakesRow.holds Tryz.pinned (OpenSpec.ofChange polyMakesWrong)

/-- 'ogeelaw08.PolyMuls': WHATEVER THE INPUT: true; the input reads as it did. -/
def polyMulsSpec : ChangeSpec := { name := "polyMuls", fn := fun _ => fun
  | [d1, d2] => { results := [.lit (.bool true)], args := [d1, d2] }
  | _ => none }
def polyMulsRow : OpenClaim := { program := "ytkgdagjklakajaagreatdoor", sum := "b008bf130bdd98a487b9b557773c594bc17424677efee95dc9f8e1a1c0751ed1", func := "ogee/ogeelaw08.PolyMuls", spec := "polyMuls", inPlace := ["internal/bytealg.IndexByteString", "internal/bytealg.IndexString", "math/bits.Add64", "math/bits.Sub64"], unfollowed := true, recurses := true, named := ["unicode/utf8.first", "unicode/utf8.acceptRanges", "math/bits.deBruijn64tab", "internal/bytealg.MaxLen"], apart := false, laid := [("math/bits.deBruijn64tab", laid_math_bits_deBruijn64tab), ("unicode/utf8.acceptRanges", laid_unicode_utf8_acceptRanges), ("unicode/utf8.first", laid_unicode_utf8_first)] }
def PolyMulsSaid : Prop := polyMulsRow.holds Tryz.pinned (OpenSpec.ofChange polyMulsSpec)

/-- ITS FALSE NEIGHBOUR: 'it returns false'. Refute it at one input. -/
def polyMulsWrong : ChangeSpec := { name := "polyMuls", fn := fun _ => fun
  | [d1, d2] => { results := [.lit (.bool false)], args := [d1, d2] }
  | _ => none }
def PolyMulsWrongFalsely : Prop := polyMulsRow.holds Tryz.pinned (OpenSpec.ofChange polyMulsWrong)

/-- 'ogeelaw08.PolyRing': WHATEVER THE INPUT: true; the input reads as it did. -/
def polyRingSpec : ChangeSpec := { name := "polyRing", fn := fun _ => fun
  | [d1, d2, d3] => { results := [.lit (.bool true)], args := [d1, d2, d3] }
  | _ => none }
def polyRingRow : OpenClaim := { program := "ytkgdagjklakajaagreatdoor", sum := "b008bf130bdd98a487b9b557773c594bc17424677efee95dc9f8e1a1c0751ed1", func := "ogee/ogeelaw08.PolyRing", spec := "polyRing", inPlace := ["internal/bytealg.IndexByteString", "internal/bytealg.IndexString", "math/bits.Add64", "math/bits.Sub64"], unfollowed := true, recurses := true, named := ["unicode/utf8.first", "unicode/utf8.acceptRanges", "math/bits.deBruijn64tab", "internal/bytealg.MaxLen"], apart := false, laid := [("math/bits.deBruijn64tab", laid_math_bits_deBruijn64tab), ("unicode/utf8.acceptRanges", laid_unicode_utf8_acceptRanges), ("unicode/utf8.first", laid_unicode_utf8_first)] }
def PolyRingSaid : Prop := polyRingRow.holds Tryz.pinned (OpenSpec.ofChange polyRingSpec)

/-- ITS FALSE NEIGHBOUR: 'it returns false'. Refute it at one input. -/
def polyRingWrong : ChangeSpec := { name := "polyRing", fn := fun _ => fun
  | [d1, d2, d3] => { results := [.lit (.bool false)], args := [d1, d2, d3] }
  | _ => none }
def PolyRingWrongFalsely : Prop := polyRingRow.holds Tryz.pinned (OpenSpec.ofChange polyRingWrong)

/-- 'ogeelaw08.PolyForm': WHATEVER THE INPUT: true; the input reads as it did. -/
def polyFormSpec : ChangeSpec := { name := "polyForm", fn := fun _ => fun
  | [d1, d2, d3, d4] => { results := [.lit (.bool true)], args := [d1, d2, d3, d4] }
  | _ => none }
def polyFormRow : OpenClaim := { program := "ytkgdagjklakajaagreatdoor", sum := "b008bf130bdd98a487b9b557773c594bc17424677efee95dc9f8e1a1c0751ed1", func := "ogee/ogeelaw08.PolyForm", spec := "polyForm", inPlace := ["internal/bytealg.IndexByteString", "internal/bytealg.IndexString", "math/bits.Add64", "math/bits.Sub64"], unfollowed := true, recurses := true, named := ["unicode/utf8.first", "unicode/utf8.acceptRanges", "math/bits.deBruijn64tab", "internal/bytealg.MaxLen"], apart := false, laid := [("math/bits.deBruijn64tab", laid_math_bits_deBruijn64tab), ("unicode/utf8.acceptRanges", laid_unicode_utf8_acceptRanges), ("unicode/utf8.first", laid_unicode_utf8_first)] }
def PolyFormSaid : Prop := polyFormRow.holds Tryz.pinned (OpenSpec.ofChange polyFormSpec)

/-- ITS FALSE NEIGHBOUR: 'it returns false'. Refute it at one input. -/
def polyFormWrong : ChangeSpec := { name := "polyForm", fn := fun _ => fun
  | [d1, d2, d3, d4] => { results := [.lit (.bool false)], args := [d1, d2, d3, d4] }
  | _ => none }
def PolyFormWrongFalsely : Prop := polyFormRow.holds Tryz.pinned (OpenSpec.ofChange polyFormWrong)

/-- 'ogeelaw09.CalcEvals': WHATEVER THE INPUT: true; the input reads as it did. -/
def calcEvalsSpec : ChangeSpec := { name := "calcEvals", fn := fun _ => fun
  | [d1, d2, d3, d4] => { results := [.lit (.bool true)], args := [d1, d2, d3, d4] }
  | _ => none }
def calcEvalsRow : OpenClaim := { program := "ytkgdagjklakajaagreatdoor", sum := "b008bf130bdd98a487b9b557773c594bc17424677efee95dc9f8e1a1c0751ed1", func := "ogee/ogeelaw09.CalcEvals", spec := "calcEvals", inPlace := ["internal/bytealg.IndexByteString", "internal/bytealg.IndexString", "math/bits.Add64", "math/bits.Sub64"], unfollowed := true, recurses := true, named := ["unicode/utf8.first", "unicode/utf8.acceptRanges", "math/bits.deBruijn64tab", "internal/bytealg.MaxLen"], apart := false, laid := [("math/bits.deBruijn64tab", laid_math_bits_deBruijn64tab), ("unicode/utf8.acceptRanges", laid_unicode_utf8_acceptRanges), ("unicode/utf8.first", laid_unicode_utf8_first)] }
def CalcEvalsSaid : Prop := calcEvalsRow.holds Tryz.pinned (OpenSpec.ofChange calcEvalsSpec)

/-- ITS FALSE NEIGHBOUR: 'it returns false'. Refute it at one input. -/
def calcEvalsWrong : ChangeSpec := { name := "calcEvals", fn := fun _ => fun
  | [d1, d2, d3, d4] => { results := [.lit (.bool false)], args := [d1, d2, d3, d4] }
  | _ => none }
def CalcEvalsWrongFalsely : Prop := calcEvalsRow.holds Tryz.pinned (OpenSpec.ofChange calcEvalsWrong)

/-- 'ogeelaw09.CalcSubsts': WHATEVER THE INPUT: true; the input reads as it did. -/
def calcSubstsSpec : ChangeSpec := { name := "calcSubsts", fn := fun _ => fun
  | [d1, d2] => { results := [.lit (.bool true)], args := [d1, d2] }
  | _ => none }
def calcSubstsRow : OpenClaim := { program := "ytkgdagjklakajaagreatdoor", sum := "b008bf130bdd98a487b9b557773c594bc17424677efee95dc9f8e1a1c0751ed1", func := "ogee/ogeelaw09.CalcSubsts", spec := "calcSubsts", inPlace := ["internal/bytealg.IndexByteString", "internal/bytealg.IndexString", "math/bits.Add64", "math/bits.Sub64"], unfollowed := true, recurses := true, named := ["unicode/utf8.first", "unicode/utf8.acceptRanges", "math/bits.deBruijn64tab", "internal/bytealg.MaxLen"], apart := false, laid := [("math/bits.deBruijn64tab", laid_math_bits_deBruijn64tab), ("unicode/utf8.acceptRanges", laid_unicode_utf8_acceptRanges), ("unicode/utf8.first", laid_unicode_utf8_first)] }
def CalcSubstsSaid : Prop := calcSubstsRow.holds Tryz.pinned (OpenSpec.ofChange calcSubstsSpec)

/-- ITS FALSE NEIGHBOUR: 'it returns false'. Refute it at one input. -/
def calcSubstsWrong : ChangeSpec := { name := "calcSubsts", fn := fun _ => fun
  | [d1, d2] => { results := [.lit (.bool false)], args := [d1, d2] }
  | _ => none }
def CalcSubstsWrongFalsely : Prop := calcSubstsRow.holds Tryz.pinned (OpenSpec.ofChange calcSubstsWrong)

/-- 'ogeelaw09.CalcSlopes': WHATEVER THE INPUT: true; the input reads as it did. -/
def calcSlopesSpec : ChangeSpec := { name := "calcSlopes", fn := fun _ => fun
  | [d1, d2, d3, d4] => { results := [.lit (.bool true)], args := [d1, d2, d3, d4] }
  | _ => none }
def calcSlopesRow : OpenClaim := { program := "ytkgdagjklakajaagreatdoor", sum := "b008bf130bdd98a487b9b557773c594bc17424677efee95dc9f8e1a1c0751ed1", func := "ogee/ogeelaw09.CalcSlopes", spec := "calcSlopes", inPlace := ["internal/bytealg.IndexByteString", "internal/bytealg.IndexString", "math/bits.Add64", "math/bits.Sub64"], unfollowed := true, recurses := true, named := ["unicode/utf8.first", "unicode/utf8.acceptRanges", "math/bits.deBruijn64tab", "internal/bytealg.MaxLen"], apart := false, laid := [("math/bits.deBruijn64tab", laid_math_bits_deBruijn64tab), ("unicode/utf8.acceptRanges", laid_unicode_utf8_acceptRanges), ("unicode/utf8.first", laid_unicode_utf8_first)] }
def CalcSlopesSaid : Prop := calcSlopesRow.holds Tryz.pinned (OpenSpec.ofChange calcSlopesSpec)

/-- ITS FALSE NEIGHBOUR: 'it returns false'. Refute it at one input. -/
def calcSlopesWrong : ChangeSpec := { name := "calcSlopes", fn := fun _ => fun
  | [d1, d2, d3, d4] => { results := [.lit (.bool false)], args := [d1, d2, d3, d4] }
  | _ => none }
def CalcSlopesWrongFalsely : Prop := calcSlopesRow.holds Tryz.pinned (OpenSpec.ofChange calcSlopesWrong)

/-- 'ogeelaw12.BernOf': WHATEVER THE INPUT: true; the input reads as it did. -/
def bernOfSpec : ChangeSpec := { name := "bernOf", fn := fun _ => fun
  | [d1, d2, d3] => { results := [.lit (.bool true)], args := [d1, d2, d3] }
  | _ => none }
def bernOfRow : OpenClaim := { program := "ytkgdagjklakajaagreatdoor", sum := "b008bf130bdd98a487b9b557773c594bc17424677efee95dc9f8e1a1c0751ed1", func := "ogee/ogeelaw12.BernOf", spec := "bernOf", inPlace := ["internal/bytealg.IndexByteString", "internal/bytealg.IndexString", "math/bits.Add64", "math/bits.Sub64"], unfollowed := true, recurses := true, named := ["unicode/utf8.first", "unicode/utf8.acceptRanges", "math/bits.deBruijn64tab", "internal/bytealg.MaxLen"], apart := false, laid := [("math/bits.deBruijn64tab", laid_math_bits_deBruijn64tab), ("unicode/utf8.acceptRanges", laid_unicode_utf8_acceptRanges), ("unicode/utf8.first", laid_unicode_utf8_first)] }
def BernOfSaid : Prop := bernOfRow.holds Tryz.pinned (OpenSpec.ofChange bernOfSpec)

/-- ITS FALSE NEIGHBOUR: 'it returns false'. Refute it at one input. -/
def bernOfWrong : ChangeSpec := { name := "bernOf", fn := fun _ => fun
  | [d1, d2, d3] => { results := [.lit (.bool false)], args := [d1, d2, d3] }
  | _ => none }
def BernOfWrongFalsely : Prop := bernOfRow.holds Tryz.pinned (OpenSpec.ofChange bernOfWrong)

/-- 'ogeelaw12.BernBacks': WHATEVER THE INPUT: true; the input reads as it did. -/
def bernBacksSpec : ChangeSpec := { name := "bernBacks", fn := fun _ => fun
  | [d1, d2, d3] => { results := [.lit (.bool true)], args := [d1, d2, d3] }
  | _ => none }
def bernBacksRow : OpenClaim := { program := "ytkgdagjklakajaagreatdoor", sum := "b008bf130bdd98a487b9b557773c594bc17424677efee95dc9f8e1a1c0751ed1", func := "ogee/ogeelaw12.BernBacks", spec := "bernBacks", inPlace := ["internal/bytealg.IndexByteString", "internal/bytealg.IndexString", "math/bits.Add64", "math/bits.Sub64"], unfollowed := true, recurses := true, named := ["unicode/utf8.first", "unicode/utf8.acceptRanges", "math/bits.deBruijn64tab", "internal/bytealg.MaxLen"], apart := false, laid := [("math/bits.deBruijn64tab", laid_math_bits_deBruijn64tab), ("unicode/utf8.acceptRanges", laid_unicode_utf8_acceptRanges), ("unicode/utf8.first", laid_unicode_utf8_first)] }
def BernBacksSaid : Prop := bernBacksRow.holds Tryz.pinned (OpenSpec.ofChange bernBacksSpec)

/-- ITS FALSE NEIGHBOUR: 'it returns false'. Refute it at one input. -/
def bernBacksWrong : ChangeSpec := { name := "bernBacks", fn := fun _ => fun
  | [d1, d2, d3] => { results := [.lit (.bool false)], args := [d1, d2, d3] }
  | _ => none }
def BernBacksWrongFalsely : Prop := bernBacksRow.holds Tryz.pinned (OpenSpec.ofChange bernBacksWrong)

/-- 'ogeelaw12.BernSums': WHATEVER THE INPUT: true; the input reads as it did. -/
def bernSumsSpec : ChangeSpec := { name := "bernSums", fn := fun _ => fun
  | [d1, d2, d3, d4, d5] => { results := [.lit (.bool true)], args := [d1, d2, d3, d4, d5] }
  | _ => none }
def bernSumsRow : OpenClaim := { program := "ytkgdagjklakajaagreatdoor", sum := "b008bf130bdd98a487b9b557773c594bc17424677efee95dc9f8e1a1c0751ed1", func := "ogee/ogeelaw12.BernSums", spec := "bernSums", inPlace := ["internal/bytealg.IndexByteString", "internal/bytealg.IndexString", "math/bits.Add64", "math/bits.Sub64"], unfollowed := true, recurses := true, named := ["unicode/utf8.first", "unicode/utf8.acceptRanges", "math/bits.deBruijn64tab", "internal/bytealg.MaxLen"], apart := false, laid := [("math/bits.deBruijn64tab", laid_math_bits_deBruijn64tab), ("unicode/utf8.acceptRanges", laid_unicode_utf8_acceptRanges), ("unicode/utf8.first", laid_unicode_utf8_first)] }
def BernSumsSaid : Prop := bernSumsRow.holds Tryz.pinned (OpenSpec.ofChange bernSumsSpec)

/-- ITS FALSE NEIGHBOUR: 'it returns false'. Refute it at one input. -/
def bernSumsWrong : ChangeSpec := { name := "bernSums", fn := fun _ => fun
  | [d1, d2, d3, d4, d5] => { results := [.lit (.bool false)], args := [d1, d2, d3, d4, d5] }
  | _ => none }
def BernSumsWrongFalsely : Prop := bernSumsRow.holds Tryz.pinned (OpenSpec.ofChange bernSumsWrong)

/-- 'ogeelaw12.BernBack': WHATEVER THE INPUT: true; the input reads as it did. -/
def bernBackSpec : ChangeSpec := { name := "bernBack", fn := fun _ => fun
  | [d1, d2] => { results := [.lit (.bool true)], args := [d1, d2] }
  | _ => none }
def bernBackRow : OpenClaim := { program := "ytkgdagjklakajaagreatdoor", sum := "b008bf130bdd98a487b9b557773c594bc17424677efee95dc9f8e1a1c0751ed1", func := "ogee/ogeelaw12.BernBack", spec := "bernBack", inPlace := ["internal/bytealg.IndexByteString", "internal/bytealg.IndexString", "math/bits.Add64", "math/bits.Sub64"], unfollowed := true, recurses := true, named := ["unicode/utf8.first", "unicode/utf8.acceptRanges", "math/bits.deBruijn64tab", "internal/bytealg.MaxLen"], apart := false, laid := [("math/bits.deBruijn64tab", laid_math_bits_deBruijn64tab), ("unicode/utf8.acceptRanges", laid_unicode_utf8_acceptRanges), ("unicode/utf8.first", laid_unicode_utf8_first)] }
def BernBackSaid : Prop := bernBackRow.holds Tryz.pinned (OpenSpec.ofChange bernBackSpec)

/-- ITS FALSE NEIGHBOUR: 'it returns false'. Refute it at one input. -/
def bernBackWrong : ChangeSpec := { name := "bernBack", fn := fun _ => fun
  | [d1, d2] => { results := [.lit (.bool false)], args := [d1, d2] }
  | _ => none }
def BernBackWrongFalsely : Prop := bernBackRow.holds Tryz.pinned (OpenSpec.ofChange bernBackWrong)

/-- 'ogeelaw12.BernParts': WHATEVER THE INPUT: true; the input reads as it did. -/
def bernPartsSpec : ChangeSpec := { name := "bernParts", fn := fun _ => fun
  | [d1, d2, d3, d4] => { results := [.lit (.bool true)], args := [d1, d2, d3, d4] }
  | _ => none }
def bernPartsRow : OpenClaim := { program := "ytkgdagjklakajaagreatdoor", sum := "b008bf130bdd98a487b9b557773c594bc17424677efee95dc9f8e1a1c0751ed1", func := "ogee/ogeelaw12.BernParts", spec := "bernParts", inPlace := ["internal/bytealg.IndexByteString", "internal/bytealg.IndexString", "math/bits.Add64", "math/bits.Sub64"], unfollowed := true, recurses := true, named := ["unicode/utf8.first", "unicode/utf8.acceptRanges", "math/bits.deBruijn64tab", "internal/bytealg.MaxLen"], apart := false, laid := [("math/bits.deBruijn64tab", laid_math_bits_deBruijn64tab), ("unicode/utf8.acceptRanges", laid_unicode_utf8_acceptRanges), ("unicode/utf8.first", laid_unicode_utf8_first)] }
def BernPartsSaid : Prop := bernPartsRow.holds Tryz.pinned (OpenSpec.ofChange bernPartsSpec)

/-- ITS FALSE NEIGHBOUR: 'it returns false'. Refute it at one input. -/
def bernPartsWrong : ChangeSpec := { name := "bernParts", fn := fun _ => fun
  | [d1, d2, d3, d4] => { results := [.lit (.bool false)], args := [d1, d2, d3, d4] }
  | _ => none }
def BernPartsWrongFalsely : Prop := bernPartsRow.holds Tryz.pinned (OpenSpec.ofChange bernPartsWrong)

/- THE SECOND FORM. 'bulk': how many values and letters a reading holds, each counted each time it is reached (what is shared counts as often as it is met; a slice's spare places count too). A statement '..UptoSaid' is the law's where the arguments, and the package variables that the reading takes, are together of bulk at most 1048576: NARROWER than '..Said'. Prove '..Said' where nothing that the law and all that it calls make is longer than what came in: it says more and counts as full. Else prove '..UptoSaid'. A law counts once. -/
mutual
def uptoBulk {H : Type} : DataW H → Nat
  | .lit (.string bytes) => bytes.length + 1
  | .lit _ => 1
  | .nil => 1
  | .ptr d => uptoBulk d + 1
  | .slice elems spare => uptoBulkAll elems + uptoBulkAll spare + 1
  | .agg parts => uptoBulkAll parts + 1
  | .iface _ d => uptoBulk d + 1
  | .map entries => uptoBulkEntries entries + 1
  | .held _ => 1
def uptoBulkAll {H : Type} : List (DataW H) → Nat
  | [] => 0
  | d :: r => uptoBulk d + uptoBulkAll r
def uptoBulkEntries {H : Type} : List (Lit × DataW H) → Nat
  | [] => 0
  | x :: r => uptoBulkEntry x + uptoBulkEntries r
def uptoBulkEntry {H : Type} : Lit × DataW H → Nat
  | (.string bytes, d) => bytes.length + uptoBulk d + 1
  | (_, d) => uptoBulk d + 1
 end
def uptoSmall : (H : Type) → List (DataW H) → Bool := fun _ ds => decide (uptoBulkAll ds ≤ 1048576)
def OpenSpec.upto (s : _root_.Go.ChangeSpec) : _root_.Go.OpenSpec := { _root_.Go.OpenSpec.ofChange s with cond := some uptoSmall }

/-- 'ogeelaw08.PolyMakes', WHERE WHAT IT READS IS OF BULK AT MOST 1048576: true; the input reads as it did. -/
def polyMakesUptoRow : OpenClaim := { program := "ytkgdagjklakajaagreatdoor", sum := "b008bf130bdd98a487b9b557773c594bc17424677efee95dc9f8e1a1c0751ed1", func := "ogee/ogeelaw08.PolyMakes", spec := "polyMakes", inPlace := ["internal/bytealg.IndexByteString", "internal/bytealg.IndexString", "math/bits.Add64", "math/bits.Sub64"], unfollowed := true, recurses := true, named := ["unicode/utf8.first", "unicode/utf8.acceptRanges", "math/bits.deBruijn64tab", "internal/bytealg.MaxLen"], apart := false, laid := [("math/bits.deBruijn64tab", laid_math_bits_deBruijn64tab), ("unicode/utf8.acceptRanges", laid_unicode_utf8_acceptRanges), ("unicode/utf8.first", laid_unicode_utf8_first)], narrowed := true }
def PolyMakesUptoSaid : Prop := polyMakesUptoRow.holds Tryz.pinned (OpenSpec.upto polyMakesSpec)

/-- 'ogeelaw08.PolyMuls', WHERE WHAT IT READS IS OF BULK AT MOST 1048576: true; the input reads as it did. -/
def polyMulsUptoRow : OpenClaim := { program := "ytkgdagjklakajaagreatdoor", sum := "b008bf130bdd98a487b9b557773c594bc17424677efee95dc9f8e1a1c0751ed1", func := "ogee/ogeelaw08.PolyMuls", spec := "polyMuls", inPlace := ["internal/bytealg.IndexByteString", "internal/bytealg.IndexString", "math/bits.Add64", "math/bits.Sub64"], unfollowed := true, recurses := true, named := ["unicode/utf8.first", "unicode/utf8.acceptRanges", "math/bits.deBruijn64tab", "internal/bytealg.MaxLen"], apart := false, laid := [("math/bits.deBruijn64tab", laid_math_bits_deBruijn64tab), ("unicode/utf8.acceptRanges", laid_unicode_utf8_acceptRanges), ("unicode/utf8.first", laid_unicode_utf8_first)], narrowed := true }
def PolyMulsUptoSaid : Prop := polyMulsUptoRow.holds Tryz.pinned (OpenSpec.upto polyMulsSpec)

/-- 'ogeelaw08.PolyRing', WHERE WHAT IT READS IS OF BULK AT MOST 1048576: true; the input reads as it did. -/
def polyRingUptoRow : OpenClaim := { program := "ytkgdagjklakajaagreatdoor", sum := "b008bf130bdd98a487b9b557773c594bc17424677efee95dc9f8e1a1c0751ed1", func := "ogee/ogeelaw08.PolyRing", spec := "polyRing", inPlace := ["internal/bytealg.IndexByteString", "internal/bytealg.IndexString", "math/bits.Add64", "math/bits.Sub64"], unfollowed := true, recurses := true, named := ["unicode/utf8.first", "unicode/utf8.acceptRanges", "math/bits.deBruijn64tab", "internal/bytealg.MaxLen"], apart := false, laid := [("math/bits.deBruijn64tab", laid_math_bits_deBruijn64tab), ("unicode/utf8.acceptRanges", laid_unicode_utf8_acceptRanges), ("unicode/utf8.first", laid_unicode_utf8_first)], narrowed := true }
def PolyRingUptoSaid : Prop := polyRingUptoRow.holds Tryz.pinned (OpenSpec.upto polyRingSpec)

/-- 'ogeelaw08.PolyForm', WHERE WHAT IT READS IS OF BULK AT MOST 1048576: true; the input reads as it did. -/
def polyFormUptoRow : OpenClaim := { program := "ytkgdagjklakajaagreatdoor", sum := "b008bf130bdd98a487b9b557773c594bc17424677efee95dc9f8e1a1c0751ed1", func := "ogee/ogeelaw08.PolyForm", spec := "polyForm", inPlace := ["internal/bytealg.IndexByteString", "internal/bytealg.IndexString", "math/bits.Add64", "math/bits.Sub64"], unfollowed := true, recurses := true, named := ["unicode/utf8.first", "unicode/utf8.acceptRanges", "math/bits.deBruijn64tab", "internal/bytealg.MaxLen"], apart := false, laid := [("math/bits.deBruijn64tab", laid_math_bits_deBruijn64tab), ("unicode/utf8.acceptRanges", laid_unicode_utf8_acceptRanges), ("unicode/utf8.first", laid_unicode_utf8_first)], narrowed := true }
def PolyFormUptoSaid : Prop := polyFormUptoRow.holds Tryz.pinned (OpenSpec.upto polyFormSpec)

/-- 'ogeelaw09.CalcEvals', WHERE WHAT IT READS IS OF BULK AT MOST 1048576: true; the input reads as it did. -/
def calcEvalsUptoRow : OpenClaim := { program := "ytkgdagjklakajaagreatdoor", sum := "b008bf130bdd98a487b9b557773c594bc17424677efee95dc9f8e1a1c0751ed1", func := "ogee/ogeelaw09.CalcEvals", spec := "calcEvals", inPlace := ["internal/bytealg.IndexByteString", "internal/bytealg.IndexString", "math/bits.Add64", "math/bits.Sub64"], unfollowed := true, recurses := true, named := ["unicode/utf8.first", "unicode/utf8.acceptRanges", "math/bits.deBruijn64tab", "internal/bytealg.MaxLen"], apart := false, laid := [("math/bits.deBruijn64tab", laid_math_bits_deBruijn64tab), ("unicode/utf8.acceptRanges", laid_unicode_utf8_acceptRanges), ("unicode/utf8.first", laid_unicode_utf8_first)], narrowed := true }
def CalcEvalsUptoSaid : Prop := calcEvalsUptoRow.holds Tryz.pinned (OpenSpec.upto calcEvalsSpec)

/-- 'ogeelaw09.CalcSubsts', WHERE WHAT IT READS IS OF BULK AT MOST 1048576: true; the input reads as it did. -/
def calcSubstsUptoRow : OpenClaim := { program := "ytkgdagjklakajaagreatdoor", sum := "b008bf130bdd98a487b9b557773c594bc17424677efee95dc9f8e1a1c0751ed1", func := "ogee/ogeelaw09.CalcSubsts", spec := "calcSubsts", inPlace := ["internal/bytealg.IndexByteString", "internal/bytealg.IndexString", "math/bits.Add64", "math/bits.Sub64"], unfollowed := true, recurses := true, named := ["unicode/utf8.first", "unicode/utf8.acceptRanges", "math/bits.deBruijn64tab", "internal/bytealg.MaxLen"], apart := false, laid := [("math/bits.deBruijn64tab", laid_math_bits_deBruijn64tab), ("unicode/utf8.acceptRanges", laid_unicode_utf8_acceptRanges), ("unicode/utf8.first", laid_unicode_utf8_first)], narrowed := true }
def CalcSubstsUptoSaid : Prop := calcSubstsUptoRow.holds Tryz.pinned (OpenSpec.upto calcSubstsSpec)

/-- 'ogeelaw09.CalcSlopes', WHERE WHAT IT READS IS OF BULK AT MOST 1048576: true; the input reads as it did. -/
def calcSlopesUptoRow : OpenClaim := { program := "ytkgdagjklakajaagreatdoor", sum := "b008bf130bdd98a487b9b557773c594bc17424677efee95dc9f8e1a1c0751ed1", func := "ogee/ogeelaw09.CalcSlopes", spec := "calcSlopes", inPlace := ["internal/bytealg.IndexByteString", "internal/bytealg.IndexString", "math/bits.Add64", "math/bits.Sub64"], unfollowed := true, recurses := true, named := ["unicode/utf8.first", "unicode/utf8.acceptRanges", "math/bits.deBruijn64tab", "internal/bytealg.MaxLen"], apart := false, laid := [("math/bits.deBruijn64tab", laid_math_bits_deBruijn64tab), ("unicode/utf8.acceptRanges", laid_unicode_utf8_acceptRanges), ("unicode/utf8.first", laid_unicode_utf8_first)], narrowed := true }
def CalcSlopesUptoSaid : Prop := calcSlopesUptoRow.holds Tryz.pinned (OpenSpec.upto calcSlopesSpec)

/-- 'ogeelaw12.BernOf', WHERE WHAT IT READS IS OF BULK AT MOST 1048576: true; the input reads as it did. -/
def bernOfUptoRow : OpenClaim := { program := "ytkgdagjklakajaagreatdoor", sum := "b008bf130bdd98a487b9b557773c594bc17424677efee95dc9f8e1a1c0751ed1", func := "ogee/ogeelaw12.BernOf", spec := "bernOf", inPlace := ["internal/bytealg.IndexByteString", "internal/bytealg.IndexString", "math/bits.Add64", "math/bits.Sub64"], unfollowed := true, recurses := true, named := ["unicode/utf8.first", "unicode/utf8.acceptRanges", "math/bits.deBruijn64tab", "internal/bytealg.MaxLen"], apart := false, laid := [("math/bits.deBruijn64tab", laid_math_bits_deBruijn64tab), ("unicode/utf8.acceptRanges", laid_unicode_utf8_acceptRanges), ("unicode/utf8.first", laid_unicode_utf8_first)], narrowed := true }
def BernOfUptoSaid : Prop := bernOfUptoRow.holds Tryz.pinned (OpenSpec.upto bernOfSpec)

/-- 'ogeelaw12.BernBacks', WHERE WHAT IT READS IS OF BULK AT MOST 1048576: true; the input reads as it did. -/
def bernBacksUptoRow : OpenClaim := { program := "ytkgdagjklakajaagreatdoor", sum := "b008bf130bdd98a487b9b557773c594bc17424677efee95dc9f8e1a1c0751ed1", func := "ogee/ogeelaw12.BernBacks", spec := "bernBacks", inPlace := ["internal/bytealg.IndexByteString", "internal/bytealg.IndexString", "math/bits.Add64", "math/bits.Sub64"], unfollowed := true, recurses := true, named := ["unicode/utf8.first", "unicode/utf8.acceptRanges", "math/bits.deBruijn64tab", "internal/bytealg.MaxLen"], apart := false, laid := [("math/bits.deBruijn64tab", laid_math_bits_deBruijn64tab), ("unicode/utf8.acceptRanges", laid_unicode_utf8_acceptRanges), ("unicode/utf8.first", laid_unicode_utf8_first)], narrowed := true }
def BernBacksUptoSaid : Prop := bernBacksUptoRow.holds Tryz.pinned (OpenSpec.upto bernBacksSpec)

/-- 'ogeelaw12.BernSums', WHERE WHAT IT READS IS OF BULK AT MOST 1048576: true; the input reads as it did. -/
def bernSumsUptoRow : OpenClaim := { program := "ytkgdagjklakajaagreatdoor", sum := "b008bf130bdd98a487b9b557773c594bc17424677efee95dc9f8e1a1c0751ed1", func := "ogee/ogeelaw12.BernSums", spec := "bernSums", inPlace := ["internal/bytealg.IndexByteString", "internal/bytealg.IndexString", "math/bits.Add64", "math/bits.Sub64"], unfollowed := true, recurses := true, named := ["unicode/utf8.first", "unicode/utf8.acceptRanges", "math/bits.deBruijn64tab", "internal/bytealg.MaxLen"], apart := false, laid := [("math/bits.deBruijn64tab", laid_math_bits_deBruijn64tab), ("unicode/utf8.acceptRanges", laid_unicode_utf8_acceptRanges), ("unicode/utf8.first", laid_unicode_utf8_first)], narrowed := true }
def BernSumsUptoSaid : Prop := bernSumsUptoRow.holds Tryz.pinned (OpenSpec.upto bernSumsSpec)

/-- 'ogeelaw12.BernBack', WHERE WHAT IT READS IS OF BULK AT MOST 1048576: true; the input reads as it did. -/
def bernBackUptoRow : OpenClaim := { program := "ytkgdagjklakajaagreatdoor", sum := "b008bf130bdd98a487b9b557773c594bc17424677efee95dc9f8e1a1c0751ed1", func := "ogee/ogeelaw12.BernBack", spec := "bernBack", inPlace := ["internal/bytealg.IndexByteString", "internal/bytealg.IndexString", "math/bits.Add64", "math/bits.Sub64"], unfollowed := true, recurses := true, named := ["unicode/utf8.first", "unicode/utf8.acceptRanges", "math/bits.deBruijn64tab", "internal/bytealg.MaxLen"], apart := false, laid := [("math/bits.deBruijn64tab", laid_math_bits_deBruijn64tab), ("unicode/utf8.acceptRanges", laid_unicode_utf8_acceptRanges), ("unicode/utf8.first", laid_unicode_utf8_first)], narrowed := true }
def BernBackUptoSaid : Prop := bernBackUptoRow.holds Tryz.pinned (OpenSpec.upto bernBackSpec)

/-- 'ogeelaw12.BernParts', WHERE WHAT IT READS IS OF BULK AT MOST 1048576: true; the input reads as it did. -/
def bernPartsUptoRow : OpenClaim := { program := "ytkgdagjklakajaagreatdoor", sum := "b008bf130bdd98a487b9b557773c594bc17424677efee95dc9f8e1a1c0751ed1", func := "ogee/ogeelaw12.BernParts", spec := "bernParts", inPlace := ["internal/bytealg.IndexByteString", "internal/bytealg.IndexString", "math/bits.Add64", "math/bits.Sub64"], unfollowed := true, recurses := true, named := ["unicode/utf8.first", "unicode/utf8.acceptRanges", "math/bits.deBruijn64tab", "internal/bytealg.MaxLen"], apart := false, laid := [("math/bits.deBruijn64tab", laid_math_bits_deBruijn64tab), ("unicode/utf8.acceptRanges", laid_unicode_utf8_acceptRanges), ("unicode/utf8.first", laid_unicode_utf8_first)], narrowed := true }
def BernPartsUptoSaid : Prop := bernPartsUptoRow.holds Tryz.pinned (OpenSpec.upto bernPartsSpec)

end Rows
end Go.Proofs.YtkgdagjklakajaaGreatDoor
