/-
  NARROWER THAN 'FOR EVERY INPUT', by the rows' own cells (each row's printed sentence says how): CalcSlopes: laid · CastSame: laid · BernOf: laid · BernBacks: laid · BernSums: laid · BernBack: laid · BernSlopes: laid · BernParts: laid · BernValues: laid.
  DERIVED. THE GIVEN ROWS OF THIS SEAT. 9 by the template 'for every input the law returns true; each argument reads behind the call as it read before'; 0 by the template 'total and deterministic' (their statements: YteeckcbbnegmcaaGreatDoorTotals.lean).
  GIVEN WITH THE SEED: the statements are not yours to turn. If you find one false, say at which input.
  Laid BY PROGRAM, IN A SANDBOX (cutbox-rows.mjs): the forced cells as the released guide's own fill.sh prints them over the translation dd30519118d5463a… (all of the seat's roots in one cut). By AI agents, Wed Nov 11 2026. No macro, syntax, notation, axiom, sorry.
-/
import Derived.Test.YteeckcbbnegmcaaGreatDoorChecked
import GoSem.PinnedTables
import GoSem.Claim
import GoSem.ClaimJoined
import GoSem.ClaimMapViews
import Derived.JoinedTies
import Derived.KernelRfl
namespace Go.Proofs.YteeckcbbnegmcaaGreatDoor
/- THE CELL 'sum', in the pinned program and in every row, IS THE sha256 OF THE DUMP (.gsa) THAT YteeckcbbnegmcaaGreatDoorProg.lean LOADS. Nothing in Lean hashes anything: it is a label: what it is worth is what the hold of that sum in a sandbox is worth. -/
noncomputable def Tryz.pinned : Pinned := { name := "yteeckcbbnegmcaagreatdoor", sum := "dd30519118d5463a5d278a4266a6821e4a196d88e6ef4b87dc8798e434f2ef65", checked := Tryz.checked }
namespace Rows
def none {H : Type} : Left H := { results := [], args := [] }

/- WHAT THE LISTED PACKAGE-LEVEL VARIABLES READ AS WHEN THE CALL BEGINS. Each datum BY PROGRAM (the guide's laid-datum.mjs) off the statement by which the dump's own 'gosem.cut.vars' lays the variable. In a bare row this is a premise. The card (YteeckcbbnegmcaaGreatDoorCards.lean) ties it to the program's text. -/
def laid_math_bits_deBruijn64tab {H : Type} : DataW H := .agg [.lit (.int .u8 0), .lit (.int .u8 1), .lit (.int .u8 56), .lit (.int .u8 2), .lit (.int .u8 57), .lit (.int .u8 49), .lit (.int .u8 28), .lit (.int .u8 3), .lit (.int .u8 61), .lit (.int .u8 58), .lit (.int .u8 42), .lit (.int .u8 50), .lit (.int .u8 38), .lit (.int .u8 29), .lit (.int .u8 17), .lit (.int .u8 4), .lit (.int .u8 62), .lit (.int .u8 47), .lit (.int .u8 59), .lit (.int .u8 36), .lit (.int .u8 45), .lit (.int .u8 43), .lit (.int .u8 51), .lit (.int .u8 22), .lit (.int .u8 53), .lit (.int .u8 39), .lit (.int .u8 33), .lit (.int .u8 30), .lit (.int .u8 24), .lit (.int .u8 18), .lit (.int .u8 12), .lit (.int .u8 5), .lit (.int .u8 63), .lit (.int .u8 55), .lit (.int .u8 48), .lit (.int .u8 27), .lit (.int .u8 60), .lit (.int .u8 41), .lit (.int .u8 37), .lit (.int .u8 16), .lit (.int .u8 46), .lit (.int .u8 35), .lit (.int .u8 44), .lit (.int .u8 21), .lit (.int .u8 52), .lit (.int .u8 32), .lit (.int .u8 23), .lit (.int .u8 11), .lit (.int .u8 54), .lit (.int .u8 26), .lit (.int .u8 40), .lit (.int .u8 15), .lit (.int .u8 34), .lit (.int .u8 20), .lit (.int .u8 31), .lit (.int .u8 10), .lit (.int .u8 25), .lit (.int .u8 14), .lit (.int .u8 19), .lit (.int .u8 9), .lit (.int .u8 13), .lit (.int .u8 8), .lit (.int .u8 7), .lit (.int .u8 6)]
def laid_unicode_utf8_acceptRanges {H : Type} : DataW H := .agg [.agg [.lit (.int .u8 128), .lit (.int .u8 191)], .agg [.lit (.int .u8 160), .lit (.int .u8 191)], .agg [.lit (.int .u8 128), .lit (.int .u8 159)], .agg [.lit (.int .u8 144), .lit (.int .u8 191)], .agg [.lit (.int .u8 128), .lit (.int .u8 143)], .agg [.lit (.int .u8 0), .lit (.int .u8 0)], .agg [.lit (.int .u8 0), .lit (.int .u8 0)], .agg [.lit (.int .u8 0), .lit (.int .u8 0)], .agg [.lit (.int .u8 0), .lit (.int .u8 0)], .agg [.lit (.int .u8 0), .lit (.int .u8 0)], .agg [.lit (.int .u8 0), .lit (.int .u8 0)], .agg [.lit (.int .u8 0), .lit (.int .u8 0)], .agg [.lit (.int .u8 0), .lit (.int .u8 0)], .agg [.lit (.int .u8 0), .lit (.int .u8 0)], .agg [.lit (.int .u8 0), .lit (.int .u8 0)], .agg [.lit (.int .u8 0), .lit (.int .u8 0)]]
/-- One of Go's own tables, pinned by name: the form's constant. -/
def laid_unicode_utf8_first : DataW Unit := Go.Pinned.utf8First

/-- 'ogeelaw09.CalcSlopes': WHATEVER THE INPUT: true; the input reads as it did. -/
def calcSlopesSpec : ChangeSpec := { name := "calcSlopes", fn := fun _ => fun
  | [d1, d2, d3, d4] => { results := [.lit (.bool true)], args := [d1, d2, d3, d4] }
  | _ => none }
def calcSlopesRow : OpenClaim := { program := "yteeckcbbnegmcaagreatdoor", sum := "dd30519118d5463a5d278a4266a6821e4a196d88e6ef4b87dc8798e434f2ef65", func := "ogee/ogeelaw09.CalcSlopes", spec := "calcSlopes", inPlace := ["internal/bytealg.IndexByteString", "internal/bytealg.IndexString", "math/bits.Add64", "math/bits.Sub64"], unfollowed := true, recurses := true, named := ["unicode/utf8.first", "unicode/utf8.acceptRanges", "math/bits.deBruijn64tab", "internal/bytealg.MaxLen"], apart := false, laid := [("math/bits.deBruijn64tab", laid_math_bits_deBruijn64tab), ("unicode/utf8.acceptRanges", laid_unicode_utf8_acceptRanges), ("unicode/utf8.first", laid_unicode_utf8_first)] }
def CalcSlopesSaid : Prop := calcSlopesRow.holds Tryz.pinned (OpenSpec.ofChange calcSlopesSpec)

/-- ITS FALSE NEIGHBOUR: 'it returns false'. Refute it at one input. -/
def calcSlopesWrong : ChangeSpec := { name := "calcSlopes", fn := fun _ => fun
  | [d1, d2, d3, d4] => { results := [.lit (.bool false)], args := [d1, d2, d3, d4] }
  | _ => none }
def CalcSlopesWrongFalsely : Prop := calcSlopesRow.holds Tryz.pinned (OpenSpec.ofChange calcSlopesWrong)

/-- 'ogeelaw13.CastSame': WHATEVER THE INPUT: true; the input reads as it did. -/
def castSameSpec : ChangeSpec := { name := "castSame", fn := fun _ => fun
  | [d1, d2, d3, d4] => { results := [.lit (.bool true)], args := [d1, d2, d3, d4] }
  | _ => none }
def castSameRow : OpenClaim := { program := "yteeckcbbnegmcaagreatdoor", sum := "dd30519118d5463a5d278a4266a6821e4a196d88e6ef4b87dc8798e434f2ef65", func := "ogee/ogeelaw13.CastSame", spec := "castSame", inPlace := ["internal/bytealg.IndexByteString", "internal/bytealg.IndexString", "math/bits.Add64", "math/bits.Sub64"], unfollowed := true, recurses := true, named := ["unicode/utf8.first", "unicode/utf8.acceptRanges", "math/bits.deBruijn64tab", "internal/bytealg.MaxLen"], apart := false, laid := [("math/bits.deBruijn64tab", laid_math_bits_deBruijn64tab), ("unicode/utf8.acceptRanges", laid_unicode_utf8_acceptRanges), ("unicode/utf8.first", laid_unicode_utf8_first)] }
def CastSameSaid : Prop := castSameRow.holds Tryz.pinned (OpenSpec.ofChange castSameSpec)

/-- ITS FALSE NEIGHBOUR: 'it returns false'. Refute it at one input. -/
def castSameWrong : ChangeSpec := { name := "castSame", fn := fun _ => fun
  | [d1, d2, d3, d4] => { results := [.lit (.bool false)], args := [d1, d2, d3, d4] }
  | _ => none }
def CastSameWrongFalsely : Prop := castSameRow.holds Tryz.pinned (OpenSpec.ofChange castSameWrong)

/-- 'ogeelaw12.BernOf': WHATEVER THE INPUT: true; the input reads as it did. -/
def bernOfSpec : ChangeSpec := { name := "bernOf", fn := fun _ => fun
  | [d1, d2, d3] => { results := [.lit (.bool true)], args := [d1, d2, d3] }
  | _ => none }
def bernOfRow : OpenClaim := { program := "yteeckcbbnegmcaagreatdoor", sum := "dd30519118d5463a5d278a4266a6821e4a196d88e6ef4b87dc8798e434f2ef65", func := "ogee/ogeelaw12.BernOf", spec := "bernOf", inPlace := ["internal/bytealg.IndexByteString", "internal/bytealg.IndexString", "math/bits.Add64", "math/bits.Sub64"], unfollowed := true, recurses := true, named := ["unicode/utf8.first", "unicode/utf8.acceptRanges", "math/bits.deBruijn64tab", "internal/bytealg.MaxLen"], apart := false, laid := [("math/bits.deBruijn64tab", laid_math_bits_deBruijn64tab), ("unicode/utf8.acceptRanges", laid_unicode_utf8_acceptRanges), ("unicode/utf8.first", laid_unicode_utf8_first)] }
def BernOfSaid : Prop := bernOfRow.holds Tryz.pinned (OpenSpec.ofChange bernOfSpec)

/-- ITS FALSE NEIGHBOUR: 'it returns false'. Refute it at one input. -/
def bernOfWrong : ChangeSpec := { name := "bernOf", fn := fun _ => fun
  | [d1, d2, d3] => { results := [.lit (.bool false)], args := [d1, d2, d3] }
  | _ => none }
def BernOfWrongFalsely : Prop := bernOfRow.holds Tryz.pinned (OpenSpec.ofChange bernOfWrong)

/-- 'ogeelaw12.BernBacks': WHATEVER THE INPUT: true; the input reads as it did. -/
def bernBacksSpec : ChangeSpec := { name := "bernBacks", fn := fun _ => fun
  | [d1, d2, d3] => { results := [.lit (.bool true)], args := [d1, d2, d3] }
  | _ => none }
def bernBacksRow : OpenClaim := { program := "yteeckcbbnegmcaagreatdoor", sum := "dd30519118d5463a5d278a4266a6821e4a196d88e6ef4b87dc8798e434f2ef65", func := "ogee/ogeelaw12.BernBacks", spec := "bernBacks", inPlace := ["internal/bytealg.IndexByteString", "internal/bytealg.IndexString", "math/bits.Add64", "math/bits.Sub64"], unfollowed := true, recurses := true, named := ["unicode/utf8.first", "unicode/utf8.acceptRanges", "math/bits.deBruijn64tab", "internal/bytealg.MaxLen"], apart := false, laid := [("math/bits.deBruijn64tab", laid_math_bits_deBruijn64tab), ("unicode/utf8.acceptRanges", laid_unicode_utf8_acceptRanges), ("unicode/utf8.first", laid_unicode_utf8_first)] }
def BernBacksSaid : Prop := bernBacksRow.holds Tryz.pinned (OpenSpec.ofChange bernBacksSpec)

/-- ITS FALSE NEIGHBOUR: 'it returns false'. Refute it at one input. -/
def bernBacksWrong : ChangeSpec := { name := "bernBacks", fn := fun _ => fun
  | [d1, d2, d3] => { results := [.lit (.bool false)], args := [d1, d2, d3] }
  | _ => none }
def BernBacksWrongFalsely : Prop := bernBacksRow.holds Tryz.pinned (OpenSpec.ofChange bernBacksWrong)

/-- 'ogeelaw12.BernSums': WHATEVER THE INPUT: true; the input reads as it did. -/
def bernSumsSpec : ChangeSpec := { name := "bernSums", fn := fun _ => fun
  | [d1, d2, d3, d4, d5] => { results := [.lit (.bool true)], args := [d1, d2, d3, d4, d5] }
  | _ => none }
def bernSumsRow : OpenClaim := { program := "yteeckcbbnegmcaagreatdoor", sum := "dd30519118d5463a5d278a4266a6821e4a196d88e6ef4b87dc8798e434f2ef65", func := "ogee/ogeelaw12.BernSums", spec := "bernSums", inPlace := ["internal/bytealg.IndexByteString", "internal/bytealg.IndexString", "math/bits.Add64", "math/bits.Sub64"], unfollowed := true, recurses := true, named := ["unicode/utf8.first", "unicode/utf8.acceptRanges", "math/bits.deBruijn64tab", "internal/bytealg.MaxLen"], apart := false, laid := [("math/bits.deBruijn64tab", laid_math_bits_deBruijn64tab), ("unicode/utf8.acceptRanges", laid_unicode_utf8_acceptRanges), ("unicode/utf8.first", laid_unicode_utf8_first)] }
def BernSumsSaid : Prop := bernSumsRow.holds Tryz.pinned (OpenSpec.ofChange bernSumsSpec)

/-- ITS FALSE NEIGHBOUR: 'it returns false'. Refute it at one input. -/
def bernSumsWrong : ChangeSpec := { name := "bernSums", fn := fun _ => fun
  | [d1, d2, d3, d4, d5] => { results := [.lit (.bool false)], args := [d1, d2, d3, d4, d5] }
  | _ => none }
def BernSumsWrongFalsely : Prop := bernSumsRow.holds Tryz.pinned (OpenSpec.ofChange bernSumsWrong)

/-- 'ogeelaw12.BernBack': WHATEVER THE INPUT: true; the input reads as it did. -/
def bernBackSpec : ChangeSpec := { name := "bernBack", fn := fun _ => fun
  | [d1, d2] => { results := [.lit (.bool true)], args := [d1, d2] }
  | _ => none }
def bernBackRow : OpenClaim := { program := "yteeckcbbnegmcaagreatdoor", sum := "dd30519118d5463a5d278a4266a6821e4a196d88e6ef4b87dc8798e434f2ef65", func := "ogee/ogeelaw12.BernBack", spec := "bernBack", inPlace := ["internal/bytealg.IndexByteString", "internal/bytealg.IndexString", "math/bits.Add64", "math/bits.Sub64"], unfollowed := true, recurses := true, named := ["unicode/utf8.first", "unicode/utf8.acceptRanges", "math/bits.deBruijn64tab", "internal/bytealg.MaxLen"], apart := false, laid := [("math/bits.deBruijn64tab", laid_math_bits_deBruijn64tab), ("unicode/utf8.acceptRanges", laid_unicode_utf8_acceptRanges), ("unicode/utf8.first", laid_unicode_utf8_first)] }
def BernBackSaid : Prop := bernBackRow.holds Tryz.pinned (OpenSpec.ofChange bernBackSpec)

/-- ITS FALSE NEIGHBOUR: 'it returns false'. Refute it at one input. -/
def bernBackWrong : ChangeSpec := { name := "bernBack", fn := fun _ => fun
  | [d1, d2] => { results := [.lit (.bool false)], args := [d1, d2] }
  | _ => none }
def BernBackWrongFalsely : Prop := bernBackRow.holds Tryz.pinned (OpenSpec.ofChange bernBackWrong)

/-- 'ogeelaw12.BernSlopes': WHATEVER THE INPUT: true; the input reads as it did. -/
def bernSlopesSpec : ChangeSpec := { name := "bernSlopes", fn := fun _ => fun
  | [d1, d2, d3] => { results := [.lit (.bool true)], args := [d1, d2, d3] }
  | _ => none }
def bernSlopesRow : OpenClaim := { program := "yteeckcbbnegmcaagreatdoor", sum := "dd30519118d5463a5d278a4266a6821e4a196d88e6ef4b87dc8798e434f2ef65", func := "ogee/ogeelaw12.BernSlopes", spec := "bernSlopes", inPlace := ["internal/bytealg.IndexByteString", "internal/bytealg.IndexString", "math/bits.Add64", "math/bits.Sub64"], unfollowed := true, recurses := true, named := ["unicode/utf8.first", "unicode/utf8.acceptRanges", "math/bits.deBruijn64tab", "internal/bytealg.MaxLen"], apart := false, laid := [("math/bits.deBruijn64tab", laid_math_bits_deBruijn64tab), ("unicode/utf8.acceptRanges", laid_unicode_utf8_acceptRanges), ("unicode/utf8.first", laid_unicode_utf8_first)] }
def BernSlopesSaid : Prop := bernSlopesRow.holds Tryz.pinned (OpenSpec.ofChange bernSlopesSpec)

/-- ITS FALSE NEIGHBOUR: 'it returns false'. Refute it at one input. -/
def bernSlopesWrong : ChangeSpec := { name := "bernSlopes", fn := fun _ => fun
  | [d1, d2, d3] => { results := [.lit (.bool false)], args := [d1, d2, d3] }
  | _ => none }
def BernSlopesWrongFalsely : Prop := bernSlopesRow.holds Tryz.pinned (OpenSpec.ofChange bernSlopesWrong)

/-- 'ogeelaw12.BernParts': WHATEVER THE INPUT: true; the input reads as it did. -/
def bernPartsSpec : ChangeSpec := { name := "bernParts", fn := fun _ => fun
  | [d1, d2, d3, d4] => { results := [.lit (.bool true)], args := [d1, d2, d3, d4] }
  | _ => none }
def bernPartsRow : OpenClaim := { program := "yteeckcbbnegmcaagreatdoor", sum := "dd30519118d5463a5d278a4266a6821e4a196d88e6ef4b87dc8798e434f2ef65", func := "ogee/ogeelaw12.BernParts", spec := "bernParts", inPlace := ["internal/bytealg.IndexByteString", "internal/bytealg.IndexString", "math/bits.Add64", "math/bits.Sub64"], unfollowed := true, recurses := true, named := ["unicode/utf8.first", "unicode/utf8.acceptRanges", "math/bits.deBruijn64tab", "internal/bytealg.MaxLen"], apart := false, laid := [("math/bits.deBruijn64tab", laid_math_bits_deBruijn64tab), ("unicode/utf8.acceptRanges", laid_unicode_utf8_acceptRanges), ("unicode/utf8.first", laid_unicode_utf8_first)] }
def BernPartsSaid : Prop := bernPartsRow.holds Tryz.pinned (OpenSpec.ofChange bernPartsSpec)

/-- ITS FALSE NEIGHBOUR: 'it returns false'. Refute it at one input. -/
def bernPartsWrong : ChangeSpec := { name := "bernParts", fn := fun _ => fun
  | [d1, d2, d3, d4] => { results := [.lit (.bool false)], args := [d1, d2, d3, d4] }
  | _ => none }
def BernPartsWrongFalsely : Prop := bernPartsRow.holds Tryz.pinned (OpenSpec.ofChange bernPartsWrong)

/-- 'ogeelaw12.BernValues': WHATEVER THE INPUT: true; the input reads as it did. -/
def bernValuesSpec : ChangeSpec := { name := "bernValues", fn := fun _ => fun
  | [d1, d2, d3, d4, d5] => { results := [.lit (.bool true)], args := [d1, d2, d3, d4, d5] }
  | _ => none }
def bernValuesRow : OpenClaim := { program := "yteeckcbbnegmcaagreatdoor", sum := "dd30519118d5463a5d278a4266a6821e4a196d88e6ef4b87dc8798e434f2ef65", func := "ogee/ogeelaw12.BernValues", spec := "bernValues", inPlace := ["internal/bytealg.IndexByteString", "internal/bytealg.IndexString", "math/bits.Add64", "math/bits.Sub64"], unfollowed := true, recurses := true, named := ["unicode/utf8.first", "unicode/utf8.acceptRanges", "math/bits.deBruijn64tab", "internal/bytealg.MaxLen"], apart := false, laid := [("math/bits.deBruijn64tab", laid_math_bits_deBruijn64tab), ("unicode/utf8.acceptRanges", laid_unicode_utf8_acceptRanges), ("unicode/utf8.first", laid_unicode_utf8_first)] }
def BernValuesSaid : Prop := bernValuesRow.holds Tryz.pinned (OpenSpec.ofChange bernValuesSpec)

/-- ITS FALSE NEIGHBOUR: 'it returns false'. Refute it at one input. -/
def bernValuesWrong : ChangeSpec := { name := "bernValues", fn := fun _ => fun
  | [d1, d2, d3, d4, d5] => { results := [.lit (.bool false)], args := [d1, d2, d3, d4, d5] }
  | _ => none }
def BernValuesWrongFalsely : Prop := bernValuesRow.holds Tryz.pinned (OpenSpec.ofChange bernValuesWrong)

/- THE SECOND FORM. 'bulk': how many values and letters a reading holds, each counted each time it is reached (what is shared counts as often as it is met; a slice's spare places count too). A statement '..UptoSaid' is the law's where the arguments, and the package variables that the reading takes, are together of bulk at most 1048576: NARROWER than '..Said'. Prove '..Said' where nothing that the law and all that it calls make is longer than what came in: it says more and counts as full. Else prove '..UptoSaid'. A law counts once. -/
mutual
def uptoBulk {H : Type} : DataW H → Nat
  | .lit (.string bytes) => bytes.length + 1
  | .lit _ => 1
  | .nil => 1
  | .ptr d => uptoBulk d + 1
  | .slice elems spare => uptoBulkAll elems + uptoBulkAll spare + 1
  | .agg parts => uptoBulkAll parts + 1
  | .iface _ d => uptoBulk d + 1
  | .map entries => uptoBulkEntries entries + 1
  | .held _ => 1
def uptoBulkAll {H : Type} : List (DataW H) → Nat
  | [] => 0
  | d :: r => uptoBulk d + uptoBulkAll r
def uptoBulkEntries {H : Type} : List (Lit × DataW H) → Nat
  | [] => 0
  | x :: r => uptoBulkEntry x + uptoBulkEntries r
def uptoBulkEntry {H : Type} : Lit × DataW H → Nat
  | (.string bytes, d) => bytes.length + uptoBulk d + 1
  | (_, d) => uptoBulk d + 1
 end
def uptoSmall : (H : Type) → List (DataW H) → Bool := fun _ ds => decide (uptoBulkAll ds ≤ 1048576)
def OpenSpec.upto (s : _root_.Go.ChangeSpec) : _root_.Go.OpenSpec := { _root_.Go.OpenSpec.ofChange s with cond := some uptoSmall }

/-- 'ogeelaw09.CalcSlopes', WHERE WHAT IT READS IS OF BULK AT MOST 1048576: true; the input reads as it did. -/
def calcSlopesUptoRow : OpenClaim := { program := "yteeckcbbnegmcaagreatdoor", sum := "dd30519118d5463a5d278a4266a6821e4a196d88e6ef4b87dc8798e434f2ef65", func := "ogee/ogeelaw09.CalcSlopes", spec := "calcSlopes", inPlace := ["internal/bytealg.IndexByteString", "internal/bytealg.IndexString", "math/bits.Add64", "math/bits.Sub64"], unfollowed := true, recurses := true, named := ["unicode/utf8.first", "unicode/utf8.acceptRanges", "math/bits.deBruijn64tab", "internal/bytealg.MaxLen"], apart := false, laid := [("math/bits.deBruijn64tab", laid_math_bits_deBruijn64tab), ("unicode/utf8.acceptRanges", laid_unicode_utf8_acceptRanges), ("unicode/utf8.first", laid_unicode_utf8_first)], narrowed := true }
def CalcSlopesUptoSaid : Prop := calcSlopesUptoRow.holds Tryz.pinned (OpenSpec.upto calcSlopesSpec)

/-- 'ogeelaw13.CastSame', WHERE WHAT IT READS IS OF BULK AT MOST 1048576: true; the input reads as it did. -/
def castSameUptoRow : OpenClaim := { program := "yteeckcbbnegmcaagreatdoor", sum := "dd30519118d5463a5d278a4266a6821e4a196d88e6ef4b87dc8798e434f2ef65", func := "ogee/ogeelaw13.CastSame", spec := "castSame", inPlace := ["internal/bytealg.IndexByteString", "internal/bytealg.IndexString", "math/bits.Add64", "math/bits.Sub64"], unfollowed := true, recurses := true, named := ["unicode/utf8.first", "unicode/utf8.acceptRanges", "math/bits.deBruijn64tab", "internal/bytealg.MaxLen"], apart := false, laid := [("math/bits.deBruijn64tab", laid_math_bits_deBruijn64tab), ("unicode/utf8.acceptRanges", laid_unicode_utf8_acceptRanges), ("unicode/utf8.first", laid_unicode_utf8_first)], narrowed := true }
def CastSameUptoSaid : Prop := castSameUptoRow.holds Tryz.pinned (OpenSpec.upto castSameSpec)

/-- 'ogeelaw12.BernOf', WHERE WHAT IT READS IS OF BULK AT MOST 1048576: true; the input reads as it did. -/
def bernOfUptoRow : OpenClaim := { program := "yteeckcbbnegmcaagreatdoor", sum := "dd30519118d5463a5d278a4266a6821e4a196d88e6ef4b87dc8798e434f2ef65", func := "ogee/ogeelaw12.BernOf", spec := "bernOf", inPlace := ["internal/bytealg.IndexByteString", "internal/bytealg.IndexString", "math/bits.Add64", "math/bits.Sub64"], unfollowed := true, recurses := true, named := ["unicode/utf8.first", "unicode/utf8.acceptRanges", "math/bits.deBruijn64tab", "internal/bytealg.MaxLen"], apart := false, laid := [("math/bits.deBruijn64tab", laid_math_bits_deBruijn64tab), ("unicode/utf8.acceptRanges", laid_unicode_utf8_acceptRanges), ("unicode/utf8.first", laid_unicode_utf8_first)], narrowed := true }
def BernOfUptoSaid : Prop := bernOfUptoRow.holds Tryz.pinned (OpenSpec.upto bernOfSpec)

/-- 'ogeelaw12.BernBacks', WHERE WHAT IT READS IS OF BULK AT MOST 1048576: true; the input reads as it did. -/
def bernBacksUptoRow : OpenClaim := { program := "yteeckcbbnegmcaagreatdoor", sum := "dd30519118d5463a5d278a4266a6821e4a196d88e6ef4b87dc8798e434f2ef65", func := "ogee/ogeelaw12.BernBacks", spec := "bernBacks", inPlace := ["internal/bytealg.IndexByteString", "internal/bytealg.IndexString", "math/bits.Add64", "math/bits.Sub64"], unfollowed := true, recurses := true, named := ["unicode/utf8.first", "unicode/utf8.acceptRanges", "math/bits.deBruijn64tab", "internal/bytealg.MaxLen"], apart := false, laid := [("math/bits.deBruijn64tab", laid_math_bits_deBruijn64tab), ("unicode/utf8.acceptRanges", laid_unicode_utf8_acceptRanges), ("unicode/utf8.first", laid_unicode_utf8_first)], narrowed := true }
def BernBacksUptoSaid : Prop := bernBacksUptoRow.holds Tryz.pinned (OpenSpec.upto bernBacksSpec)

/-- 'ogeelaw12.BernSums', WHERE WHAT IT READS IS OF BULK AT MOST 1048576: true; the input reads as it did. -/
def bernSumsUptoRow : OpenClaim := { program := "yteeckcbbnegmcaagreatdoor", sum := "dd30519118d5463a5d278a4266a6821e4a196d88e6ef4b87dc8798e434f2ef65", func := "ogee/ogeelaw12.BernSums", spec := "bernSums", inPlace := ["internal/bytealg.IndexByteString", "internal/bytealg.IndexString", "math/bits.Add64", "math/bits.Sub64"], unfollowed := true, recurses := true, named := ["unicode/utf8.first", "unicode/utf8.acceptRanges", "math/bits.deBruijn64tab", "internal/bytealg.MaxLen"], apart := false, laid := [("math/bits.deBruijn64tab", laid_math_bits_deBruijn64tab), ("unicode/utf8.acceptRanges", laid_unicode_utf8_acceptRanges), ("unicode/utf8.first", laid_unicode_utf8_first)], narrowed := true }
def BernSumsUptoSaid : Prop := bernSumsUptoRow.holds Tryz.pinned (OpenSpec.upto bernSumsSpec)

/-- 'ogeelaw12.BernBack', WHERE WHAT IT READS IS OF BULK AT MOST 1048576: true; the input reads as it did. -/
def bernBackUptoRow : OpenClaim := { program := "yteeckcbbnegmcaagreatdoor", sum := "dd30519118d5463a5d278a4266a6821e4a196d88e6ef4b87dc8798e434f2ef65", func := "ogee/ogeelaw12.BernBack", spec := "bernBack", inPlace := ["internal/bytealg.IndexByteString", "internal/bytealg.IndexString", "math/bits.Add64", "math/bits.Sub64"], unfollowed := true, recurses := true, named := ["unicode/utf8.first", "unicode/utf8.acceptRanges", "math/bits.deBruijn64tab", "internal/bytealg.MaxLen"], apart := false, laid := [("math/bits.deBruijn64tab", laid_math_bits_deBruijn64tab), ("unicode/utf8.acceptRanges", laid_unicode_utf8_acceptRanges), ("unicode/utf8.first", laid_unicode_utf8_first)], narrowed := true }
def BernBackUptoSaid : Prop := bernBackUptoRow.holds Tryz.pinned (OpenSpec.upto bernBackSpec)

/-- 'ogeelaw12.BernSlopes', WHERE WHAT IT READS IS OF BULK AT MOST 1048576: true; the input reads as it did. -/
def bernSlopesUptoRow : OpenClaim := { program := "yteeckcbbnegmcaagreatdoor", sum := "dd30519118d5463a5d278a4266a6821e4a196d88e6ef4b87dc8798e434f2ef65", func := "ogee/ogeelaw12.BernSlopes", spec := "bernSlopes", inPlace := ["internal/bytealg.IndexByteString", "internal/bytealg.IndexString", "math/bits.Add64", "math/bits.Sub64"], unfollowed := true, recurses := true, named := ["unicode/utf8.first", "unicode/utf8.acceptRanges", "math/bits.deBruijn64tab", "internal/bytealg.MaxLen"], apart := false, laid := [("math/bits.deBruijn64tab", laid_math_bits_deBruijn64tab), ("unicode/utf8.acceptRanges", laid_unicode_utf8_acceptRanges), ("unicode/utf8.first", laid_unicode_utf8_first)], narrowed := true }
def BernSlopesUptoSaid : Prop := bernSlopesUptoRow.holds Tryz.pinned (OpenSpec.upto bernSlopesSpec)

/-- 'ogeelaw12.BernParts', WHERE WHAT IT READS IS OF BULK AT MOST 1048576: true; the input reads as it did. -/
def bernPartsUptoRow : OpenClaim := { program := "yteeckcbbnegmcaagreatdoor", sum := "dd30519118d5463a5d278a4266a6821e4a196d88e6ef4b87dc8798e434f2ef65", func := "ogee/ogeelaw12.BernParts", spec := "bernParts", inPlace := ["internal/bytealg.IndexByteString", "internal/bytealg.IndexString", "math/bits.Add64", "math/bits.Sub64"], unfollowed := true, recurses := true, named := ["unicode/utf8.first", "unicode/utf8.acceptRanges", "math/bits.deBruijn64tab", "internal/bytealg.MaxLen"], apart := false, laid := [("math/bits.deBruijn64tab", laid_math_bits_deBruijn64tab), ("unicode/utf8.acceptRanges", laid_unicode_utf8_acceptRanges), ("unicode/utf8.first", laid_unicode_utf8_first)], narrowed := true }
def BernPartsUptoSaid : Prop := bernPartsUptoRow.holds Tryz.pinned (OpenSpec.upto bernPartsSpec)

/-- 'ogeelaw12.BernValues', WHERE WHAT IT READS IS OF BULK AT MOST 1048576: true; the input reads as it did. -/
def bernValuesUptoRow : OpenClaim := { program := "yteeckcbbnegmcaagreatdoor", sum := "dd30519118d5463a5d278a4266a6821e4a196d88e6ef4b87dc8798e434f2ef65", func := "ogee/ogeelaw12.BernValues", spec := "bernValues", inPlace := ["internal/bytealg.IndexByteString", "internal/bytealg.IndexString", "math/bits.Add64", "math/bits.Sub64"], unfollowed := true, recurses := true, named := ["unicode/utf8.first", "unicode/utf8.acceptRanges", "math/bits.deBruijn64tab", "internal/bytealg.MaxLen"], apart := false, laid := [("math/bits.deBruijn64tab", laid_math_bits_deBruijn64tab), ("unicode/utf8.acceptRanges", laid_unicode_utf8_acceptRanges), ("unicode/utf8.first", laid_unicode_utf8_first)], narrowed := true }
def BernValuesUptoSaid : Prop := bernValuesUptoRow.holds Tryz.pinned (OpenSpec.upto bernValuesSpec)

end Rows
end Go.Proofs.YteeckcbbnegmcaaGreatDoor
