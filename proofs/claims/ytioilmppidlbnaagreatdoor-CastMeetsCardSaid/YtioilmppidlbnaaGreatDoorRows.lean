/-
  NARROWER THAN 'FOR EVERY INPUT', by the rows' own cells (each row's printed sentence says how): LiftMuls: laid · LiftRaises: laid · LiftValues: laid · LiftSame: laid · CastCuts: laid · CastParts: laid · CastOrder: laid · CastMeets: laid · CastSame: laid.
  DERIVED. THE GIVEN ROWS OF THIS SEAT. 9 by the template 'for every input the law returns true; each argument reads behind the call as it read before'; 0 by the template 'total and deterministic' (their statements: YtioilmppidlbnaaGreatDoorTotals.lean).
  GIVEN WITH THE SEED: the statements are not yours to turn. If you find one false, say at which input.
  Laid BY PROGRAM, IN A SANDBOX (cutbox-rows.mjs): the forced cells as the released guide's own fill.sh prints them over the translation 4709edc5504e3766… (all of the seat's roots in one cut). By AI agents, Wed Nov 11 2026. No macro, syntax, notation, axiom, sorry.
-/
import Derived.Test.YtioilmppidlbnaaGreatDoorChecked
import GoSem.PinnedTables
import GoSem.Claim
import GoSem.ClaimJoined
import GoSem.ClaimMapViews
import Derived.JoinedTies
import Derived.KernelRfl
namespace Go.Proofs.YtioilmppidlbnaaGreatDoor
/- THE CELL 'sum', in the pinned program and in every row, IS THE sha256 OF THE DUMP (.gsa) THAT YtioilmppidlbnaaGreatDoorProg.lean LOADS. Nothing in Lean hashes anything: it is a label: what it is worth is what the hold of that sum in a sandbox is worth. -/
noncomputable def Tryz.pinned : Pinned := { name := "ytioilmppidlbnaagreatdoor", sum := "4709edc5504e37669e2311a56c26299e0623f5568ee9f2b382c87479236effbd", checked := Tryz.checked }
namespace Rows
def none {H : Type} : Left H := { results := [], args := [] }

/- WHAT THE LISTED PACKAGE-LEVEL VARIABLES READ AS WHEN THE CALL BEGINS. Each datum BY PROGRAM (the guide's laid-datum.mjs) off the statement by which the dump's own 'gosem.cut.vars' lays the variable. In a bare row this is a premise. The card (YtioilmppidlbnaaGreatDoorCards.lean) ties it to the program's text. -/
def laid_math_bits_deBruijn64tab {H : Type} : DataW H := .agg [.lit (.int .u8 0), .lit (.int .u8 1), .lit (.int .u8 56), .lit (.int .u8 2), .lit (.int .u8 57), .lit (.int .u8 49), .lit (.int .u8 28), .lit (.int .u8 3), .lit (.int .u8 61), .lit (.int .u8 58), .lit (.int .u8 42), .lit (.int .u8 50), .lit (.int .u8 38), .lit (.int .u8 29), .lit (.int .u8 17), .lit (.int .u8 4), .lit (.int .u8 62), .lit (.int .u8 47), .lit (.int .u8 59), .lit (.int .u8 36), .lit (.int .u8 45), .lit (.int .u8 43), .lit (.int .u8 51), .lit (.int .u8 22), .lit (.int .u8 53), .lit (.int .u8 39), .lit (.int .u8 33), .lit (.int .u8 30), .lit (.int .u8 24), .lit (.int .u8 18), .lit (.int .u8 12), .lit (.int .u8 5), .lit (.int .u8 63), .lit (.int .u8 55), .lit (.int .u8 48), .lit (.int .u8 27), .lit (.int .u8 60), .lit (.int .u8 41), .lit (.int .u8 37), .lit (.int .u8 16), .lit (.int .u8 46), .lit (.int .u8 35), .lit (.int .u8 44), .lit (.int .u8 21), .lit (.int .u8 52), .lit (.int .u8 32), .lit (.int .u8 23), .lit (.int .u8 11), .lit (.int .u8 54), .lit (.int .u8 26), .lit (.int .u8 40), .lit (.int .u8 15), .lit (.int .u8 34), .lit (.int .u8 20), .lit (.int .u8 31), .lit (.int .u8 10), .lit (.int .u8 25), .lit (.int .u8 14), .lit (.int .u8 19), .lit (.int .u8 9), .lit (.int .u8 13), .lit (.int .u8 8), .lit (.int .u8 7), .lit (.int .u8 6)]
def laid_unicode_utf8_acceptRanges {H : Type} : DataW H := .agg [.agg [.lit (.int .u8 128), .lit (.int .u8 191)], .agg [.lit (.int .u8 160), .lit (.int .u8 191)], .agg [.lit (.int .u8 128), .lit (.int .u8 159)], .agg [.lit (.int .u8 144), .lit (.int .u8 191)], .agg [.lit (.int .u8 128), .lit (.int .u8 143)], .agg [.lit (.int .u8 0), .lit (.int .u8 0)], .agg [.lit (.int .u8 0), .lit (.int .u8 0)], .agg [.lit (.int .u8 0), .lit (.int .u8 0)], .agg [.lit (.int .u8 0), .lit (.int .u8 0)], .agg [.lit (.int .u8 0), .lit (.int .u8 0)], .agg [.lit (.int .u8 0), .lit (.int .u8 0)], .agg [.lit (.int .u8 0), .lit (.int .u8 0)], .agg [.lit (.int .u8 0), .lit (.int .u8 0)], .agg [.lit (.int .u8 0), .lit (.int .u8 0)], .agg [.lit (.int .u8 0), .lit (.int .u8 0)], .agg [.lit (.int .u8 0), .lit (.int .u8 0)]]
/-- One of Go's own tables, pinned by name: the form's constant. -/
def laid_unicode_utf8_first : DataW Unit := Go.Pinned.utf8First

/-- 'ogeelaw14.LiftMuls': WHATEVER THE INPUT: true; the input reads as it did. -/
def liftMulsSpec : ChangeSpec := { name := "liftMuls", fn := fun _ => fun
  | [d] => { results := [.lit (.bool true)], args := [d] }
  | _ => none }
def liftMulsRow : OpenClaim := { program := "ytioilmppidlbnaagreatdoor", sum := "4709edc5504e37669e2311a56c26299e0623f5568ee9f2b382c87479236effbd", func := "ogee/ogeelaw14.LiftMuls", spec := "liftMuls", inPlace := ["internal/bytealg.IndexByteString", "internal/bytealg.IndexString", "math/bits.Add64", "math/bits.Sub64"], unfollowed := true, recurses := true, named := ["unicode/utf8.first", "unicode/utf8.acceptRanges", "math/bits.deBruijn64tab", "internal/bytealg.MaxLen"], apart := false, laid := [("math/bits.deBruijn64tab", laid_math_bits_deBruijn64tab), ("unicode/utf8.acceptRanges", laid_unicode_utf8_acceptRanges), ("unicode/utf8.first", laid_unicode_utf8_first)] }
def LiftMulsSaid : Prop := liftMulsRow.holds Tryz.pinned (OpenSpec.ofChange liftMulsSpec)

/-- ITS FALSE NEIGHBOUR: 'it returns false'. Refute it at one input. -/
def liftMulsWrong : ChangeSpec := { name := "liftMuls", fn := fun _ => fun
  | [d] => { results := [.lit (.bool false)], args := [d] }
  | _ => none }
def LiftMulsWrongFalsely : Prop := liftMulsRow.holds Tryz.pinned (OpenSpec.ofChange liftMulsWrong)

/-- 'ogeelaw14.LiftRaises': WHATEVER THE INPUT: true; the input reads as it did. -/
def liftRaisesSpec : ChangeSpec := { name := "liftRaises", fn := fun _ => fun
  | [d1, d2, d3, d4] => { results := [.lit (.bool true)], args := [d1, d2, d3, d4] }
  | _ => none }
def liftRaisesRow : OpenClaim := { program := "ytioilmppidlbnaagreatdoor", sum := "4709edc5504e37669e2311a56c26299e0623f5568ee9f2b382c87479236effbd", func := "ogee/ogeelaw14.LiftRaises", spec := "liftRaises", inPlace := ["internal/bytealg.IndexByteString", "internal/bytealg.IndexString", "math/bits.Add64", "math/bits.Sub64"], unfollowed := true, recurses := true, named := ["unicode/utf8.first", "unicode/utf8.acceptRanges", "math/bits.deBruijn64tab", "internal/bytealg.MaxLen"], apart := false, laid := [("math/bits.deBruijn64tab", laid_math_bits_deBruijn64tab), ("unicode/utf8.acceptRanges", laid_unicode_utf8_acceptRanges), ("unicode/utf8.first", laid_unicode_utf8_first)] }
def LiftRaisesSaid : Prop := liftRaisesRow.holds Tryz.pinned (OpenSpec.ofChange liftRaisesSpec)

/-- ITS FALSE NEIGHBOUR: 'it returns false'. Refute it at one input. -/
def liftRaisesWrong : ChangeSpec := { name := "liftRaises", fn := fun _ => fun
  | [d1, d2, d3, d4] => { results := [.lit (.bool false)], args := [d1, d2, d3, d4] }
  | _ => none }
def LiftRaisesWrongFalsely : Prop := liftRaisesRow.holds Tryz.pinned (OpenSpec.ofChange liftRaisesWrong)

/-- 'ogeelaw14.LiftValues': WHATEVER THE INPUT: true; the input reads as it did. -/
def liftValuesSpec : ChangeSpec := { name := "liftValues", fn := fun _ => fun
  | [d1, d2, d3] => { results := [.lit (.bool true)], args := [d1, d2, d3] }
  | _ => none }
def liftValuesRow : OpenClaim := { program := "ytioilmppidlbnaagreatdoor", sum := "4709edc5504e37669e2311a56c26299e0623f5568ee9f2b382c87479236effbd", func := "ogee/ogeelaw14.LiftValues", spec := "liftValues", inPlace := ["internal/bytealg.IndexByteString", "internal/bytealg.IndexString", "math/bits.Add64", "math/bits.Sub64"], unfollowed := true, recurses := true, named := ["unicode/utf8.first", "unicode/utf8.acceptRanges", "math/bits.deBruijn64tab", "internal/bytealg.MaxLen"], apart := false, laid := [("math/bits.deBruijn64tab", laid_math_bits_deBruijn64tab), ("unicode/utf8.acceptRanges", laid_unicode_utf8_acceptRanges), ("unicode/utf8.first", laid_unicode_utf8_first)] }
def LiftValuesSaid : Prop := liftValuesRow.holds Tryz.pinned (OpenSpec.ofChange liftValuesSpec)

/-- ITS FALSE NEIGHBOUR: 'it returns false'. Refute it at one input. -/
def liftValuesWrong : ChangeSpec := { name := "liftValues", fn := fun _ => fun
  | [d1, d2, d3] => { results := [.lit (.bool false)], args := [d1, d2, d3] }
  | _ => none }
def LiftValuesWrongFalsely : Prop := liftValuesRow.holds Tryz.pinned (OpenSpec.ofChange liftValuesWrong)

/-- 'ogeelaw14.LiftSame': WHATEVER THE INPUT: true; the input reads as it did. -/
def liftSameSpec : ChangeSpec := { name := "liftSame", fn := fun _ => fun
  | [d1, d2, d3] => { results := [.lit (.bool true)], args := [d1, d2, d3] }
  | _ => none }
def liftSameRow : OpenClaim := { program := "ytioilmppidlbnaagreatdoor", sum := "4709edc5504e37669e2311a56c26299e0623f5568ee9f2b382c87479236effbd", func := "ogee/ogeelaw14.LiftSame", spec := "liftSame", inPlace := ["internal/bytealg.IndexByteString", "internal/bytealg.IndexString", "math/bits.Add64", "math/bits.Sub64"], unfollowed := true, recurses := true, named := ["unicode/utf8.first", "unicode/utf8.acceptRanges", "math/bits.deBruijn64tab", "internal/bytealg.MaxLen"], apart := false, laid := [("math/bits.deBruijn64tab", laid_math_bits_deBruijn64tab), ("unicode/utf8.acceptRanges", laid_unicode_utf8_acceptRanges), ("unicode/utf8.first", laid_unicode_utf8_first)] }
def LiftSameSaid : Prop := liftSameRow.holds Tryz.pinned (OpenSpec.ofChange liftSameSpec)

/-- ITS FALSE NEIGHBOUR: 'it returns false'. Refute it at one input. -/
def liftSameWrong : ChangeSpec := { name := "liftSame", fn := fun _ => fun
  | [d1, d2, d3] => { results := [.lit (.bool false)], args := [d1, d2, d3] }
  | _ => none }
def LiftSameWrongFalsely : Prop := liftSameRow.holds Tryz.pinned (OpenSpec.ofChange liftSameWrong)

/-- 'ogeelaw13.CastCuts': WHATEVER THE INPUT: true; the input reads as it did. -/
def castCutsSpec : ChangeSpec := { name := "castCuts", fn := fun _ => fun
  | [d1, d2, d3] => { results := [.lit (.bool true)], args := [d1, d2, d3] }
  | _ => none }
def castCutsRow : OpenClaim := { program := "ytioilmppidlbnaagreatdoor", sum := "4709edc5504e37669e2311a56c26299e0623f5568ee9f2b382c87479236effbd", func := "ogee/ogeelaw13.CastCuts", spec := "castCuts", inPlace := ["internal/bytealg.IndexByteString", "internal/bytealg.IndexString", "math/bits.Add64", "math/bits.Sub64"], unfollowed := true, recurses := true, named := ["unicode/utf8.first", "unicode/utf8.acceptRanges", "math/bits.deBruijn64tab", "internal/bytealg.MaxLen"], apart := false, laid := [("math/bits.deBruijn64tab", laid_math_bits_deBruijn64tab), ("unicode/utf8.acceptRanges", laid_unicode_utf8_acceptRanges), ("unicode/utf8.first", laid_unicode_utf8_first)] }
def CastCutsSaid : Prop := castCutsRow.holds Tryz.pinned (OpenSpec.ofChange castCutsSpec)

/-- ITS FALSE NEIGHBOUR: 'it returns false'. Refute it at one input. -/
def castCutsWrong : ChangeSpec := { name := "castCuts", fn := fun _ => fun
  | [d1, d2, d3] => { results := [.lit (.bool false)], args := [d1, d2, d3] }
  | _ => none }
def CastCutsWrongFalsely : Prop := castCutsRow.holds Tryz.pinned (OpenSpec.ofChange castCutsWrong)

/-- 'ogeelaw13.CastParts': WHATEVER THE INPUT: true; the input reads as it did. -/
def castPartsSpec : ChangeSpec := { name := "castParts", fn := fun _ => fun
  | [d1, d2] => { results := [.lit (.bool true)], args := [d1, d2] }
  | _ => none }
def castPartsRow : OpenClaim := { program := "ytioilmppidlbnaagreatdoor", sum := "4709edc5504e37669e2311a56c26299e0623f5568ee9f2b382c87479236effbd", func := "ogee/ogeelaw13.CastParts", spec := "castParts", inPlace := ["internal/bytealg.IndexByteString", "internal/bytealg.IndexString", "math/bits.Add64", "math/bits.Sub64"], unfollowed := true, recurses := true, named := ["unicode/utf8.first", "unicode/utf8.acceptRanges", "math/bits.deBruijn64tab", "internal/bytealg.MaxLen"], apart := false, laid := [("math/bits.deBruijn64tab", laid_math_bits_deBruijn64tab), ("unicode/utf8.acceptRanges", laid_unicode_utf8_acceptRanges), ("unicode/utf8.first", laid_unicode_utf8_first)] }
def CastPartsSaid : Prop := castPartsRow.holds Tryz.pinned (OpenSpec.ofChange castPartsSpec)

/-- ITS FALSE NEIGHBOUR: 'it returns false'. Refute it at one input. -/
def castPartsWrong : ChangeSpec := { name := "castParts", fn := fun _ => fun
  | [d1, d2] => { results := [.lit (.bool false)], args := [d1, d2] }
  | _ => none }
def CastPartsWrongFalsely : Prop := castPartsRow.holds Tryz.pinned (OpenSpec.ofChange castPartsWrong)

/-- 'ogeelaw13.CastOrder': WHATEVER THE INPUT: true; the input reads as it did. -/
def castOrderSpec : ChangeSpec := { name := "castOrder", fn := fun _ => fun
  | [d1, d2, d3, d4, d5] => { results := [.lit (.bool true)], args := [d1, d2, d3, d4, d5] }
  | _ => none }
def castOrderRow : OpenClaim := { program := "ytioilmppidlbnaagreatdoor", sum := "4709edc5504e37669e2311a56c26299e0623f5568ee9f2b382c87479236effbd", func := "ogee/ogeelaw13.CastOrder", spec := "castOrder", inPlace := ["internal/bytealg.IndexByteString", "internal/bytealg.IndexString", "math/bits.Add64", "math/bits.Sub64"], unfollowed := true, recurses := true, named := ["unicode/utf8.first", "unicode/utf8.acceptRanges", "math/bits.deBruijn64tab", "internal/bytealg.MaxLen"], apart := false, laid := [("math/bits.deBruijn64tab", laid_math_bits_deBruijn64tab), ("unicode/utf8.acceptRanges", laid_unicode_utf8_acceptRanges), ("unicode/utf8.first", laid_unicode_utf8_first)] }
def CastOrderSaid : Prop := castOrderRow.holds Tryz.pinned (OpenSpec.ofChange castOrderSpec)

/-- ITS FALSE NEIGHBOUR: 'it returns false'. Refute it at one input. -/
def castOrderWrong : ChangeSpec := { name := "castOrder", fn := fun _ => fun
  | [d1, d2, d3, d4, d5] => { results := [.lit (.bool false)], args := [d1, d2, d3, d4, d5] }
  | _ => none }
def CastOrderWrongFalsely : Prop := castOrderRow.holds Tryz.pinned (OpenSpec.ofChange castOrderWrong)

/-- 'ogeelaw13.CastMeets': WHATEVER THE INPUT: true; the input reads as it did. -/
def castMeetsSpec : ChangeSpec := { name := "castMeets", fn := fun _ => fun
  | [d1, d2, d3, d4] => { results := [.lit (.bool true)], args := [d1, d2, d3, d4] }
  | _ => none }
def castMeetsRow : OpenClaim := { program := "ytioilmppidlbnaagreatdoor", sum := "4709edc5504e37669e2311a56c26299e0623f5568ee9f2b382c87479236effbd", func := "ogee/ogeelaw13.CastMeets", spec := "castMeets", inPlace := ["internal/bytealg.IndexByteString", "internal/bytealg.IndexString", "math/bits.Add64", "math/bits.Sub64"], unfollowed := true, recurses := true, named := ["unicode/utf8.first", "unicode/utf8.acceptRanges", "math/bits.deBruijn64tab", "internal/bytealg.MaxLen"], apart := false, laid := [("math/bits.deBruijn64tab", laid_math_bits_deBruijn64tab), ("unicode/utf8.acceptRanges", laid_unicode_utf8_acceptRanges), ("unicode/utf8.first", laid_unicode_utf8_first)] }
def CastMeetsSaid : Prop := castMeetsRow.holds Tryz.pinned (OpenSpec.ofChange castMeetsSpec)

/-- ITS FALSE NEIGHBOUR: 'it returns false'. Refute it at one input. -/
def castMeetsWrong : ChangeSpec := { name := "castMeets", fn := fun _ => fun
  | [d1, d2, d3, d4] => { results := [.lit (.bool false)], args := [d1, d2, d3, d4] }
  | _ => none }
def CastMeetsWrongFalsely : Prop := castMeetsRow.holds Tryz.pinned (OpenSpec.ofChange castMeetsWrong)

/-- 'ogeelaw13.CastSame': WHATEVER THE INPUT: true; the input reads as it did. -/
def castSameSpec : ChangeSpec := { name := "castSame", fn := fun _ => fun
  | [d1, d2, d3, d4] => { results := [.lit (.bool true)], args := [d1, d2, d3, d4] }
  | _ => none }
def castSameRow : OpenClaim := { program := "ytioilmppidlbnaagreatdoor", sum := "4709edc5504e37669e2311a56c26299e0623f5568ee9f2b382c87479236effbd", func := "ogee/ogeelaw13.CastSame", spec := "castSame", inPlace := ["internal/bytealg.IndexByteString", "internal/bytealg.IndexString", "math/bits.Add64", "math/bits.Sub64"], unfollowed := true, recurses := true, named := ["unicode/utf8.first", "unicode/utf8.acceptRanges", "math/bits.deBruijn64tab", "internal/bytealg.MaxLen"], apart := false, laid := [("math/bits.deBruijn64tab", laid_math_bits_deBruijn64tab), ("unicode/utf8.acceptRanges", laid_unicode_utf8_acceptRanges), ("unicode/utf8.first", laid_unicode_utf8_first)] }
def CastSameSaid : Prop := castSameRow.holds Tryz.pinned (OpenSpec.ofChange castSameSpec)

/-- ITS FALSE NEIGHBOUR: 'it returns false'. Refute it at one input. -/
def castSameWrong : ChangeSpec := { name := "castSame", fn := fun _ => fun
  | [d1, d2, d3, d4] => { results := [.lit (.bool false)], args := [d1, d2, d3, d4] }
  | _ => none }
def CastSameWrongFalsely : Prop := castSameRow.holds Tryz.pinned (OpenSpec.ofChange castSameWrong)

/- THE SECOND FORM. 'bulk': how many values and letters a reading holds, each counted each time it is reached (what is shared counts as often as it is met; a slice's spare places count too). A statement '..UptoSaid' is the law's where the arguments, and the package variables that the reading takes, are together of bulk at most 1048576: NARROWER than '..Said'. Prove '..Said' where nothing that the law and all that it calls make is longer than what came in: it says more and counts as full. Else prove '..UptoSaid'. A law counts once. -/
mutual
def uptoBulk {H : Type} : DataW H → Nat
  | .lit (.string bytes) => bytes.length + 1
  | .lit _ => 1
  | .nil => 1
  | .ptr d => uptoBulk d + 1
  | .slice elems spare => uptoBulkAll elems + uptoBulkAll spare + 1
  | .agg parts => uptoBulkAll parts + 1
  | .iface _ d => uptoBulk d + 1
  | .map entries => uptoBulkEntries entries + 1
  | .held _ => 1
def uptoBulkAll {H : Type} : List (DataW H) → Nat
  | [] => 0
  | d :: r => uptoBulk d + uptoBulkAll r
def uptoBulkEntries {H : Type} : List (Lit × DataW H) → Nat
  | [] => 0
  | x :: r => uptoBulkEntry x + uptoBulkEntries r
def uptoBulkEntry {H : Type} : Lit × DataW H → Nat
  | (.string bytes, d) => bytes.length + uptoBulk d + 1
  | (_, d) => uptoBulk d + 1
 end
def uptoSmall : (H : Type) → List (DataW H) → Bool := fun _ ds => decide (uptoBulkAll ds ≤ 1048576)
def OpenSpec.upto (s : _root_.Go.ChangeSpec) : _root_.Go.OpenSpec := { _root_.Go.OpenSpec.ofChange s with cond := some uptoSmall }

/-- 'ogeelaw14.LiftMuls', WHERE WHAT IT READS IS OF BULK AT MOST 1048576: true; the input reads as it did. -/
def liftMulsUptoRow : OpenClaim := { program := "ytioilmppidlbnaagreatdoor", sum := "4709edc5504e37669e2311a56c26299e0623f5568ee9f2b382c87479236effbd", func := "ogee/ogeelaw14.LiftMuls", spec := "liftMuls", inPlace := ["internal/bytealg.IndexByteString", "internal/bytealg.IndexString", "math/bits.Add64", "math/bits.Sub64"], unfollowed := true, recurses := true, named := ["unicode/utf8.first", "unicode/utf8.acceptRanges", "math/bits.deBruijn64tab", "internal/bytealg.MaxLen"], apart := false, laid := [("math/bits.deBruijn64tab", laid_math_bits_deBruijn64tab), ("unicode/utf8.acceptRanges", laid_unicode_utf8_acceptRanges), ("unicode/utf8.first", laid_unicode_utf8_first)], narrowed := true }
def LiftMulsUptoSaid : Prop := liftMulsUptoRow.holds Tryz.pinned (OpenSpec.upto liftMulsSpec)

/-- 'ogeelaw14.LiftRaises', WHERE WHAT IT READS IS OF BULK AT MOST 1048576: true; the input reads as it did. -/
def liftRaisesUptoRow : OpenClaim := { program := "ytioilmppidlbnaagreatdoor", sum := "4709edc5504e37669e2311a56c26299e0623f5568ee9f2b382c87479236effbd", func := "ogee/ogeelaw14.LiftRaises", spec := "liftRaises", inPlace := ["internal/bytealg.IndexByteString", "internal/bytealg.IndexString", "math/bits.Add64", "math/bits.Sub64"], unfollowed := true, recurses := true, named := ["unicode/utf8.first", "unicode/utf8.acceptRanges", "math/bits.deBruijn64tab", "internal/bytealg.MaxLen"], apart := false, laid := [("math/bits.deBruijn64tab", laid_math_bits_deBruijn64tab), ("unicode/utf8.acceptRanges", laid_unicode_utf8_acceptRanges), ("unicode/utf8.first", laid_unicode_utf8_first)], narrowed := true }
def LiftRaisesUptoSaid : Prop := liftRaisesUptoRow.holds Tryz.pinned (OpenSpec.upto liftRaisesSpec)

/-- 'ogeelaw14.LiftValues', WHERE WHAT IT READS IS OF BULK AT MOST 1048576: true; the input reads as it did. -/
def liftValuesUptoRow : OpenClaim := { program := "ytioilmppidlbnaagreatdoor", sum := "4709edc5504e37669e2311a56c26299e0623f5568ee9f2b382c87479236effbd", func := "ogee/ogeelaw14.LiftValues", spec := "liftValues", inPlace := ["internal/bytealg.IndexByteString", "internal/bytealg.IndexString", "math/bits.Add64", "math/bits.Sub64"], unfollowed := true, recurses := true, named := ["unicode/utf8.first", "unicode/utf8.acceptRanges", "math/bits.deBruijn64tab", "internal/bytealg.MaxLen"], apart := false, laid := [("math/bits.deBruijn64tab", laid_math_bits_deBruijn64tab), ("unicode/utf8.acceptRanges", laid_unicode_utf8_acceptRanges), ("unicode/utf8.first", laid_unicode_utf8_first)], narrowed := true }
def LiftValuesUptoSaid : Prop := liftValuesUptoRow.holds Tryz.pinned (OpenSpec.upto liftValuesSpec)

/-- 'ogeelaw14.LiftSame', WHERE WHAT IT READS IS OF BULK AT MOST 1048576: true; the input reads as it did. -/
def liftSameUptoRow : OpenClaim := { program := "ytioilmppidlbnaagreatdoor", sum := "4709edc5504e37669e2311a56c26299e0623f5568ee9f2b382c87479236effbd", func := "ogee/ogeelaw14.LiftSame", spec := "liftSame", inPlace := ["internal/bytealg.IndexByteString", "internal/bytealg.IndexString", "math/bits.Add64", "math/bits.Sub64"], unfollowed := true, recurses := true, named := ["unicode/utf8.first", "unicode/utf8.acceptRanges", "math/bits.deBruijn64tab", "internal/bytealg.MaxLen"], apart := false, laid := [("math/bits.deBruijn64tab", laid_math_bits_deBruijn64tab), ("unicode/utf8.acceptRanges", laid_unicode_utf8_acceptRanges), ("unicode/utf8.first", laid_unicode_utf8_first)], narrowed := true }
def LiftSameUptoSaid : Prop := liftSameUptoRow.holds Tryz.pinned (OpenSpec.upto liftSameSpec)

/-- 'ogeelaw13.CastCuts', WHERE WHAT IT READS IS OF BULK AT MOST 1048576: true; the input reads as it did. -/
def castCutsUptoRow : OpenClaim := { program := "ytioilmppidlbnaagreatdoor", sum := "4709edc5504e37669e2311a56c26299e0623f5568ee9f2b382c87479236effbd", func := "ogee/ogeelaw13.CastCuts", spec := "castCuts", inPlace := ["internal/bytealg.IndexByteString", "internal/bytealg.IndexString", "math/bits.Add64", "math/bits.Sub64"], unfollowed := true, recurses := true, named := ["unicode/utf8.first", "unicode/utf8.acceptRanges", "math/bits.deBruijn64tab", "internal/bytealg.MaxLen"], apart := false, laid := [("math/bits.deBruijn64tab", laid_math_bits_deBruijn64tab), ("unicode/utf8.acceptRanges", laid_unicode_utf8_acceptRanges), ("unicode/utf8.first", laid_unicode_utf8_first)], narrowed := true }
def CastCutsUptoSaid : Prop := castCutsUptoRow.holds Tryz.pinned (OpenSpec.upto castCutsSpec)

/-- 'ogeelaw13.CastParts', WHERE WHAT IT READS IS OF BULK AT MOST 1048576: true; the input reads as it did. -/
def castPartsUptoRow : OpenClaim := { program := "ytioilmppidlbnaagreatdoor", sum := "4709edc5504e37669e2311a56c26299e0623f5568ee9f2b382c87479236effbd", func := "ogee/ogeelaw13.CastParts", spec := "castParts", inPlace := ["internal/bytealg.IndexByteString", "internal/bytealg.IndexString", "math/bits.Add64", "math/bits.Sub64"], unfollowed := true, recurses := true, named := ["unicode/utf8.first", "unicode/utf8.acceptRanges", "math/bits.deBruijn64tab", "internal/bytealg.MaxLen"], apart := false, laid := [("math/bits.deBruijn64tab", laid_math_bits_deBruijn64tab), ("unicode/utf8.acceptRanges", laid_unicode_utf8_acceptRanges), ("unicode/utf8.first", laid_unicode_utf8_first)], narrowed := true }
def CastPartsUptoSaid : Prop := castPartsUptoRow.holds Tryz.pinned (OpenSpec.upto castPartsSpec)

/-- 'ogeelaw13.CastOrder', WHERE WHAT IT READS IS OF BULK AT MOST 1048576: true; the input reads as it did. -/
def castOrderUptoRow : OpenClaim := { program := "ytioilmppidlbnaagreatdoor", sum := "4709edc5504e37669e2311a56c26299e0623f5568ee9f2b382c87479236effbd", func := "ogee/ogeelaw13.CastOrder", spec := "castOrder", inPlace := ["internal/bytealg.IndexByteString", "internal/bytealg.IndexString", "math/bits.Add64", "math/bits.Sub64"], unfollowed := true, recurses := true, named := ["unicode/utf8.first", "unicode/utf8.acceptRanges", "math/bits.deBruijn64tab", "internal/bytealg.MaxLen"], apart := false, laid := [("math/bits.deBruijn64tab", laid_math_bits_deBruijn64tab), ("unicode/utf8.acceptRanges", laid_unicode_utf8_acceptRanges), ("unicode/utf8.first", laid_unicode_utf8_first)], narrowed := true }
def CastOrderUptoSaid : Prop := castOrderUptoRow.holds Tryz.pinned (OpenSpec.upto castOrderSpec)

/-- 'ogeelaw13.CastMeets', WHERE WHAT IT READS IS OF BULK AT MOST 1048576: true; the input reads as it did. -/
def castMeetsUptoRow : OpenClaim := { program := "ytioilmppidlbnaagreatdoor", sum := "4709edc5504e37669e2311a56c26299e0623f5568ee9f2b382c87479236effbd", func := "ogee/ogeelaw13.CastMeets", spec := "castMeets", inPlace := ["internal/bytealg.IndexByteString", "internal/bytealg.IndexString", "math/bits.Add64", "math/bits.Sub64"], unfollowed := true, recurses := true, named := ["unicode/utf8.first", "unicode/utf8.acceptRanges", "math/bits.deBruijn64tab", "internal/bytealg.MaxLen"], apart := false, laid := [("math/bits.deBruijn64tab", laid_math_bits_deBruijn64tab), ("unicode/utf8.acceptRanges", laid_unicode_utf8_acceptRanges), ("unicode/utf8.first", laid_unicode_utf8_first)], narrowed := true }
def CastMeetsUptoSaid : Prop := castMeetsUptoRow.holds Tryz.pinned (OpenSpec.upto castMeetsSpec)

/-- 'ogeelaw13.CastSame', WHERE WHAT IT READS IS OF BULK AT MOST 1048576: true; the input reads as it did. -/
def castSameUptoRow : OpenClaim := { program := "ytioilmppidlbnaagreatdoor", sum := "4709edc5504e37669e2311a56c26299e0623f5568ee9f2b382c87479236effbd", func := "ogee/ogeelaw13.CastSame", spec := "castSame", inPlace := ["internal/bytealg.IndexByteString", "internal/bytealg.IndexString", "math/bits.Add64", "math/bits.Sub64"], unfollowed := true, recurses := true, named := ["unicode/utf8.first", "unicode/utf8.acceptRanges", "math/bits.deBruijn64tab", "internal/bytealg.MaxLen"], apart := false, laid := [("math/bits.deBruijn64tab", laid_math_bits_deBruijn64tab), ("unicode/utf8.acceptRanges", laid_unicode_utf8_acceptRanges), ("unicode/utf8.first", laid_unicode_utf8_first)], narrowed := true }
def CastSameUptoSaid : Prop := castSameUptoRow.holds Tryz.pinned (OpenSpec.upto castSameSpec)

end Rows
end Go.Proofs.YtioilmppidlbnaaGreatDoor
