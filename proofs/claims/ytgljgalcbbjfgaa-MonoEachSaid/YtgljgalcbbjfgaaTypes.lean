/- Closed facts on the seat's types and functions, as instances that the rules find by themselves (printed by wip/gen/types.py). -/
import Derived.Test.YtgljgalcbbjfgaaProg
import Derived.Test.YtgljgalcbbjfgaaSteps
import Derived.KernelRfl
namespace Go.Proofs.Ytgljgalcbbjfgaa
set_option maxRecDepth 100000
class UIs (P : Program) (t : TypeId) (d : outParam TypeDesc) : Prop where out : P.underlying t = some d
class TIs (P : Program) (t : TypeId) (n : outParam Nat) (ag : outParam Bool) (b : outParam Nat) (zc : outParam (List Value)) : Prop where out : tinfo P t = some (n, ag, b, zc)
class FIs (P : Program) (s : TypeId) (f : Nat) (off : outParam Nat) (ft : outParam TypeId) : Prop where out : fieldOff P s f = some (off, ft)
class PIs (P : Program) (s : TypeId) (pl : outParam (List (Nat × Nat))) : Prop where out : placesOf P s = some pl
class FnIs (P : Program) (f : FuncId) : Prop where out : isFn P f = true
theorem TIs.size {P : Program} {t : TypeId} {n b : Nat} {ag : Bool} {zc : List Value} [h : TIs P t n ag b zc] : (P.info? t).map (·.size) = some n := by
  obtain ⟨i, z, d, hi, hd, hz, hs, _⟩ := tinfo_spec h.out
  rw [hi, Option.map_some, hs]
theorem tu2 : Try.prog.underlying 2 = some (.int .i64) := by kernel_rfl
instance : UIs Try.prog 2 (.int .i64) := ⟨tu2⟩
theorem ti2 : tinfo Try.prog 2 = some (1, false, 8, [.int .i64 0]) := by kernel_rfl
instance : TIs Try.prog 2 1 false 8 [.int .i64 0] := ⟨ti2⟩
theorem tu3 : Try.prog.underlying 3 = some (.int .i64) := by kernel_rfl
instance : UIs Try.prog 3 (.int .i64) := ⟨tu3⟩
theorem ti3 : tinfo Try.prog 3 = some (1, false, 8, [.int .i64 0]) := by kernel_rfl
instance : TIs Try.prog 3 1 false 8 [.int .i64 0] := ⟨ti3⟩
theorem tu4 : Try.prog.underlying 4 = some (.bool) := by kernel_rfl
instance : UIs Try.prog 4 (.bool) := ⟨tu4⟩
theorem ti4 : tinfo Try.prog 4 = some (1, false, 1, [.bool false]) := by kernel_rfl
instance : TIs Try.prog 4 1 false 1 [.bool false] := ⟨ti4⟩
theorem tu5 : Try.prog.underlying 5 = some (.int .u8) := by kernel_rfl
instance : UIs Try.prog 5 (.int .u8) := ⟨tu5⟩
theorem ti5 : tinfo Try.prog 5 = some (1, false, 1, [.int .u8 0]) := by kernel_rfl
instance : TIs Try.prog 5 1 false 1 [.int .u8 0] := ⟨ti5⟩
theorem tu6 : Try.prog.underlying 6 = some (.int .u8) := by kernel_rfl
instance : UIs Try.prog 6 (.int .u8) := ⟨tu6⟩
theorem ti6 : tinfo Try.prog 6 = some (1, false, 1, [.int .u8 0]) := by kernel_rfl
instance : TIs Try.prog 6 1 false 1 [.int .u8 0] := ⟨ti6⟩
theorem ti7 : tinfo Try.prog 7 = some (4, true, 24, [.int .i64 0, .int .i64 0, .bool false, .int .u8 0]) := by kernel_rfl
instance : TIs Try.prog 7 4 true 24 [.int .i64 0, .int .i64 0, .bool false, .int .u8 0] := ⟨ti7⟩
theorem fo7_0 : fieldOff Try.prog 7 0 = some (0, 2) := by kernel_rfl
instance : FIs Try.prog 7 0 0 2 := ⟨fo7_0⟩
theorem fo7_1 : fieldOff Try.prog 7 1 = some (1, 3) := by kernel_rfl
instance : FIs Try.prog 7 1 1 3 := ⟨fo7_1⟩
theorem fo7_2 : fieldOff Try.prog 7 2 = some (2, 4) := by kernel_rfl
instance : FIs Try.prog 7 2 2 4 := ⟨fo7_2⟩
theorem fo7_3 : fieldOff Try.prog 7 3 = some (3, 6) := by kernel_rfl
instance : FIs Try.prog 7 3 3 6 := ⟨fo7_3⟩
theorem pl7 : placesOf Try.prog 7 = some [(0, 1), (1, 1), (2, 1), (3, 1)] := by kernel_rfl
instance : PIs Try.prog 7 [(0, 1), (1, 1), (2, 1), (3, 1)] := ⟨pl7⟩
theorem ti8 : tinfo Try.prog 8 = some (4, true, 24, [.int .i64 0, .int .i64 0, .bool false, .int .u8 0]) := by kernel_rfl
instance : TIs Try.prog 8 4 true 24 [.int .i64 0, .int .i64 0, .bool false, .int .u8 0] := ⟨ti8⟩
theorem fo8_0 : fieldOff Try.prog 8 0 = some (0, 2) := by kernel_rfl
instance : FIs Try.prog 8 0 0 2 := ⟨fo8_0⟩
theorem fo8_1 : fieldOff Try.prog 8 1 = some (1, 3) := by kernel_rfl
instance : FIs Try.prog 8 1 1 3 := ⟨fo8_1⟩
theorem fo8_2 : fieldOff Try.prog 8 2 = some (2, 4) := by kernel_rfl
instance : FIs Try.prog 8 2 2 4 := ⟨fo8_2⟩
theorem fo8_3 : fieldOff Try.prog 8 3 = some (3, 6) := by kernel_rfl
instance : FIs Try.prog 8 3 3 6 := ⟨fo8_3⟩
theorem pl8 : placesOf Try.prog 8 = some [(0, 1), (1, 1), (2, 1), (3, 1)] := by kernel_rfl
instance : PIs Try.prog 8 [(0, 1), (1, 1), (2, 1), (3, 1)] := ⟨pl8⟩
theorem tu9 : Try.prog.underlying 9 = some (.string) := by kernel_rfl
instance : UIs Try.prog 9 (.string) := ⟨tu9⟩
theorem ti9 : tinfo Try.prog 9 = some (1, false, 16, [.string { data := #[] }]) := by kernel_rfl
instance : TIs Try.prog 9 1 false 16 [.string { data := #[] }] := ⟨ti9⟩
theorem tu10 : Try.prog.underlying 10 = some (.string) := by kernel_rfl
instance : UIs Try.prog 10 (.string) := ⟨tu10⟩
theorem ti10 : tinfo Try.prog 10 = some (1, false, 16, [.string { data := #[] }]) := by kernel_rfl
instance : TIs Try.prog 10 1 false 16 [.string { data := #[] }] := ⟨ti10⟩
theorem tu11 : Try.prog.underlying 11 = some (.string) := by kernel_rfl
instance : UIs Try.prog 11 (.string) := ⟨tu11⟩
theorem ti11 : tinfo Try.prog 11 = some (1, false, 16, [.string { data := #[] }]) := by kernel_rfl
instance : TIs Try.prog 11 1 false 16 [.string { data := #[] }] := ⟨ti11⟩
theorem tu12 : Try.prog.underlying 12 = some (.int .u64) := by kernel_rfl
instance : UIs Try.prog 12 (.int .u64) := ⟨tu12⟩
theorem ti12 : tinfo Try.prog 12 = some (1, false, 8, [.int .u64 0]) := by kernel_rfl
instance : TIs Try.prog 12 1 false 8 [.int .u64 0] := ⟨ti12⟩
theorem ti13 : tinfo Try.prog 13 = some (2, true, 24, [.string { data := #[] }, .int .u64 0]) := by kernel_rfl
instance : TIs Try.prog 13 2 true 24 [.string { data := #[] }, .int .u64 0] := ⟨ti13⟩
theorem fo13_0 : fieldOff Try.prog 13 0 = some (0, 9) := by kernel_rfl
instance : FIs Try.prog 13 0 0 9 := ⟨fo13_0⟩
theorem fo13_1 : fieldOff Try.prog 13 1 = some (1, 12) := by kernel_rfl
instance : FIs Try.prog 13 1 1 12 := ⟨fo13_1⟩
theorem pl13 : placesOf Try.prog 13 = some [(0, 1), (1, 1)] := by kernel_rfl
instance : PIs Try.prog 13 [(0, 1), (1, 1)] := ⟨pl13⟩
theorem ti14 : tinfo Try.prog 14 = some (2, true, 24, [.string { data := #[] }, .int .u64 0]) := by kernel_rfl
instance : TIs Try.prog 14 2 true 24 [.string { data := #[] }, .int .u64 0] := ⟨ti14⟩
theorem fo14_0 : fieldOff Try.prog 14 0 = some (0, 9) := by kernel_rfl
instance : FIs Try.prog 14 0 0 9 := ⟨fo14_0⟩
theorem fo14_1 : fieldOff Try.prog 14 1 = some (1, 12) := by kernel_rfl
instance : FIs Try.prog 14 1 1 12 := ⟨fo14_1⟩
theorem pl14 : placesOf Try.prog 14 = some [(0, 1), (1, 1)] := by kernel_rfl
instance : PIs Try.prog 14 [(0, 1), (1, 1)] := ⟨pl14⟩
theorem tu15 : Try.prog.underlying 15 = some (.pointer 50) := by kernel_rfl
instance : UIs Try.prog 15 (.pointer 50) := ⟨tu15⟩
theorem ti15 : tinfo Try.prog 15 = some (1, false, 8, [.pointer none]) := by kernel_rfl
instance : TIs Try.prog 15 1 false 8 [.pointer none] := ⟨ti15⟩
theorem tu16 : Try.prog.underlying 16 = some (.pointer 53) := by kernel_rfl
instance : UIs Try.prog 16 (.pointer 53) := ⟨tu16⟩
theorem ti16 : tinfo Try.prog 16 = some (1, false, 8, [.pointer none]) := by kernel_rfl
instance : TIs Try.prog 16 1 false 8 [.pointer none] := ⟨ti16⟩
theorem tu17 : Try.prog.underlying 17 = some (.pointer 63) := by kernel_rfl
instance : UIs Try.prog 17 (.pointer 63) := ⟨tu17⟩
theorem ti17 : tinfo Try.prog 17 = some (1, false, 8, [.pointer none]) := by kernel_rfl
instance : TIs Try.prog 17 1 false 8 [.pointer none] := ⟨ti17⟩
theorem ti18 : tinfo Try.prog 18 = some (1, true, 8, [.pointer none]) := by kernel_rfl
instance : TIs Try.prog 18 1 true 8 [.pointer none] := ⟨ti18⟩
theorem fo18_0 : fieldOff Try.prog 18 0 = some (0, 17) := by kernel_rfl
instance : FIs Try.prog 18 0 0 17 := ⟨fo18_0⟩
theorem pl18 : placesOf Try.prog 18 = some [(0, 1)] := by kernel_rfl
instance : PIs Try.prog 18 [(0, 1)] := ⟨pl18⟩
theorem ti19 : tinfo Try.prog 19 = some (1, true, 8, [.pointer none]) := by kernel_rfl
instance : TIs Try.prog 19 1 true 8 [.pointer none] := ⟨ti19⟩
theorem fo19_0 : fieldOff Try.prog 19 0 = some (0, 17) := by kernel_rfl
instance : FIs Try.prog 19 0 0 17 := ⟨fo19_0⟩
theorem pl19 : placesOf Try.prog 19 = some [(0, 1)] := by kernel_rfl
instance : PIs Try.prog 19 [(0, 1)] := ⟨pl19⟩
theorem tu21 : Try.prog.underlying 21 = some (.int .i32) := by kernel_rfl
instance : UIs Try.prog 21 (.int .i32) := ⟨tu21⟩
theorem ti21 : tinfo Try.prog 21 = some (1, false, 4, [.int .i32 0]) := by kernel_rfl
instance : TIs Try.prog 21 1 false 4 [.int .i32 0] := ⟨ti21⟩
theorem tu22 : Try.prog.underlying 22 = some (.slice 3) := by kernel_rfl
instance : UIs Try.prog 22 (.slice 3) := ⟨tu22⟩
theorem ti22 : tinfo Try.prog 22 = some (1, false, 24, [.slice none 0 0]) := by kernel_rfl
instance : TIs Try.prog 22 1 false 24 [.slice none 0 0] := ⟨ti22⟩
theorem tu24 : Try.prog.underlying 24 = some (.int .i64) := by kernel_rfl
instance : UIs Try.prog 24 (.int .i64) := ⟨tu24⟩
theorem ti24 : tinfo Try.prog 24 = some (1, false, 8, [.int .i64 0]) := by kernel_rfl
instance : TIs Try.prog 24 1 false 8 [.int .i64 0] := ⟨ti24⟩
theorem tu38 : Try.prog.underlying 38 = some (.slice 9) := by kernel_rfl
instance : UIs Try.prog 38 (.slice 9) := ⟨tu38⟩
theorem ti38 : tinfo Try.prog 38 = some (1, false, 24, [.slice none 0 0]) := by kernel_rfl
instance : TIs Try.prog 38 1 false 24 [.slice none 0 0] := ⟨ti38⟩
theorem tu43 : Try.prog.underlying 43 = some (.slice 5) := by kernel_rfl
instance : UIs Try.prog 43 (.slice 5) := ⟨tu43⟩
theorem ti43 : tinfo Try.prog 43 = some (1, false, 24, [.slice none 0 0]) := by kernel_rfl
instance : TIs Try.prog 43 1 false 24 [.slice none 0 0] := ⟨ti43⟩
theorem ti49 : tinfo Try.prog 49 = some (4, true, 40, [.pointer none, .pointer none, .pointer none, .string { data := #[] }]) := by kernel_rfl
instance : TIs Try.prog 49 4 true 40 [.pointer none, .pointer none, .pointer none, .string { data := #[] }] := ⟨ti49⟩
theorem fo49_0 : fieldOff Try.prog 49 0 = some (0, 17) := by kernel_rfl
instance : FIs Try.prog 49 0 0 17 := ⟨fo49_0⟩
theorem fo49_1 : fieldOff Try.prog 49 1 = some (1, 17) := by kernel_rfl
instance : FIs Try.prog 49 1 1 17 := ⟨fo49_1⟩
theorem fo49_2 : fieldOff Try.prog 49 2 = some (2, 17) := by kernel_rfl
instance : FIs Try.prog 49 2 2 17 := ⟨fo49_2⟩
theorem fo49_3 : fieldOff Try.prog 49 3 = some (3, 9) := by kernel_rfl
instance : FIs Try.prog 49 3 3 9 := ⟨fo49_3⟩
theorem pl49 : placesOf Try.prog 49 = some [(0, 1), (1, 1), (2, 1), (3, 1)] := by kernel_rfl
instance : PIs Try.prog 49 [(0, 1), (1, 1), (2, 1), (3, 1)] := ⟨pl49⟩
theorem ti50 : tinfo Try.prog 50 = some (4, true, 40, [.pointer none, .pointer none, .pointer none, .string { data := #[] }]) := by kernel_rfl
instance : TIs Try.prog 50 4 true 40 [.pointer none, .pointer none, .pointer none, .string { data := #[] }] := ⟨ti50⟩
theorem fo50_0 : fieldOff Try.prog 50 0 = some (0, 17) := by kernel_rfl
instance : FIs Try.prog 50 0 0 17 := ⟨fo50_0⟩
theorem fo50_1 : fieldOff Try.prog 50 1 = some (1, 17) := by kernel_rfl
instance : FIs Try.prog 50 1 1 17 := ⟨fo50_1⟩
theorem fo50_2 : fieldOff Try.prog 50 2 = some (2, 17) := by kernel_rfl
instance : FIs Try.prog 50 2 2 17 := ⟨fo50_2⟩
theorem fo50_3 : fieldOff Try.prog 50 3 = some (3, 9) := by kernel_rfl
instance : FIs Try.prog 50 3 3 9 := ⟨fo50_3⟩
theorem pl50 : placesOf Try.prog 50 = some [(0, 1), (1, 1), (2, 1), (3, 1)] := by kernel_rfl
instance : PIs Try.prog 50 [(0, 1), (1, 1), (2, 1), (3, 1)] := ⟨pl50⟩
theorem tu51 : Try.prog.underlying 51 = some (.array 0 16) := by kernel_rfl
instance : UIs Try.prog 51 (.array 0 16) := ⟨tu51⟩
theorem ti51 : tinfo Try.prog 51 = some (0, true, 0, []) := by kernel_rfl
instance : TIs Try.prog 51 0 true 0 [] := ⟨ti51⟩
theorem ti52 : tinfo Try.prog 52 = some (0, true, 0, []) := by kernel_rfl
instance : TIs Try.prog 52 0 true 0 [] := ⟨ti52⟩
theorem pl52 : placesOf Try.prog 52 = some [(0, 0)] := by kernel_rfl
instance : PIs Try.prog 52 [(0, 0)] := ⟨pl52⟩
theorem ti53 : tinfo Try.prog 53 = some (0, true, 0, []) := by kernel_rfl
instance : TIs Try.prog 53 0 true 0 [] := ⟨ti53⟩
theorem pl53 : placesOf Try.prog 53 = some [(0, 0)] := by kernel_rfl
instance : PIs Try.prog 53 [(0, 0)] := ⟨pl53⟩
theorem tu55 : Try.prog.underlying 55 = some (.int .u32) := by kernel_rfl
instance : UIs Try.prog 55 (.int .u32) := ⟨tu55⟩
theorem ti55 : tinfo Try.prog 55 = some (1, false, 4, [.int .u32 0]) := by kernel_rfl
instance : TIs Try.prog 55 1 false 4 [.int .u32 0] := ⟨ti55⟩
theorem tu56 : Try.prog.underlying 56 = some (.int .u8) := by kernel_rfl
instance : UIs Try.prog 56 (.int .u8) := ⟨tu56⟩
theorem ti56 : tinfo Try.prog 56 = some (1, false, 1, [.int .u8 0]) := by kernel_rfl
instance : TIs Try.prog 56 1 false 1 [.int .u8 0] := ⟨ti56⟩
theorem tu57 : Try.prog.underlying 57 = some (.int .u8) := by kernel_rfl
instance : UIs Try.prog 57 (.int .u8) := ⟨tu57⟩
theorem ti57 : tinfo Try.prog 57 = some (1, false, 1, [.int .u8 0]) := by kernel_rfl
instance : TIs Try.prog 57 1 false 1 [.int .u8 0] := ⟨ti57⟩
theorem tu59 : Try.prog.underlying 59 = some (.pointer 5) := by kernel_rfl
instance : UIs Try.prog 59 (.pointer 5) := ⟨tu59⟩
theorem ti59 : tinfo Try.prog 59 = some (1, false, 8, [.pointer none]) := by kernel_rfl
instance : TIs Try.prog 59 1 false 8 [.pointer none] := ⟨ti59⟩
theorem tu60 : Try.prog.underlying 60 = some (.int .i32) := by kernel_rfl
instance : UIs Try.prog 60 (.int .i32) := ⟨tu60⟩
theorem ti60 : tinfo Try.prog 60 = some (1, false, 4, [.int .i32 0]) := by kernel_rfl
instance : TIs Try.prog 60 1 false 4 [.int .i32 0] := ⟨ti60⟩
theorem tu61 : Try.prog.underlying 61 = some (.int .i32) := by kernel_rfl
instance : UIs Try.prog 61 (.int .i32) := ⟨tu61⟩
theorem ti61 : tinfo Try.prog 61 = some (1, false, 4, [.int .i32 0]) := by kernel_rfl
instance : TIs Try.prog 61 1 false 4 [.int .i32 0] := ⟨ti61⟩
theorem ti62 : tinfo Try.prog 62 = some (11, true, 48, [.int .u64 0, .int .u64 0, .int .u32 0, .int .u8 0, .int .u8 0, .int .u8 0, .int .u8 0, .nilFunc, .pointer none, .int .i32 0, .int .i32 0]) := by kernel_rfl
instance : TIs Try.prog 62 11 true 48 [.int .u64 0, .int .u64 0, .int .u32 0, .int .u8 0, .int .u8 0, .int .u8 0, .int .u8 0, .nilFunc, .pointer none, .int .i32 0, .int .i32 0] := ⟨ti62⟩
theorem ti63 : tinfo Try.prog 63 = some (11, true, 48, [.int .u64 0, .int .u64 0, .int .u32 0, .int .u8 0, .int .u8 0, .int .u8 0, .int .u8 0, .nilFunc, .pointer none, .int .i32 0, .int .i32 0]) := by kernel_rfl
instance : TIs Try.prog 63 11 true 48 [.int .u64 0, .int .u64 0, .int .u32 0, .int .u8 0, .int .u8 0, .int .u8 0, .int .u8 0, .nilFunc, .pointer none, .int .i32 0, .int .i32 0] := ⟨ti63⟩
theorem mixed : Try.prog.follows .mixedOrders = true := by kernel_rfl
theorem fn3 : isFn Try.prog 3 = true := by kernel_rfl
instance : FnIs Try.prog 3 := ⟨fn3⟩
theorem fn4 : isFn Try.prog 4 = true := by kernel_rfl
instance : FnIs Try.prog 4 := ⟨fn4⟩
theorem fn5 : isFn Try.prog 5 = true := by kernel_rfl
instance : FnIs Try.prog 5 := ⟨fn5⟩
theorem fn6 : isFn Try.prog 6 = true := by kernel_rfl
instance : FnIs Try.prog 6 := ⟨fn6⟩
theorem fn7 : isFn Try.prog 7 = true := by kernel_rfl
instance : FnIs Try.prog 7 := ⟨fn7⟩
theorem fn8 : isFn Try.prog 8 = true := by kernel_rfl
instance : FnIs Try.prog 8 := ⟨fn8⟩
theorem fn9 : isFn Try.prog 9 = true := by kernel_rfl
instance : FnIs Try.prog 9 := ⟨fn9⟩
theorem fn10 : isFn Try.prog 10 = true := by kernel_rfl
instance : FnIs Try.prog 10 := ⟨fn10⟩
theorem fn11 : isFn Try.prog 11 = true := by kernel_rfl
instance : FnIs Try.prog 11 := ⟨fn11⟩
theorem fn12 : isFn Try.prog 12 = true := by kernel_rfl
instance : FnIs Try.prog 12 := ⟨fn12⟩
theorem fn13 : isFn Try.prog 13 = true := by kernel_rfl
instance : FnIs Try.prog 13 := ⟨fn13⟩
theorem fn14 : isFn Try.prog 14 = true := by kernel_rfl
instance : FnIs Try.prog 14 := ⟨fn14⟩
theorem fn15 : isFn Try.prog 15 = true := by kernel_rfl
instance : FnIs Try.prog 15 := ⟨fn15⟩
theorem fn16 : isFn Try.prog 16 = true := by kernel_rfl
instance : FnIs Try.prog 16 := ⟨fn16⟩
theorem fn17 : isFn Try.prog 17 = true := by kernel_rfl
instance : FnIs Try.prog 17 := ⟨fn17⟩
theorem fn18 : isFn Try.prog 18 = true := by kernel_rfl
instance : FnIs Try.prog 18 := ⟨fn18⟩
theorem fn19 : isFn Try.prog 19 = true := by kernel_rfl
instance : FnIs Try.prog 19 := ⟨fn19⟩
theorem fn20 : isFn Try.prog 20 = true := by kernel_rfl
instance : FnIs Try.prog 20 := ⟨fn20⟩
theorem fn21 : isFn Try.prog 21 = true := by kernel_rfl
instance : FnIs Try.prog 21 := ⟨fn21⟩
theorem fn22 : isFn Try.prog 22 = true := by kernel_rfl
instance : FnIs Try.prog 22 := ⟨fn22⟩
theorem fn23 : isFn Try.prog 23 = true := by kernel_rfl
instance : FnIs Try.prog 23 := ⟨fn23⟩
theorem fn24 : isFn Try.prog 24 = true := by kernel_rfl
instance : FnIs Try.prog 24 := ⟨fn24⟩
theorem fn25 : isFn Try.prog 25 = true := by kernel_rfl
instance : FnIs Try.prog 25 := ⟨fn25⟩
theorem fn26 : isFn Try.prog 26 = true := by kernel_rfl
instance : FnIs Try.prog 26 := ⟨fn26⟩
theorem fn27 : isFn Try.prog 27 = true := by kernel_rfl
instance : FnIs Try.prog 27 := ⟨fn27⟩
theorem fn28 : isFn Try.prog 28 = true := by kernel_rfl
instance : FnIs Try.prog 28 := ⟨fn28⟩
end Go.Proofs.Ytgljgalcbbjfgaa
