/- Closed facts on the seat's types and functions, as instances that the rules find by themselves (printed by wip/gen/types.py). -/
import Derived.Test.YtgljgalcbbjfgaaGreatDoorProg
import Derived.Test.YtgljgalcbbjfgaaGreatDoorSteps
import Derived.KernelRfl
namespace Go.Proofs.YtgljgalcbbjfgaaGreatDoor
set_option maxRecDepth 100000
class UIs (P : Program) (t : TypeId) (d : outParam TypeDesc) : Prop where out : P.underlying t = some d
class TIs (P : Program) (t : TypeId) (n : outParam Nat) (ag : outParam Bool) (b : outParam Nat) (zc : outParam (List Value)) : Prop where out : tinfo P t = some (n, ag, b, zc)
class FIs (P : Program) (s : TypeId) (f : Nat) (off : outParam Nat) (ft : outParam TypeId) : Prop where out : fieldOff P s f = some (off, ft)
class PIs (P : Program) (s : TypeId) (pl : outParam (List (Nat × Nat))) : Prop where out : placesOf P s = some pl
class FnIs (P : Program) (f : FuncId) : Prop where out : isFn P f = true
theorem TIs.size {P : Program} {t : TypeId} {n b : Nat} {ag : Bool} {zc : List Value} [h : TIs P t n ag b zc] : (P.info? t).map (·.size) = some n := by
  obtain ⟨i, z, d, hi, hd, hz, hs, _⟩ := tinfo_spec h.out
  rw [hi, Option.map_some, hs]
theorem tu2 : Tryz.prog.underlying 2 = some (.int .i64) := by kernel_rfl
instance : UIs Tryz.prog 2 (.int .i64) := ⟨tu2⟩
theorem ti2 : tinfo Tryz.prog 2 = some (1, false, 8, [.int .i64 0]) := by kernel_rfl
instance : TIs Tryz.prog 2 1 false 8 [.int .i64 0] := ⟨ti2⟩
theorem tu3 : Tryz.prog.underlying 3 = some (.int .i64) := by kernel_rfl
instance : UIs Tryz.prog 3 (.int .i64) := ⟨tu3⟩
theorem ti3 : tinfo Tryz.prog 3 = some (1, false, 8, [.int .i64 0]) := by kernel_rfl
instance : TIs Tryz.prog 3 1 false 8 [.int .i64 0] := ⟨ti3⟩
theorem tu4 : Tryz.prog.underlying 4 = some (.bool) := by kernel_rfl
instance : UIs Tryz.prog 4 (.bool) := ⟨tu4⟩
theorem ti4 : tinfo Tryz.prog 4 = some (1, false, 1, [.bool false]) := by kernel_rfl
instance : TIs Tryz.prog 4 1 false 1 [.bool false] := ⟨ti4⟩
theorem tu5 : Tryz.prog.underlying 5 = some (.int .u8) := by kernel_rfl
instance : UIs Tryz.prog 5 (.int .u8) := ⟨tu5⟩
theorem ti5 : tinfo Tryz.prog 5 = some (1, false, 1, [.int .u8 0]) := by kernel_rfl
instance : TIs Tryz.prog 5 1 false 1 [.int .u8 0] := ⟨ti5⟩
theorem tu6 : Tryz.prog.underlying 6 = some (.int .u8) := by kernel_rfl
instance : UIs Tryz.prog 6 (.int .u8) := ⟨tu6⟩
theorem ti6 : tinfo Tryz.prog 6 = some (1, false, 1, [.int .u8 0]) := by kernel_rfl
instance : TIs Tryz.prog 6 1 false 1 [.int .u8 0] := ⟨ti6⟩
theorem ti7 : tinfo Tryz.prog 7 = some (4, true, 24, [.int .i64 0, .int .i64 0, .bool false, .int .u8 0]) := by kernel_rfl
instance : TIs Tryz.prog 7 4 true 24 [.int .i64 0, .int .i64 0, .bool false, .int .u8 0] := ⟨ti7⟩
theorem fo7_0 : fieldOff Tryz.prog 7 0 = some (0, 2) := by kernel_rfl
instance : FIs Tryz.prog 7 0 0 2 := ⟨fo7_0⟩
theorem fo7_1 : fieldOff Tryz.prog 7 1 = some (1, 3) := by kernel_rfl
instance : FIs Tryz.prog 7 1 1 3 := ⟨fo7_1⟩
theorem fo7_2 : fieldOff Tryz.prog 7 2 = some (2, 4) := by kernel_rfl
instance : FIs Tryz.prog 7 2 2 4 := ⟨fo7_2⟩
theorem fo7_3 : fieldOff Tryz.prog 7 3 = some (3, 6) := by kernel_rfl
instance : FIs Tryz.prog 7 3 3 6 := ⟨fo7_3⟩
theorem pl7 : placesOf Tryz.prog 7 = some [(0, 1), (1, 1), (2, 1), (3, 1)] := by kernel_rfl
instance : PIs Tryz.prog 7 [(0, 1), (1, 1), (2, 1), (3, 1)] := ⟨pl7⟩
theorem ti8 : tinfo Tryz.prog 8 = some (4, true, 24, [.int .i64 0, .int .i64 0, .bool false, .int .u8 0]) := by kernel_rfl
instance : TIs Tryz.prog 8 4 true 24 [.int .i64 0, .int .i64 0, .bool false, .int .u8 0] := ⟨ti8⟩
theorem fo8_0 : fieldOff Tryz.prog 8 0 = some (0, 2) := by kernel_rfl
instance : FIs Tryz.prog 8 0 0 2 := ⟨fo8_0⟩
theorem fo8_1 : fieldOff Tryz.prog 8 1 = some (1, 3) := by kernel_rfl
instance : FIs Tryz.prog 8 1 1 3 := ⟨fo8_1⟩
theorem fo8_2 : fieldOff Tryz.prog 8 2 = some (2, 4) := by kernel_rfl
instance : FIs Tryz.prog 8 2 2 4 := ⟨fo8_2⟩
theorem fo8_3 : fieldOff Tryz.prog 8 3 = some (3, 6) := by kernel_rfl
instance : FIs Tryz.prog 8 3 3 6 := ⟨fo8_3⟩
theorem pl8 : placesOf Tryz.prog 8 = some [(0, 1), (1, 1), (2, 1), (3, 1)] := by kernel_rfl
instance : PIs Tryz.prog 8 [(0, 1), (1, 1), (2, 1), (3, 1)] := ⟨pl8⟩
theorem tu9 : Tryz.prog.underlying 9 = some (.string) := by kernel_rfl
instance : UIs Tryz.prog 9 (.string) := ⟨tu9⟩
theorem ti9 : tinfo Tryz.prog 9 = some (1, false, 16, [.string { data := #[] }]) := by kernel_rfl
instance : TIs Tryz.prog 9 1 false 16 [.string { data := #[] }] := ⟨ti9⟩
theorem tu10 : Tryz.prog.underlying 10 = some (.string) := by kernel_rfl
instance : UIs Tryz.prog 10 (.string) := ⟨tu10⟩
theorem ti10 : tinfo Tryz.prog 10 = some (1, false, 16, [.string { data := #[] }]) := by kernel_rfl
instance : TIs Tryz.prog 10 1 false 16 [.string { data := #[] }] := ⟨ti10⟩
theorem tu11 : Tryz.prog.underlying 11 = some (.string) := by kernel_rfl
instance : UIs Tryz.prog 11 (.string) := ⟨tu11⟩
theorem ti11 : tinfo Tryz.prog 11 = some (1, false, 16, [.string { data := #[] }]) := by kernel_rfl
instance : TIs Tryz.prog 11 1 false 16 [.string { data := #[] }] := ⟨ti11⟩
theorem tu12 : Tryz.prog.underlying 12 = some (.int .u64) := by kernel_rfl
instance : UIs Tryz.prog 12 (.int .u64) := ⟨tu12⟩
theorem ti12 : tinfo Tryz.prog 12 = some (1, false, 8, [.int .u64 0]) := by kernel_rfl
instance : TIs Tryz.prog 12 1 false 8 [.int .u64 0] := ⟨ti12⟩
theorem ti13 : tinfo Tryz.prog 13 = some (2, true, 24, [.string { data := #[] }, .int .u64 0]) := by kernel_rfl
instance : TIs Tryz.prog 13 2 true 24 [.string { data := #[] }, .int .u64 0] := ⟨ti13⟩
theorem fo13_0 : fieldOff Tryz.prog 13 0 = some (0, 9) := by kernel_rfl
instance : FIs Tryz.prog 13 0 0 9 := ⟨fo13_0⟩
theorem fo13_1 : fieldOff Tryz.prog 13 1 = some (1, 12) := by kernel_rfl
instance : FIs Tryz.prog 13 1 1 12 := ⟨fo13_1⟩
theorem pl13 : placesOf Tryz.prog 13 = some [(0, 1), (1, 1)] := by kernel_rfl
instance : PIs Tryz.prog 13 [(0, 1), (1, 1)] := ⟨pl13⟩
theorem ti14 : tinfo Tryz.prog 14 = some (2, true, 24, [.string { data := #[] }, .int .u64 0]) := by kernel_rfl
instance : TIs Tryz.prog 14 2 true 24 [.string { data := #[] }, .int .u64 0] := ⟨ti14⟩
theorem fo14_0 : fieldOff Tryz.prog 14 0 = some (0, 9) := by kernel_rfl
instance : FIs Tryz.prog 14 0 0 9 := ⟨fo14_0⟩
theorem fo14_1 : fieldOff Tryz.prog 14 1 = some (1, 12) := by kernel_rfl
instance : FIs Tryz.prog 14 1 1 12 := ⟨fo14_1⟩
theorem pl14 : placesOf Tryz.prog 14 = some [(0, 1), (1, 1)] := by kernel_rfl
instance : PIs Tryz.prog 14 [(0, 1), (1, 1)] := ⟨pl14⟩
theorem tu15 : Tryz.prog.underlying 15 = some (.pointer 128) := by kernel_rfl
instance : UIs Tryz.prog 15 (.pointer 128) := ⟨tu15⟩
theorem ti15 : tinfo Tryz.prog 15 = some (1, false, 8, [.pointer none]) := by kernel_rfl
instance : TIs Tryz.prog 15 1 false 8 [.pointer none] := ⟨ti15⟩
theorem tu16 : Tryz.prog.underlying 16 = some (.pointer 131) := by kernel_rfl
instance : UIs Tryz.prog 16 (.pointer 131) := ⟨tu16⟩
theorem ti16 : tinfo Tryz.prog 16 = some (1, false, 8, [.pointer none]) := by kernel_rfl
instance : TIs Tryz.prog 16 1 false 8 [.pointer none] := ⟨ti16⟩
theorem tu17 : Tryz.prog.underlying 17 = some (.pointer 140) := by kernel_rfl
instance : UIs Tryz.prog 17 (.pointer 140) := ⟨tu17⟩
theorem ti17 : tinfo Tryz.prog 17 = some (1, false, 8, [.pointer none]) := by kernel_rfl
instance : TIs Tryz.prog 17 1 false 8 [.pointer none] := ⟨ti17⟩
theorem ti18 : tinfo Tryz.prog 18 = some (1, true, 8, [.pointer none]) := by kernel_rfl
instance : TIs Tryz.prog 18 1 true 8 [.pointer none] := ⟨ti18⟩
theorem fo18_0 : fieldOff Tryz.prog 18 0 = some (0, 17) := by kernel_rfl
instance : FIs Tryz.prog 18 0 0 17 := ⟨fo18_0⟩
theorem pl18 : placesOf Tryz.prog 18 = some [(0, 1)] := by kernel_rfl
instance : PIs Tryz.prog 18 [(0, 1)] := ⟨pl18⟩
theorem ti19 : tinfo Tryz.prog 19 = some (1, true, 8, [.pointer none]) := by kernel_rfl
instance : TIs Tryz.prog 19 1 true 8 [.pointer none] := ⟨ti19⟩
theorem fo19_0 : fieldOff Tryz.prog 19 0 = some (0, 17) := by kernel_rfl
instance : FIs Tryz.prog 19 0 0 17 := ⟨fo19_0⟩
theorem pl19 : placesOf Tryz.prog 19 = some [(0, 1)] := by kernel_rfl
instance : PIs Tryz.prog 19 [(0, 1)] := ⟨pl19⟩
theorem tu21 : Tryz.prog.underlying 21 = some (.int .i32) := by kernel_rfl
instance : UIs Tryz.prog 21 (.int .i32) := ⟨tu21⟩
theorem ti21 : tinfo Tryz.prog 21 = some (1, false, 4, [.int .i32 0]) := by kernel_rfl
instance : TIs Tryz.prog 21 1 false 4 [.int .i32 0] := ⟨ti21⟩
theorem tu22 : Tryz.prog.underlying 22 = some (.slice 28) := by kernel_rfl
instance : UIs Tryz.prog 22 (.slice 28) := ⟨tu22⟩
theorem ti22 : tinfo Tryz.prog 22 = some (1, false, 24, [.slice none 0 0]) := by kernel_rfl
instance : TIs Tryz.prog 22 1 false 24 [.slice none 0 0] := ⟨ti22⟩
theorem ti25 : tinfo Tryz.prog 25 = some (2, true, 24, [.bool false, .string { data := #[] }]) := by kernel_rfl
instance : TIs Tryz.prog 25 2 true 24 [.bool false, .string { data := #[] }] := ⟨ti25⟩
theorem fo25_0 : fieldOff Tryz.prog 25 0 = some (0, 4) := by kernel_rfl
instance : FIs Tryz.prog 25 0 0 4 := ⟨fo25_0⟩
theorem fo25_1 : fieldOff Tryz.prog 25 1 = some (1, 9) := by kernel_rfl
instance : FIs Tryz.prog 25 1 1 9 := ⟨fo25_1⟩
theorem pl25 : placesOf Tryz.prog 25 = some [(0, 1), (1, 1)] := by kernel_rfl
instance : PIs Tryz.prog 25 [(0, 1), (1, 1)] := ⟨pl25⟩
theorem ti26 : tinfo Tryz.prog 26 = some (2, true, 24, [.bool false, .string { data := #[] }]) := by kernel_rfl
instance : TIs Tryz.prog 26 2 true 24 [.bool false, .string { data := #[] }] := ⟨ti26⟩
theorem fo26_0 : fieldOff Tryz.prog 26 0 = some (0, 4) := by kernel_rfl
instance : FIs Tryz.prog 26 0 0 4 := ⟨fo26_0⟩
theorem fo26_1 : fieldOff Tryz.prog 26 1 = some (1, 9) := by kernel_rfl
instance : FIs Tryz.prog 26 1 1 9 := ⟨fo26_1⟩
theorem pl26 : placesOf Tryz.prog 26 = some [(0, 1), (1, 1)] := by kernel_rfl
instance : PIs Tryz.prog 26 [(0, 1), (1, 1)] := ⟨pl26⟩
theorem ti27 : tinfo Tryz.prog 27 = some (3, true, 32, [.bool false, .string { data := #[] }, .int .i64 0]) := by kernel_rfl
instance : TIs Tryz.prog 27 3 true 32 [.bool false, .string { data := #[] }, .int .i64 0] := ⟨ti27⟩
theorem fo27_0 : fieldOff Tryz.prog 27 0 = some (0, 26) := by kernel_rfl
instance : FIs Tryz.prog 27 0 0 26 := ⟨fo27_0⟩
theorem fo27_1 : fieldOff Tryz.prog 27 1 = some (2, 3) := by kernel_rfl
instance : FIs Tryz.prog 27 1 2 3 := ⟨fo27_1⟩
theorem pl27 : placesOf Tryz.prog 27 = some [(0, 2), (2, 1)] := by kernel_rfl
instance : PIs Tryz.prog 27 [(0, 2), (2, 1)] := ⟨pl27⟩
theorem ti28 : tinfo Tryz.prog 28 = some (3, true, 32, [.bool false, .string { data := #[] }, .int .i64 0]) := by kernel_rfl
instance : TIs Tryz.prog 28 3 true 32 [.bool false, .string { data := #[] }, .int .i64 0] := ⟨ti28⟩
theorem fo28_0 : fieldOff Tryz.prog 28 0 = some (0, 26) := by kernel_rfl
instance : FIs Tryz.prog 28 0 0 26 := ⟨fo28_0⟩
theorem fo28_1 : fieldOff Tryz.prog 28 1 = some (2, 3) := by kernel_rfl
instance : FIs Tryz.prog 28 1 2 3 := ⟨fo28_1⟩
theorem pl28 : placesOf Tryz.prog 28 = some [(0, 2), (2, 1)] := by kernel_rfl
instance : PIs Tryz.prog 28 [(0, 2), (2, 1)] := ⟨pl28⟩
theorem tu42 : Tryz.prog.underlying 42 = some (.array 3 28) := by kernel_rfl
instance : UIs Tryz.prog 42 (.array 3 28) := ⟨tu42⟩
theorem ti42 : tinfo Tryz.prog 42 = some (9, true, 96, [.bool false, .string { data := #[] }, .int .i64 0, .bool false, .string { data := #[] }, .int .i64 0, .bool false, .string { data := #[] }, .int .i64 0]) := by kernel_rfl
instance : TIs Tryz.prog 42 9 true 96 [.bool false, .string { data := #[] }, .int .i64 0, .bool false, .string { data := #[] }, .int .i64 0, .bool false, .string { data := #[] }, .int .i64 0] := ⟨ti42⟩
theorem tu48 : Tryz.prog.underlying 48 = some (.int .i64) := by kernel_rfl
instance : UIs Tryz.prog 48 (.int .i64) := ⟨tu48⟩
theorem ti48 : tinfo Tryz.prog 48 = some (1, false, 8, [.int .i64 0]) := by kernel_rfl
instance : TIs Tryz.prog 48 1 false 8 [.int .i64 0] := ⟨ti48⟩
theorem ti55 : tinfo Tryz.prog 55 = some (5, true, 56, [.int .i64 0, .bool false, .string { data := #[] }, .bool false, .string { data := #[] }]) := by kernel_rfl
instance : TIs Tryz.prog 55 5 true 56 [.int .i64 0, .bool false, .string { data := #[] }, .bool false, .string { data := #[] }] := ⟨ti55⟩
theorem fo55_0 : fieldOff Tryz.prog 55 0 = some (0, 48) := by kernel_rfl
instance : FIs Tryz.prog 55 0 0 48 := ⟨fo55_0⟩
theorem fo55_1 : fieldOff Tryz.prog 55 1 = some (1, 26) := by kernel_rfl
instance : FIs Tryz.prog 55 1 1 26 := ⟨fo55_1⟩
theorem fo55_2 : fieldOff Tryz.prog 55 2 = some (3, 26) := by kernel_rfl
instance : FIs Tryz.prog 55 2 3 26 := ⟨fo55_2⟩
theorem pl55 : placesOf Tryz.prog 55 = some [(0, 1), (1, 2), (3, 2)] := by kernel_rfl
instance : PIs Tryz.prog 55 [(0, 1), (1, 2), (3, 2)] := ⟨pl55⟩
theorem ti56 : tinfo Tryz.prog 56 = some (5, true, 56, [.int .i64 0, .bool false, .string { data := #[] }, .bool false, .string { data := #[] }]) := by kernel_rfl
instance : TIs Tryz.prog 56 5 true 56 [.int .i64 0, .bool false, .string { data := #[] }, .bool false, .string { data := #[] }] := ⟨ti56⟩
theorem fo56_0 : fieldOff Tryz.prog 56 0 = some (0, 48) := by kernel_rfl
instance : FIs Tryz.prog 56 0 0 48 := ⟨fo56_0⟩
theorem fo56_1 : fieldOff Tryz.prog 56 1 = some (1, 26) := by kernel_rfl
instance : FIs Tryz.prog 56 1 1 26 := ⟨fo56_1⟩
theorem fo56_2 : fieldOff Tryz.prog 56 2 = some (3, 26) := by kernel_rfl
instance : FIs Tryz.prog 56 2 3 26 := ⟨fo56_2⟩
theorem pl56 : placesOf Tryz.prog 56 = some [(0, 1), (1, 2), (3, 2)] := by kernel_rfl
instance : PIs Tryz.prog 56 [(0, 1), (1, 2), (3, 2)] := ⟨pl56⟩
theorem tu62 : Tryz.prog.underlying 62 = some (.int .u64) := by kernel_rfl
instance : UIs Tryz.prog 62 (.int .u64) := ⟨tu62⟩
theorem ti62 : tinfo Tryz.prog 62 = some (1, false, 8, [.int .u64 0]) := by kernel_rfl
instance : TIs Tryz.prog 62 1 false 8 [.int .u64 0] := ⟨ti62⟩
theorem tu63 : Tryz.prog.underlying 63 = some (.slice 26) := by kernel_rfl
instance : UIs Tryz.prog 63 (.slice 26) := ⟨tu63⟩
theorem ti63 : tinfo Tryz.prog 63 = some (1, false, 24, [.slice none 0 0]) := by kernel_rfl
instance : TIs Tryz.prog 63 1 false 24 [.slice none 0 0] := ⟨ti63⟩
theorem tu64 : Tryz.prog.underlying 64 = some (.string) := by kernel_rfl
instance : UIs Tryz.prog 64 (.string) := ⟨tu64⟩
theorem ti64 : tinfo Tryz.prog 64 = some (1, false, 16, [.string { data := #[] }]) := by kernel_rfl
instance : TIs Tryz.prog 64 1 false 16 [.string { data := #[] }] := ⟨ti64⟩
theorem ti65 : tinfo Tryz.prog 65 = some (2, true, 24, [.string { data := #[] }, .bool false]) := by kernel_rfl
instance : TIs Tryz.prog 65 2 true 24 [.string { data := #[] }, .bool false] := ⟨ti65⟩
theorem fo65_0 : fieldOff Tryz.prog 65 0 = some (0, 64) := by kernel_rfl
instance : FIs Tryz.prog 65 0 0 64 := ⟨fo65_0⟩
theorem fo65_1 : fieldOff Tryz.prog 65 1 = some (1, 4) := by kernel_rfl
instance : FIs Tryz.prog 65 1 1 4 := ⟨fo65_1⟩
theorem pl65 : placesOf Tryz.prog 65 = some [(0, 1), (1, 1)] := by kernel_rfl
instance : PIs Tryz.prog 65 [(0, 1), (1, 1)] := ⟨pl65⟩
theorem ti66 : tinfo Tryz.prog 66 = some (2, true, 24, [.string { data := #[] }, .bool false]) := by kernel_rfl
instance : TIs Tryz.prog 66 2 true 24 [.string { data := #[] }, .bool false] := ⟨ti66⟩
theorem fo66_0 : fieldOff Tryz.prog 66 0 = some (0, 64) := by kernel_rfl
instance : FIs Tryz.prog 66 0 0 64 := ⟨fo66_0⟩
theorem fo66_1 : fieldOff Tryz.prog 66 1 = some (1, 4) := by kernel_rfl
instance : FIs Tryz.prog 66 1 1 4 := ⟨fo66_1⟩
theorem pl66 : placesOf Tryz.prog 66 = some [(0, 1), (1, 1)] := by kernel_rfl
instance : PIs Tryz.prog 66 [(0, 1), (1, 1)] := ⟨pl66⟩
theorem tu74 : Tryz.prog.underlying 74 = some (.slice 5) := by kernel_rfl
instance : UIs Tryz.prog 74 (.slice 5) := ⟨tu74⟩
theorem ti74 : tinfo Tryz.prog 74 = some (1, false, 24, [.slice none 0 0]) := by kernel_rfl
instance : TIs Tryz.prog 74 1 false 24 [.slice none 0 0] := ⟨ti74⟩
theorem tu76 : Tryz.prog.underlying 76 = some (.slice 62) := by kernel_rfl
instance : UIs Tryz.prog 76 (.slice 62) := ⟨tu76⟩
theorem ti76 : tinfo Tryz.prog 76 = some (1, false, 24, [.slice none 0 0]) := by kernel_rfl
instance : TIs Tryz.prog 76 1 false 24 [.slice none 0 0] := ⟨ti76⟩
theorem tu77 : Tryz.prog.underlying 77 = some (.slice 62) := by kernel_rfl
instance : UIs Tryz.prog 77 (.slice 62) := ⟨tu77⟩
theorem ti77 : tinfo Tryz.prog 77 = some (1, false, 24, [.slice none 0 0]) := by kernel_rfl
instance : TIs Tryz.prog 77 1 false 24 [.slice none 0 0] := ⟨ti77⟩
theorem tu87 : Tryz.prog.underlying 87 = some (.slice 9) := by kernel_rfl
instance : UIs Tryz.prog 87 (.slice 9) := ⟨tu87⟩
theorem ti87 : tinfo Tryz.prog 87 = some (1, false, 24, [.slice none 0 0]) := by kernel_rfl
instance : TIs Tryz.prog 87 1 false 24 [.slice none 0 0] := ⟨ti87⟩
theorem tu93 : Tryz.prog.underlying 93 = some (.array 64 5) := by kernel_rfl
instance : UIs Tryz.prog 93 (.array 64 5) := ⟨tu93⟩
theorem ti93 : tinfo Tryz.prog 93 = some (64, true, 64, [.int .u8 0, .int .u8 0, .int .u8 0, .int .u8 0, .int .u8 0, .int .u8 0, .int .u8 0, .int .u8 0, .int .u8 0, .int .u8 0, .int .u8 0, .int .u8 0, .int .u8 0, .int .u8 0, .int .u8 0, .int .u8 0, .int .u8 0, .int .u8 0, .int .u8 0, .int .u8 0, .int .u8 0, .int .u8 0, .int .u8 0, .int .u8 0, .int .u8 0, .int .u8 0, .int .u8 0, .int .u8 0, .int .u8 0, .int .u8 0, .int .u8 0, .int .u8 0, .int .u8 0, .int .u8 0, .int .u8 0, .int .u8 0, .int .u8 0, .int .u8 0, .int .u8 0, .int .u8 0, .int .u8 0, .int .u8 0, .int .u8 0, .int .u8 0, .int .u8 0, .int .u8 0, .int .u8 0, .int .u8 0, .int .u8 0, .int .u8 0, .int .u8 0, .int .u8 0, .int .u8 0, .int .u8 0, .int .u8 0, .int .u8 0, .int .u8 0, .int .u8 0, .int .u8 0, .int .u8 0, .int .u8 0, .int .u8 0, .int .u8 0, .int .u8 0]) := by kernel_rfl
instance : TIs Tryz.prog 93 64 true 64 [.int .u8 0, .int .u8 0, .int .u8 0, .int .u8 0, .int .u8 0, .int .u8 0, .int .u8 0, .int .u8 0, .int .u8 0, .int .u8 0, .int .u8 0, .int .u8 0, .int .u8 0, .int .u8 0, .int .u8 0, .int .u8 0, .int .u8 0, .int .u8 0, .int .u8 0, .int .u8 0, .int .u8 0, .int .u8 0, .int .u8 0, .int .u8 0, .int .u8 0, .int .u8 0, .int .u8 0, .int .u8 0, .int .u8 0, .int .u8 0, .int .u8 0, .int .u8 0, .int .u8 0, .int .u8 0, .int .u8 0, .int .u8 0, .int .u8 0, .int .u8 0, .int .u8 0, .int .u8 0, .int .u8 0, .int .u8 0, .int .u8 0, .int .u8 0, .int .u8 0, .int .u8 0, .int .u8 0, .int .u8 0, .int .u8 0, .int .u8 0, .int .u8 0, .int .u8 0, .int .u8 0, .int .u8 0, .int .u8 0, .int .u8 0, .int .u8 0, .int .u8 0, .int .u8 0, .int .u8 0, .int .u8 0, .int .u8 0, .int .u8 0, .int .u8 0] := ⟨ti93⟩
theorem tu94 : Tryz.prog.underlying 94 = some (.int .u64) := by kernel_rfl
instance : UIs Tryz.prog 94 (.int .u64) := ⟨tu94⟩
theorem ti94 : tinfo Tryz.prog 94 = some (1, false, 8, [.int .u64 0]) := by kernel_rfl
instance : TIs Tryz.prog 94 1 false 8 [.int .u64 0] := ⟨ti94⟩
theorem tu109 : Tryz.prog.underlying 109 = some (.array 256 4) := by kernel_rfl
instance : UIs Tryz.prog 109 (.array 256 4) := ⟨tu109⟩
theorem tu110 : Tryz.prog.underlying 110 = some (.array 256 4) := by kernel_rfl
instance : UIs Tryz.prog 110 (.array 256 4) := ⟨tu110⟩
theorem tu114 : Tryz.prog.underlying 114 = some (.pointer 110) := by kernel_rfl
instance : UIs Tryz.prog 114 (.pointer 110) := ⟨tu114⟩
theorem ti114 : tinfo Tryz.prog 114 = some (1, false, 8, [.pointer none]) := by kernel_rfl
instance : TIs Tryz.prog 114 1 false 8 [.pointer none] := ⟨ti114⟩
theorem tu120 : Tryz.prog.underlying 120 = some (.array 256 5) := by kernel_rfl
instance : UIs Tryz.prog 120 (.array 256 5) := ⟨tu120⟩
theorem ti121 : tinfo Tryz.prog 121 = some (2, true, 2, [.int .u8 0, .int .u8 0]) := by kernel_rfl
instance : TIs Tryz.prog 121 2 true 2 [.int .u8 0, .int .u8 0] := ⟨ti121⟩
theorem fo121_0 : fieldOff Tryz.prog 121 0 = some (0, 5) := by kernel_rfl
instance : FIs Tryz.prog 121 0 0 5 := ⟨fo121_0⟩
theorem fo121_1 : fieldOff Tryz.prog 121 1 = some (1, 5) := by kernel_rfl
instance : FIs Tryz.prog 121 1 1 5 := ⟨fo121_1⟩
theorem pl121 : placesOf Tryz.prog 121 = some [(0, 1), (1, 1)] := by kernel_rfl
instance : PIs Tryz.prog 121 [(0, 1), (1, 1)] := ⟨pl121⟩
theorem ti122 : tinfo Tryz.prog 122 = some (2, true, 2, [.int .u8 0, .int .u8 0]) := by kernel_rfl
instance : TIs Tryz.prog 122 2 true 2 [.int .u8 0, .int .u8 0] := ⟨ti122⟩
theorem fo122_0 : fieldOff Tryz.prog 122 0 = some (0, 5) := by kernel_rfl
instance : FIs Tryz.prog 122 0 0 5 := ⟨fo122_0⟩
theorem fo122_1 : fieldOff Tryz.prog 122 1 = some (1, 5) := by kernel_rfl
instance : FIs Tryz.prog 122 1 1 5 := ⟨fo122_1⟩
theorem pl122 : placesOf Tryz.prog 122 = some [(0, 1), (1, 1)] := by kernel_rfl
instance : PIs Tryz.prog 122 [(0, 1), (1, 1)] := ⟨pl122⟩
theorem tu123 : Tryz.prog.underlying 123 = some (.array 16 122) := by kernel_rfl
instance : UIs Tryz.prog 123 (.array 16 122) := ⟨tu123⟩
theorem ti123 : tinfo Tryz.prog 123 = some (32, true, 32, [.int .u8 0, .int .u8 0, .int .u8 0, .int .u8 0, .int .u8 0, .int .u8 0, .int .u8 0, .int .u8 0, .int .u8 0, .int .u8 0, .int .u8 0, .int .u8 0, .int .u8 0, .int .u8 0, .int .u8 0, .int .u8 0, .int .u8 0, .int .u8 0, .int .u8 0, .int .u8 0, .int .u8 0, .int .u8 0, .int .u8 0, .int .u8 0, .int .u8 0, .int .u8 0, .int .u8 0, .int .u8 0, .int .u8 0, .int .u8 0, .int .u8 0, .int .u8 0]) := by kernel_rfl
instance : TIs Tryz.prog 123 32 true 32 [.int .u8 0, .int .u8 0, .int .u8 0, .int .u8 0, .int .u8 0, .int .u8 0, .int .u8 0, .int .u8 0, .int .u8 0, .int .u8 0, .int .u8 0, .int .u8 0, .int .u8 0, .int .u8 0, .int .u8 0, .int .u8 0, .int .u8 0, .int .u8 0, .int .u8 0, .int .u8 0, .int .u8 0, .int .u8 0, .int .u8 0, .int .u8 0, .int .u8 0, .int .u8 0, .int .u8 0, .int .u8 0, .int .u8 0, .int .u8 0, .int .u8 0, .int .u8 0] := ⟨ti123⟩
theorem ti127 : tinfo Tryz.prog 127 = some (4, true, 40, [.pointer none, .pointer none, .pointer none, .string { data := #[] }]) := by kernel_rfl
instance : TIs Tryz.prog 127 4 true 40 [.pointer none, .pointer none, .pointer none, .string { data := #[] }] := ⟨ti127⟩
theorem fo127_0 : fieldOff Tryz.prog 127 0 = some (0, 17) := by kernel_rfl
instance : FIs Tryz.prog 127 0 0 17 := ⟨fo127_0⟩
theorem fo127_1 : fieldOff Tryz.prog 127 1 = some (1, 17) := by kernel_rfl
instance : FIs Tryz.prog 127 1 1 17 := ⟨fo127_1⟩
theorem fo127_2 : fieldOff Tryz.prog 127 2 = some (2, 17) := by kernel_rfl
instance : FIs Tryz.prog 127 2 2 17 := ⟨fo127_2⟩
theorem fo127_3 : fieldOff Tryz.prog 127 3 = some (3, 9) := by kernel_rfl
instance : FIs Tryz.prog 127 3 3 9 := ⟨fo127_3⟩
theorem pl127 : placesOf Tryz.prog 127 = some [(0, 1), (1, 1), (2, 1), (3, 1)] := by kernel_rfl
instance : PIs Tryz.prog 127 [(0, 1), (1, 1), (2, 1), (3, 1)] := ⟨pl127⟩
theorem ti128 : tinfo Tryz.prog 128 = some (4, true, 40, [.pointer none, .pointer none, .pointer none, .string { data := #[] }]) := by kernel_rfl
instance : TIs Tryz.prog 128 4 true 40 [.pointer none, .pointer none, .pointer none, .string { data := #[] }] := ⟨ti128⟩
theorem fo128_0 : fieldOff Tryz.prog 128 0 = some (0, 17) := by kernel_rfl
instance : FIs Tryz.prog 128 0 0 17 := ⟨fo128_0⟩
theorem fo128_1 : fieldOff Tryz.prog 128 1 = some (1, 17) := by kernel_rfl
instance : FIs Tryz.prog 128 1 1 17 := ⟨fo128_1⟩
theorem fo128_2 : fieldOff Tryz.prog 128 2 = some (2, 17) := by kernel_rfl
instance : FIs Tryz.prog 128 2 2 17 := ⟨fo128_2⟩
theorem fo128_3 : fieldOff Tryz.prog 128 3 = some (3, 9) := by kernel_rfl
instance : FIs Tryz.prog 128 3 3 9 := ⟨fo128_3⟩
theorem pl128 : placesOf Tryz.prog 128 = some [(0, 1), (1, 1), (2, 1), (3, 1)] := by kernel_rfl
instance : PIs Tryz.prog 128 [(0, 1), (1, 1), (2, 1), (3, 1)] := ⟨pl128⟩
theorem tu129 : Tryz.prog.underlying 129 = some (.array 0 16) := by kernel_rfl
instance : UIs Tryz.prog 129 (.array 0 16) := ⟨tu129⟩
theorem ti129 : tinfo Tryz.prog 129 = some (0, true, 0, []) := by kernel_rfl
instance : TIs Tryz.prog 129 0 true 0 [] := ⟨ti129⟩
theorem ti130 : tinfo Tryz.prog 130 = some (0, true, 0, []) := by kernel_rfl
instance : TIs Tryz.prog 130 0 true 0 [] := ⟨ti130⟩
theorem pl130 : placesOf Tryz.prog 130 = some [(0, 0)] := by kernel_rfl
instance : PIs Tryz.prog 130 [(0, 0)] := ⟨pl130⟩
theorem ti131 : tinfo Tryz.prog 131 = some (0, true, 0, []) := by kernel_rfl
instance : TIs Tryz.prog 131 0 true 0 [] := ⟨ti131⟩
theorem pl131 : placesOf Tryz.prog 131 = some [(0, 0)] := by kernel_rfl
instance : PIs Tryz.prog 131 [(0, 0)] := ⟨pl131⟩
theorem tu132 : Tryz.prog.underlying 132 = some (.int .u32) := by kernel_rfl
instance : UIs Tryz.prog 132 (.int .u32) := ⟨tu132⟩
theorem ti132 : tinfo Tryz.prog 132 = some (1, false, 4, [.int .u32 0]) := by kernel_rfl
instance : TIs Tryz.prog 132 1 false 4 [.int .u32 0] := ⟨ti132⟩
theorem tu133 : Tryz.prog.underlying 133 = some (.int .u8) := by kernel_rfl
instance : UIs Tryz.prog 133 (.int .u8) := ⟨tu133⟩
theorem ti133 : tinfo Tryz.prog 133 = some (1, false, 1, [.int .u8 0]) := by kernel_rfl
instance : TIs Tryz.prog 133 1 false 1 [.int .u8 0] := ⟨ti133⟩
theorem tu134 : Tryz.prog.underlying 134 = some (.int .u8) := by kernel_rfl
instance : UIs Tryz.prog 134 (.int .u8) := ⟨tu134⟩
theorem ti134 : tinfo Tryz.prog 134 = some (1, false, 1, [.int .u8 0]) := by kernel_rfl
instance : TIs Tryz.prog 134 1 false 1 [.int .u8 0] := ⟨ti134⟩
theorem tu136 : Tryz.prog.underlying 136 = some (.pointer 5) := by kernel_rfl
instance : UIs Tryz.prog 136 (.pointer 5) := ⟨tu136⟩
theorem ti136 : tinfo Tryz.prog 136 = some (1, false, 8, [.pointer none]) := by kernel_rfl
instance : TIs Tryz.prog 136 1 false 8 [.pointer none] := ⟨ti136⟩
theorem tu137 : Tryz.prog.underlying 137 = some (.int .i32) := by kernel_rfl
instance : UIs Tryz.prog 137 (.int .i32) := ⟨tu137⟩
theorem ti137 : tinfo Tryz.prog 137 = some (1, false, 4, [.int .i32 0]) := by kernel_rfl
instance : TIs Tryz.prog 137 1 false 4 [.int .i32 0] := ⟨ti137⟩
theorem tu138 : Tryz.prog.underlying 138 = some (.int .i32) := by kernel_rfl
instance : UIs Tryz.prog 138 (.int .i32) := ⟨tu138⟩
theorem ti138 : tinfo Tryz.prog 138 = some (1, false, 4, [.int .i32 0]) := by kernel_rfl
instance : TIs Tryz.prog 138 1 false 4 [.int .i32 0] := ⟨ti138⟩
theorem ti139 : tinfo Tryz.prog 139 = some (11, true, 48, [.int .u64 0, .int .u64 0, .int .u32 0, .int .u8 0, .int .u8 0, .int .u8 0, .int .u8 0, .nilFunc, .pointer none, .int .i32 0, .int .i32 0]) := by kernel_rfl
instance : TIs Tryz.prog 139 11 true 48 [.int .u64 0, .int .u64 0, .int .u32 0, .int .u8 0, .int .u8 0, .int .u8 0, .int .u8 0, .nilFunc, .pointer none, .int .i32 0, .int .i32 0] := ⟨ti139⟩
theorem ti140 : tinfo Tryz.prog 140 = some (11, true, 48, [.int .u64 0, .int .u64 0, .int .u32 0, .int .u8 0, .int .u8 0, .int .u8 0, .int .u8 0, .nilFunc, .pointer none, .int .i32 0, .int .i32 0]) := by kernel_rfl
instance : TIs Tryz.prog 140 11 true 48 [.int .u64 0, .int .u64 0, .int .u32 0, .int .u8 0, .int .u8 0, .int .u8 0, .int .u8 0, .nilFunc, .pointer none, .int .i32 0, .int .i32 0] := ⟨ti140⟩
theorem mixed : Tryz.prog.follows .mixedOrders = true := by kernel_rfl
theorem fn3 : isFn Tryz.prog 3 = true := by kernel_rfl
instance : FnIs Tryz.prog 3 := ⟨fn3⟩
theorem fn4 : isFn Tryz.prog 4 = true := by kernel_rfl
instance : FnIs Tryz.prog 4 := ⟨fn4⟩
theorem fn5 : isFn Tryz.prog 5 = true := by kernel_rfl
instance : FnIs Tryz.prog 5 := ⟨fn5⟩
theorem fn6 : isFn Tryz.prog 6 = true := by kernel_rfl
instance : FnIs Tryz.prog 6 := ⟨fn6⟩
theorem fn7 : isFn Tryz.prog 7 = true := by kernel_rfl
instance : FnIs Tryz.prog 7 := ⟨fn7⟩
theorem fn8 : isFn Tryz.prog 8 = true := by kernel_rfl
instance : FnIs Tryz.prog 8 := ⟨fn8⟩
theorem fn9 : isFn Tryz.prog 9 = true := by kernel_rfl
instance : FnIs Tryz.prog 9 := ⟨fn9⟩
theorem fn10 : isFn Tryz.prog 10 = true := by kernel_rfl
instance : FnIs Tryz.prog 10 := ⟨fn10⟩
theorem fn11 : isFn Tryz.prog 11 = true := by kernel_rfl
instance : FnIs Tryz.prog 11 := ⟨fn11⟩
theorem fn12 : isFn Tryz.prog 12 = true := by kernel_rfl
instance : FnIs Tryz.prog 12 := ⟨fn12⟩
theorem fn13 : isFn Tryz.prog 13 = true := by kernel_rfl
instance : FnIs Tryz.prog 13 := ⟨fn13⟩
theorem fn14 : isFn Tryz.prog 14 = true := by kernel_rfl
instance : FnIs Tryz.prog 14 := ⟨fn14⟩
theorem fn15 : isFn Tryz.prog 15 = true := by kernel_rfl
instance : FnIs Tryz.prog 15 := ⟨fn15⟩
theorem fn16 : isFn Tryz.prog 16 = true := by kernel_rfl
instance : FnIs Tryz.prog 16 := ⟨fn16⟩
theorem fn17 : isFn Tryz.prog 17 = true := by kernel_rfl
instance : FnIs Tryz.prog 17 := ⟨fn17⟩
theorem fn18 : isFn Tryz.prog 18 = true := by kernel_rfl
instance : FnIs Tryz.prog 18 := ⟨fn18⟩
theorem fn19 : isFn Tryz.prog 19 = true := by kernel_rfl
instance : FnIs Tryz.prog 19 := ⟨fn19⟩
theorem fn20 : isFn Tryz.prog 20 = true := by kernel_rfl
instance : FnIs Tryz.prog 20 := ⟨fn20⟩
theorem fn21 : isFn Tryz.prog 21 = true := by kernel_rfl
instance : FnIs Tryz.prog 21 := ⟨fn21⟩
theorem fn22 : isFn Tryz.prog 22 = true := by kernel_rfl
instance : FnIs Tryz.prog 22 := ⟨fn22⟩
theorem fn23 : isFn Tryz.prog 23 = true := by kernel_rfl
instance : FnIs Tryz.prog 23 := ⟨fn23⟩
theorem fn24 : isFn Tryz.prog 24 = true := by kernel_rfl
instance : FnIs Tryz.prog 24 := ⟨fn24⟩
theorem fn25 : isFn Tryz.prog 25 = true := by kernel_rfl
instance : FnIs Tryz.prog 25 := ⟨fn25⟩
theorem fn26 : isFn Tryz.prog 26 = true := by kernel_rfl
instance : FnIs Tryz.prog 26 := ⟨fn26⟩
theorem fn27 : isFn Tryz.prog 27 = true := by kernel_rfl
instance : FnIs Tryz.prog 27 := ⟨fn27⟩
theorem fn28 : isFn Tryz.prog 28 = true := by kernel_rfl
instance : FnIs Tryz.prog 28 := ⟨fn28⟩
theorem fn29 : isFn Tryz.prog 29 = true := by kernel_rfl
instance : FnIs Tryz.prog 29 := ⟨fn29⟩
theorem fn30 : isFn Tryz.prog 30 = true := by kernel_rfl
instance : FnIs Tryz.prog 30 := ⟨fn30⟩
theorem fn31 : isFn Tryz.prog 31 = true := by kernel_rfl
instance : FnIs Tryz.prog 31 := ⟨fn31⟩
theorem fn32 : isFn Tryz.prog 32 = true := by kernel_rfl
instance : FnIs Tryz.prog 32 := ⟨fn32⟩
theorem fn33 : isFn Tryz.prog 33 = true := by kernel_rfl
instance : FnIs Tryz.prog 33 := ⟨fn33⟩
theorem fn34 : isFn Tryz.prog 34 = true := by kernel_rfl
instance : FnIs Tryz.prog 34 := ⟨fn34⟩
theorem fn35 : isFn Tryz.prog 35 = true := by kernel_rfl
instance : FnIs Tryz.prog 35 := ⟨fn35⟩
theorem fn36 : isFn Tryz.prog 36 = true := by kernel_rfl
instance : FnIs Tryz.prog 36 := ⟨fn36⟩
theorem fn37 : isFn Tryz.prog 37 = true := by kernel_rfl
instance : FnIs Tryz.prog 37 := ⟨fn37⟩
theorem fn38 : isFn Tryz.prog 38 = true := by kernel_rfl
instance : FnIs Tryz.prog 38 := ⟨fn38⟩
theorem fn39 : isFn Tryz.prog 39 = true := by kernel_rfl
instance : FnIs Tryz.prog 39 := ⟨fn39⟩
theorem fn40 : isFn Tryz.prog 40 = true := by kernel_rfl
instance : FnIs Tryz.prog 40 := ⟨fn40⟩
theorem fn41 : isFn Tryz.prog 41 = true := by kernel_rfl
instance : FnIs Tryz.prog 41 := ⟨fn41⟩
theorem fn42 : isFn Tryz.prog 42 = true := by kernel_rfl
instance : FnIs Tryz.prog 42 := ⟨fn42⟩
theorem fn43 : isFn Tryz.prog 43 = true := by kernel_rfl
instance : FnIs Tryz.prog 43 := ⟨fn43⟩
theorem fn44 : isFn Tryz.prog 44 = true := by kernel_rfl
instance : FnIs Tryz.prog 44 := ⟨fn44⟩
theorem fn45 : isFn Tryz.prog 45 = true := by kernel_rfl
instance : FnIs Tryz.prog 45 := ⟨fn45⟩
theorem fn46 : isFn Tryz.prog 46 = true := by kernel_rfl
instance : FnIs Tryz.prog 46 := ⟨fn46⟩
theorem fn47 : isFn Tryz.prog 47 = true := by kernel_rfl
instance : FnIs Tryz.prog 47 := ⟨fn47⟩
theorem fn48 : isFn Tryz.prog 48 = true := by kernel_rfl
instance : FnIs Tryz.prog 48 := ⟨fn48⟩
theorem fn49 : isFn Tryz.prog 49 = true := by kernel_rfl
instance : FnIs Tryz.prog 49 := ⟨fn49⟩
theorem fn50 : isFn Tryz.prog 50 = true := by kernel_rfl
instance : FnIs Tryz.prog 50 := ⟨fn50⟩
theorem fn51 : isFn Tryz.prog 51 = true := by kernel_rfl
instance : FnIs Tryz.prog 51 := ⟨fn51⟩
theorem fn52 : isFn Tryz.prog 52 = true := by kernel_rfl
instance : FnIs Tryz.prog 52 := ⟨fn52⟩
theorem fn53 : isFn Tryz.prog 53 = true := by kernel_rfl
instance : FnIs Tryz.prog 53 := ⟨fn53⟩
theorem fn54 : isFn Tryz.prog 54 = true := by kernel_rfl
instance : FnIs Tryz.prog 54 := ⟨fn54⟩
theorem fn55 : isFn Tryz.prog 55 = true := by kernel_rfl
instance : FnIs Tryz.prog 55 := ⟨fn55⟩
theorem fn56 : isFn Tryz.prog 56 = true := by kernel_rfl
instance : FnIs Tryz.prog 56 := ⟨fn56⟩
theorem fn57 : isFn Tryz.prog 57 = true := by kernel_rfl
instance : FnIs Tryz.prog 57 := ⟨fn57⟩
theorem fn58 : isFn Tryz.prog 58 = true := by kernel_rfl
instance : FnIs Tryz.prog 58 := ⟨fn58⟩
theorem fn59 : isFn Tryz.prog 59 = true := by kernel_rfl
instance : FnIs Tryz.prog 59 := ⟨fn59⟩
theorem fn60 : isFn Tryz.prog 60 = true := by kernel_rfl
instance : FnIs Tryz.prog 60 := ⟨fn60⟩
theorem fn61 : isFn Tryz.prog 61 = true := by kernel_rfl
instance : FnIs Tryz.prog 61 := ⟨fn61⟩
theorem fn62 : isFn Tryz.prog 62 = true := by kernel_rfl
instance : FnIs Tryz.prog 62 := ⟨fn62⟩
theorem fn63 : isFn Tryz.prog 63 = true := by kernel_rfl
instance : FnIs Tryz.prog 63 := ⟨fn63⟩
theorem fn64 : isFn Tryz.prog 64 = true := by kernel_rfl
instance : FnIs Tryz.prog 64 := ⟨fn64⟩
theorem fn65 : isFn Tryz.prog 65 = true := by kernel_rfl
instance : FnIs Tryz.prog 65 := ⟨fn65⟩
theorem fn66 : isFn Tryz.prog 66 = true := by kernel_rfl
instance : FnIs Tryz.prog 66 := ⟨fn66⟩
theorem fn67 : isFn Tryz.prog 67 = true := by kernel_rfl
instance : FnIs Tryz.prog 67 := ⟨fn67⟩
theorem fn68 : isFn Tryz.prog 68 = true := by kernel_rfl
instance : FnIs Tryz.prog 68 := ⟨fn68⟩
theorem fn69 : isFn Tryz.prog 69 = true := by kernel_rfl
instance : FnIs Tryz.prog 69 := ⟨fn69⟩
theorem fn70 : isFn Tryz.prog 70 = true := by kernel_rfl
instance : FnIs Tryz.prog 70 := ⟨fn70⟩
theorem fn71 : isFn Tryz.prog 71 = true := by kernel_rfl
instance : FnIs Tryz.prog 71 := ⟨fn71⟩
theorem fn72 : isFn Tryz.prog 72 = true := by kernel_rfl
instance : FnIs Tryz.prog 72 := ⟨fn72⟩
theorem fn73 : isFn Tryz.prog 73 = true := by kernel_rfl
instance : FnIs Tryz.prog 73 := ⟨fn73⟩
theorem fn74 : isFn Tryz.prog 74 = true := by kernel_rfl
instance : FnIs Tryz.prog 74 := ⟨fn74⟩
theorem fn75 : isFn Tryz.prog 75 = true := by kernel_rfl
instance : FnIs Tryz.prog 75 := ⟨fn75⟩
theorem fn76 : isFn Tryz.prog 76 = true := by kernel_rfl
instance : FnIs Tryz.prog 76 := ⟨fn76⟩
theorem fn77 : isFn Tryz.prog 77 = true := by kernel_rfl
instance : FnIs Tryz.prog 77 := ⟨fn77⟩
theorem fn78 : isFn Tryz.prog 78 = true := by kernel_rfl
instance : FnIs Tryz.prog 78 := ⟨fn78⟩
theorem fn79 : isFn Tryz.prog 79 = true := by kernel_rfl
instance : FnIs Tryz.prog 79 := ⟨fn79⟩
theorem fn80 : isFn Tryz.prog 80 = true := by kernel_rfl
instance : FnIs Tryz.prog 80 := ⟨fn80⟩
theorem fn81 : isFn Tryz.prog 81 = true := by kernel_rfl
instance : FnIs Tryz.prog 81 := ⟨fn81⟩
theorem fn82 : isFn Tryz.prog 82 = true := by kernel_rfl
instance : FnIs Tryz.prog 82 := ⟨fn82⟩
theorem fn83 : isFn Tryz.prog 83 = true := by kernel_rfl
instance : FnIs Tryz.prog 83 := ⟨fn83⟩
theorem fn84 : isFn Tryz.prog 84 = true := by kernel_rfl
instance : FnIs Tryz.prog 84 := ⟨fn84⟩
theorem fn85 : isFn Tryz.prog 85 = true := by kernel_rfl
instance : FnIs Tryz.prog 85 := ⟨fn85⟩
theorem fn86 : isFn Tryz.prog 86 = true := by kernel_rfl
instance : FnIs Tryz.prog 86 := ⟨fn86⟩
theorem fn87 : isFn Tryz.prog 87 = true := by kernel_rfl
instance : FnIs Tryz.prog 87 := ⟨fn87⟩
theorem fn88 : isFn Tryz.prog 88 = true := by kernel_rfl
instance : FnIs Tryz.prog 88 := ⟨fn88⟩
theorem fn89 : isFn Tryz.prog 89 = true := by kernel_rfl
instance : FnIs Tryz.prog 89 := ⟨fn89⟩
theorem fn90 : isFn Tryz.prog 90 = true := by kernel_rfl
instance : FnIs Tryz.prog 90 := ⟨fn90⟩
theorem fn91 : isFn Tryz.prog 91 = true := by kernel_rfl
instance : FnIs Tryz.prog 91 := ⟨fn91⟩
theorem fn92 : isFn Tryz.prog 92 = true := by kernel_rfl
instance : FnIs Tryz.prog 92 := ⟨fn92⟩
theorem fn93 : isFn Tryz.prog 93 = true := by kernel_rfl
instance : FnIs Tryz.prog 93 := ⟨fn93⟩
theorem fn94 : isFn Tryz.prog 94 = true := by kernel_rfl
instance : FnIs Tryz.prog 94 := ⟨fn94⟩
theorem fn95 : isFn Tryz.prog 95 = true := by kernel_rfl
instance : FnIs Tryz.prog 95 := ⟨fn95⟩
theorem fn96 : isFn Tryz.prog 96 = true := by kernel_rfl
instance : FnIs Tryz.prog 96 := ⟨fn96⟩
theorem fn97 : isFn Tryz.prog 97 = true := by kernel_rfl
instance : FnIs Tryz.prog 97 := ⟨fn97⟩
theorem fn98 : isFn Tryz.prog 98 = true := by kernel_rfl
instance : FnIs Tryz.prog 98 := ⟨fn98⟩
theorem fn99 : isFn Tryz.prog 99 = true := by kernel_rfl
instance : FnIs Tryz.prog 99 := ⟨fn99⟩
theorem fn100 : isFn Tryz.prog 100 = true := by kernel_rfl
instance : FnIs Tryz.prog 100 := ⟨fn100⟩
theorem fn101 : isFn Tryz.prog 101 = true := by kernel_rfl
instance : FnIs Tryz.prog 101 := ⟨fn101⟩
theorem fn102 : isFn Tryz.prog 102 = true := by kernel_rfl
instance : FnIs Tryz.prog 102 := ⟨fn102⟩
theorem fn103 : isFn Tryz.prog 103 = true := by kernel_rfl
instance : FnIs Tryz.prog 103 := ⟨fn103⟩
theorem fn104 : isFn Tryz.prog 104 = true := by kernel_rfl
instance : FnIs Tryz.prog 104 := ⟨fn104⟩
theorem fn105 : isFn Tryz.prog 105 = true := by kernel_rfl
instance : FnIs Tryz.prog 105 := ⟨fn105⟩
theorem fn106 : isFn Tryz.prog 106 = true := by kernel_rfl
instance : FnIs Tryz.prog 106 := ⟨fn106⟩
theorem fn107 : isFn Tryz.prog 107 = true := by kernel_rfl
instance : FnIs Tryz.prog 107 := ⟨fn107⟩
theorem fn108 : isFn Tryz.prog 108 = true := by kernel_rfl
instance : FnIs Tryz.prog 108 := ⟨fn108⟩
theorem fn109 : isFn Tryz.prog 109 = true := by kernel_rfl
instance : FnIs Tryz.prog 109 := ⟨fn109⟩
theorem fn110 : isFn Tryz.prog 110 = true := by kernel_rfl
instance : FnIs Tryz.prog 110 := ⟨fn110⟩
theorem fn111 : isFn Tryz.prog 111 = true := by kernel_rfl
instance : FnIs Tryz.prog 111 := ⟨fn111⟩
theorem fn113 : isFn Tryz.prog 113 = true := by kernel_rfl
instance : FnIs Tryz.prog 113 := ⟨fn113⟩
theorem fn114 : isFn Tryz.prog 114 = true := by kernel_rfl
instance : FnIs Tryz.prog 114 := ⟨fn114⟩
theorem fn115 : isFn Tryz.prog 115 = true := by kernel_rfl
instance : FnIs Tryz.prog 115 := ⟨fn115⟩
theorem fn116 : isFn Tryz.prog 116 = true := by kernel_rfl
instance : FnIs Tryz.prog 116 := ⟨fn116⟩
theorem fn117 : isFn Tryz.prog 117 = true := by kernel_rfl
instance : FnIs Tryz.prog 117 := ⟨fn117⟩
theorem fn120 : isFn Tryz.prog 120 = true := by kernel_rfl
instance : FnIs Tryz.prog 120 := ⟨fn120⟩
theorem fn121 : isFn Tryz.prog 121 = true := by kernel_rfl
instance : FnIs Tryz.prog 121 := ⟨fn121⟩
theorem fn122 : isFn Tryz.prog 122 = true := by kernel_rfl
instance : FnIs Tryz.prog 122 := ⟨fn122⟩
theorem fn123 : isFn Tryz.prog 123 = true := by kernel_rfl
instance : FnIs Tryz.prog 123 := ⟨fn123⟩
theorem fn124 : isFn Tryz.prog 124 = true := by kernel_rfl
instance : FnIs Tryz.prog 124 := ⟨fn124⟩
theorem fn125 : isFn Tryz.prog 125 = true := by kernel_rfl
instance : FnIs Tryz.prog 125 := ⟨fn125⟩
end Go.Proofs.YtgljgalcbbjfgaaGreatDoor
