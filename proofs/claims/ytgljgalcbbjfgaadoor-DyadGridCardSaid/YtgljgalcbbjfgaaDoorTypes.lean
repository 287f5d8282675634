/- Closed facts on the seat's types and functions, as instances that the rules find by themselves (printed by wip/gen/types.py). -/
import Derived.Test.YtgljgalcbbjfgaaDoorProg
import Derived.Test.YtgljgalcbbjfgaaDoorSteps
import Derived.KernelRfl
namespace Go.Proofs.YtgljgalcbbjfgaaDoor
set_option maxRecDepth 100000
class UIs (P : Program) (t : TypeId) (d : outParam TypeDesc) : Prop where out : P.underlying t = some d
class TIs (P : Program) (t : TypeId) (n : outParam Nat) (ag : outParam Bool) (b : outParam Nat) (zc : outParam (List Value)) : Prop where out : tinfo P t = some (n, ag, b, zc)
class FIs (P : Program) (s : TypeId) (f : Nat) (off : outParam Nat) (ft : outParam TypeId) : Prop where out : fieldOff P s f = some (off, ft)
class PIs (P : Program) (s : TypeId) (pl : outParam (List (Nat × Nat))) : Prop where out : placesOf P s = some pl
class FnIs (P : Program) (f : FuncId) : Prop where out : isFn P f = true
theorem TIs.size {P : Program} {t : TypeId} {n b : Nat} {ag : Bool} {zc : List Value} [h : TIs P t n ag b zc] : (P.info? t).map (·.size) = some n := by
  obtain ⟨i, z, d, hi, hd, hz, hs, _⟩ := tinfo_spec h.out
  rw [hi, Option.map_some, hs]
theorem tu2 : Tryd.prog.underlying 2 = some (.int .i64) := by kernel_rfl
instance : UIs Tryd.prog 2 (.int .i64) := ⟨tu2⟩
theorem ti2 : tinfo Tryd.prog 2 = some (1, false, 8, [.int .i64 0]) := by kernel_rfl
instance : TIs Tryd.prog 2 1 false 8 [.int .i64 0] := ⟨ti2⟩
theorem tu3 : Tryd.prog.underlying 3 = some (.int .i64) := by kernel_rfl
instance : UIs Tryd.prog 3 (.int .i64) := ⟨tu3⟩
theorem ti3 : tinfo Tryd.prog 3 = some (1, false, 8, [.int .i64 0]) := by kernel_rfl
instance : TIs Tryd.prog 3 1 false 8 [.int .i64 0] := ⟨ti3⟩
theorem tu4 : Tryd.prog.underlying 4 = some (.bool) := by kernel_rfl
instance : UIs Tryd.prog 4 (.bool) := ⟨tu4⟩
theorem ti4 : tinfo Tryd.prog 4 = some (1, false, 1, [.bool false]) := by kernel_rfl
instance : TIs Tryd.prog 4 1 false 1 [.bool false] := ⟨ti4⟩
theorem tu5 : Tryd.prog.underlying 5 = some (.int .u8) := by kernel_rfl
instance : UIs Tryd.prog 5 (.int .u8) := ⟨tu5⟩
theorem ti5 : tinfo Tryd.prog 5 = some (1, false, 1, [.int .u8 0]) := by kernel_rfl
instance : TIs Tryd.prog 5 1 false 1 [.int .u8 0] := ⟨ti5⟩
theorem tu6 : Tryd.prog.underlying 6 = some (.int .u8) := by kernel_rfl
instance : UIs Tryd.prog 6 (.int .u8) := ⟨tu6⟩
theorem ti6 : tinfo Tryd.prog 6 = some (1, false, 1, [.int .u8 0]) := by kernel_rfl
instance : TIs Tryd.prog 6 1 false 1 [.int .u8 0] := ⟨ti6⟩
theorem ti7 : tinfo Tryd.prog 7 = some (4, true, 24, [.int .i64 0, .int .i64 0, .bool false, .int .u8 0]) := by kernel_rfl
instance : TIs Tryd.prog 7 4 true 24 [.int .i64 0, .int .i64 0, .bool false, .int .u8 0] := ⟨ti7⟩
theorem fo7_0 : fieldOff Tryd.prog 7 0 = some (0, 2) := by kernel_rfl
instance : FIs Tryd.prog 7 0 0 2 := ⟨fo7_0⟩
theorem fo7_1 : fieldOff Tryd.prog 7 1 = some (1, 3) := by kernel_rfl
instance : FIs Tryd.prog 7 1 1 3 := ⟨fo7_1⟩
theorem fo7_2 : fieldOff Tryd.prog 7 2 = some (2, 4) := by kernel_rfl
instance : FIs Tryd.prog 7 2 2 4 := ⟨fo7_2⟩
theorem fo7_3 : fieldOff Tryd.prog 7 3 = some (3, 6) := by kernel_rfl
instance : FIs Tryd.prog 7 3 3 6 := ⟨fo7_3⟩
theorem pl7 : placesOf Tryd.prog 7 = some [(0, 1), (1, 1), (2, 1), (3, 1)] := by kernel_rfl
instance : PIs Tryd.prog 7 [(0, 1), (1, 1), (2, 1), (3, 1)] := ⟨pl7⟩
theorem ti8 : tinfo Tryd.prog 8 = some (4, true, 24, [.int .i64 0, .int .i64 0, .bool false, .int .u8 0]) := by kernel_rfl
instance : TIs Tryd.prog 8 4 true 24 [.int .i64 0, .int .i64 0, .bool false, .int .u8 0] := ⟨ti8⟩
theorem fo8_0 : fieldOff Tryd.prog 8 0 = some (0, 2) := by kernel_rfl
instance : FIs Tryd.prog 8 0 0 2 := ⟨fo8_0⟩
theorem fo8_1 : fieldOff Tryd.prog 8 1 = some (1, 3) := by kernel_rfl
instance : FIs Tryd.prog 8 1 1 3 := ⟨fo8_1⟩
theorem fo8_2 : fieldOff Tryd.prog 8 2 = some (2, 4) := by kernel_rfl
instance : FIs Tryd.prog 8 2 2 4 := ⟨fo8_2⟩
theorem fo8_3 : fieldOff Tryd.prog 8 3 = some (3, 6) := by kernel_rfl
instance : FIs Tryd.prog 8 3 3 6 := ⟨fo8_3⟩
theorem pl8 : placesOf Tryd.prog 8 = some [(0, 1), (1, 1), (2, 1), (3, 1)] := by kernel_rfl
instance : PIs Tryd.prog 8 [(0, 1), (1, 1), (2, 1), (3, 1)] := ⟨pl8⟩
theorem tu9 : Tryd.prog.underlying 9 = some (.string) := by kernel_rfl
instance : UIs Tryd.prog 9 (.string) := ⟨tu9⟩
theorem ti9 : tinfo Tryd.prog 9 = some (1, false, 16, [.string { data := #[] }]) := by kernel_rfl
instance : TIs Tryd.prog 9 1 false 16 [.string { data := #[] }] := ⟨ti9⟩
theorem tu10 : Tryd.prog.underlying 10 = some (.string) := by kernel_rfl
instance : UIs Tryd.prog 10 (.string) := ⟨tu10⟩
theorem ti10 : tinfo Tryd.prog 10 = some (1, false, 16, [.string { data := #[] }]) := by kernel_rfl
instance : TIs Tryd.prog 10 1 false 16 [.string { data := #[] }] := ⟨ti10⟩
theorem tu11 : Tryd.prog.underlying 11 = some (.string) := by kernel_rfl
instance : UIs Tryd.prog 11 (.string) := ⟨tu11⟩
theorem ti11 : tinfo Tryd.prog 11 = some (1, false, 16, [.string { data := #[] }]) := by kernel_rfl
instance : TIs Tryd.prog 11 1 false 16 [.string { data := #[] }] := ⟨ti11⟩
theorem tu12 : Tryd.prog.underlying 12 = some (.int .u64) := by kernel_rfl
instance : UIs Tryd.prog 12 (.int .u64) := ⟨tu12⟩
theorem ti12 : tinfo Tryd.prog 12 = some (1, false, 8, [.int .u64 0]) := by kernel_rfl
instance : TIs Tryd.prog 12 1 false 8 [.int .u64 0] := ⟨ti12⟩
theorem ti13 : tinfo Tryd.prog 13 = some (2, true, 24, [.string { data := #[] }, .int .u64 0]) := by kernel_rfl
instance : TIs Tryd.prog 13 2 true 24 [.string { data := #[] }, .int .u64 0] := ⟨ti13⟩
theorem fo13_0 : fieldOff Tryd.prog 13 0 = some (0, 9) := by kernel_rfl
instance : FIs Tryd.prog 13 0 0 9 := ⟨fo13_0⟩
theorem fo13_1 : fieldOff Tryd.prog 13 1 = some (1, 12) := by kernel_rfl
instance : FIs Tryd.prog 13 1 1 12 := ⟨fo13_1⟩
theorem pl13 : placesOf Tryd.prog 13 = some [(0, 1), (1, 1)] := by kernel_rfl
instance : PIs Tryd.prog 13 [(0, 1), (1, 1)] := ⟨pl13⟩
theorem ti14 : tinfo Tryd.prog 14 = some (2, true, 24, [.string { data := #[] }, .int .u64 0]) := by kernel_rfl
instance : TIs Tryd.prog 14 2 true 24 [.string { data := #[] }, .int .u64 0] := ⟨ti14⟩
theorem fo14_0 : fieldOff Tryd.prog 14 0 = some (0, 9) := by kernel_rfl
instance : FIs Tryd.prog 14 0 0 9 := ⟨fo14_0⟩
theorem fo14_1 : fieldOff Tryd.prog 14 1 = some (1, 12) := by kernel_rfl
instance : FIs Tryd.prog 14 1 1 12 := ⟨fo14_1⟩
theorem pl14 : placesOf Tryd.prog 14 = some [(0, 1), (1, 1)] := by kernel_rfl
instance : PIs Tryd.prog 14 [(0, 1), (1, 1)] := ⟨pl14⟩
theorem tu15 : Tryd.prog.underlying 15 = some (.pointer 121) := by kernel_rfl
instance : UIs Tryd.prog 15 (.pointer 121) := ⟨tu15⟩
theorem ti15 : tinfo Tryd.prog 15 = some (1, false, 8, [.pointer none]) := by kernel_rfl
instance : TIs Tryd.prog 15 1 false 8 [.pointer none] := ⟨ti15⟩
theorem tu16 : Tryd.prog.underlying 16 = some (.pointer 124) := by kernel_rfl
instance : UIs Tryd.prog 16 (.pointer 124) := ⟨tu16⟩
theorem ti16 : tinfo Tryd.prog 16 = some (1, false, 8, [.pointer none]) := by kernel_rfl
instance : TIs Tryd.prog 16 1 false 8 [.pointer none] := ⟨ti16⟩
theorem tu17 : Tryd.prog.underlying 17 = some (.pointer 133) := by kernel_rfl
instance : UIs Tryd.prog 17 (.pointer 133) := ⟨tu17⟩
theorem ti17 : tinfo Tryd.prog 17 = some (1, false, 8, [.pointer none]) := by kernel_rfl
instance : TIs Tryd.prog 17 1 false 8 [.pointer none] := ⟨ti17⟩
theorem ti18 : tinfo Tryd.prog 18 = some (1, true, 8, [.pointer none]) := by kernel_rfl
instance : TIs Tryd.prog 18 1 true 8 [.pointer none] := ⟨ti18⟩
theorem fo18_0 : fieldOff Tryd.prog 18 0 = some (0, 17) := by kernel_rfl
instance : FIs Tryd.prog 18 0 0 17 := ⟨fo18_0⟩
theorem pl18 : placesOf Tryd.prog 18 = some [(0, 1)] := by kernel_rfl
instance : PIs Tryd.prog 18 [(0, 1)] := ⟨pl18⟩
theorem ti19 : tinfo Tryd.prog 19 = some (1, true, 8, [.pointer none]) := by kernel_rfl
instance : TIs Tryd.prog 19 1 true 8 [.pointer none] := ⟨ti19⟩
theorem fo19_0 : fieldOff Tryd.prog 19 0 = some (0, 17) := by kernel_rfl
instance : FIs Tryd.prog 19 0 0 17 := ⟨fo19_0⟩
theorem pl19 : placesOf Tryd.prog 19 = some [(0, 1)] := by kernel_rfl
instance : PIs Tryd.prog 19 [(0, 1)] := ⟨pl19⟩
theorem tu21 : Tryd.prog.underlying 21 = some (.int .i32) := by kernel_rfl
instance : UIs Tryd.prog 21 (.int .i32) := ⟨tu21⟩
theorem ti21 : tinfo Tryd.prog 21 = some (1, false, 4, [.int .i32 0]) := by kernel_rfl
instance : TIs Tryd.prog 21 1 false 4 [.int .i32 0] := ⟨ti21⟩
theorem ti22 : tinfo Tryd.prog 22 = some (2, true, 24, [.bool false, .string { data := #[] }]) := by kernel_rfl
instance : TIs Tryd.prog 22 2 true 24 [.bool false, .string { data := #[] }] := ⟨ti22⟩
theorem fo22_0 : fieldOff Tryd.prog 22 0 = some (0, 4) := by kernel_rfl
instance : FIs Tryd.prog 22 0 0 4 := ⟨fo22_0⟩
theorem fo22_1 : fieldOff Tryd.prog 22 1 = some (1, 9) := by kernel_rfl
instance : FIs Tryd.prog 22 1 1 9 := ⟨fo22_1⟩
theorem pl22 : placesOf Tryd.prog 22 = some [(0, 1), (1, 1)] := by kernel_rfl
instance : PIs Tryd.prog 22 [(0, 1), (1, 1)] := ⟨pl22⟩
theorem ti23 : tinfo Tryd.prog 23 = some (2, true, 24, [.bool false, .string { data := #[] }]) := by kernel_rfl
instance : TIs Tryd.prog 23 2 true 24 [.bool false, .string { data := #[] }] := ⟨ti23⟩
theorem fo23_0 : fieldOff Tryd.prog 23 0 = some (0, 4) := by kernel_rfl
instance : FIs Tryd.prog 23 0 0 4 := ⟨fo23_0⟩
theorem fo23_1 : fieldOff Tryd.prog 23 1 = some (1, 9) := by kernel_rfl
instance : FIs Tryd.prog 23 1 1 9 := ⟨fo23_1⟩
theorem pl23 : placesOf Tryd.prog 23 = some [(0, 1), (1, 1)] := by kernel_rfl
instance : PIs Tryd.prog 23 [(0, 1), (1, 1)] := ⟨pl23⟩
theorem ti24 : tinfo Tryd.prog 24 = some (3, true, 32, [.bool false, .string { data := #[] }, .int .i64 0]) := by kernel_rfl
instance : TIs Tryd.prog 24 3 true 32 [.bool false, .string { data := #[] }, .int .i64 0] := ⟨ti24⟩
theorem fo24_0 : fieldOff Tryd.prog 24 0 = some (0, 23) := by kernel_rfl
instance : FIs Tryd.prog 24 0 0 23 := ⟨fo24_0⟩
theorem fo24_1 : fieldOff Tryd.prog 24 1 = some (2, 3) := by kernel_rfl
instance : FIs Tryd.prog 24 1 2 3 := ⟨fo24_1⟩
theorem pl24 : placesOf Tryd.prog 24 = some [(0, 2), (2, 1)] := by kernel_rfl
instance : PIs Tryd.prog 24 [(0, 2), (2, 1)] := ⟨pl24⟩
theorem ti25 : tinfo Tryd.prog 25 = some (3, true, 32, [.bool false, .string { data := #[] }, .int .i64 0]) := by kernel_rfl
instance : TIs Tryd.prog 25 3 true 32 [.bool false, .string { data := #[] }, .int .i64 0] := ⟨ti25⟩
theorem fo25_0 : fieldOff Tryd.prog 25 0 = some (0, 23) := by kernel_rfl
instance : FIs Tryd.prog 25 0 0 23 := ⟨fo25_0⟩
theorem fo25_1 : fieldOff Tryd.prog 25 1 = some (2, 3) := by kernel_rfl
instance : FIs Tryd.prog 25 1 2 3 := ⟨fo25_1⟩
theorem pl25 : placesOf Tryd.prog 25 = some [(0, 2), (2, 1)] := by kernel_rfl
instance : PIs Tryd.prog 25 [(0, 2), (2, 1)] := ⟨pl25⟩
theorem tu36 : Tryd.prog.underlying 36 = some (.slice 25) := by kernel_rfl
instance : UIs Tryd.prog 36 (.slice 25) := ⟨tu36⟩
theorem ti36 : tinfo Tryd.prog 36 = some (1, false, 24, [.slice none 0 0]) := by kernel_rfl
instance : TIs Tryd.prog 36 1 false 24 [.slice none 0 0] := ⟨ti36⟩
theorem tu40 : Tryd.prog.underlying 40 = some (.int .i64) := by kernel_rfl
instance : UIs Tryd.prog 40 (.int .i64) := ⟨tu40⟩
theorem ti40 : tinfo Tryd.prog 40 = some (1, false, 8, [.int .i64 0]) := by kernel_rfl
instance : TIs Tryd.prog 40 1 false 8 [.int .i64 0] := ⟨ti40⟩
theorem ti41 : tinfo Tryd.prog 41 = some (5, true, 56, [.int .i64 0, .bool false, .string { data := #[] }, .bool false, .string { data := #[] }]) := by kernel_rfl
instance : TIs Tryd.prog 41 5 true 56 [.int .i64 0, .bool false, .string { data := #[] }, .bool false, .string { data := #[] }] := ⟨ti41⟩
theorem fo41_0 : fieldOff Tryd.prog 41 0 = some (0, 40) := by kernel_rfl
instance : FIs Tryd.prog 41 0 0 40 := ⟨fo41_0⟩
theorem fo41_1 : fieldOff Tryd.prog 41 1 = some (1, 23) := by kernel_rfl
instance : FIs Tryd.prog 41 1 1 23 := ⟨fo41_1⟩
theorem fo41_2 : fieldOff Tryd.prog 41 2 = some (3, 23) := by kernel_rfl
instance : FIs Tryd.prog 41 2 3 23 := ⟨fo41_2⟩
theorem pl41 : placesOf Tryd.prog 41 = some [(0, 1), (1, 2), (3, 2)] := by kernel_rfl
instance : PIs Tryd.prog 41 [(0, 1), (1, 2), (3, 2)] := ⟨pl41⟩
theorem ti42 : tinfo Tryd.prog 42 = some (5, true, 56, [.int .i64 0, .bool false, .string { data := #[] }, .bool false, .string { data := #[] }]) := by kernel_rfl
instance : TIs Tryd.prog 42 5 true 56 [.int .i64 0, .bool false, .string { data := #[] }, .bool false, .string { data := #[] }] := ⟨ti42⟩
theorem fo42_0 : fieldOff Tryd.prog 42 0 = some (0, 40) := by kernel_rfl
instance : FIs Tryd.prog 42 0 0 40 := ⟨fo42_0⟩
theorem fo42_1 : fieldOff Tryd.prog 42 1 = some (1, 23) := by kernel_rfl
instance : FIs Tryd.prog 42 1 1 23 := ⟨fo42_1⟩
theorem fo42_2 : fieldOff Tryd.prog 42 2 = some (3, 23) := by kernel_rfl
instance : FIs Tryd.prog 42 2 3 23 := ⟨fo42_2⟩
theorem pl42 : placesOf Tryd.prog 42 = some [(0, 1), (1, 2), (3, 2)] := by kernel_rfl
instance : PIs Tryd.prog 42 [(0, 1), (1, 2), (3, 2)] := ⟨pl42⟩
theorem tu53 : Tryd.prog.underlying 53 = some (.int .u64) := by kernel_rfl
instance : UIs Tryd.prog 53 (.int .u64) := ⟨tu53⟩
theorem ti53 : tinfo Tryd.prog 53 = some (1, false, 8, [.int .u64 0]) := by kernel_rfl
instance : TIs Tryd.prog 53 1 false 8 [.int .u64 0] := ⟨ti53⟩
theorem tu54 : Tryd.prog.underlying 54 = some (.slice 23) := by kernel_rfl
instance : UIs Tryd.prog 54 (.slice 23) := ⟨tu54⟩
theorem ti54 : tinfo Tryd.prog 54 = some (1, false, 24, [.slice none 0 0]) := by kernel_rfl
instance : TIs Tryd.prog 54 1 false 24 [.slice none 0 0] := ⟨ti54⟩
theorem tu55 : Tryd.prog.underlying 55 = some (.string) := by kernel_rfl
instance : UIs Tryd.prog 55 (.string) := ⟨tu55⟩
theorem ti55 : tinfo Tryd.prog 55 = some (1, false, 16, [.string { data := #[] }]) := by kernel_rfl
instance : TIs Tryd.prog 55 1 false 16 [.string { data := #[] }] := ⟨ti55⟩
theorem ti56 : tinfo Tryd.prog 56 = some (2, true, 24, [.string { data := #[] }, .bool false]) := by kernel_rfl
instance : TIs Tryd.prog 56 2 true 24 [.string { data := #[] }, .bool false] := ⟨ti56⟩
theorem fo56_0 : fieldOff Tryd.prog 56 0 = some (0, 55) := by kernel_rfl
instance : FIs Tryd.prog 56 0 0 55 := ⟨fo56_0⟩
theorem fo56_1 : fieldOff Tryd.prog 56 1 = some (1, 4) := by kernel_rfl
instance : FIs Tryd.prog 56 1 1 4 := ⟨fo56_1⟩
theorem pl56 : placesOf Tryd.prog 56 = some [(0, 1), (1, 1)] := by kernel_rfl
instance : PIs Tryd.prog 56 [(0, 1), (1, 1)] := ⟨pl56⟩
theorem ti57 : tinfo Tryd.prog 57 = some (2, true, 24, [.string { data := #[] }, .bool false]) := by kernel_rfl
instance : TIs Tryd.prog 57 2 true 24 [.string { data := #[] }, .bool false] := ⟨ti57⟩
theorem fo57_0 : fieldOff Tryd.prog 57 0 = some (0, 55) := by kernel_rfl
instance : FIs Tryd.prog 57 0 0 55 := ⟨fo57_0⟩
theorem fo57_1 : fieldOff Tryd.prog 57 1 = some (1, 4) := by kernel_rfl
instance : FIs Tryd.prog 57 1 1 4 := ⟨fo57_1⟩
theorem pl57 : placesOf Tryd.prog 57 = some [(0, 1), (1, 1)] := by kernel_rfl
instance : PIs Tryd.prog 57 [(0, 1), (1, 1)] := ⟨pl57⟩
theorem tu62 : Tryd.prog.underlying 62 = some (.slice 53) := by kernel_rfl
instance : UIs Tryd.prog 62 (.slice 53) := ⟨tu62⟩
theorem ti62 : tinfo Tryd.prog 62 = some (1, false, 24, [.slice none 0 0]) := by kernel_rfl
instance : TIs Tryd.prog 62 1 false 24 [.slice none 0 0] := ⟨ti62⟩
theorem tu63 : Tryd.prog.underlying 63 = some (.slice 53) := by kernel_rfl
instance : UIs Tryd.prog 63 (.slice 53) := ⟨tu63⟩
theorem ti63 : tinfo Tryd.prog 63 = some (1, false, 24, [.slice none 0 0]) := by kernel_rfl
instance : TIs Tryd.prog 63 1 false 24 [.slice none 0 0] := ⟨ti63⟩
theorem tu67 : Tryd.prog.underlying 67 = some (.slice 5) := by kernel_rfl
instance : UIs Tryd.prog 67 (.slice 5) := ⟨tu67⟩
theorem ti67 : tinfo Tryd.prog 67 = some (1, false, 24, [.slice none 0 0]) := by kernel_rfl
instance : TIs Tryd.prog 67 1 false 24 [.slice none 0 0] := ⟨ti67⟩
theorem tu79 : Tryd.prog.underlying 79 = some (.array 64 5) := by kernel_rfl
instance : UIs Tryd.prog 79 (.array 64 5) := ⟨tu79⟩
theorem ti79 : tinfo Tryd.prog 79 = some (64, true, 64, [.int .u8 0, .int .u8 0, .int .u8 0, .int .u8 0, .int .u8 0, .int .u8 0, .int .u8 0, .int .u8 0, .int .u8 0, .int .u8 0, .int .u8 0, .int .u8 0, .int .u8 0, .int .u8 0, .int .u8 0, .int .u8 0, .int .u8 0, .int .u8 0, .int .u8 0, .int .u8 0, .int .u8 0, .int .u8 0, .int .u8 0, .int .u8 0, .int .u8 0, .int .u8 0, .int .u8 0, .int .u8 0, .int .u8 0, .int .u8 0, .int .u8 0, .int .u8 0, .int .u8 0, .int .u8 0, .int .u8 0, .int .u8 0, .int .u8 0, .int .u8 0, .int .u8 0, .int .u8 0, .int .u8 0, .int .u8 0, .int .u8 0, .int .u8 0, .int .u8 0, .int .u8 0, .int .u8 0, .int .u8 0, .int .u8 0, .int .u8 0, .int .u8 0, .int .u8 0, .int .u8 0, .int .u8 0, .int .u8 0, .int .u8 0, .int .u8 0, .int .u8 0, .int .u8 0, .int .u8 0, .int .u8 0, .int .u8 0, .int .u8 0, .int .u8 0]) := by kernel_rfl
instance : TIs Tryd.prog 79 64 true 64 [.int .u8 0, .int .u8 0, .int .u8 0, .int .u8 0, .int .u8 0, .int .u8 0, .int .u8 0, .int .u8 0, .int .u8 0, .int .u8 0, .int .u8 0, .int .u8 0, .int .u8 0, .int .u8 0, .int .u8 0, .int .u8 0, .int .u8 0, .int .u8 0, .int .u8 0, .int .u8 0, .int .u8 0, .int .u8 0, .int .u8 0, .int .u8 0, .int .u8 0, .int .u8 0, .int .u8 0, .int .u8 0, .int .u8 0, .int .u8 0, .int .u8 0, .int .u8 0, .int .u8 0, .int .u8 0, .int .u8 0, .int .u8 0, .int .u8 0, .int .u8 0, .int .u8 0, .int .u8 0, .int .u8 0, .int .u8 0, .int .u8 0, .int .u8 0, .int .u8 0, .int .u8 0, .int .u8 0, .int .u8 0, .int .u8 0, .int .u8 0, .int .u8 0, .int .u8 0, .int .u8 0, .int .u8 0, .int .u8 0, .int .u8 0, .int .u8 0, .int .u8 0, .int .u8 0, .int .u8 0, .int .u8 0, .int .u8 0, .int .u8 0, .int .u8 0] := ⟨ti79⟩
theorem tu80 : Tryd.prog.underlying 80 = some (.int .u64) := by kernel_rfl
instance : UIs Tryd.prog 80 (.int .u64) := ⟨tu80⟩
theorem ti80 : tinfo Tryd.prog 80 = some (1, false, 8, [.int .u64 0]) := by kernel_rfl
instance : TIs Tryd.prog 80 1 false 8 [.int .u64 0] := ⟨ti80⟩
theorem tu87 : Tryd.prog.underlying 87 = some (.slice 9) := by kernel_rfl
instance : UIs Tryd.prog 87 (.slice 9) := ⟨tu87⟩
theorem ti87 : tinfo Tryd.prog 87 = some (1, false, 24, [.slice none 0 0]) := by kernel_rfl
instance : TIs Tryd.prog 87 1 false 24 [.slice none 0 0] := ⟨ti87⟩
theorem tu99 : Tryd.prog.underlying 99 = some (.array 256 4) := by kernel_rfl
instance : UIs Tryd.prog 99 (.array 256 4) := ⟨tu99⟩
theorem tu100 : Tryd.prog.underlying 100 = some (.array 256 4) := by kernel_rfl
instance : UIs Tryd.prog 100 (.array 256 4) := ⟨tu100⟩
theorem tu104 : Tryd.prog.underlying 104 = some (.pointer 100) := by kernel_rfl
instance : UIs Tryd.prog 104 (.pointer 100) := ⟨tu104⟩
theorem ti104 : tinfo Tryd.prog 104 = some (1, false, 8, [.pointer none]) := by kernel_rfl
instance : TIs Tryd.prog 104 1 false 8 [.pointer none] := ⟨ti104⟩
theorem tu113 : Tryd.prog.underlying 113 = some (.array 256 5) := by kernel_rfl
instance : UIs Tryd.prog 113 (.array 256 5) := ⟨tu113⟩
theorem ti114 : tinfo Tryd.prog 114 = some (2, true, 2, [.int .u8 0, .int .u8 0]) := by kernel_rfl
instance : TIs Tryd.prog 114 2 true 2 [.int .u8 0, .int .u8 0] := ⟨ti114⟩
theorem fo114_0 : fieldOff Tryd.prog 114 0 = some (0, 5) := by kernel_rfl
instance : FIs Tryd.prog 114 0 0 5 := ⟨fo114_0⟩
theorem fo114_1 : fieldOff Tryd.prog 114 1 = some (1, 5) := by kernel_rfl
instance : FIs Tryd.prog 114 1 1 5 := ⟨fo114_1⟩
theorem pl114 : placesOf Tryd.prog 114 = some [(0, 1), (1, 1)] := by kernel_rfl
instance : PIs Tryd.prog 114 [(0, 1), (1, 1)] := ⟨pl114⟩
theorem ti115 : tinfo Tryd.prog 115 = some (2, true, 2, [.int .u8 0, .int .u8 0]) := by kernel_rfl
instance : TIs Tryd.prog 115 2 true 2 [.int .u8 0, .int .u8 0] := ⟨ti115⟩
theorem fo115_0 : fieldOff Tryd.prog 115 0 = some (0, 5) := by kernel_rfl
instance : FIs Tryd.prog 115 0 0 5 := ⟨fo115_0⟩
theorem fo115_1 : fieldOff Tryd.prog 115 1 = some (1, 5) := by kernel_rfl
instance : FIs Tryd.prog 115 1 1 5 := ⟨fo115_1⟩
theorem pl115 : placesOf Tryd.prog 115 = some [(0, 1), (1, 1)] := by kernel_rfl
instance : PIs Tryd.prog 115 [(0, 1), (1, 1)] := ⟨pl115⟩
theorem tu116 : Tryd.prog.underlying 116 = some (.array 16 115) := by kernel_rfl
instance : UIs Tryd.prog 116 (.array 16 115) := ⟨tu116⟩
theorem ti116 : tinfo Tryd.prog 116 = some (32, true, 32, [.int .u8 0, .int .u8 0, .int .u8 0, .int .u8 0, .int .u8 0, .int .u8 0, .int .u8 0, .int .u8 0, .int .u8 0, .int .u8 0, .int .u8 0, .int .u8 0, .int .u8 0, .int .u8 0, .int .u8 0, .int .u8 0, .int .u8 0, .int .u8 0, .int .u8 0, .int .u8 0, .int .u8 0, .int .u8 0, .int .u8 0, .int .u8 0, .int .u8 0, .int .u8 0, .int .u8 0, .int .u8 0, .int .u8 0, .int .u8 0, .int .u8 0, .int .u8 0]) := by kernel_rfl
instance : TIs Tryd.prog 116 32 true 32 [.int .u8 0, .int .u8 0, .int .u8 0, .int .u8 0, .int .u8 0, .int .u8 0, .int .u8 0, .int .u8 0, .int .u8 0, .int .u8 0, .int .u8 0, .int .u8 0, .int .u8 0, .int .u8 0, .int .u8 0, .int .u8 0, .int .u8 0, .int .u8 0, .int .u8 0, .int .u8 0, .int .u8 0, .int .u8 0, .int .u8 0, .int .u8 0, .int .u8 0, .int .u8 0, .int .u8 0, .int .u8 0, .int .u8 0, .int .u8 0, .int .u8 0, .int .u8 0] := ⟨ti116⟩
theorem ti120 : tinfo Tryd.prog 120 = some (4, true, 40, [.pointer none, .pointer none, .pointer none, .string { data := #[] }]) := by kernel_rfl
instance : TIs Tryd.prog 120 4 true 40 [.pointer none, .pointer none, .pointer none, .string { data := #[] }] := ⟨ti120⟩
theorem fo120_0 : fieldOff Tryd.prog 120 0 = some (0, 17) := by kernel_rfl
instance : FIs Tryd.prog 120 0 0 17 := ⟨fo120_0⟩
theorem fo120_1 : fieldOff Tryd.prog 120 1 = some (1, 17) := by kernel_rfl
instance : FIs Tryd.prog 120 1 1 17 := ⟨fo120_1⟩
theorem fo120_2 : fieldOff Tryd.prog 120 2 = some (2, 17) := by kernel_rfl
instance : FIs Tryd.prog 120 2 2 17 := ⟨fo120_2⟩
theorem fo120_3 : fieldOff Tryd.prog 120 3 = some (3, 9) := by kernel_rfl
instance : FIs Tryd.prog 120 3 3 9 := ⟨fo120_3⟩
theorem pl120 : placesOf Tryd.prog 120 = some [(0, 1), (1, 1), (2, 1), (3, 1)] := by kernel_rfl
instance : PIs Tryd.prog 120 [(0, 1), (1, 1), (2, 1), (3, 1)] := ⟨pl120⟩
theorem ti121 : tinfo Tryd.prog 121 = some (4, true, 40, [.pointer none, .pointer none, .pointer none, .string { data := #[] }]) := by kernel_rfl
instance : TIs Tryd.prog 121 4 true 40 [.pointer none, .pointer none, .pointer none, .string { data := #[] }] := ⟨ti121⟩
theorem fo121_0 : fieldOff Tryd.prog 121 0 = some (0, 17) := by kernel_rfl
instance : FIs Tryd.prog 121 0 0 17 := ⟨fo121_0⟩
theorem fo121_1 : fieldOff Tryd.prog 121 1 = some (1, 17) := by kernel_rfl
instance : FIs Tryd.prog 121 1 1 17 := ⟨fo121_1⟩
theorem fo121_2 : fieldOff Tryd.prog 121 2 = some (2, 17) := by kernel_rfl
instance : FIs Tryd.prog 121 2 2 17 := ⟨fo121_2⟩
theorem fo121_3 : fieldOff Tryd.prog 121 3 = some (3, 9) := by kernel_rfl
instance : FIs Tryd.prog 121 3 3 9 := ⟨fo121_3⟩
theorem pl121 : placesOf Tryd.prog 121 = some [(0, 1), (1, 1), (2, 1), (3, 1)] := by kernel_rfl
instance : PIs Tryd.prog 121 [(0, 1), (1, 1), (2, 1), (3, 1)] := ⟨pl121⟩
theorem tu122 : Tryd.prog.underlying 122 = some (.array 0 16) := by kernel_rfl
instance : UIs Tryd.prog 122 (.array 0 16) := ⟨tu122⟩
theorem ti122 : tinfo Tryd.prog 122 = some (0, true, 0, []) := by kernel_rfl
instance : TIs Tryd.prog 122 0 true 0 [] := ⟨ti122⟩
theorem ti123 : tinfo Tryd.prog 123 = some (0, true, 0, []) := by kernel_rfl
instance : TIs Tryd.prog 123 0 true 0 [] := ⟨ti123⟩
theorem pl123 : placesOf Tryd.prog 123 = some [(0, 0)] := by kernel_rfl
instance : PIs Tryd.prog 123 [(0, 0)] := ⟨pl123⟩
theorem ti124 : tinfo Tryd.prog 124 = some (0, true, 0, []) := by kernel_rfl
instance : TIs Tryd.prog 124 0 true 0 [] := ⟨ti124⟩
theorem pl124 : placesOf Tryd.prog 124 = some [(0, 0)] := by kernel_rfl
instance : PIs Tryd.prog 124 [(0, 0)] := ⟨pl124⟩
theorem tu125 : Tryd.prog.underlying 125 = some (.int .u32) := by kernel_rfl
instance : UIs Tryd.prog 125 (.int .u32) := ⟨tu125⟩
theorem ti125 : tinfo Tryd.prog 125 = some (1, false, 4, [.int .u32 0]) := by kernel_rfl
instance : TIs Tryd.prog 125 1 false 4 [.int .u32 0] := ⟨ti125⟩
theorem tu126 : Tryd.prog.underlying 126 = some (.int .u8) := by kernel_rfl
instance : UIs Tryd.prog 126 (.int .u8) := ⟨tu126⟩
theorem ti126 : tinfo Tryd.prog 126 = some (1, false, 1, [.int .u8 0]) := by kernel_rfl
instance : TIs Tryd.prog 126 1 false 1 [.int .u8 0] := ⟨ti126⟩
theorem tu127 : Tryd.prog.underlying 127 = some (.int .u8) := by kernel_rfl
instance : UIs Tryd.prog 127 (.int .u8) := ⟨tu127⟩
theorem ti127 : tinfo Tryd.prog 127 = some (1, false, 1, [.int .u8 0]) := by kernel_rfl
instance : TIs Tryd.prog 127 1 false 1 [.int .u8 0] := ⟨ti127⟩
theorem tu129 : Tryd.prog.underlying 129 = some (.pointer 5) := by kernel_rfl
instance : UIs Tryd.prog 129 (.pointer 5) := ⟨tu129⟩
theorem ti129 : tinfo Tryd.prog 129 = some (1, false, 8, [.pointer none]) := by kernel_rfl
instance : TIs Tryd.prog 129 1 false 8 [.pointer none] := ⟨ti129⟩
theorem tu130 : Tryd.prog.underlying 130 = some (.int .i32) := by kernel_rfl
instance : UIs Tryd.prog 130 (.int .i32) := ⟨tu130⟩
theorem ti130 : tinfo Tryd.prog 130 = some (1, false, 4, [.int .i32 0]) := by kernel_rfl
instance : TIs Tryd.prog 130 1 false 4 [.int .i32 0] := ⟨ti130⟩
theorem tu131 : Tryd.prog.underlying 131 = some (.int .i32) := by kernel_rfl
instance : UIs Tryd.prog 131 (.int .i32) := ⟨tu131⟩
theorem ti131 : tinfo Tryd.prog 131 = some (1, false, 4, [.int .i32 0]) := by kernel_rfl
instance : TIs Tryd.prog 131 1 false 4 [.int .i32 0] := ⟨ti131⟩
theorem ti132 : tinfo Tryd.prog 132 = some (11, true, 48, [.int .u64 0, .int .u64 0, .int .u32 0, .int .u8 0, .int .u8 0, .int .u8 0, .int .u8 0, .nilFunc, .pointer none, .int .i32 0, .int .i32 0]) := by kernel_rfl
instance : TIs Tryd.prog 132 11 true 48 [.int .u64 0, .int .u64 0, .int .u32 0, .int .u8 0, .int .u8 0, .int .u8 0, .int .u8 0, .nilFunc, .pointer none, .int .i32 0, .int .i32 0] := ⟨ti132⟩
theorem ti133 : tinfo Tryd.prog 133 = some (11, true, 48, [.int .u64 0, .int .u64 0, .int .u32 0, .int .u8 0, .int .u8 0, .int .u8 0, .int .u8 0, .nilFunc, .pointer none, .int .i32 0, .int .i32 0]) := by kernel_rfl
instance : TIs Tryd.prog 133 11 true 48 [.int .u64 0, .int .u64 0, .int .u32 0, .int .u8 0, .int .u8 0, .int .u8 0, .int .u8 0, .nilFunc, .pointer none, .int .i32 0, .int .i32 0] := ⟨ti133⟩
theorem mixed : Tryd.prog.follows .mixedOrders = true := by kernel_rfl
theorem fn3 : isFn Tryd.prog 3 = true := by kernel_rfl
instance : FnIs Tryd.prog 3 := ⟨fn3⟩
theorem fn4 : isFn Tryd.prog 4 = true := by kernel_rfl
instance : FnIs Tryd.prog 4 := ⟨fn4⟩
theorem fn5 : isFn Tryd.prog 5 = true := by kernel_rfl
instance : FnIs Tryd.prog 5 := ⟨fn5⟩
theorem fn6 : isFn Tryd.prog 6 = true := by kernel_rfl
instance : FnIs Tryd.prog 6 := ⟨fn6⟩
theorem fn7 : isFn Tryd.prog 7 = true := by kernel_rfl
instance : FnIs Tryd.prog 7 := ⟨fn7⟩
theorem fn8 : isFn Tryd.prog 8 = true := by kernel_rfl
instance : FnIs Tryd.prog 8 := ⟨fn8⟩
theorem fn9 : isFn Tryd.prog 9 = true := by kernel_rfl
instance : FnIs Tryd.prog 9 := ⟨fn9⟩
theorem fn10 : isFn Tryd.prog 10 = true := by kernel_rfl
instance : FnIs Tryd.prog 10 := ⟨fn10⟩
theorem fn11 : isFn Tryd.prog 11 = true := by kernel_rfl
instance : FnIs Tryd.prog 11 := ⟨fn11⟩
theorem fn12 : isFn Tryd.prog 12 = true := by kernel_rfl
instance : FnIs Tryd.prog 12 := ⟨fn12⟩
theorem fn13 : isFn Tryd.prog 13 = true := by kernel_rfl
instance : FnIs Tryd.prog 13 := ⟨fn13⟩
theorem fn14 : isFn Tryd.prog 14 = true := by kernel_rfl
instance : FnIs Tryd.prog 14 := ⟨fn14⟩
theorem fn15 : isFn Tryd.prog 15 = true := by kernel_rfl
instance : FnIs Tryd.prog 15 := ⟨fn15⟩
theorem fn16 : isFn Tryd.prog 16 = true := by kernel_rfl
instance : FnIs Tryd.prog 16 := ⟨fn16⟩
theorem fn17 : isFn Tryd.prog 17 = true := by kernel_rfl
instance : FnIs Tryd.prog 17 := ⟨fn17⟩
theorem fn18 : isFn Tryd.prog 18 = true := by kernel_rfl
instance : FnIs Tryd.prog 18 := ⟨fn18⟩
theorem fn19 : isFn Tryd.prog 19 = true := by kernel_rfl
instance : FnIs Tryd.prog 19 := ⟨fn19⟩
theorem fn20 : isFn Tryd.prog 20 = true := by kernel_rfl
instance : FnIs Tryd.prog 20 := ⟨fn20⟩
theorem fn21 : isFn Tryd.prog 21 = true := by kernel_rfl
instance : FnIs Tryd.prog 21 := ⟨fn21⟩
theorem fn22 : isFn Tryd.prog 22 = true := by kernel_rfl
instance : FnIs Tryd.prog 22 := ⟨fn22⟩
theorem fn23 : isFn Tryd.prog 23 = true := by kernel_rfl
instance : FnIs Tryd.prog 23 := ⟨fn23⟩
theorem fn24 : isFn Tryd.prog 24 = true := by kernel_rfl
instance : FnIs Tryd.prog 24 := ⟨fn24⟩
theorem fn25 : isFn Tryd.prog 25 = true := by kernel_rfl
instance : FnIs Tryd.prog 25 := ⟨fn25⟩
theorem fn26 : isFn Tryd.prog 26 = true := by kernel_rfl
instance : FnIs Tryd.prog 26 := ⟨fn26⟩
theorem fn27 : isFn Tryd.prog 27 = true := by kernel_rfl
instance : FnIs Tryd.prog 27 := ⟨fn27⟩
theorem fn28 : isFn Tryd.prog 28 = true := by kernel_rfl
instance : FnIs Tryd.prog 28 := ⟨fn28⟩
theorem fn29 : isFn Tryd.prog 29 = true := by kernel_rfl
instance : FnIs Tryd.prog 29 := ⟨fn29⟩
theorem fn30 : isFn Tryd.prog 30 = true := by kernel_rfl
instance : FnIs Tryd.prog 30 := ⟨fn30⟩
theorem fn31 : isFn Tryd.prog 31 = true := by kernel_rfl
instance : FnIs Tryd.prog 31 := ⟨fn31⟩
theorem fn32 : isFn Tryd.prog 32 = true := by kernel_rfl
instance : FnIs Tryd.prog 32 := ⟨fn32⟩
theorem fn33 : isFn Tryd.prog 33 = true := by kernel_rfl
instance : FnIs Tryd.prog 33 := ⟨fn33⟩
theorem fn34 : isFn Tryd.prog 34 = true := by kernel_rfl
instance : FnIs Tryd.prog 34 := ⟨fn34⟩
theorem fn35 : isFn Tryd.prog 35 = true := by kernel_rfl
instance : FnIs Tryd.prog 35 := ⟨fn35⟩
theorem fn36 : isFn Tryd.prog 36 = true := by kernel_rfl
instance : FnIs Tryd.prog 36 := ⟨fn36⟩
theorem fn37 : isFn Tryd.prog 37 = true := by kernel_rfl
instance : FnIs Tryd.prog 37 := ⟨fn37⟩
theorem fn38 : isFn Tryd.prog 38 = true := by kernel_rfl
instance : FnIs Tryd.prog 38 := ⟨fn38⟩
theorem fn39 : isFn Tryd.prog 39 = true := by kernel_rfl
instance : FnIs Tryd.prog 39 := ⟨fn39⟩
theorem fn40 : isFn Tryd.prog 40 = true := by kernel_rfl
instance : FnIs Tryd.prog 40 := ⟨fn40⟩
theorem fn41 : isFn Tryd.prog 41 = true := by kernel_rfl
instance : FnIs Tryd.prog 41 := ⟨fn41⟩
theorem fn42 : isFn Tryd.prog 42 = true := by kernel_rfl
instance : FnIs Tryd.prog 42 := ⟨fn42⟩
theorem fn43 : isFn Tryd.prog 43 = true := by kernel_rfl
instance : FnIs Tryd.prog 43 := ⟨fn43⟩
theorem fn44 : isFn Tryd.prog 44 = true := by kernel_rfl
instance : FnIs Tryd.prog 44 := ⟨fn44⟩
theorem fn45 : isFn Tryd.prog 45 = true := by kernel_rfl
instance : FnIs Tryd.prog 45 := ⟨fn45⟩
theorem fn46 : isFn Tryd.prog 46 = true := by kernel_rfl
instance : FnIs Tryd.prog 46 := ⟨fn46⟩
theorem fn47 : isFn Tryd.prog 47 = true := by kernel_rfl
instance : FnIs Tryd.prog 47 := ⟨fn47⟩
theorem fn48 : isFn Tryd.prog 48 = true := by kernel_rfl
instance : FnIs Tryd.prog 48 := ⟨fn48⟩
theorem fn49 : isFn Tryd.prog 49 = true := by kernel_rfl
instance : FnIs Tryd.prog 49 := ⟨fn49⟩
theorem fn50 : isFn Tryd.prog 50 = true := by kernel_rfl
instance : FnIs Tryd.prog 50 := ⟨fn50⟩
theorem fn51 : isFn Tryd.prog 51 = true := by kernel_rfl
instance : FnIs Tryd.prog 51 := ⟨fn51⟩
theorem fn52 : isFn Tryd.prog 52 = true := by kernel_rfl
instance : FnIs Tryd.prog 52 := ⟨fn52⟩
theorem fn53 : isFn Tryd.prog 53 = true := by kernel_rfl
instance : FnIs Tryd.prog 53 := ⟨fn53⟩
theorem fn54 : isFn Tryd.prog 54 = true := by kernel_rfl
instance : FnIs Tryd.prog 54 := ⟨fn54⟩
theorem fn55 : isFn Tryd.prog 55 = true := by kernel_rfl
instance : FnIs Tryd.prog 55 := ⟨fn55⟩
theorem fn56 : isFn Tryd.prog 56 = true := by kernel_rfl
instance : FnIs Tryd.prog 56 := ⟨fn56⟩
theorem fn57 : isFn Tryd.prog 57 = true := by kernel_rfl
instance : FnIs Tryd.prog 57 := ⟨fn57⟩
theorem fn58 : isFn Tryd.prog 58 = true := by kernel_rfl
instance : FnIs Tryd.prog 58 := ⟨fn58⟩
theorem fn59 : isFn Tryd.prog 59 = true := by kernel_rfl
instance : FnIs Tryd.prog 59 := ⟨fn59⟩
theorem fn60 : isFn Tryd.prog 60 = true := by kernel_rfl
instance : FnIs Tryd.prog 60 := ⟨fn60⟩
theorem fn61 : isFn Tryd.prog 61 = true := by kernel_rfl
instance : FnIs Tryd.prog 61 := ⟨fn61⟩
theorem fn62 : isFn Tryd.prog 62 = true := by kernel_rfl
instance : FnIs Tryd.prog 62 := ⟨fn62⟩
theorem fn63 : isFn Tryd.prog 63 = true := by kernel_rfl
instance : FnIs Tryd.prog 63 := ⟨fn63⟩
theorem fn64 : isFn Tryd.prog 64 = true := by kernel_rfl
instance : FnIs Tryd.prog 64 := ⟨fn64⟩
theorem fn65 : isFn Tryd.prog 65 = true := by kernel_rfl
instance : FnIs Tryd.prog 65 := ⟨fn65⟩
theorem fn66 : isFn Tryd.prog 66 = true := by kernel_rfl
instance : FnIs Tryd.prog 66 := ⟨fn66⟩
theorem fn67 : isFn Tryd.prog 67 = true := by kernel_rfl
instance : FnIs Tryd.prog 67 := ⟨fn67⟩
theorem fn68 : isFn Tryd.prog 68 = true := by kernel_rfl
instance : FnIs Tryd.prog 68 := ⟨fn68⟩
theorem fn69 : isFn Tryd.prog 69 = true := by kernel_rfl
instance : FnIs Tryd.prog 69 := ⟨fn69⟩
theorem fn70 : isFn Tryd.prog 70 = true := by kernel_rfl
instance : FnIs Tryd.prog 70 := ⟨fn70⟩
theorem fn71 : isFn Tryd.prog 71 = true := by kernel_rfl
instance : FnIs Tryd.prog 71 := ⟨fn71⟩
theorem fn72 : isFn Tryd.prog 72 = true := by kernel_rfl
instance : FnIs Tryd.prog 72 := ⟨fn72⟩
theorem fn73 : isFn Tryd.prog 73 = true := by kernel_rfl
instance : FnIs Tryd.prog 73 := ⟨fn73⟩
theorem fn74 : isFn Tryd.prog 74 = true := by kernel_rfl
instance : FnIs Tryd.prog 74 := ⟨fn74⟩
theorem fn75 : isFn Tryd.prog 75 = true := by kernel_rfl
instance : FnIs Tryd.prog 75 := ⟨fn75⟩
theorem fn76 : isFn Tryd.prog 76 = true := by kernel_rfl
instance : FnIs Tryd.prog 76 := ⟨fn76⟩
theorem fn77 : isFn Tryd.prog 77 = true := by kernel_rfl
instance : FnIs Tryd.prog 77 := ⟨fn77⟩
theorem fn80 : isFn Tryd.prog 80 = true := by kernel_rfl
instance : FnIs Tryd.prog 80 := ⟨fn80⟩
theorem fn81 : isFn Tryd.prog 81 = true := by kernel_rfl
instance : FnIs Tryd.prog 81 := ⟨fn81⟩
theorem fn82 : isFn Tryd.prog 82 = true := by kernel_rfl
instance : FnIs Tryd.prog 82 := ⟨fn82⟩
theorem fn83 : isFn Tryd.prog 83 = true := by kernel_rfl
instance : FnIs Tryd.prog 83 := ⟨fn83⟩
theorem fn84 : isFn Tryd.prog 84 = true := by kernel_rfl
instance : FnIs Tryd.prog 84 := ⟨fn84⟩
theorem fn85 : isFn Tryd.prog 85 = true := by kernel_rfl
instance : FnIs Tryd.prog 85 := ⟨fn85⟩
theorem fn86 : isFn Tryd.prog 86 = true := by kernel_rfl
instance : FnIs Tryd.prog 86 := ⟨fn86⟩
theorem fn87 : isFn Tryd.prog 87 = true := by kernel_rfl
instance : FnIs Tryd.prog 87 := ⟨fn87⟩
theorem fn88 : isFn Tryd.prog 88 = true := by kernel_rfl
instance : FnIs Tryd.prog 88 := ⟨fn88⟩
theorem fn90 : isFn Tryd.prog 90 = true := by kernel_rfl
instance : FnIs Tryd.prog 90 := ⟨fn90⟩
theorem fn91 : isFn Tryd.prog 91 = true := by kernel_rfl
instance : FnIs Tryd.prog 91 := ⟨fn91⟩
theorem fn92 : isFn Tryd.prog 92 = true := by kernel_rfl
instance : FnIs Tryd.prog 92 := ⟨fn92⟩
theorem fn93 : isFn Tryd.prog 93 = true := by kernel_rfl
instance : FnIs Tryd.prog 93 := ⟨fn93⟩
theorem fn94 : isFn Tryd.prog 94 = true := by kernel_rfl
instance : FnIs Tryd.prog 94 := ⟨fn94⟩
theorem fn95 : isFn Tryd.prog 95 = true := by kernel_rfl
instance : FnIs Tryd.prog 95 := ⟨fn95⟩
end Go.Proofs.YtgljgalcbbjfgaaDoor
