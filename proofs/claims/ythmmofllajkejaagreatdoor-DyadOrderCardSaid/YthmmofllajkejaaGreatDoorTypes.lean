/- Closed facts on the seat's types and functions, as instances that the rules find by themselves (printed by wip/gen/types.py). -/
import Derived.Test.YthmmofllajkejaaGreatDoorProg
import Derived.Test.YthmmofllajkejaaGreatDoorSteps
import Derived.KernelRfl
namespace Go.Proofs.YthmmofllajkejaaGreatDoor
set_option maxRecDepth 100000
class UIs (P : Program) (t : TypeId) (d : outParam TypeDesc) : Prop where out : P.underlying t = some d
class TIs (P : Program) (t : TypeId) (n : outParam Nat) (ag : outParam Bool) (b : outParam Nat) (zc : outParam (List Value)) : Prop where out : tinfo P t = some (n, ag, b, zc)
class FIs (P : Program) (s : TypeId) (f : Nat) (off : outParam Nat) (ft : outParam TypeId) : Prop where out : fieldOff P s f = some (off, ft)
class PIs (P : Program) (s : TypeId) (pl : outParam (List (Nat × Nat))) : Prop where out : placesOf P s = some pl
class FnIs (P : Program) (f : FuncId) : Prop where out : isFn P f = true
theorem TIs.size {P : Program} {t : TypeId} {n b : Nat} {ag : Bool} {zc : List Value} [h : TIs P t n ag b zc] : (P.info? t).map (·.size) = some n := by
  obtain ⟨i, z, d, hi, hd, hz, hs, _⟩ := tinfo_spec h.out
  rw [hi, Option.map_some, hs]
theorem tu2 : Tryz.prog.underlying 2 = some (.int .i64) := by kernel_rfl
instance : UIs Tryz.prog 2 (.int .i64) := ⟨tu2⟩
theorem ti2 : tinfo Tryz.prog 2 = some (1, false, 8, [.int .i64 0]) := by kernel_rfl
instance : TIs Tryz.prog 2 1 false 8 [.int .i64 0] := ⟨ti2⟩
theorem tu3 : Tryz.prog.underlying 3 = some (.int .i64) := by kernel_rfl
instance : UIs Tryz.prog 3 (.int .i64) := ⟨tu3⟩
theorem ti3 : tinfo Tryz.prog 3 = some (1, false, 8, [.int .i64 0]) := by kernel_rfl
instance : TIs Tryz.prog 3 1 false 8 [.int .i64 0] := ⟨ti3⟩
theorem tu4 : Tryz.prog.underlying 4 = some (.bool) := by kernel_rfl
instance : UIs Tryz.prog 4 (.bool) := ⟨tu4⟩
theorem ti4 : tinfo Tryz.prog 4 = some (1, false, 1, [.bool false]) := by kernel_rfl
instance : TIs Tryz.prog 4 1 false 1 [.bool false] := ⟨ti4⟩
theorem tu5 : Tryz.prog.underlying 5 = some (.int .u8) := by kernel_rfl
instance : UIs Tryz.prog 5 (.int .u8) := ⟨tu5⟩
theorem ti5 : tinfo Tryz.prog 5 = some (1, false, 1, [.int .u8 0]) := by kernel_rfl
instance : TIs Tryz.prog 5 1 false 1 [.int .u8 0] := ⟨ti5⟩
theorem tu6 : Tryz.prog.underlying 6 = some (.int .u8) := by kernel_rfl
instance : UIs Tryz.prog 6 (.int .u8) := ⟨tu6⟩
theorem ti6 : tinfo Tryz.prog 6 = some (1, false, 1, [.int .u8 0]) := by kernel_rfl
instance : TIs Tryz.prog 6 1 false 1 [.int .u8 0] := ⟨ti6⟩
theorem ti7 : tinfo Tryz.prog 7 = some (4, true, 24, [.int .i64 0, .int .i64 0, .bool false, .int .u8 0]) := by kernel_rfl
instance : TIs Tryz.prog 7 4 true 24 [.int .i64 0, .int .i64 0, .bool false, .int .u8 0] := ⟨ti7⟩
theorem fo7_0 : fieldOff Tryz.prog 7 0 = some (0, 2) := by kernel_rfl
instance : FIs Tryz.prog 7 0 0 2 := ⟨fo7_0⟩
theorem fo7_1 : fieldOff Tryz.prog 7 1 = some (1, 3) := by kernel_rfl
instance : FIs Tryz.prog 7 1 1 3 := ⟨fo7_1⟩
theorem fo7_2 : fieldOff Tryz.prog 7 2 = some (2, 4) := by kernel_rfl
instance : FIs Tryz.prog 7 2 2 4 := ⟨fo7_2⟩
theorem fo7_3 : fieldOff Tryz.prog 7 3 = some (3, 6) := by kernel_rfl
instance : FIs Tryz.prog 7 3 3 6 := ⟨fo7_3⟩
theorem pl7 : placesOf Tryz.prog 7 = some [(0, 1), (1, 1), (2, 1), (3, 1)] := by kernel_rfl
instance : PIs Tryz.prog 7 [(0, 1), (1, 1), (2, 1), (3, 1)] := ⟨pl7⟩
theorem ti8 : tinfo Tryz.prog 8 = some (4, true, 24, [.int .i64 0, .int .i64 0, .bool false, .int .u8 0]) := by kernel_rfl
instance : TIs Tryz.prog 8 4 true 24 [.int .i64 0, .int .i64 0, .bool false, .int .u8 0] := ⟨ti8⟩
theorem fo8_0 : fieldOff Tryz.prog 8 0 = some (0, 2) := by kernel_rfl
instance : FIs Tryz.prog 8 0 0 2 := ⟨fo8_0⟩
theorem fo8_1 : fieldOff Tryz.prog 8 1 = some (1, 3) := by kernel_rfl
instance : FIs Tryz.prog 8 1 1 3 := ⟨fo8_1⟩
theorem fo8_2 : fieldOff Tryz.prog 8 2 = some (2, 4) := by kernel_rfl
instance : FIs Tryz.prog 8 2 2 4 := ⟨fo8_2⟩
theorem fo8_3 : fieldOff Tryz.prog 8 3 = some (3, 6) := by kernel_rfl
instance : FIs Tryz.prog 8 3 3 6 := ⟨fo8_3⟩
theorem pl8 : placesOf Tryz.prog 8 = some [(0, 1), (1, 1), (2, 1), (3, 1)] := by kernel_rfl
instance : PIs Tryz.prog 8 [(0, 1), (1, 1), (2, 1), (3, 1)] := ⟨pl8⟩
theorem tu9 : Tryz.prog.underlying 9 = some (.string) := by kernel_rfl
instance : UIs Tryz.prog 9 (.string) := ⟨tu9⟩
theorem ti9 : tinfo Tryz.prog 9 = some (1, false, 16, [.string { data := #[] }]) := by kernel_rfl
instance : TIs Tryz.prog 9 1 false 16 [.string { data := #[] }] := ⟨ti9⟩
theorem tu10 : Tryz.prog.underlying 10 = some (.string) := by kernel_rfl
instance : UIs Tryz.prog 10 (.string) := ⟨tu10⟩
theorem ti10 : tinfo Tryz.prog 10 = some (1, false, 16, [.string { data := #[] }]) := by kernel_rfl
instance : TIs Tryz.prog 10 1 false 16 [.string { data := #[] }] := ⟨ti10⟩
theorem tu11 : Tryz.prog.underlying 11 = some (.string) := by kernel_rfl
instance : UIs Tryz.prog 11 (.string) := ⟨tu11⟩
theorem ti11 : tinfo Tryz.prog 11 = some (1, false, 16, [.string { data := #[] }]) := by kernel_rfl
instance : TIs Tryz.prog 11 1 false 16 [.string { data := #[] }] := ⟨ti11⟩
theorem tu12 : Tryz.prog.underlying 12 = some (.int .u64) := by kernel_rfl
instance : UIs Tryz.prog 12 (.int .u64) := ⟨tu12⟩
theorem ti12 : tinfo Tryz.prog 12 = some (1, false, 8, [.int .u64 0]) := by kernel_rfl
instance : TIs Tryz.prog 12 1 false 8 [.int .u64 0] := ⟨ti12⟩
theorem ti13 : tinfo Tryz.prog 13 = some (2, true, 24, [.string { data := #[] }, .int .u64 0]) := by kernel_rfl
instance : TIs Tryz.prog 13 2 true 24 [.string { data := #[] }, .int .u64 0] := ⟨ti13⟩
theorem fo13_0 : fieldOff Tryz.prog 13 0 = some (0, 9) := by kernel_rfl
instance : FIs Tryz.prog 13 0 0 9 := ⟨fo13_0⟩
theorem fo13_1 : fieldOff Tryz.prog 13 1 = some (1, 12) := by kernel_rfl
instance : FIs Tryz.prog 13 1 1 12 := ⟨fo13_1⟩
theorem pl13 : placesOf Tryz.prog 13 = some [(0, 1), (1, 1)] := by kernel_rfl
instance : PIs Tryz.prog 13 [(0, 1), (1, 1)] := ⟨pl13⟩
theorem ti14 : tinfo Tryz.prog 14 = some (2, true, 24, [.string { data := #[] }, .int .u64 0]) := by kernel_rfl
instance : TIs Tryz.prog 14 2 true 24 [.string { data := #[] }, .int .u64 0] := ⟨ti14⟩
theorem fo14_0 : fieldOff Tryz.prog 14 0 = some (0, 9) := by kernel_rfl
instance : FIs Tryz.prog 14 0 0 9 := ⟨fo14_0⟩
theorem fo14_1 : fieldOff Tryz.prog 14 1 = some (1, 12) := by kernel_rfl
instance : FIs Tryz.prog 14 1 1 12 := ⟨fo14_1⟩
theorem pl14 : placesOf Tryz.prog 14 = some [(0, 1), (1, 1)] := by kernel_rfl
instance : PIs Tryz.prog 14 [(0, 1), (1, 1)] := ⟨pl14⟩
theorem tu15 : Tryz.prog.underlying 15 = some (.pointer 204) := by kernel_rfl
instance : UIs Tryz.prog 15 (.pointer 204) := ⟨tu15⟩
theorem ti15 : tinfo Tryz.prog 15 = some (1, false, 8, [.pointer none]) := by kernel_rfl
instance : TIs Tryz.prog 15 1 false 8 [.pointer none] := ⟨ti15⟩
theorem tu16 : Tryz.prog.underlying 16 = some (.pointer 207) := by kernel_rfl
instance : UIs Tryz.prog 16 (.pointer 207) := ⟨tu16⟩
theorem ti16 : tinfo Tryz.prog 16 = some (1, false, 8, [.pointer none]) := by kernel_rfl
instance : TIs Tryz.prog 16 1 false 8 [.pointer none] := ⟨ti16⟩
theorem tu17 : Tryz.prog.underlying 17 = some (.pointer 216) := by kernel_rfl
instance : UIs Tryz.prog 17 (.pointer 216) := ⟨tu17⟩
theorem ti17 : tinfo Tryz.prog 17 = some (1, false, 8, [.pointer none]) := by kernel_rfl
instance : TIs Tryz.prog 17 1 false 8 [.pointer none] := ⟨ti17⟩
theorem ti18 : tinfo Tryz.prog 18 = some (1, true, 8, [.pointer none]) := by kernel_rfl
instance : TIs Tryz.prog 18 1 true 8 [.pointer none] := ⟨ti18⟩
theorem fo18_0 : fieldOff Tryz.prog 18 0 = some (0, 17) := by kernel_rfl
instance : FIs Tryz.prog 18 0 0 17 := ⟨fo18_0⟩
theorem pl18 : placesOf Tryz.prog 18 = some [(0, 1)] := by kernel_rfl
instance : PIs Tryz.prog 18 [(0, 1)] := ⟨pl18⟩
theorem ti19 : tinfo Tryz.prog 19 = some (1, true, 8, [.pointer none]) := by kernel_rfl
instance : TIs Tryz.prog 19 1 true 8 [.pointer none] := ⟨ti19⟩
theorem fo19_0 : fieldOff Tryz.prog 19 0 = some (0, 17) := by kernel_rfl
instance : FIs Tryz.prog 19 0 0 17 := ⟨fo19_0⟩
theorem pl19 : placesOf Tryz.prog 19 = some [(0, 1)] := by kernel_rfl
instance : PIs Tryz.prog 19 [(0, 1)] := ⟨pl19⟩
theorem tu21 : Tryz.prog.underlying 21 = some (.int .i32) := by kernel_rfl
instance : UIs Tryz.prog 21 (.int .i32) := ⟨tu21⟩
theorem ti21 : tinfo Tryz.prog 21 = some (1, false, 4, [.int .i32 0]) := by kernel_rfl
instance : TIs Tryz.prog 21 1 false 4 [.int .i32 0] := ⟨ti21⟩
theorem ti22 : tinfo Tryz.prog 22 = some (2, true, 24, [.bool false, .string { data := #[] }]) := by kernel_rfl
instance : TIs Tryz.prog 22 2 true 24 [.bool false, .string { data := #[] }] := ⟨ti22⟩
theorem fo22_0 : fieldOff Tryz.prog 22 0 = some (0, 4) := by kernel_rfl
instance : FIs Tryz.prog 22 0 0 4 := ⟨fo22_0⟩
theorem fo22_1 : fieldOff Tryz.prog 22 1 = some (1, 9) := by kernel_rfl
instance : FIs Tryz.prog 22 1 1 9 := ⟨fo22_1⟩
theorem pl22 : placesOf Tryz.prog 22 = some [(0, 1), (1, 1)] := by kernel_rfl
instance : PIs Tryz.prog 22 [(0, 1), (1, 1)] := ⟨pl22⟩
theorem ti23 : tinfo Tryz.prog 23 = some (2, true, 24, [.bool false, .string { data := #[] }]) := by kernel_rfl
instance : TIs Tryz.prog 23 2 true 24 [.bool false, .string { data := #[] }] := ⟨ti23⟩
theorem fo23_0 : fieldOff Tryz.prog 23 0 = some (0, 4) := by kernel_rfl
instance : FIs Tryz.prog 23 0 0 4 := ⟨fo23_0⟩
theorem fo23_1 : fieldOff Tryz.prog 23 1 = some (1, 9) := by kernel_rfl
instance : FIs Tryz.prog 23 1 1 9 := ⟨fo23_1⟩
theorem pl23 : placesOf Tryz.prog 23 = some [(0, 1), (1, 1)] := by kernel_rfl
instance : PIs Tryz.prog 23 [(0, 1), (1, 1)] := ⟨pl23⟩
theorem ti24 : tinfo Tryz.prog 24 = some (3, true, 32, [.bool false, .string { data := #[] }, .int .i64 0]) := by kernel_rfl
instance : TIs Tryz.prog 24 3 true 32 [.bool false, .string { data := #[] }, .int .i64 0] := ⟨ti24⟩
theorem fo24_0 : fieldOff Tryz.prog 24 0 = some (0, 23) := by kernel_rfl
instance : FIs Tryz.prog 24 0 0 23 := ⟨fo24_0⟩
theorem fo24_1 : fieldOff Tryz.prog 24 1 = some (2, 3) := by kernel_rfl
instance : FIs Tryz.prog 24 1 2 3 := ⟨fo24_1⟩
theorem pl24 : placesOf Tryz.prog 24 = some [(0, 2), (2, 1)] := by kernel_rfl
instance : PIs Tryz.prog 24 [(0, 2), (2, 1)] := ⟨pl24⟩
theorem ti25 : tinfo Tryz.prog 25 = some (3, true, 32, [.bool false, .string { data := #[] }, .int .i64 0]) := by kernel_rfl
instance : TIs Tryz.prog 25 3 true 32 [.bool false, .string { data := #[] }, .int .i64 0] := ⟨ti25⟩
theorem fo25_0 : fieldOff Tryz.prog 25 0 = some (0, 23) := by kernel_rfl
instance : FIs Tryz.prog 25 0 0 23 := ⟨fo25_0⟩
theorem fo25_1 : fieldOff Tryz.prog 25 1 = some (2, 3) := by kernel_rfl
instance : FIs Tryz.prog 25 1 2 3 := ⟨fo25_1⟩
theorem pl25 : placesOf Tryz.prog 25 = some [(0, 2), (2, 1)] := by kernel_rfl
instance : PIs Tryz.prog 25 [(0, 2), (2, 1)] := ⟨pl25⟩
theorem tu33 : Tryz.prog.underlying 33 = some (.array 3 25) := by kernel_rfl
instance : UIs Tryz.prog 33 (.array 3 25) := ⟨tu33⟩
theorem ti33 : tinfo Tryz.prog 33 = some (9, true, 96, [.bool false, .string { data := #[] }, .int .i64 0, .bool false, .string { data := #[] }, .int .i64 0, .bool false, .string { data := #[] }, .int .i64 0]) := by kernel_rfl
instance : TIs Tryz.prog 33 9 true 96 [.bool false, .string { data := #[] }, .int .i64 0, .bool false, .string { data := #[] }, .int .i64 0, .bool false, .string { data := #[] }, .int .i64 0] := ⟨ti33⟩
theorem tu35 : Tryz.prog.underlying 35 = some (.slice 38) := by kernel_rfl
instance : UIs Tryz.prog 35 (.slice 38) := ⟨tu35⟩
theorem ti35 : tinfo Tryz.prog 35 = some (1, false, 24, [.slice none 0 0]) := by kernel_rfl
instance : TIs Tryz.prog 35 1 false 24 [.slice none 0 0] := ⟨ti35⟩
theorem ti37 : tinfo Tryz.prog 37 = some (5, true, 48, [.int .i64 0, .bool false, .string { data := #[] }, .int .i64 0, .int .i64 0]) := by kernel_rfl
instance : TIs Tryz.prog 37 5 true 48 [.int .i64 0, .bool false, .string { data := #[] }, .int .i64 0, .int .i64 0] := ⟨ti37⟩
theorem fo37_0 : fieldOff Tryz.prog 37 0 = some (0, 3) := by kernel_rfl
instance : FIs Tryz.prog 37 0 0 3 := ⟨fo37_0⟩
theorem fo37_1 : fieldOff Tryz.prog 37 1 = some (1, 25) := by kernel_rfl
instance : FIs Tryz.prog 37 1 1 25 := ⟨fo37_1⟩
theorem fo37_2 : fieldOff Tryz.prog 37 2 = some (4, 3) := by kernel_rfl
instance : FIs Tryz.prog 37 2 4 3 := ⟨fo37_2⟩
theorem pl37 : placesOf Tryz.prog 37 = some [(0, 1), (1, 3), (4, 1)] := by kernel_rfl
instance : PIs Tryz.prog 37 [(0, 1), (1, 3), (4, 1)] := ⟨pl37⟩
theorem ti38 : tinfo Tryz.prog 38 = some (5, true, 48, [.int .i64 0, .bool false, .string { data := #[] }, .int .i64 0, .int .i64 0]) := by kernel_rfl
instance : TIs Tryz.prog 38 5 true 48 [.int .i64 0, .bool false, .string { data := #[] }, .int .i64 0, .int .i64 0] := ⟨ti38⟩
theorem fo38_0 : fieldOff Tryz.prog 38 0 = some (0, 3) := by kernel_rfl
instance : FIs Tryz.prog 38 0 0 3 := ⟨fo38_0⟩
theorem fo38_1 : fieldOff Tryz.prog 38 1 = some (1, 25) := by kernel_rfl
instance : FIs Tryz.prog 38 1 1 25 := ⟨fo38_1⟩
theorem fo38_2 : fieldOff Tryz.prog 38 2 = some (4, 3) := by kernel_rfl
instance : FIs Tryz.prog 38 2 4 3 := ⟨fo38_2⟩
theorem pl38 : placesOf Tryz.prog 38 = some [(0, 1), (1, 3), (4, 1)] := by kernel_rfl
instance : PIs Tryz.prog 38 [(0, 1), (1, 3), (4, 1)] := ⟨pl38⟩
theorem tu39 : Tryz.prog.underlying 39 = some (.pointer 46) := by kernel_rfl
instance : UIs Tryz.prog 39 (.pointer 46) := ⟨tu39⟩
theorem ti39 : tinfo Tryz.prog 39 = some (1, false, 8, [.pointer none]) := by kernel_rfl
instance : TIs Tryz.prog 39 1 false 8 [.pointer none] := ⟨ti39⟩
theorem tu41 : Tryz.prog.underlying 41 = some (.slice 104) := by kernel_rfl
instance : UIs Tryz.prog 41 (.slice 104) := ⟨tu41⟩
theorem ti41 : tinfo Tryz.prog 41 = some (1, false, 24, [.slice none 0 0]) := by kernel_rfl
instance : TIs Tryz.prog 41 1 false 24 [.slice none 0 0] := ⟨ti41⟩
theorem ti42 : tinfo Tryz.prog 42 = some (2, true, 32, [.slice none 0 0, .int .i64 0]) := by kernel_rfl
instance : TIs Tryz.prog 42 2 true 32 [.slice none 0 0, .int .i64 0] := ⟨ti42⟩
theorem fo42_0 : fieldOff Tryz.prog 42 0 = some (0, 41) := by kernel_rfl
instance : FIs Tryz.prog 42 0 0 41 := ⟨fo42_0⟩
theorem fo42_1 : fieldOff Tryz.prog 42 1 = some (1, 3) := by kernel_rfl
instance : FIs Tryz.prog 42 1 1 3 := ⟨fo42_1⟩
theorem pl42 : placesOf Tryz.prog 42 = some [(0, 1), (1, 1)] := by kernel_rfl
instance : PIs Tryz.prog 42 [(0, 1), (1, 1)] := ⟨pl42⟩
theorem ti43 : tinfo Tryz.prog 43 = some (2, true, 32, [.slice none 0 0, .int .i64 0]) := by kernel_rfl
instance : TIs Tryz.prog 43 2 true 32 [.slice none 0 0, .int .i64 0] := ⟨ti43⟩
theorem fo43_0 : fieldOff Tryz.prog 43 0 = some (0, 41) := by kernel_rfl
instance : FIs Tryz.prog 43 0 0 41 := ⟨fo43_0⟩
theorem fo43_1 : fieldOff Tryz.prog 43 1 = some (1, 3) := by kernel_rfl
instance : FIs Tryz.prog 43 1 1 3 := ⟨fo43_1⟩
theorem pl43 : placesOf Tryz.prog 43 = some [(0, 1), (1, 1)] := by kernel_rfl
instance : PIs Tryz.prog 43 [(0, 1), (1, 1)] := ⟨pl43⟩
theorem tu44 : Tryz.prog.underlying 44 = some (.slice 142) := by kernel_rfl
instance : UIs Tryz.prog 44 (.slice 142) := ⟨tu44⟩
theorem ti44 : tinfo Tryz.prog 44 = some (1, false, 24, [.slice none 0 0]) := by kernel_rfl
instance : TIs Tryz.prog 44 1 false 24 [.slice none 0 0] := ⟨ti44⟩
theorem ti45 : tinfo Tryz.prog 45 = some (2, true, 32, [.slice none 0 0, .int .i64 0]) := by kernel_rfl
instance : TIs Tryz.prog 45 2 true 32 [.slice none 0 0, .int .i64 0] := ⟨ti45⟩
theorem fo45_0 : fieldOff Tryz.prog 45 0 = some (0, 44) := by kernel_rfl
instance : FIs Tryz.prog 45 0 0 44 := ⟨fo45_0⟩
theorem fo45_1 : fieldOff Tryz.prog 45 1 = some (1, 3) := by kernel_rfl
instance : FIs Tryz.prog 45 1 1 3 := ⟨fo45_1⟩
theorem pl45 : placesOf Tryz.prog 45 = some [(0, 1), (1, 1)] := by kernel_rfl
instance : PIs Tryz.prog 45 [(0, 1), (1, 1)] := ⟨pl45⟩
theorem ti46 : tinfo Tryz.prog 46 = some (2, true, 32, [.slice none 0 0, .int .i64 0]) := by kernel_rfl
instance : TIs Tryz.prog 46 2 true 32 [.slice none 0 0, .int .i64 0] := ⟨ti46⟩
theorem fo46_0 : fieldOff Tryz.prog 46 0 = some (0, 44) := by kernel_rfl
instance : FIs Tryz.prog 46 0 0 44 := ⟨fo46_0⟩
theorem fo46_1 : fieldOff Tryz.prog 46 1 = some (1, 3) := by kernel_rfl
instance : FIs Tryz.prog 46 1 1 3 := ⟨fo46_1⟩
theorem pl46 : placesOf Tryz.prog 46 = some [(0, 1), (1, 1)] := by kernel_rfl
instance : PIs Tryz.prog 46 [(0, 1), (1, 1)] := ⟨pl46⟩
theorem tu48 : Tryz.prog.underlying 48 = some (.pointer 43) := by kernel_rfl
instance : UIs Tryz.prog 48 (.pointer 43) := ⟨tu48⟩
theorem ti48 : tinfo Tryz.prog 48 = some (1, false, 8, [.pointer none]) := by kernel_rfl
instance : TIs Tryz.prog 48 1 false 8 [.pointer none] := ⟨ti48⟩
theorem tu50 : Tryz.prog.underlying 50 = some (.slice 80) := by kernel_rfl
instance : UIs Tryz.prog 50 (.slice 80) := ⟨tu50⟩
theorem ti50 : tinfo Tryz.prog 50 = some (1, false, 24, [.slice none 0 0]) := by kernel_rfl
instance : TIs Tryz.prog 50 1 false 24 [.slice none 0 0] := ⟨ti50⟩
theorem tu51 : Tryz.prog.underlying 51 = some (.slice 80) := by kernel_rfl
instance : UIs Tryz.prog 51 (.slice 80) := ⟨tu51⟩
theorem ti51 : tinfo Tryz.prog 51 = some (1, false, 24, [.slice none 0 0]) := by kernel_rfl
instance : TIs Tryz.prog 51 1 false 24 [.slice none 0 0] := ⟨ti51⟩
theorem tu52 : Tryz.prog.underlying 52 = some (.slice 25) := by kernel_rfl
instance : UIs Tryz.prog 52 (.slice 25) := ⟨tu52⟩
theorem ti52 : tinfo Tryz.prog 52 = some (1, false, 24, [.slice none 0 0]) := by kernel_rfl
instance : TIs Tryz.prog 52 1 false 24 [.slice none 0 0] := ⟨ti52⟩
theorem tu53 : Tryz.prog.underlying 53 = some (.slice 25) := by kernel_rfl
instance : UIs Tryz.prog 53 (.slice 25) := ⟨tu53⟩
theorem ti53 : tinfo Tryz.prog 53 = some (1, false, 24, [.slice none 0 0]) := by kernel_rfl
instance : TIs Tryz.prog 53 1 false 24 [.slice none 0 0] := ⟨ti53⟩
theorem tu56 : Tryz.prog.underlying 56 = some (.int .i64) := by kernel_rfl
instance : UIs Tryz.prog 56 (.int .i64) := ⟨tu56⟩
theorem ti56 : tinfo Tryz.prog 56 = some (1, false, 8, [.int .i64 0]) := by kernel_rfl
instance : TIs Tryz.prog 56 1 false 8 [.int .i64 0] := ⟨ti56⟩
theorem tu67 : Tryz.prog.underlying 67 = some (.slice 3) := by kernel_rfl
instance : UIs Tryz.prog 67 (.slice 3) := ⟨tu67⟩
theorem ti67 : tinfo Tryz.prog 67 = some (1, false, 24, [.slice none 0 0]) := by kernel_rfl
instance : TIs Tryz.prog 67 1 false 24 [.slice none 0 0] := ⟨ti67⟩
theorem ti79 : tinfo Tryz.prog 79 = some (6, true, 64, [.bool false, .string { data := #[] }, .int .i64 0, .bool false, .string { data := #[] }, .int .i64 0]) := by kernel_rfl
instance : TIs Tryz.prog 79 6 true 64 [.bool false, .string { data := #[] }, .int .i64 0, .bool false, .string { data := #[] }, .int .i64 0] := ⟨ti79⟩
theorem fo79_0 : fieldOff Tryz.prog 79 0 = some (0, 25) := by kernel_rfl
instance : FIs Tryz.prog 79 0 0 25 := ⟨fo79_0⟩
theorem fo79_1 : fieldOff Tryz.prog 79 1 = some (3, 25) := by kernel_rfl
instance : FIs Tryz.prog 79 1 3 25 := ⟨fo79_1⟩
theorem pl79 : placesOf Tryz.prog 79 = some [(0, 3), (3, 3)] := by kernel_rfl
instance : PIs Tryz.prog 79 [(0, 3), (3, 3)] := ⟨pl79⟩
theorem ti80 : tinfo Tryz.prog 80 = some (6, true, 64, [.bool false, .string { data := #[] }, .int .i64 0, .bool false, .string { data := #[] }, .int .i64 0]) := by kernel_rfl
instance : TIs Tryz.prog 80 6 true 64 [.bool false, .string { data := #[] }, .int .i64 0, .bool false, .string { data := #[] }, .int .i64 0] := ⟨ti80⟩
theorem fo80_0 : fieldOff Tryz.prog 80 0 = some (0, 25) := by kernel_rfl
instance : FIs Tryz.prog 80 0 0 25 := ⟨fo80_0⟩
theorem fo80_1 : fieldOff Tryz.prog 80 1 = some (3, 25) := by kernel_rfl
instance : FIs Tryz.prog 80 1 3 25 := ⟨fo80_1⟩
theorem pl80 : placesOf Tryz.prog 80 = some [(0, 3), (3, 3)] := by kernel_rfl
instance : PIs Tryz.prog 80 [(0, 3), (3, 3)] := ⟨pl80⟩
theorem tu85 : Tryz.prog.underlying 85 = some (.int .i64) := by kernel_rfl
instance : UIs Tryz.prog 85 (.int .i64) := ⟨tu85⟩
theorem ti85 : tinfo Tryz.prog 85 = some (1, false, 8, [.int .i64 0]) := by kernel_rfl
instance : TIs Tryz.prog 85 1 false 8 [.int .i64 0] := ⟨ti85⟩
theorem ti86 : tinfo Tryz.prog 86 = some (5, true, 56, [.int .i64 0, .bool false, .string { data := #[] }, .bool false, .string { data := #[] }]) := by kernel_rfl
instance : TIs Tryz.prog 86 5 true 56 [.int .i64 0, .bool false, .string { data := #[] }, .bool false, .string { data := #[] }] := ⟨ti86⟩
theorem fo86_0 : fieldOff Tryz.prog 86 0 = some (0, 85) := by kernel_rfl
instance : FIs Tryz.prog 86 0 0 85 := ⟨fo86_0⟩
theorem fo86_1 : fieldOff Tryz.prog 86 1 = some (1, 23) := by kernel_rfl
instance : FIs Tryz.prog 86 1 1 23 := ⟨fo86_1⟩
theorem fo86_2 : fieldOff Tryz.prog 86 2 = some (3, 23) := by kernel_rfl
instance : FIs Tryz.prog 86 2 3 23 := ⟨fo86_2⟩
theorem pl86 : placesOf Tryz.prog 86 = some [(0, 1), (1, 2), (3, 2)] := by kernel_rfl
instance : PIs Tryz.prog 86 [(0, 1), (1, 2), (3, 2)] := ⟨pl86⟩
theorem ti87 : tinfo Tryz.prog 87 = some (5, true, 56, [.int .i64 0, .bool false, .string { data := #[] }, .bool false, .string { data := #[] }]) := by kernel_rfl
instance : TIs Tryz.prog 87 5 true 56 [.int .i64 0, .bool false, .string { data := #[] }, .bool false, .string { data := #[] }] := ⟨ti87⟩
theorem fo87_0 : fieldOff Tryz.prog 87 0 = some (0, 85) := by kernel_rfl
instance : FIs Tryz.prog 87 0 0 85 := ⟨fo87_0⟩
theorem fo87_1 : fieldOff Tryz.prog 87 1 = some (1, 23) := by kernel_rfl
instance : FIs Tryz.prog 87 1 1 23 := ⟨fo87_1⟩
theorem fo87_2 : fieldOff Tryz.prog 87 2 = some (3, 23) := by kernel_rfl
instance : FIs Tryz.prog 87 2 3 23 := ⟨fo87_2⟩
theorem pl87 : placesOf Tryz.prog 87 = some [(0, 1), (1, 2), (3, 2)] := by kernel_rfl
instance : PIs Tryz.prog 87 [(0, 1), (1, 2), (3, 2)] := ⟨pl87⟩
theorem tu94 : Tryz.prog.underlying 94 = some (.pointer 137) := by kernel_rfl
instance : UIs Tryz.prog 94 (.pointer 137) := ⟨tu94⟩
theorem ti94 : tinfo Tryz.prog 94 = some (1, false, 8, [.pointer none]) := by kernel_rfl
instance : TIs Tryz.prog 94 1 false 8 [.pointer none] := ⟨ti94⟩
theorem ti103 : tinfo Tryz.prog 103 = some (5, true, 48, [.bool false, .string { data := #[] }, .int .i64 0, .int .i64 0, .int .i64 0]) := by kernel_rfl
instance : TIs Tryz.prog 103 5 true 48 [.bool false, .string { data := #[] }, .int .i64 0, .int .i64 0, .int .i64 0] := ⟨ti103⟩
theorem fo103_0 : fieldOff Tryz.prog 103 0 = some (0, 25) := by kernel_rfl
instance : FIs Tryz.prog 103 0 0 25 := ⟨fo103_0⟩
theorem fo103_1 : fieldOff Tryz.prog 103 1 = some (3, 3) := by kernel_rfl
instance : FIs Tryz.prog 103 1 3 3 := ⟨fo103_1⟩
theorem fo103_2 : fieldOff Tryz.prog 103 2 = some (4, 3) := by kernel_rfl
instance : FIs Tryz.prog 103 2 4 3 := ⟨fo103_2⟩
theorem pl103 : placesOf Tryz.prog 103 = some [(0, 3), (3, 1), (4, 1)] := by kernel_rfl
instance : PIs Tryz.prog 103 [(0, 3), (3, 1), (4, 1)] := ⟨pl103⟩
theorem ti104 : tinfo Tryz.prog 104 = some (5, true, 48, [.bool false, .string { data := #[] }, .int .i64 0, .int .i64 0, .int .i64 0]) := by kernel_rfl
instance : TIs Tryz.prog 104 5 true 48 [.bool false, .string { data := #[] }, .int .i64 0, .int .i64 0, .int .i64 0] := ⟨ti104⟩
theorem fo104_0 : fieldOff Tryz.prog 104 0 = some (0, 25) := by kernel_rfl
instance : FIs Tryz.prog 104 0 0 25 := ⟨fo104_0⟩
theorem fo104_1 : fieldOff Tryz.prog 104 1 = some (3, 3) := by kernel_rfl
instance : FIs Tryz.prog 104 1 3 3 := ⟨fo104_1⟩
theorem fo104_2 : fieldOff Tryz.prog 104 2 = some (4, 3) := by kernel_rfl
instance : FIs Tryz.prog 104 2 4 3 := ⟨fo104_2⟩
theorem pl104 : placesOf Tryz.prog 104 = some [(0, 3), (3, 1), (4, 1)] := by kernel_rfl
instance : PIs Tryz.prog 104 [(0, 3), (3, 1), (4, 1)] := ⟨pl104⟩
theorem ti113 : tinfo Tryz.prog 113 = some (9, true, 96, [.bool false, .string { data := #[] }, .int .i64 0, .bool false, .string { data := #[] }, .int .i64 0, .bool false, .string { data := #[] }, .int .i64 0]) := by kernel_rfl
instance : TIs Tryz.prog 113 9 true 96 [.bool false, .string { data := #[] }, .int .i64 0, .bool false, .string { data := #[] }, .int .i64 0, .bool false, .string { data := #[] }, .int .i64 0] := ⟨ti113⟩
theorem fo113_0 : fieldOff Tryz.prog 113 0 = some (0, 80) := by kernel_rfl
instance : FIs Tryz.prog 113 0 0 80 := ⟨fo113_0⟩
theorem fo113_1 : fieldOff Tryz.prog 113 1 = some (6, 25) := by kernel_rfl
instance : FIs Tryz.prog 113 1 6 25 := ⟨fo113_1⟩
theorem pl113 : placesOf Tryz.prog 113 = some [(0, 6), (6, 3)] := by kernel_rfl
instance : PIs Tryz.prog 113 [(0, 6), (6, 3)] := ⟨pl113⟩
theorem ti114 : tinfo Tryz.prog 114 = some (9, true, 96, [.bool false, .string { data := #[] }, .int .i64 0, .bool false, .string { data := #[] }, .int .i64 0, .bool false, .string { data := #[] }, .int .i64 0]) := by kernel_rfl
instance : TIs Tryz.prog 114 9 true 96 [.bool false, .string { data := #[] }, .int .i64 0, .bool false, .string { data := #[] }, .int .i64 0, .bool false, .string { data := #[] }, .int .i64 0] := ⟨ti114⟩
theorem fo114_0 : fieldOff Tryz.prog 114 0 = some (0, 80) := by kernel_rfl
instance : FIs Tryz.prog 114 0 0 80 := ⟨fo114_0⟩
theorem fo114_1 : fieldOff Tryz.prog 114 1 = some (6, 25) := by kernel_rfl
instance : FIs Tryz.prog 114 1 6 25 := ⟨fo114_1⟩
theorem pl114 : placesOf Tryz.prog 114 = some [(0, 6), (6, 3)] := by kernel_rfl
instance : PIs Tryz.prog 114 [(0, 6), (6, 3)] := ⟨pl114⟩
theorem tu117 : Tryz.prog.underlying 117 = some (.int .u64) := by kernel_rfl
instance : UIs Tryz.prog 117 (.int .u64) := ⟨tu117⟩
theorem ti117 : tinfo Tryz.prog 117 = some (1, false, 8, [.int .u64 0]) := by kernel_rfl
instance : TIs Tryz.prog 117 1 false 8 [.int .u64 0] := ⟨ti117⟩
theorem ti118 : tinfo Tryz.prog 118 = some (6, true, 64, [.bool false, .string { data := #[] }, .int .i64 0, .bool false, .string { data := #[] }, .int .i64 0]) := by kernel_rfl
instance : TIs Tryz.prog 118 6 true 64 [.bool false, .string { data := #[] }, .int .i64 0, .bool false, .string { data := #[] }, .int .i64 0] := ⟨ti118⟩
theorem fo118_0 : fieldOff Tryz.prog 118 0 = some (0, 80) := by kernel_rfl
instance : FIs Tryz.prog 118 0 0 80 := ⟨fo118_0⟩
theorem pl118 : placesOf Tryz.prog 118 = some [(0, 6)] := by kernel_rfl
instance : PIs Tryz.prog 118 [(0, 6)] := ⟨pl118⟩
theorem ti119 : tinfo Tryz.prog 119 = some (6, true, 64, [.bool false, .string { data := #[] }, .int .i64 0, .bool false, .string { data := #[] }, .int .i64 0]) := by kernel_rfl
instance : TIs Tryz.prog 119 6 true 64 [.bool false, .string { data := #[] }, .int .i64 0, .bool false, .string { data := #[] }, .int .i64 0] := ⟨ti119⟩
theorem fo119_0 : fieldOff Tryz.prog 119 0 = some (0, 80) := by kernel_rfl
instance : FIs Tryz.prog 119 0 0 80 := ⟨fo119_0⟩
theorem pl119 : placesOf Tryz.prog 119 = some [(0, 6)] := by kernel_rfl
instance : PIs Tryz.prog 119 [(0, 6)] := ⟨pl119⟩
theorem tu124 : Tryz.prog.underlying 124 = some (.int .u64) := by kernel_rfl
instance : UIs Tryz.prog 124 (.int .u64) := ⟨tu124⟩
theorem ti124 : tinfo Tryz.prog 124 = some (1, false, 8, [.int .u64 0]) := by kernel_rfl
instance : TIs Tryz.prog 124 1 false 8 [.int .u64 0] := ⟨ti124⟩
theorem tu127 : Tryz.prog.underlying 127 = some (.slice 23) := by kernel_rfl
instance : UIs Tryz.prog 127 (.slice 23) := ⟨tu127⟩
theorem ti127 : tinfo Tryz.prog 127 = some (1, false, 24, [.slice none 0 0]) := by kernel_rfl
instance : TIs Tryz.prog 127 1 false 24 [.slice none 0 0] := ⟨ti127⟩
theorem tu128 : Tryz.prog.underlying 128 = some (.string) := by kernel_rfl
instance : UIs Tryz.prog 128 (.string) := ⟨tu128⟩
theorem ti128 : tinfo Tryz.prog 128 = some (1, false, 16, [.string { data := #[] }]) := by kernel_rfl
instance : TIs Tryz.prog 128 1 false 16 [.string { data := #[] }] := ⟨ti128⟩
theorem ti129 : tinfo Tryz.prog 129 = some (2, true, 24, [.string { data := #[] }, .bool false]) := by kernel_rfl
instance : TIs Tryz.prog 129 2 true 24 [.string { data := #[] }, .bool false] := ⟨ti129⟩
theorem fo129_0 : fieldOff Tryz.prog 129 0 = some (0, 128) := by kernel_rfl
instance : FIs Tryz.prog 129 0 0 128 := ⟨fo129_0⟩
theorem fo129_1 : fieldOff Tryz.prog 129 1 = some (1, 4) := by kernel_rfl
instance : FIs Tryz.prog 129 1 1 4 := ⟨fo129_1⟩
theorem pl129 : placesOf Tryz.prog 129 = some [(0, 1), (1, 1)] := by kernel_rfl
instance : PIs Tryz.prog 129 [(0, 1), (1, 1)] := ⟨pl129⟩
theorem ti130 : tinfo Tryz.prog 130 = some (2, true, 24, [.string { data := #[] }, .bool false]) := by kernel_rfl
instance : TIs Tryz.prog 130 2 true 24 [.string { data := #[] }, .bool false] := ⟨ti130⟩
theorem fo130_0 : fieldOff Tryz.prog 130 0 = some (0, 128) := by kernel_rfl
instance : FIs Tryz.prog 130 0 0 128 := ⟨fo130_0⟩
theorem fo130_1 : fieldOff Tryz.prog 130 1 = some (1, 4) := by kernel_rfl
instance : FIs Tryz.prog 130 1 1 4 := ⟨fo130_1⟩
theorem pl130 : placesOf Tryz.prog 130 = some [(0, 1), (1, 1)] := by kernel_rfl
instance : PIs Tryz.prog 130 [(0, 1), (1, 1)] := ⟨pl130⟩
theorem tu135 : Tryz.prog.underlying 135 = some (.slice 139) := by kernel_rfl
instance : UIs Tryz.prog 135 (.slice 139) := ⟨tu135⟩
theorem ti135 : tinfo Tryz.prog 135 = some (1, false, 24, [.slice none 0 0]) := by kernel_rfl
instance : TIs Tryz.prog 135 1 false 24 [.slice none 0 0] := ⟨ti135⟩
theorem ti136 : tinfo Tryz.prog 136 = some (2, true, 32, [.slice none 0 0, .int .i64 0]) := by kernel_rfl
instance : TIs Tryz.prog 136 2 true 32 [.slice none 0 0, .int .i64 0] := ⟨ti136⟩
theorem fo136_0 : fieldOff Tryz.prog 136 0 = some (0, 135) := by kernel_rfl
instance : FIs Tryz.prog 136 0 0 135 := ⟨fo136_0⟩
theorem fo136_1 : fieldOff Tryz.prog 136 1 = some (1, 3) := by kernel_rfl
instance : FIs Tryz.prog 136 1 1 3 := ⟨fo136_1⟩
theorem pl136 : placesOf Tryz.prog 136 = some [(0, 1), (1, 1)] := by kernel_rfl
instance : PIs Tryz.prog 136 [(0, 1), (1, 1)] := ⟨pl136⟩
theorem ti137 : tinfo Tryz.prog 137 = some (2, true, 32, [.slice none 0 0, .int .i64 0]) := by kernel_rfl
instance : TIs Tryz.prog 137 2 true 32 [.slice none 0 0, .int .i64 0] := ⟨ti137⟩
theorem fo137_0 : fieldOff Tryz.prog 137 0 = some (0, 135) := by kernel_rfl
instance : FIs Tryz.prog 137 0 0 135 := ⟨fo137_0⟩
theorem fo137_1 : fieldOff Tryz.prog 137 1 = some (1, 3) := by kernel_rfl
instance : FIs Tryz.prog 137 1 1 3 := ⟨fo137_1⟩
theorem pl137 : placesOf Tryz.prog 137 = some [(0, 1), (1, 1)] := by kernel_rfl
instance : PIs Tryz.prog 137 [(0, 1), (1, 1)] := ⟨pl137⟩
theorem ti138 : tinfo Tryz.prog 138 = some (5, true, 56, [.bool false, .string { data := #[] }, .int .i64 0, .int .i64 0, .string { data := #[] }]) := by kernel_rfl
instance : TIs Tryz.prog 138 5 true 56 [.bool false, .string { data := #[] }, .int .i64 0, .int .i64 0, .string { data := #[] }] := ⟨ti138⟩
theorem fo138_0 : fieldOff Tryz.prog 138 0 = some (0, 25) := by kernel_rfl
instance : FIs Tryz.prog 138 0 0 25 := ⟨fo138_0⟩
theorem fo138_1 : fieldOff Tryz.prog 138 1 = some (3, 3) := by kernel_rfl
instance : FIs Tryz.prog 138 1 3 3 := ⟨fo138_1⟩
theorem fo138_2 : fieldOff Tryz.prog 138 2 = some (4, 9) := by kernel_rfl
instance : FIs Tryz.prog 138 2 4 9 := ⟨fo138_2⟩
theorem pl138 : placesOf Tryz.prog 138 = some [(0, 3), (3, 1), (4, 1)] := by kernel_rfl
instance : PIs Tryz.prog 138 [(0, 3), (3, 1), (4, 1)] := ⟨pl138⟩
theorem ti139 : tinfo Tryz.prog 139 = some (5, true, 56, [.bool false, .string { data := #[] }, .int .i64 0, .int .i64 0, .string { data := #[] }]) := by kernel_rfl
instance : TIs Tryz.prog 139 5 true 56 [.bool false, .string { data := #[] }, .int .i64 0, .int .i64 0, .string { data := #[] }] := ⟨ti139⟩
theorem fo139_0 : fieldOff Tryz.prog 139 0 = some (0, 25) := by kernel_rfl
instance : FIs Tryz.prog 139 0 0 25 := ⟨fo139_0⟩
theorem fo139_1 : fieldOff Tryz.prog 139 1 = some (3, 3) := by kernel_rfl
instance : FIs Tryz.prog 139 1 3 3 := ⟨fo139_1⟩
theorem fo139_2 : fieldOff Tryz.prog 139 2 = some (4, 9) := by kernel_rfl
instance : FIs Tryz.prog 139 2 4 9 := ⟨fo139_2⟩
theorem pl139 : placesOf Tryz.prog 139 = some [(0, 3), (3, 1), (4, 1)] := by kernel_rfl
instance : PIs Tryz.prog 139 [(0, 3), (3, 1), (4, 1)] := ⟨pl139⟩
theorem ti141 : tinfo Tryz.prog 141 = some (5, true, 48, [.bool false, .string { data := #[] }, .int .i64 0, .int .i64 0, .int .i64 0]) := by kernel_rfl
instance : TIs Tryz.prog 141 5 true 48 [.bool false, .string { data := #[] }, .int .i64 0, .int .i64 0, .int .i64 0] := ⟨ti141⟩
theorem fo141_0 : fieldOff Tryz.prog 141 0 = some (0, 25) := by kernel_rfl
instance : FIs Tryz.prog 141 0 0 25 := ⟨fo141_0⟩
theorem fo141_1 : fieldOff Tryz.prog 141 1 = some (3, 3) := by kernel_rfl
instance : FIs Tryz.prog 141 1 3 3 := ⟨fo141_1⟩
theorem fo141_2 : fieldOff Tryz.prog 141 2 = some (4, 3) := by kernel_rfl
instance : FIs Tryz.prog 141 2 4 3 := ⟨fo141_2⟩
theorem pl141 : placesOf Tryz.prog 141 = some [(0, 3), (3, 1), (4, 1)] := by kernel_rfl
instance : PIs Tryz.prog 141 [(0, 3), (3, 1), (4, 1)] := ⟨pl141⟩
theorem ti142 : tinfo Tryz.prog 142 = some (5, true, 48, [.bool false, .string { data := #[] }, .int .i64 0, .int .i64 0, .int .i64 0]) := by kernel_rfl
instance : TIs Tryz.prog 142 5 true 48 [.bool false, .string { data := #[] }, .int .i64 0, .int .i64 0, .int .i64 0] := ⟨ti142⟩
theorem fo142_0 : fieldOff Tryz.prog 142 0 = some (0, 25) := by kernel_rfl
instance : FIs Tryz.prog 142 0 0 25 := ⟨fo142_0⟩
theorem fo142_1 : fieldOff Tryz.prog 142 1 = some (3, 3) := by kernel_rfl
instance : FIs Tryz.prog 142 1 3 3 := ⟨fo142_1⟩
theorem fo142_2 : fieldOff Tryz.prog 142 2 = some (4, 3) := by kernel_rfl
instance : FIs Tryz.prog 142 2 4 3 := ⟨fo142_2⟩
theorem pl142 : placesOf Tryz.prog 142 = some [(0, 3), (3, 1), (4, 1)] := by kernel_rfl
instance : PIs Tryz.prog 142 [(0, 3), (3, 1), (4, 1)] := ⟨pl142⟩
theorem tu144 : Tryz.prog.underlying 144 = some (.slice 2) := by kernel_rfl
instance : UIs Tryz.prog 144 (.slice 2) := ⟨tu144⟩
theorem ti144 : tinfo Tryz.prog 144 = some (1, false, 24, [.slice none 0 0]) := by kernel_rfl
instance : TIs Tryz.prog 144 1 false 24 [.slice none 0 0] := ⟨ti144⟩
theorem tu146 : Tryz.prog.underlying 146 = some (.slice 124) := by kernel_rfl
instance : UIs Tryz.prog 146 (.slice 124) := ⟨tu146⟩
theorem ti146 : tinfo Tryz.prog 146 = some (1, false, 24, [.slice none 0 0]) := by kernel_rfl
instance : TIs Tryz.prog 146 1 false 24 [.slice none 0 0] := ⟨ti146⟩
theorem tu147 : Tryz.prog.underlying 147 = some (.slice 124) := by kernel_rfl
instance : UIs Tryz.prog 147 (.slice 124) := ⟨tu147⟩
theorem ti147 : tinfo Tryz.prog 147 = some (1, false, 24, [.slice none 0 0]) := by kernel_rfl
instance : TIs Tryz.prog 147 1 false 24 [.slice none 0 0] := ⟨ti147⟩
theorem tu151 : Tryz.prog.underlying 151 = some (.slice 5) := by kernel_rfl
instance : UIs Tryz.prog 151 (.slice 5) := ⟨tu151⟩
theorem ti151 : tinfo Tryz.prog 151 = some (1, false, 24, [.slice none 0 0]) := by kernel_rfl
instance : TIs Tryz.prog 151 1 false 24 [.slice none 0 0] := ⟨ti151⟩
theorem tu161 : Tryz.prog.underlying 161 = some (.array 2 3) := by kernel_rfl
instance : UIs Tryz.prog 161 (.array 2 3) := ⟨tu161⟩
theorem ti161 : tinfo Tryz.prog 161 = some (2, true, 16, [.int .i64 0, .int .i64 0]) := by kernel_rfl
instance : TIs Tryz.prog 161 2 true 16 [.int .i64 0, .int .i64 0] := ⟨ti161⟩
theorem tu163 : Tryz.prog.underlying 163 = some (.slice 9) := by kernel_rfl
instance : UIs Tryz.prog 163 (.slice 9) := ⟨tu163⟩
theorem ti163 : tinfo Tryz.prog 163 = some (1, false, 24, [.slice none 0 0]) := by kernel_rfl
instance : TIs Tryz.prog 163 1 false 24 [.slice none 0 0] := ⟨ti163⟩
theorem tu167 : Tryz.prog.underlying 167 = some (.array 64 5) := by kernel_rfl
instance : UIs Tryz.prog 167 (.array 64 5) := ⟨tu167⟩
theorem ti167 : tinfo Tryz.prog 167 = some (64, true, 64, [.int .u8 0, .int .u8 0, .int .u8 0, .int .u8 0, .int .u8 0, .int .u8 0, .int .u8 0, .int .u8 0, .int .u8 0, .int .u8 0, .int .u8 0, .int .u8 0, .int .u8 0, .int .u8 0, .int .u8 0, .int .u8 0, .int .u8 0, .int .u8 0, .int .u8 0, .int .u8 0, .int .u8 0, .int .u8 0, .int .u8 0, .int .u8 0, .int .u8 0, .int .u8 0, .int .u8 0, .int .u8 0, .int .u8 0, .int .u8 0, .int .u8 0, .int .u8 0, .int .u8 0, .int .u8 0, .int .u8 0, .int .u8 0, .int .u8 0, .int .u8 0, .int .u8 0, .int .u8 0, .int .u8 0, .int .u8 0, .int .u8 0, .int .u8 0, .int .u8 0, .int .u8 0, .int .u8 0, .int .u8 0, .int .u8 0, .int .u8 0, .int .u8 0, .int .u8 0, .int .u8 0, .int .u8 0, .int .u8 0, .int .u8 0, .int .u8 0, .int .u8 0, .int .u8 0, .int .u8 0, .int .u8 0, .int .u8 0, .int .u8 0, .int .u8 0]) := by kernel_rfl
instance : TIs Tryz.prog 167 64 true 64 [.int .u8 0, .int .u8 0, .int .u8 0, .int .u8 0, .int .u8 0, .int .u8 0, .int .u8 0, .int .u8 0, .int .u8 0, .int .u8 0, .int .u8 0, .int .u8 0, .int .u8 0, .int .u8 0, .int .u8 0, .int .u8 0, .int .u8 0, .int .u8 0, .int .u8 0, .int .u8 0, .int .u8 0, .int .u8 0, .int .u8 0, .int .u8 0, .int .u8 0, .int .u8 0, .int .u8 0, .int .u8 0, .int .u8 0, .int .u8 0, .int .u8 0, .int .u8 0, .int .u8 0, .int .u8 0, .int .u8 0, .int .u8 0, .int .u8 0, .int .u8 0, .int .u8 0, .int .u8 0, .int .u8 0, .int .u8 0, .int .u8 0, .int .u8 0, .int .u8 0, .int .u8 0, .int .u8 0, .int .u8 0, .int .u8 0, .int .u8 0, .int .u8 0, .int .u8 0, .int .u8 0, .int .u8 0, .int .u8 0, .int .u8 0, .int .u8 0, .int .u8 0, .int .u8 0, .int .u8 0, .int .u8 0, .int .u8 0, .int .u8 0, .int .u8 0] := ⟨ti167⟩
theorem tu183 : Tryz.prog.underlying 183 = some (.array 256 4) := by kernel_rfl
instance : UIs Tryz.prog 183 (.array 256 4) := ⟨tu183⟩
theorem tu184 : Tryz.prog.underlying 184 = some (.array 256 4) := by kernel_rfl
instance : UIs Tryz.prog 184 (.array 256 4) := ⟨tu184⟩
theorem tu188 : Tryz.prog.underlying 188 = some (.pointer 184) := by kernel_rfl
instance : UIs Tryz.prog 188 (.pointer 184) := ⟨tu188⟩
theorem ti188 : tinfo Tryz.prog 188 = some (1, false, 8, [.pointer none]) := by kernel_rfl
instance : TIs Tryz.prog 188 1 false 8 [.pointer none] := ⟨ti188⟩
theorem tu196 : Tryz.prog.underlying 196 = some (.array 256 5) := by kernel_rfl
instance : UIs Tryz.prog 196 (.array 256 5) := ⟨tu196⟩
theorem ti197 : tinfo Tryz.prog 197 = some (2, true, 2, [.int .u8 0, .int .u8 0]) := by kernel_rfl
instance : TIs Tryz.prog 197 2 true 2 [.int .u8 0, .int .u8 0] := ⟨ti197⟩
theorem fo197_0 : fieldOff Tryz.prog 197 0 = some (0, 5) := by kernel_rfl
instance : FIs Tryz.prog 197 0 0 5 := ⟨fo197_0⟩
theorem fo197_1 : fieldOff Tryz.prog 197 1 = some (1, 5) := by kernel_rfl
instance : FIs Tryz.prog 197 1 1 5 := ⟨fo197_1⟩
theorem pl197 : placesOf Tryz.prog 197 = some [(0, 1), (1, 1)] := by kernel_rfl
instance : PIs Tryz.prog 197 [(0, 1), (1, 1)] := ⟨pl197⟩
theorem ti198 : tinfo Tryz.prog 198 = some (2, true, 2, [.int .u8 0, .int .u8 0]) := by kernel_rfl
instance : TIs Tryz.prog 198 2 true 2 [.int .u8 0, .int .u8 0] := ⟨ti198⟩
theorem fo198_0 : fieldOff Tryz.prog 198 0 = some (0, 5) := by kernel_rfl
instance : FIs Tryz.prog 198 0 0 5 := ⟨fo198_0⟩
theorem fo198_1 : fieldOff Tryz.prog 198 1 = some (1, 5) := by kernel_rfl
instance : FIs Tryz.prog 198 1 1 5 := ⟨fo198_1⟩
theorem pl198 : placesOf Tryz.prog 198 = some [(0, 1), (1, 1)] := by kernel_rfl
instance : PIs Tryz.prog 198 [(0, 1), (1, 1)] := ⟨pl198⟩
theorem tu199 : Tryz.prog.underlying 199 = some (.array 16 198) := by kernel_rfl
instance : UIs Tryz.prog 199 (.array 16 198) := ⟨tu199⟩
theorem ti199 : tinfo Tryz.prog 199 = some (32, true, 32, [.int .u8 0, .int .u8 0, .int .u8 0, .int .u8 0, .int .u8 0, .int .u8 0, .int .u8 0, .int .u8 0, .int .u8 0, .int .u8 0, .int .u8 0, .int .u8 0, .int .u8 0, .int .u8 0, .int .u8 0, .int .u8 0, .int .u8 0, .int .u8 0, .int .u8 0, .int .u8 0, .int .u8 0, .int .u8 0, .int .u8 0, .int .u8 0, .int .u8 0, .int .u8 0, .int .u8 0, .int .u8 0, .int .u8 0, .int .u8 0, .int .u8 0, .int .u8 0]) := by kernel_rfl
instance : TIs Tryz.prog 199 32 true 32 [.int .u8 0, .int .u8 0, .int .u8 0, .int .u8 0, .int .u8 0, .int .u8 0, .int .u8 0, .int .u8 0, .int .u8 0, .int .u8 0, .int .u8 0, .int .u8 0, .int .u8 0, .int .u8 0, .int .u8 0, .int .u8 0, .int .u8 0, .int .u8 0, .int .u8 0, .int .u8 0, .int .u8 0, .int .u8 0, .int .u8 0, .int .u8 0, .int .u8 0, .int .u8 0, .int .u8 0, .int .u8 0, .int .u8 0, .int .u8 0, .int .u8 0, .int .u8 0] := ⟨ti199⟩
theorem ti203 : tinfo Tryz.prog 203 = some (4, true, 40, [.pointer none, .pointer none, .pointer none, .string { data := #[] }]) := by kernel_rfl
instance : TIs Tryz.prog 203 4 true 40 [.pointer none, .pointer none, .pointer none, .string { data := #[] }] := ⟨ti203⟩
theorem fo203_0 : fieldOff Tryz.prog 203 0 = some (0, 17) := by kernel_rfl
instance : FIs Tryz.prog 203 0 0 17 := ⟨fo203_0⟩
theorem fo203_1 : fieldOff Tryz.prog 203 1 = some (1, 17) := by kernel_rfl
instance : FIs Tryz.prog 203 1 1 17 := ⟨fo203_1⟩
theorem fo203_2 : fieldOff Tryz.prog 203 2 = some (2, 17) := by kernel_rfl
instance : FIs Tryz.prog 203 2 2 17 := ⟨fo203_2⟩
theorem fo203_3 : fieldOff Tryz.prog 203 3 = some (3, 9) := by kernel_rfl
instance : FIs Tryz.prog 203 3 3 9 := ⟨fo203_3⟩
theorem pl203 : placesOf Tryz.prog 203 = some [(0, 1), (1, 1), (2, 1), (3, 1)] := by kernel_rfl
instance : PIs Tryz.prog 203 [(0, 1), (1, 1), (2, 1), (3, 1)] := ⟨pl203⟩
theorem ti204 : tinfo Tryz.prog 204 = some (4, true, 40, [.pointer none, .pointer none, .pointer none, .string { data := #[] }]) := by kernel_rfl
instance : TIs Tryz.prog 204 4 true 40 [.pointer none, .pointer none, .pointer none, .string { data := #[] }] := ⟨ti204⟩
theorem fo204_0 : fieldOff Tryz.prog 204 0 = some (0, 17) := by kernel_rfl
instance : FIs Tryz.prog 204 0 0 17 := ⟨fo204_0⟩
theorem fo204_1 : fieldOff Tryz.prog 204 1 = some (1, 17) := by kernel_rfl
instance : FIs Tryz.prog 204 1 1 17 := ⟨fo204_1⟩
theorem fo204_2 : fieldOff Tryz.prog 204 2 = some (2, 17) := by kernel_rfl
instance : FIs Tryz.prog 204 2 2 17 := ⟨fo204_2⟩
theorem fo204_3 : fieldOff Tryz.prog 204 3 = some (3, 9) := by kernel_rfl
instance : FIs Tryz.prog 204 3 3 9 := ⟨fo204_3⟩
theorem pl204 : placesOf Tryz.prog 204 = some [(0, 1), (1, 1), (2, 1), (3, 1)] := by kernel_rfl
instance : PIs Tryz.prog 204 [(0, 1), (1, 1), (2, 1), (3, 1)] := ⟨pl204⟩
theorem tu205 : Tryz.prog.underlying 205 = some (.array 0 16) := by kernel_rfl
instance : UIs Tryz.prog 205 (.array 0 16) := ⟨tu205⟩
theorem ti205 : tinfo Tryz.prog 205 = some (0, true, 0, []) := by kernel_rfl
instance : TIs Tryz.prog 205 0 true 0 [] := ⟨ti205⟩
theorem ti206 : tinfo Tryz.prog 206 = some (0, true, 0, []) := by kernel_rfl
instance : TIs Tryz.prog 206 0 true 0 [] := ⟨ti206⟩
theorem pl206 : placesOf Tryz.prog 206 = some [(0, 0)] := by kernel_rfl
instance : PIs Tryz.prog 206 [(0, 0)] := ⟨pl206⟩
theorem ti207 : tinfo Tryz.prog 207 = some (0, true, 0, []) := by kernel_rfl
instance : TIs Tryz.prog 207 0 true 0 [] := ⟨ti207⟩
theorem pl207 : placesOf Tryz.prog 207 = some [(0, 0)] := by kernel_rfl
instance : PIs Tryz.prog 207 [(0, 0)] := ⟨pl207⟩
theorem tu208 : Tryz.prog.underlying 208 = some (.int .u32) := by kernel_rfl
instance : UIs Tryz.prog 208 (.int .u32) := ⟨tu208⟩
theorem ti208 : tinfo Tryz.prog 208 = some (1, false, 4, [.int .u32 0]) := by kernel_rfl
instance : TIs Tryz.prog 208 1 false 4 [.int .u32 0] := ⟨ti208⟩
theorem tu209 : Tryz.prog.underlying 209 = some (.int .u8) := by kernel_rfl
instance : UIs Tryz.prog 209 (.int .u8) := ⟨tu209⟩
theorem ti209 : tinfo Tryz.prog 209 = some (1, false, 1, [.int .u8 0]) := by kernel_rfl
instance : TIs Tryz.prog 209 1 false 1 [.int .u8 0] := ⟨ti209⟩
theorem tu210 : Tryz.prog.underlying 210 = some (.int .u8) := by kernel_rfl
instance : UIs Tryz.prog 210 (.int .u8) := ⟨tu210⟩
theorem ti210 : tinfo Tryz.prog 210 = some (1, false, 1, [.int .u8 0]) := by kernel_rfl
instance : TIs Tryz.prog 210 1 false 1 [.int .u8 0] := ⟨ti210⟩
theorem tu212 : Tryz.prog.underlying 212 = some (.pointer 5) := by kernel_rfl
instance : UIs Tryz.prog 212 (.pointer 5) := ⟨tu212⟩
theorem ti212 : tinfo Tryz.prog 212 = some (1, false, 8, [.pointer none]) := by kernel_rfl
instance : TIs Tryz.prog 212 1 false 8 [.pointer none] := ⟨ti212⟩
theorem tu213 : Tryz.prog.underlying 213 = some (.int .i32) := by kernel_rfl
instance : UIs Tryz.prog 213 (.int .i32) := ⟨tu213⟩
theorem ti213 : tinfo Tryz.prog 213 = some (1, false, 4, [.int .i32 0]) := by kernel_rfl
instance : TIs Tryz.prog 213 1 false 4 [.int .i32 0] := ⟨ti213⟩
theorem tu214 : Tryz.prog.underlying 214 = some (.int .i32) := by kernel_rfl
instance : UIs Tryz.prog 214 (.int .i32) := ⟨tu214⟩
theorem ti214 : tinfo Tryz.prog 214 = some (1, false, 4, [.int .i32 0]) := by kernel_rfl
instance : TIs Tryz.prog 214 1 false 4 [.int .i32 0] := ⟨ti214⟩
theorem ti215 : tinfo Tryz.prog 215 = some (11, true, 48, [.int .u64 0, .int .u64 0, .int .u32 0, .int .u8 0, .int .u8 0, .int .u8 0, .int .u8 0, .nilFunc, .pointer none, .int .i32 0, .int .i32 0]) := by kernel_rfl
instance : TIs Tryz.prog 215 11 true 48 [.int .u64 0, .int .u64 0, .int .u32 0, .int .u8 0, .int .u8 0, .int .u8 0, .int .u8 0, .nilFunc, .pointer none, .int .i32 0, .int .i32 0] := ⟨ti215⟩
theorem ti216 : tinfo Tryz.prog 216 = some (11, true, 48, [.int .u64 0, .int .u64 0, .int .u32 0, .int .u8 0, .int .u8 0, .int .u8 0, .int .u8 0, .nilFunc, .pointer none, .int .i32 0, .int .i32 0]) := by kernel_rfl
instance : TIs Tryz.prog 216 11 true 48 [.int .u64 0, .int .u64 0, .int .u32 0, .int .u8 0, .int .u8 0, .int .u8 0, .int .u8 0, .nilFunc, .pointer none, .int .i32 0, .int .i32 0] := ⟨ti216⟩
theorem mixed : Tryz.prog.follows .mixedOrders = true := by kernel_rfl
theorem fn3 : isFn Tryz.prog 3 = true := by kernel_rfl
instance : FnIs Tryz.prog 3 := ⟨fn3⟩
theorem fn4 : isFn Tryz.prog 4 = true := by kernel_rfl
instance : FnIs Tryz.prog 4 := ⟨fn4⟩
theorem fn5 : isFn Tryz.prog 5 = true := by kernel_rfl
instance : FnIs Tryz.prog 5 := ⟨fn5⟩
theorem fn6 : isFn Tryz.prog 6 = true := by kernel_rfl
instance : FnIs Tryz.prog 6 := ⟨fn6⟩
theorem fn7 : isFn Tryz.prog 7 = true := by kernel_rfl
instance : FnIs Tryz.prog 7 := ⟨fn7⟩
theorem fn8 : isFn Tryz.prog 8 = true := by kernel_rfl
instance : FnIs Tryz.prog 8 := ⟨fn8⟩
theorem fn9 : isFn Tryz.prog 9 = true := by kernel_rfl
instance : FnIs Tryz.prog 9 := ⟨fn9⟩
theorem fn10 : isFn Tryz.prog 10 = true := by kernel_rfl
instance : FnIs Tryz.prog 10 := ⟨fn10⟩
theorem fn11 : isFn Tryz.prog 11 = true := by kernel_rfl
instance : FnIs Tryz.prog 11 := ⟨fn11⟩
theorem fn12 : isFn Tryz.prog 12 = true := by kernel_rfl
instance : FnIs Tryz.prog 12 := ⟨fn12⟩
theorem fn13 : isFn Tryz.prog 13 = true := by kernel_rfl
instance : FnIs Tryz.prog 13 := ⟨fn13⟩
theorem fn14 : isFn Tryz.prog 14 = true := by kernel_rfl
instance : FnIs Tryz.prog 14 := ⟨fn14⟩
theorem fn15 : isFn Tryz.prog 15 = true := by kernel_rfl
instance : FnIs Tryz.prog 15 := ⟨fn15⟩
theorem fn16 : isFn Tryz.prog 16 = true := by kernel_rfl
instance : FnIs Tryz.prog 16 := ⟨fn16⟩
theorem fn17 : isFn Tryz.prog 17 = true := by kernel_rfl
instance : FnIs Tryz.prog 17 := ⟨fn17⟩
theorem fn18 : isFn Tryz.prog 18 = true := by kernel_rfl
instance : FnIs Tryz.prog 18 := ⟨fn18⟩
theorem fn19 : isFn Tryz.prog 19 = true := by kernel_rfl
instance : FnIs Tryz.prog 19 := ⟨fn19⟩
theorem fn20 : isFn Tryz.prog 20 = true := by kernel_rfl
instance : FnIs Tryz.prog 20 := ⟨fn20⟩
theorem fn21 : isFn Tryz.prog 21 = true := by kernel_rfl
instance : FnIs Tryz.prog 21 := ⟨fn21⟩
theorem fn22 : isFn Tryz.prog 22 = true := by kernel_rfl
instance : FnIs Tryz.prog 22 := ⟨fn22⟩
theorem fn23 : isFn Tryz.prog 23 = true := by kernel_rfl
instance : FnIs Tryz.prog 23 := ⟨fn23⟩
theorem fn24 : isFn Tryz.prog 24 = true := by kernel_rfl
instance : FnIs Tryz.prog 24 := ⟨fn24⟩
theorem fn25 : isFn Tryz.prog 25 = true := by kernel_rfl
instance : FnIs Tryz.prog 25 := ⟨fn25⟩
theorem fn26 : isFn Tryz.prog 26 = true := by kernel_rfl
instance : FnIs Tryz.prog 26 := ⟨fn26⟩
theorem fn27 : isFn Tryz.prog 27 = true := by kernel_rfl
instance : FnIs Tryz.prog 27 := ⟨fn27⟩
theorem fn28 : isFn Tryz.prog 28 = true := by kernel_rfl
instance : FnIs Tryz.prog 28 := ⟨fn28⟩
theorem fn29 : isFn Tryz.prog 29 = true := by kernel_rfl
instance : FnIs Tryz.prog 29 := ⟨fn29⟩
theorem fn30 : isFn Tryz.prog 30 = true := by kernel_rfl
instance : FnIs Tryz.prog 30 := ⟨fn30⟩
theorem fn31 : isFn Tryz.prog 31 = true := by kernel_rfl
instance : FnIs Tryz.prog 31 := ⟨fn31⟩
theorem fn32 : isFn Tryz.prog 32 = true := by kernel_rfl
instance : FnIs Tryz.prog 32 := ⟨fn32⟩
theorem fn33 : isFn Tryz.prog 33 = true := by kernel_rfl
instance : FnIs Tryz.prog 33 := ⟨fn33⟩
theorem fn34 : isFn Tryz.prog 34 = true := by kernel_rfl
instance : FnIs Tryz.prog 34 := ⟨fn34⟩
theorem fn35 : isFn Tryz.prog 35 = true := by kernel_rfl
instance : FnIs Tryz.prog 35 := ⟨fn35⟩
theorem fn36 : isFn Tryz.prog 36 = true := by kernel_rfl
instance : FnIs Tryz.prog 36 := ⟨fn36⟩
theorem fn37 : isFn Tryz.prog 37 = true := by kernel_rfl
instance : FnIs Tryz.prog 37 := ⟨fn37⟩
theorem fn38 : isFn Tryz.prog 38 = true := by kernel_rfl
instance : FnIs Tryz.prog 38 := ⟨fn38⟩
theorem fn39 : isFn Tryz.prog 39 = true := by kernel_rfl
instance : FnIs Tryz.prog 39 := ⟨fn39⟩
theorem fn40 : isFn Tryz.prog 40 = true := by kernel_rfl
instance : FnIs Tryz.prog 40 := ⟨fn40⟩
theorem fn41 : isFn Tryz.prog 41 = true := by kernel_rfl
instance : FnIs Tryz.prog 41 := ⟨fn41⟩
theorem fn42 : isFn Tryz.prog 42 = true := by kernel_rfl
instance : FnIs Tryz.prog 42 := ⟨fn42⟩
theorem fn43 : isFn Tryz.prog 43 = true := by kernel_rfl
instance : FnIs Tryz.prog 43 := ⟨fn43⟩
theorem fn44 : isFn Tryz.prog 44 = true := by kernel_rfl
instance : FnIs Tryz.prog 44 := ⟨fn44⟩
theorem fn45 : isFn Tryz.prog 45 = true := by kernel_rfl
instance : FnIs Tryz.prog 45 := ⟨fn45⟩
theorem fn46 : isFn Tryz.prog 46 = true := by kernel_rfl
instance : FnIs Tryz.prog 46 := ⟨fn46⟩
theorem fn47 : isFn Tryz.prog 47 = true := by kernel_rfl
instance : FnIs Tryz.prog 47 := ⟨fn47⟩
theorem fn48 : isFn Tryz.prog 48 = true := by kernel_rfl
instance : FnIs Tryz.prog 48 := ⟨fn48⟩
theorem fn49 : isFn Tryz.prog 49 = true := by kernel_rfl
instance : FnIs Tryz.prog 49 := ⟨fn49⟩
theorem fn50 : isFn Tryz.prog 50 = true := by kernel_rfl
instance : FnIs Tryz.prog 50 := ⟨fn50⟩
theorem fn51 : isFn Tryz.prog 51 = true := by kernel_rfl
instance : FnIs Tryz.prog 51 := ⟨fn51⟩
theorem fn52 : isFn Tryz.prog 52 = true := by kernel_rfl
instance : FnIs Tryz.prog 52 := ⟨fn52⟩
theorem fn53 : isFn Tryz.prog 53 = true := by kernel_rfl
instance : FnIs Tryz.prog 53 := ⟨fn53⟩
theorem fn54 : isFn Tryz.prog 54 = true := by kernel_rfl
instance : FnIs Tryz.prog 54 := ⟨fn54⟩
theorem fn55 : isFn Tryz.prog 55 = true := by kernel_rfl
instance : FnIs Tryz.prog 55 := ⟨fn55⟩
theorem fn56 : isFn Tryz.prog 56 = true := by kernel_rfl
instance : FnIs Tryz.prog 56 := ⟨fn56⟩
theorem fn57 : isFn Tryz.prog 57 = true := by kernel_rfl
instance : FnIs Tryz.prog 57 := ⟨fn57⟩
theorem fn58 : isFn Tryz.prog 58 = true := by kernel_rfl
instance : FnIs Tryz.prog 58 := ⟨fn58⟩
theorem fn59 : isFn Tryz.prog 59 = true := by kernel_rfl
instance : FnIs Tryz.prog 59 := ⟨fn59⟩
theorem fn60 : isFn Tryz.prog 60 = true := by kernel_rfl
instance : FnIs Tryz.prog 60 := ⟨fn60⟩
theorem fn61 : isFn Tryz.prog 61 = true := by kernel_rfl
instance : FnIs Tryz.prog 61 := ⟨fn61⟩
theorem fn62 : isFn Tryz.prog 62 = true := by kernel_rfl
instance : FnIs Tryz.prog 62 := ⟨fn62⟩
theorem fn63 : isFn Tryz.prog 63 = true := by kernel_rfl
instance : FnIs Tryz.prog 63 := ⟨fn63⟩
theorem fn64 : isFn Tryz.prog 64 = true := by kernel_rfl
instance : FnIs Tryz.prog 64 := ⟨fn64⟩
theorem fn65 : isFn Tryz.prog 65 = true := by kernel_rfl
instance : FnIs Tryz.prog 65 := ⟨fn65⟩
theorem fn66 : isFn Tryz.prog 66 = true := by kernel_rfl
instance : FnIs Tryz.prog 66 := ⟨fn66⟩
theorem fn67 : isFn Tryz.prog 67 = true := by kernel_rfl
instance : FnIs Tryz.prog 67 := ⟨fn67⟩
theorem fn68 : isFn Tryz.prog 68 = true := by kernel_rfl
instance : FnIs Tryz.prog 68 := ⟨fn68⟩
theorem fn69 : isFn Tryz.prog 69 = true := by kernel_rfl
instance : FnIs Tryz.prog 69 := ⟨fn69⟩
theorem fn70 : isFn Tryz.prog 70 = true := by kernel_rfl
instance : FnIs Tryz.prog 70 := ⟨fn70⟩
theorem fn71 : isFn Tryz.prog 71 = true := by kernel_rfl
instance : FnIs Tryz.prog 71 := ⟨fn71⟩
theorem fn72 : isFn Tryz.prog 72 = true := by kernel_rfl
instance : FnIs Tryz.prog 72 := ⟨fn72⟩
theorem fn73 : isFn Tryz.prog 73 = true := by kernel_rfl
instance : FnIs Tryz.prog 73 := ⟨fn73⟩
theorem fn74 : isFn Tryz.prog 74 = true := by kernel_rfl
instance : FnIs Tryz.prog 74 := ⟨fn74⟩
theorem fn75 : isFn Tryz.prog 75 = true := by kernel_rfl
instance : FnIs Tryz.prog 75 := ⟨fn75⟩
theorem fn76 : isFn Tryz.prog 76 = true := by kernel_rfl
instance : FnIs Tryz.prog 76 := ⟨fn76⟩
theorem fn77 : isFn Tryz.prog 77 = true := by kernel_rfl
instance : FnIs Tryz.prog 77 := ⟨fn77⟩
theorem fn78 : isFn Tryz.prog 78 = true := by kernel_rfl
instance : FnIs Tryz.prog 78 := ⟨fn78⟩
theorem fn79 : isFn Tryz.prog 79 = true := by kernel_rfl
instance : FnIs Tryz.prog 79 := ⟨fn79⟩
theorem fn80 : isFn Tryz.prog 80 = true := by kernel_rfl
instance : FnIs Tryz.prog 80 := ⟨fn80⟩
theorem fn81 : isFn Tryz.prog 81 = true := by kernel_rfl
instance : FnIs Tryz.prog 81 := ⟨fn81⟩
theorem fn82 : isFn Tryz.prog 82 = true := by kernel_rfl
instance : FnIs Tryz.prog 82 := ⟨fn82⟩
theorem fn83 : isFn Tryz.prog 83 = true := by kernel_rfl
instance : FnIs Tryz.prog 83 := ⟨fn83⟩
theorem fn84 : isFn Tryz.prog 84 = true := by kernel_rfl
instance : FnIs Tryz.prog 84 := ⟨fn84⟩
theorem fn85 : isFn Tryz.prog 85 = true := by kernel_rfl
instance : FnIs Tryz.prog 85 := ⟨fn85⟩
theorem fn86 : isFn Tryz.prog 86 = true := by kernel_rfl
instance : FnIs Tryz.prog 86 := ⟨fn86⟩
theorem fn87 : isFn Tryz.prog 87 = true := by kernel_rfl
instance : FnIs Tryz.prog 87 := ⟨fn87⟩
theorem fn88 : isFn Tryz.prog 88 = true := by kernel_rfl
instance : FnIs Tryz.prog 88 := ⟨fn88⟩
theorem fn89 : isFn Tryz.prog 89 = true := by kernel_rfl
instance : FnIs Tryz.prog 89 := ⟨fn89⟩
theorem fn90 : isFn Tryz.prog 90 = true := by kernel_rfl
instance : FnIs Tryz.prog 90 := ⟨fn90⟩
theorem fn91 : isFn Tryz.prog 91 = true := by kernel_rfl
instance : FnIs Tryz.prog 91 := ⟨fn91⟩
theorem fn92 : isFn Tryz.prog 92 = true := by kernel_rfl
instance : FnIs Tryz.prog 92 := ⟨fn92⟩
theorem fn93 : isFn Tryz.prog 93 = true := by kernel_rfl
instance : FnIs Tryz.prog 93 := ⟨fn93⟩
theorem fn94 : isFn Tryz.prog 94 = true := by kernel_rfl
instance : FnIs Tryz.prog 94 := ⟨fn94⟩
theorem fn95 : isFn Tryz.prog 95 = true := by kernel_rfl
instance : FnIs Tryz.prog 95 := ⟨fn95⟩
theorem fn96 : isFn Tryz.prog 96 = true := by kernel_rfl
instance : FnIs Tryz.prog 96 := ⟨fn96⟩
theorem fn97 : isFn Tryz.prog 97 = true := by kernel_rfl
instance : FnIs Tryz.prog 97 := ⟨fn97⟩
theorem fn98 : isFn Tryz.prog 98 = true := by kernel_rfl
instance : FnIs Tryz.prog 98 := ⟨fn98⟩
theorem fn99 : isFn Tryz.prog 99 = true := by kernel_rfl
instance : FnIs Tryz.prog 99 := ⟨fn99⟩
theorem fn100 : isFn Tryz.prog 100 = true := by kernel_rfl
instance : FnIs Tryz.prog 100 := ⟨fn100⟩
theorem fn101 : isFn Tryz.prog 101 = true := by kernel_rfl
instance : FnIs Tryz.prog 101 := ⟨fn101⟩
theorem fn102 : isFn Tryz.prog 102 = true := by kernel_rfl
instance : FnIs Tryz.prog 102 := ⟨fn102⟩
theorem fn103 : isFn Tryz.prog 103 = true := by kernel_rfl
instance : FnIs Tryz.prog 103 := ⟨fn103⟩
theorem fn104 : isFn Tryz.prog 104 = true := by kernel_rfl
instance : FnIs Tryz.prog 104 := ⟨fn104⟩
theorem fn105 : isFn Tryz.prog 105 = true := by kernel_rfl
instance : FnIs Tryz.prog 105 := ⟨fn105⟩
theorem fn106 : isFn Tryz.prog 106 = true := by kernel_rfl
instance : FnIs Tryz.prog 106 := ⟨fn106⟩
theorem fn107 : isFn Tryz.prog 107 = true := by kernel_rfl
instance : FnIs Tryz.prog 107 := ⟨fn107⟩
theorem fn108 : isFn Tryz.prog 108 = true := by kernel_rfl
instance : FnIs Tryz.prog 108 := ⟨fn108⟩
theorem fn109 : isFn Tryz.prog 109 = true := by kernel_rfl
instance : FnIs Tryz.prog 109 := ⟨fn109⟩
theorem fn110 : isFn Tryz.prog 110 = true := by kernel_rfl
instance : FnIs Tryz.prog 110 := ⟨fn110⟩
theorem fn111 : isFn Tryz.prog 111 = true := by kernel_rfl
instance : FnIs Tryz.prog 111 := ⟨fn111⟩
theorem fn112 : isFn Tryz.prog 112 = true := by kernel_rfl
instance : FnIs Tryz.prog 112 := ⟨fn112⟩
theorem fn113 : isFn Tryz.prog 113 = true := by kernel_rfl
instance : FnIs Tryz.prog 113 := ⟨fn113⟩
theorem fn114 : isFn Tryz.prog 114 = true := by kernel_rfl
instance : FnIs Tryz.prog 114 := ⟨fn114⟩
theorem fn115 : isFn Tryz.prog 115 = true := by kernel_rfl
instance : FnIs Tryz.prog 115 := ⟨fn115⟩
theorem fn116 : isFn Tryz.prog 116 = true := by kernel_rfl
instance : FnIs Tryz.prog 116 := ⟨fn116⟩
theorem fn117 : isFn Tryz.prog 117 = true := by kernel_rfl
instance : FnIs Tryz.prog 117 := ⟨fn117⟩
theorem fn118 : isFn Tryz.prog 118 = true := by kernel_rfl
instance : FnIs Tryz.prog 118 := ⟨fn118⟩
theorem fn119 : isFn Tryz.prog 119 = true := by kernel_rfl
instance : FnIs Tryz.prog 119 := ⟨fn119⟩
theorem fn120 : isFn Tryz.prog 120 = true := by kernel_rfl
instance : FnIs Tryz.prog 120 := ⟨fn120⟩
theorem fn121 : isFn Tryz.prog 121 = true := by kernel_rfl
instance : FnIs Tryz.prog 121 := ⟨fn121⟩
theorem fn122 : isFn Tryz.prog 122 = true := by kernel_rfl
instance : FnIs Tryz.prog 122 := ⟨fn122⟩
theorem fn123 : isFn Tryz.prog 123 = true := by kernel_rfl
instance : FnIs Tryz.prog 123 := ⟨fn123⟩
theorem fn124 : isFn Tryz.prog 124 = true := by kernel_rfl
instance : FnIs Tryz.prog 124 := ⟨fn124⟩
theorem fn125 : isFn Tryz.prog 125 = true := by kernel_rfl
instance : FnIs Tryz.prog 125 := ⟨fn125⟩
theorem fn126 : isFn Tryz.prog 126 = true := by kernel_rfl
instance : FnIs Tryz.prog 126 := ⟨fn126⟩
theorem fn127 : isFn Tryz.prog 127 = true := by kernel_rfl
instance : FnIs Tryz.prog 127 := ⟨fn127⟩
theorem fn128 : isFn Tryz.prog 128 = true := by kernel_rfl
instance : FnIs Tryz.prog 128 := ⟨fn128⟩
theorem fn129 : isFn Tryz.prog 129 = true := by kernel_rfl
instance : FnIs Tryz.prog 129 := ⟨fn129⟩
theorem fn130 : isFn Tryz.prog 130 = true := by kernel_rfl
instance : FnIs Tryz.prog 130 := ⟨fn130⟩
theorem fn131 : isFn Tryz.prog 131 = true := by kernel_rfl
instance : FnIs Tryz.prog 131 := ⟨fn131⟩
theorem fn132 : isFn Tryz.prog 132 = true := by kernel_rfl
instance : FnIs Tryz.prog 132 := ⟨fn132⟩
theorem fn133 : isFn Tryz.prog 133 = true := by kernel_rfl
instance : FnIs Tryz.prog 133 := ⟨fn133⟩
theorem fn134 : isFn Tryz.prog 134 = true := by kernel_rfl
instance : FnIs Tryz.prog 134 := ⟨fn134⟩
theorem fn135 : isFn Tryz.prog 135 = true := by kernel_rfl
instance : FnIs Tryz.prog 135 := ⟨fn135⟩
theorem fn136 : isFn Tryz.prog 136 = true := by kernel_rfl
instance : FnIs Tryz.prog 136 := ⟨fn136⟩
theorem fn137 : isFn Tryz.prog 137 = true := by kernel_rfl
instance : FnIs Tryz.prog 137 := ⟨fn137⟩
theorem fn138 : isFn Tryz.prog 138 = true := by kernel_rfl
instance : FnIs Tryz.prog 138 := ⟨fn138⟩
theorem fn139 : isFn Tryz.prog 139 = true := by kernel_rfl
instance : FnIs Tryz.prog 139 := ⟨fn139⟩
theorem fn140 : isFn Tryz.prog 140 = true := by kernel_rfl
instance : FnIs Tryz.prog 140 := ⟨fn140⟩
theorem fn141 : isFn Tryz.prog 141 = true := by kernel_rfl
instance : FnIs Tryz.prog 141 := ⟨fn141⟩
theorem fn142 : isFn Tryz.prog 142 = true := by kernel_rfl
instance : FnIs Tryz.prog 142 := ⟨fn142⟩
theorem fn143 : isFn Tryz.prog 143 = true := by kernel_rfl
instance : FnIs Tryz.prog 143 := ⟨fn143⟩
theorem fn144 : isFn Tryz.prog 144 = true := by kernel_rfl
instance : FnIs Tryz.prog 144 := ⟨fn144⟩
theorem fn145 : isFn Tryz.prog 145 = true := by kernel_rfl
instance : FnIs Tryz.prog 145 := ⟨fn145⟩
theorem fn146 : isFn Tryz.prog 146 = true := by kernel_rfl
instance : FnIs Tryz.prog 146 := ⟨fn146⟩
theorem fn147 : isFn Tryz.prog 147 = true := by kernel_rfl
instance : FnIs Tryz.prog 147 := ⟨fn147⟩
theorem fn148 : isFn Tryz.prog 148 = true := by kernel_rfl
instance : FnIs Tryz.prog 148 := ⟨fn148⟩
theorem fn149 : isFn Tryz.prog 149 = true := by kernel_rfl
instance : FnIs Tryz.prog 149 := ⟨fn149⟩
theorem fn150 : isFn Tryz.prog 150 = true := by kernel_rfl
instance : FnIs Tryz.prog 150 := ⟨fn150⟩
theorem fn151 : isFn Tryz.prog 151 = true := by kernel_rfl
instance : FnIs Tryz.prog 151 := ⟨fn151⟩
theorem fn152 : isFn Tryz.prog 152 = true := by kernel_rfl
instance : FnIs Tryz.prog 152 := ⟨fn152⟩
theorem fn153 : isFn Tryz.prog 153 = true := by kernel_rfl
instance : FnIs Tryz.prog 153 := ⟨fn153⟩
theorem fn154 : isFn Tryz.prog 154 = true := by kernel_rfl
instance : FnIs Tryz.prog 154 := ⟨fn154⟩
theorem fn155 : isFn Tryz.prog 155 = true := by kernel_rfl
instance : FnIs Tryz.prog 155 := ⟨fn155⟩
theorem fn156 : isFn Tryz.prog 156 = true := by kernel_rfl
instance : FnIs Tryz.prog 156 := ⟨fn156⟩
theorem fn157 : isFn Tryz.prog 157 = true := by kernel_rfl
instance : FnIs Tryz.prog 157 := ⟨fn157⟩
theorem fn158 : isFn Tryz.prog 158 = true := by kernel_rfl
instance : FnIs Tryz.prog 158 := ⟨fn158⟩
theorem fn159 : isFn Tryz.prog 159 = true := by kernel_rfl
instance : FnIs Tryz.prog 159 := ⟨fn159⟩
theorem fn160 : isFn Tryz.prog 160 = true := by kernel_rfl
instance : FnIs Tryz.prog 160 := ⟨fn160⟩
theorem fn161 : isFn Tryz.prog 161 = true := by kernel_rfl
instance : FnIs Tryz.prog 161 := ⟨fn161⟩
theorem fn162 : isFn Tryz.prog 162 = true := by kernel_rfl
instance : FnIs Tryz.prog 162 := ⟨fn162⟩
theorem fn163 : isFn Tryz.prog 163 = true := by kernel_rfl
instance : FnIs Tryz.prog 163 := ⟨fn163⟩
theorem fn164 : isFn Tryz.prog 164 = true := by kernel_rfl
instance : FnIs Tryz.prog 164 := ⟨fn164⟩
theorem fn165 : isFn Tryz.prog 165 = true := by kernel_rfl
instance : FnIs Tryz.prog 165 := ⟨fn165⟩
theorem fn166 : isFn Tryz.prog 166 = true := by kernel_rfl
instance : FnIs Tryz.prog 166 := ⟨fn166⟩
theorem fn167 : isFn Tryz.prog 167 = true := by kernel_rfl
instance : FnIs Tryz.prog 167 := ⟨fn167⟩
theorem fn168 : isFn Tryz.prog 168 = true := by kernel_rfl
instance : FnIs Tryz.prog 168 := ⟨fn168⟩
theorem fn169 : isFn Tryz.prog 169 = true := by kernel_rfl
instance : FnIs Tryz.prog 169 := ⟨fn169⟩
theorem fn170 : isFn Tryz.prog 170 = true := by kernel_rfl
instance : FnIs Tryz.prog 170 := ⟨fn170⟩
theorem fn171 : isFn Tryz.prog 171 = true := by kernel_rfl
instance : FnIs Tryz.prog 171 := ⟨fn171⟩
theorem fn172 : isFn Tryz.prog 172 = true := by kernel_rfl
instance : FnIs Tryz.prog 172 := ⟨fn172⟩
theorem fn173 : isFn Tryz.prog 173 = true := by kernel_rfl
instance : FnIs Tryz.prog 173 := ⟨fn173⟩
theorem fn174 : isFn Tryz.prog 174 = true := by kernel_rfl
instance : FnIs Tryz.prog 174 := ⟨fn174⟩
theorem fn175 : isFn Tryz.prog 175 = true := by kernel_rfl
instance : FnIs Tryz.prog 175 := ⟨fn175⟩
theorem fn176 : isFn Tryz.prog 176 = true := by kernel_rfl
instance : FnIs Tryz.prog 176 := ⟨fn176⟩
theorem fn177 : isFn Tryz.prog 177 = true := by kernel_rfl
instance : FnIs Tryz.prog 177 := ⟨fn177⟩
theorem fn178 : isFn Tryz.prog 178 = true := by kernel_rfl
instance : FnIs Tryz.prog 178 := ⟨fn178⟩
theorem fn181 : isFn Tryz.prog 181 = true := by kernel_rfl
instance : FnIs Tryz.prog 181 := ⟨fn181⟩
theorem fn182 : isFn Tryz.prog 182 = true := by kernel_rfl
instance : FnIs Tryz.prog 182 := ⟨fn182⟩
theorem fn183 : isFn Tryz.prog 183 = true := by kernel_rfl
instance : FnIs Tryz.prog 183 := ⟨fn183⟩
theorem fn184 : isFn Tryz.prog 184 = true := by kernel_rfl
instance : FnIs Tryz.prog 184 := ⟨fn184⟩
theorem fn185 : isFn Tryz.prog 185 = true := by kernel_rfl
instance : FnIs Tryz.prog 185 := ⟨fn185⟩
theorem fn186 : isFn Tryz.prog 186 = true := by kernel_rfl
instance : FnIs Tryz.prog 186 := ⟨fn186⟩
theorem fn187 : isFn Tryz.prog 187 = true := by kernel_rfl
instance : FnIs Tryz.prog 187 := ⟨fn187⟩
theorem fn189 : isFn Tryz.prog 189 = true := by kernel_rfl
instance : FnIs Tryz.prog 189 := ⟨fn189⟩
theorem fn190 : isFn Tryz.prog 190 = true := by kernel_rfl
instance : FnIs Tryz.prog 190 := ⟨fn190⟩
theorem fn191 : isFn Tryz.prog 191 = true := by kernel_rfl
instance : FnIs Tryz.prog 191 := ⟨fn191⟩
theorem fn192 : isFn Tryz.prog 192 = true := by kernel_rfl
instance : FnIs Tryz.prog 192 := ⟨fn192⟩
theorem fn193 : isFn Tryz.prog 193 = true := by kernel_rfl
instance : FnIs Tryz.prog 193 := ⟨fn193⟩
theorem fn194 : isFn Tryz.prog 194 = true := by kernel_rfl
instance : FnIs Tryz.prog 194 := ⟨fn194⟩
end Go.Proofs.YthmmofllajkejaaGreatDoor
