/- Lemmas for bernSlopes, part 2. -/
import Derived.Test.YteeckcbbnegmcaaGreatDoorProg
import Derived.KernelRfl
import Derived.Deep.AppendSrc
import Derived.Deep.Upon
import Init
import Derived.Laws.Externs
import Derived.Lib.Mul64
import Derived.Test.YteeckcbbnegmcaaGreatDoorZ1
namespace Go.Proofs.YteeckcbbnegmcaaGreatDoor
set_option maxRecDepth 100000
class bk (P : Program) (t : TypeId) (d : outParam TypeDesc) : Prop where out : P.underlying t = some d := by kernel_rfl
class aM (P : Program) (t : TypeId) (n : outParam Nat) (ag : outParam Bool) (b : outParam Nat) (zc : outParam (List Value)) : Prop where out : dr P t = some (n, ag, b, zc) := by kernel_rfl
class eX (P : Program) (s : TypeId) (f : Nat) (off : outParam Nat) (ft : outParam TypeId) : Prop where out : gK P s f = some (off, ft) := by kernel_rfl
class kW (P : Program) (s : TypeId) (pl : outParam (List (Nat × Nat))) : Prop where out : qh P s = some pl := by kernel_rfl
class al (P : Program) (f : FuncId) : Prop where out : CH P f = true := by kernel_rfl
theorem aM.size {P : Program} {t : TypeId} {n b : Nat} {ag : Bool} {zc : List Value} [h : aM P t n ag b zc] : (P.info? t).map (·.size) = some n := by
 obtain ⟨i, z, d, hi, hd, hz, hs, _⟩ := eG h.out;rw [hi, Wj, hs]
instance : bk Tryz.prog 2 (.int .i64) := {}
instance : aM Tryz.prog 2 1 false 8 [.int .i64 0] := {}
instance : bk Tryz.prog 3 (.int .i64) := {}
instance : aM Tryz.prog 3 1 false 8 [.int .i64 0] := {}
instance : bk Tryz.prog 4 (.bool) := {}
instance : aM Tryz.prog 4 1 false 1 [.bool false] := {}
instance : bk Tryz.prog 5 (.int .u8) := {}
instance : aM Tryz.prog 5 1 false 1 [.int .u8 0] := {}
instance : bk Tryz.prog 6 (.int .u8) := {}
instance : aM Tryz.prog 6 1 false 1 [.int .u8 0] := {}
instance : aM Tryz.prog 7 4 true 24 [.int .i64 0, .int .i64 0, .bool false, .int .u8 0] := {}
instance : eX Tryz.prog 7 0 0 2 := {}
instance : eX Tryz.prog 7 1 1 3 := {}
instance : eX Tryz.prog 7 2 2 4 := {}
instance : eX Tryz.prog 7 3 3 6 := {}
instance : kW Tryz.prog 7 [(0, 1), (1, 1), (2, 1), (3, 1)] := {}
instance : aM Tryz.prog 8 4 true 24 [.int .i64 0, .int .i64 0, .bool false, .int .u8 0] := {}
instance : eX Tryz.prog 8 0 0 2 := {}
instance : eX Tryz.prog 8 1 1 3 := {}
instance : eX Tryz.prog 8 2 2 4 := {}
instance : eX Tryz.prog 8 3 3 6 := {}
instance : kW Tryz.prog 8 [(0, 1), (1, 1), (2, 1), (3, 1)] := {}
instance : bk Tryz.prog 9 (.string) := {}
instance : aM Tryz.prog 9 1 false 16 [.string { data := #[] }] := {}
instance : bk Tryz.prog 10 (.string) := {}
instance : aM Tryz.prog 10 1 false 16 [.string { data := #[] }] := {}
instance : bk Tryz.prog 11 (.string) := {}
instance : aM Tryz.prog 11 1 false 16 [.string { data := #[] }] := {}
instance : bk Tryz.prog 12 (.int .u64) := {}
instance : aM Tryz.prog 12 1 false 8 [.int .u64 0] := {}
instance : aM Tryz.prog 13 2 true 24 [.string { data := #[] }, .int .u64 0] := {}
instance : eX Tryz.prog 13 0 0 9 := {}
instance : eX Tryz.prog 13 1 1 12 := {}
instance : kW Tryz.prog 13 [(0, 1), (1, 1)] := {}
instance : aM Tryz.prog 14 2 true 24 [.string { data := #[] }, .int .u64 0] := {}
instance : eX Tryz.prog 14 0 0 9 := {}
instance : eX Tryz.prog 14 1 1 12 := {}
instance : kW Tryz.prog 14 [(0, 1), (1, 1)] := {}
instance : bk Tryz.prog 15 (.pointer 278) := {}
instance : aM Tryz.prog 15 1 false 8 [.pointer none] := {}
instance : bk Tryz.prog 16 (.pointer 281) := {}
instance : aM Tryz.prog 16 1 false 8 [.pointer none] := {}
instance : bk Tryz.prog 17 (.pointer 290) := {}
instance : aM Tryz.prog 17 1 false 8 [.pointer none] := {}
instance : aM Tryz.prog 18 1 true 8 [.pointer none] := {}
instance : eX Tryz.prog 18 0 0 17 := {}
instance : kW Tryz.prog 18 [(0, 1)] := {}
instance : aM Tryz.prog 19 1 true 8 [.pointer none] := {}
instance : eX Tryz.prog 19 0 0 17 := {}
instance : kW Tryz.prog 19 [(0, 1)] := {}
instance : bk Tryz.prog 21 (.int .i32) := {}
instance : aM Tryz.prog 21 1 false 4 [.int .i32 0] := {}
instance : bk Tryz.prog 22 (.slice 96) := {}
instance : aM Tryz.prog 22 1 false 24 [.slice none 0 0] := {}
instance : aM Tryz.prog 23 2 true 32 [.int .i64 0, .slice none 0 0] := {}
instance : eX Tryz.prog 23 0 0 3 := {}
instance : eX Tryz.prog 23 1 1 22 := {}
instance : kW Tryz.prog 23 [(0, 1), (1, 1)] := {}
instance : aM Tryz.prog 24 2 true 32 [.int .i64 0, .slice none 0 0] := {}
instance : eX Tryz.prog 24 0 0 3 := {}
instance : eX Tryz.prog 24 1 1 22 := {}
instance : kW Tryz.prog 24 [(0, 1), (1, 1)] := {}
instance : bk Tryz.prog 27 (.int .i64) := {}
instance : aM Tryz.prog 27 1 false 8 [.int .i64 0] := {}
instance : bk Tryz.prog 33 (.slice 81) := {}
instance : aM Tryz.prog 33 1 false 24 [.slice none 0 0] := {}
instance : bk Tryz.prog 34 (.slice 81) := {}
instance : aM Tryz.prog 34 1 false 24 [.slice none 0 0] := {}
instance : bk Tryz.prog 35 (.slice 3) := {}
instance : aM Tryz.prog 35 1 false 24 [.slice none 0 0] := {}
instance : bk Tryz.prog 37 (.slice 65) := {}
instance : aM Tryz.prog 37 1 false 24 [.slice none 0 0] := {}
instance : aM Tryz.prog 38 2 true 48 [.slice none 0 0, .slice none 0 0] := {}
instance : eX Tryz.prog 38 0 0 35 := {}
instance : eX Tryz.prog 38 1 1 37 := {}
instance : kW Tryz.prog 38 [(0, 1), (1, 1)] := {}
instance : aM Tryz.prog 39 2 true 48 [.slice none 0 0, .slice none 0 0] := {}
instance : eX Tryz.prog 39 0 0 35 := {}
instance : eX Tryz.prog 39 1 1 37 := {}
instance : kW Tryz.prog 39 [(0, 1), (1, 1)] := {}
instance : aM Tryz.prog 62 2 true 24 [.bool false, .string { data := #[] }] := {}
instance : eX Tryz.prog 62 0 0 4 := {}
instance : eX Tryz.prog 62 1 1 9 := {}
instance : kW Tryz.prog 62 [(0, 1), (1, 1)] := {}
instance : aM Tryz.prog 63 2 true 24 [.bool false, .string { data := #[] }] := {}
instance : eX Tryz.prog 63 0 0 4 := {}
instance : eX Tryz.prog 63 1 1 9 := {}
instance : kW Tryz.prog 63 [(0, 1), (1, 1)] := {}
instance : aM Tryz.prog 64 3 true 32 [.bool false, .string { data := #[] }, .int .i64 0] := {}
instance : eX Tryz.prog 64 0 0 63 := {}
instance : eX Tryz.prog 64 1 2 3 := {}
instance : kW Tryz.prog 64 [(0, 2), (2, 1)] := {}
instance : aM Tryz.prog 65 3 true 32 [.bool false, .string { data := #[] }, .int .i64 0] := {}
instance : eX Tryz.prog 65 0 0 63 := {}
instance : eX Tryz.prog 65 1 2 3 := {}
instance : kW Tryz.prog 65 [(0, 2), (2, 1)] := {}
instance : aM Tryz.prog 80 6 true 64 [.bool false, .string { data := #[] }, .int .i64 0, .bool false, .string { data := #[] }, .int .i64 0] := {}
instance : eX Tryz.prog 80 0 0 65 := {}
instance : eX Tryz.prog 80 1 3 65 := {}
instance : kW Tryz.prog 80 [(0, 3), (3, 3)] := {}
instance : aM Tryz.prog 81 6 true 64 [.bool false, .string { data := #[] }, .int .i64 0, .bool false, .string { data := #[] }, .int .i64 0] := {}
instance : eX Tryz.prog 81 0 0 65 := {}
instance : eX Tryz.prog 81 1 3 65 := {}
instance : kW Tryz.prog 81 [(0, 3), (3, 3)] := {}
instance : bk Tryz.prog 91 (.slice 65) := {}
instance : aM Tryz.prog 91 1 false 24 [.slice none 0 0] := {}
instance : aM Tryz.prog 95 4 true 48 [.string { data := #[] }, .bool false, .string { data := #[] }, .int .i64 0] := {}
instance : eX Tryz.prog 95 0 0 9 := {}
instance : eX Tryz.prog 95 1 1 65 := {}
instance : kW Tryz.prog 95 [(0, 1), (1, 3)] := {}
instance : aM Tryz.prog 96 4 true 48 [.string { data := #[] }, .bool false, .string { data := #[] }, .int .i64 0] := {}
instance : eX Tryz.prog 96 0 0 9 := {}
instance : eX Tryz.prog 96 1 1 65 := {}
instance : kW Tryz.prog 96 [(0, 1), (1, 3)] := {}
instance : bk Tryz.prog 101 (.slice 5) := {}
instance : aM Tryz.prog 101 1 false 24 [.slice none 0 0] := {}
instance : bk Tryz.prog 104 (.slice 24) := {}
instance : aM Tryz.prog 104 1 false 24 [.slice none 0 0] := {}
instance : aM Tryz.prog 118 2 true 16 [.int .i64 0, .int .i64 0] := {}
instance : eX Tryz.prog 118 0 0 3 := {}
instance : eX Tryz.prog 118 1 1 3 := {}
instance : kW Tryz.prog 118 [(0, 1), (1, 1)] := {}
instance : aM Tryz.prog 119 2 true 16 [.int .i64 0, .int .i64 0] := {}
instance : eX Tryz.prog 119 0 0 3 := {}
instance : eX Tryz.prog 119 1 1 3 := {}
instance : kW Tryz.prog 119 [(0, 1), (1, 1)] := {}
instance : aM Tryz.prog 125 9 true 96 [.bool false, .string { data := #[] }, .int .i64 0, .bool false, .string { data := #[] }, .int .i64 0, .bool false, .string { data := #[] }, .int .i64 0] := {}
instance : eX Tryz.prog 125 0 0 81 := {}
instance : eX Tryz.prog 125 1 6 65 := {}
instance : kW Tryz.prog 125 [(0, 6), (6, 3)] := {}
instance : aM Tryz.prog 126 9 true 96 [.bool false, .string { data := #[] }, .int .i64 0, .bool false, .string { data := #[] }, .int .i64 0, .bool false, .string { data := #[] }, .int .i64 0] := {}
instance : eX Tryz.prog 126 0 0 81 := {}
instance : eX Tryz.prog 126 1 6 65 := {}
instance : kW Tryz.prog 126 [(0, 6), (6, 3)] := {}
instance : bk Tryz.prog 131 (.int .u64) := {}
instance : aM Tryz.prog 131 1 false 8 [.int .u64 0] := {}
instance : bk Tryz.prog 140 (.slice 9) := {}
instance : aM Tryz.prog 140 1 false 24 [.slice none 0 0] := {}
instance : bk Tryz.prog 155 (.int .i64) := {}
instance : aM Tryz.prog 155 1 false 8 [.int .i64 0] := {}
instance : aM Tryz.prog 156 5 true 56 [.int .i64 0, .bool false, .string { data := #[] }, .bool false, .string { data := #[] }] := {}
instance : eX Tryz.prog 156 0 0 155 := {}
instance : eX Tryz.prog 156 1 1 63 := {}
instance : eX Tryz.prog 156 2 3 63 := {}
instance : kW Tryz.prog 156 [(0, 1), (1, 2), (3, 2)] := {}
instance : aM Tryz.prog 157 5 true 56 [.int .i64 0, .bool false, .string { data := #[] }, .bool false, .string { data := #[] }] := {}
instance : eX Tryz.prog 157 0 0 155 := {}
instance : eX Tryz.prog 157 1 1 63 := {}
instance : eX Tryz.prog 157 2 3 63 := {}
instance : kW Tryz.prog 157 [(0, 1), (1, 2), (3, 2)] := {}
instance : bk Tryz.prog 166 (.slice 168) := {}
instance : aM Tryz.prog 166 1 false 24 [.slice none 0 0] := {}
instance : aM Tryz.prog 167 1 true 24 [.slice none 0 0] := {}
instance : eX Tryz.prog 167 0 0 37 := {}
instance : kW Tryz.prog 167 [(0, 1)] := {}
instance : aM Tryz.prog 168 1 true 24 [.slice none 0 0] := {}
instance : eX Tryz.prog 168 0 0 37 := {}
instance : kW Tryz.prog 168 [(0, 1)] := {}
instance : bk Tryz.prog 181 (.slice 2) := {}
instance : aM Tryz.prog 181 1 false 24 [.slice none 0 0] := {}
instance : aM Tryz.prog 182 6 true 64 [.bool false, .string { data := #[] }, .int .i64 0, .bool false, .string { data := #[] }, .int .i64 0] := {}
instance : eX Tryz.prog 182 0 0 65 := {}
instance : eX Tryz.prog 182 1 3 65 := {}
instance : kW Tryz.prog 182 [(0, 3), (3, 3)] := {}
instance : aM Tryz.prog 183 6 true 64 [.bool false, .string { data := #[] }, .int .i64 0, .bool false, .string { data := #[] }, .int .i64 0] := {}
instance : eX Tryz.prog 183 0 0 65 := {}
instance : eX Tryz.prog 183 1 3 65 := {}
instance : kW Tryz.prog 183 [(0, 3), (3, 3)] := {}
instance : bk Tryz.prog 196 (.slice 63) := {}
instance : aM Tryz.prog 196 1 false 24 [.slice none 0 0] := {}
instance : bk Tryz.prog 197 (.string) := {}
instance : aM Tryz.prog 197 1 false 16 [.string { data := #[] }] := {}
instance : aM Tryz.prog 198 2 true 24 [.string { data := #[] }, .bool false] := {}
instance : eX Tryz.prog 198 0 0 197 := {}
instance : eX Tryz.prog 198 1 1 4 := {}
instance : kW Tryz.prog 198 [(0, 1), (1, 1)] := {}
instance : aM Tryz.prog 199 2 true 24 [.string { data := #[] }, .bool false] := {}
instance : eX Tryz.prog 199 0 0 197 := {}
instance : eX Tryz.prog 199 1 1 4 := {}
instance : kW Tryz.prog 199 [(0, 1), (1, 1)] := {}
instance : bk Tryz.prog 204 (.int .u64) := {}
instance : aM Tryz.prog 204 1 false 8 [.int .u64 0] := {}
instance : bk Tryz.prog 205 (.pointer 168) := {}
instance : aM Tryz.prog 205 1 false 8 [.pointer none] := {}
instance : aM Tryz.prog 206 6 true 64 [.bool false, .string { data := #[] }, .int .i64 0, .bool false, .string { data := #[] }, .int .i64 0] := {}
instance : eX Tryz.prog 206 0 0 81 := {}
instance : kW Tryz.prog 206 [(0, 6)] := {}
instance : aM Tryz.prog 207 6 true 64 [.bool false, .string { data := #[] }, .int .i64 0, .bool false, .string { data := #[] }, .int .i64 0] := {}
instance : eX Tryz.prog 207 0 0 81 := {}
instance : kW Tryz.prog 207 [(0, 6)] := {}
instance : bk Tryz.prog 226 (.slice 204) := {}
instance : aM Tryz.prog 226 1 false 24 [.slice none 0 0] := {}
instance : bk Tryz.prog 227 (.slice 204) := {}
instance : aM Tryz.prog 227 1 false 24 [.slice none 0 0] := {}
instance : bk Tryz.prog 244 (.array 64 5) := {}
instance : aM Tryz.prog 244 64 true 64 [.int .u8 0, .int .u8 0, .int .u8 0, .int .u8 0, .int .u8 0, .int .u8 0, .int .u8 0, .int .u8 0, .int .u8 0, .int .u8 0, .int .u8 0, .int .u8 0, .int .u8 0, .int .u8 0, .int .u8 0, .int .u8 0, .int .u8 0, .int .u8 0, .int .u8 0, .int .u8 0, .int .u8 0, .int .u8 0, .int .u8 0, .int .u8 0, .int .u8 0, .int .u8 0, .int .u8 0, .int .u8 0, .int .u8 0, .int .u8 0, .int .u8 0, .int .u8 0, .int .u8 0, .int .u8 0, .int .u8 0, .int .u8 0, .int .u8 0, .int .u8 0, .int .u8 0, .int .u8 0, .int .u8 0, .int .u8 0, .int .u8 0, .int .u8 0, .int .u8 0, .int .u8 0, .int .u8 0, .int .u8 0, .int .u8 0, .int .u8 0, .int .u8 0, .int .u8 0, .int .u8 0, .int .u8 0, .int .u8 0, .int .u8 0, .int .u8 0, .int .u8 0, .int .u8 0, .int .u8 0, .int .u8 0, .int .u8 0, .int .u8 0, .int .u8 0] := {}
instance : bk Tryz.prog 256 (.array 256 4) := {}
instance : bk Tryz.prog 257 (.array 256 4) := {}
instance : bk Tryz.prog 261 (.pointer 257) := {}
instance : aM Tryz.prog 261 1 false 8 [.pointer none] := {}
instance : bk Tryz.prog 270 (.array 256 5) := {}
instance : aM Tryz.prog 271 2 true 2 [.int .u8 0, .int .u8 0] := {}
instance : eX Tryz.prog 271 0 0 5 := {}
instance : eX Tryz.prog 271 1 1 5 := {}
instance : kW Tryz.prog 271 [(0, 1), (1, 1)] := {}
instance : aM Tryz.prog 272 2 true 2 [.int .u8 0, .int .u8 0] := {}
instance : eX Tryz.prog 272 0 0 5 := {}
instance : eX Tryz.prog 272 1 1 5 := {}
instance : kW Tryz.prog 272 [(0, 1), (1, 1)] := {}
instance : bk Tryz.prog 273 (.array 16 272) := {}
instance : aM Tryz.prog 273 32 true 32 [.int .u8 0, .int .u8 0, .int .u8 0, .int .u8 0, .int .u8 0, .int .u8 0, .int .u8 0, .int .u8 0, .int .u8 0, .int .u8 0, .int .u8 0, .int .u8 0, .int .u8 0, .int .u8 0, .int .u8 0, .int .u8 0, .int .u8 0, .int .u8 0, .int .u8 0, .int .u8 0, .int .u8 0, .int .u8 0, .int .u8 0, .int .u8 0, .int .u8 0, .int .u8 0, .int .u8 0, .int .u8 0, .int .u8 0, .int .u8 0, .int .u8 0, .int .u8 0] := {}
instance : aM Tryz.prog 277 4 true 40 [.pointer none, .pointer none, .pointer none, .string { data := #[] }] := {}
instance : eX Tryz.prog 277 0 0 17 := {}
instance : eX Tryz.prog 277 1 1 17 := {}
instance : eX Tryz.prog 277 2 2 17 := {}
instance : eX Tryz.prog 277 3 3 9 := {}
instance : kW Tryz.prog 277 [(0, 1), (1, 1), (2, 1), (3, 1)] := {}
instance : aM Tryz.prog 278 4 true 40 [.pointer none, .pointer none, .pointer none, .string { data := #[] }] := {}
instance : eX Tryz.prog 278 0 0 17 := {}
instance : eX Tryz.prog 278 1 1 17 := {}
instance : eX Tryz.prog 278 2 2 17 := {}
instance : eX Tryz.prog 278 3 3 9 := {}
instance : kW Tryz.prog 278 [(0, 1), (1, 1), (2, 1), (3, 1)] := {}
instance : bk Tryz.prog 279 (.array 0 16) := {}
instance : aM Tryz.prog 279 0 true 0 [] := {}
instance : aM Tryz.prog 280 0 true 0 [] := {}
instance : kW Tryz.prog 280 [(0, 0)] := {}
instance : aM Tryz.prog 281 0 true 0 [] := {}
instance : kW Tryz.prog 281 [(0, 0)] := {}
instance : bk Tryz.prog 282 (.int .u32) := {}
instance : aM Tryz.prog 282 1 false 4 [.int .u32 0] := {}
instance : bk Tryz.prog 283 (.int .u8) := {}
instance : aM Tryz.prog 283 1 false 1 [.int .u8 0] := {}
instance : bk Tryz.prog 284 (.int .u8) := {}
instance : aM Tryz.prog 284 1 false 1 [.int .u8 0] := {}
instance : bk Tryz.prog 286 (.pointer 5) := {}
instance : aM Tryz.prog 286 1 false 8 [.pointer none] := {}
instance : bk Tryz.prog 287 (.int .i32) := {}
instance : aM Tryz.prog 287 1 false 4 [.int .i32 0] := {}
instance : bk Tryz.prog 288 (.int .i32) := {}
instance : aM Tryz.prog 288 1 false 4 [.int .i32 0] := {}
instance : aM Tryz.prog 289 11 true 48 [.int .u64 0, .int .u64 0, .int .u32 0, .int .u8 0, .int .u8 0, .int .u8 0, .int .u8 0, .nilFunc, .pointer none, .int .i32 0, .int .i32 0] := {}
instance : aM Tryz.prog 290 11 true 48 [.int .u64 0, .int .u64 0, .int .u32 0, .int .u8 0, .int .u8 0, .int .u8 0, .int .u8 0, .nilFunc, .pointer none, .int .i32 0, .int .i32 0] := {}
theorem mixed : Tryz.prog.follows .mixedOrders = true := by kernel_rfl
instance : al Tryz.prog 3 := {}
instance : al Tryz.prog 4 := {}
instance : al Tryz.prog 5 := {}
instance : al Tryz.prog 6 := {}
instance : al Tryz.prog 7 := {}
instance : al Tryz.prog 8 := {}
instance : al Tryz.prog 9 := {}
instance : al Tryz.prog 10 := {}
instance : al Tryz.prog 11 := {}
instance : al Tryz.prog 12 := {}
instance : al Tryz.prog 13 := {}
instance : al Tryz.prog 14 := {}
instance : al Tryz.prog 15 := {}
instance : al Tryz.prog 16 := {}
instance : al Tryz.prog 17 := {}
instance : al Tryz.prog 18 := {}
instance : al Tryz.prog 19 := {}
instance : al Tryz.prog 20 := {}
instance : al Tryz.prog 21 := {}
instance : al Tryz.prog 22 := {}
instance : al Tryz.prog 23 := {}
instance : al Tryz.prog 24 := {}
instance : al Tryz.prog 25 := {}
instance : al Tryz.prog 26 := {}
instance : al Tryz.prog 27 := {}
instance : al Tryz.prog 28 := {}
instance : al Tryz.prog 29 := {}
instance : al Tryz.prog 30 := {}
instance : al Tryz.prog 31 := {}
instance : al Tryz.prog 32 := {}
instance : al Tryz.prog 33 := {}
instance : al Tryz.prog 34 := {}
instance : al Tryz.prog 35 := {}
instance : al Tryz.prog 36 := {}
instance : al Tryz.prog 37 := {}
instance : al Tryz.prog 38 := {}
instance : al Tryz.prog 39 := {}
instance : al Tryz.prog 40 := {}
instance : al Tryz.prog 41 := {}
instance : al Tryz.prog 42 := {}
instance : al Tryz.prog 43 := {}
instance : al Tryz.prog 44 := {}
instance : al Tryz.prog 45 := {}
instance : al Tryz.prog 46 := {}
instance : al Tryz.prog 47 := {}
instance : al Tryz.prog 48 := {}
instance : al Tryz.prog 49 := {}
instance : al Tryz.prog 50 := {}
instance : al Tryz.prog 51 := {}
instance : al Tryz.prog 52 := {}
instance : al Tryz.prog 53 := {}
instance : al Tryz.prog 54 := {}
instance : al Tryz.prog 55 := {}
instance : al Tryz.prog 56 := {}
instance : al Tryz.prog 57 := {}
instance : al Tryz.prog 58 := {}
instance : al Tryz.prog 59 := {}
instance : al Tryz.prog 60 := {}
instance : al Tryz.prog 61 := {}
instance : al Tryz.prog 62 := {}
instance : al Tryz.prog 63 := {}
instance : al Tryz.prog 64 := {}
instance : al Tryz.prog 65 := {}
instance : al Tryz.prog 66 := {}
instance : al Tryz.prog 67 := {}
instance : al Tryz.prog 68 := {}
instance : al Tryz.prog 69 := {}
instance : al Tryz.prog 70 := {}
instance : al Tryz.prog 71 := {}
instance : al Tryz.prog 72 := {}
instance : al Tryz.prog 73 := {}
instance : al Tryz.prog 74 := {}
instance : al Tryz.prog 75 := {}
instance : al Tryz.prog 76 := {}
instance : al Tryz.prog 77 := {}
instance : al Tryz.prog 78 := {}
instance : al Tryz.prog 79 := {}
instance : al Tryz.prog 80 := {}
instance : al Tryz.prog 81 := {}
instance : al Tryz.prog 82 := {}
instance : al Tryz.prog 83 := {}
instance : al Tryz.prog 84 := {}
instance : al Tryz.prog 85 := {}
instance : al Tryz.prog 86 := {}
instance : al Tryz.prog 87 := {}
instance : al Tryz.prog 88 := {}
instance : al Tryz.prog 89 := {}
instance : al Tryz.prog 90 := {}
instance : al Tryz.prog 91 := {}
instance : al Tryz.prog 92 := {}
instance : al Tryz.prog 93 := {}
instance : al Tryz.prog 94 := {}
instance : al Tryz.prog 95 := {}
instance : al Tryz.prog 96 := {}
instance : al Tryz.prog 97 := {}
instance : al Tryz.prog 98 := {}
instance : al Tryz.prog 99 := {}
instance : al Tryz.prog 100 := {}
instance : al Tryz.prog 101 := {}
instance : al Tryz.prog 102 := {}
instance : al Tryz.prog 103 := {}
instance : al Tryz.prog 104 := {}
instance : al Tryz.prog 105 := {}
instance : al Tryz.prog 106 := {}
instance : al Tryz.prog 107 := {}
instance : al Tryz.prog 108 := {}
instance : al Tryz.prog 109 := {}
instance : al Tryz.prog 110 := {}
instance : al Tryz.prog 111 := {}
instance : al Tryz.prog 112 := {}
instance : al Tryz.prog 113 := {}
instance : al Tryz.prog 114 := {}
instance : al Tryz.prog 115 := {}
instance : al Tryz.prog 116 := {}
instance : al Tryz.prog 117 := {}
instance : al Tryz.prog 118 := {}
instance : al Tryz.prog 119 := {}
instance : al Tryz.prog 120 := {}
instance : al Tryz.prog 121 := {}
instance : al Tryz.prog 122 := {}
instance : al Tryz.prog 123 := {}
instance : al Tryz.prog 124 := {}
instance : al Tryz.prog 125 := {}
instance : al Tryz.prog 126 := {}
instance : al Tryz.prog 127 := {}
instance : al Tryz.prog 128 := {}
instance : al Tryz.prog 129 := {}
instance : al Tryz.prog 130 := {}
instance : al Tryz.prog 131 := {}
instance : al Tryz.prog 132 := {}
instance : al Tryz.prog 133 := {}
instance : al Tryz.prog 134 := {}
instance : al Tryz.prog 135 := {}
instance : al Tryz.prog 136 := {}
instance : al Tryz.prog 137 := {}
instance : al Tryz.prog 138 := {}
instance : al Tryz.prog 139 := {}
instance : al Tryz.prog 140 := {}
instance : al Tryz.prog 141 := {}
instance : al Tryz.prog 142 := {}
instance : al Tryz.prog 143 := {}
instance : al Tryz.prog 144 := {}
instance : al Tryz.prog 145 := {}
instance : al Tryz.prog 146 := {}
instance : al Tryz.prog 147 := {}
instance : al Tryz.prog 148 := {}
instance : al Tryz.prog 149 := {}
instance : al Tryz.prog 150 := {}
instance : al Tryz.prog 151 := {}
instance : al Tryz.prog 152 := {}
instance : al Tryz.prog 153 := {}
instance : al Tryz.prog 154 := {}
instance : al Tryz.prog 155 := {}
instance : al Tryz.prog 156 := {}
instance : al Tryz.prog 157 := {}
instance : al Tryz.prog 158 := {}
instance : al Tryz.prog 159 := {}
instance : al Tryz.prog 160 := {}
instance : al Tryz.prog 161 := {}
instance : al Tryz.prog 162 := {}
instance : al Tryz.prog 163 := {}
instance : al Tryz.prog 164 := {}
instance : al Tryz.prog 165 := {}
instance : al Tryz.prog 166 := {}
instance : al Tryz.prog 167 := {}
instance : al Tryz.prog 168 := {}
instance : al Tryz.prog 169 := {}
instance : al Tryz.prog 170 := {}
instance : al Tryz.prog 171 := {}
instance : al Tryz.prog 172 := {}
instance : al Tryz.prog 173 := {}
instance : al Tryz.prog 174 := {}
instance : al Tryz.prog 175 := {}
instance : al Tryz.prog 176 := {}
instance : al Tryz.prog 177 := {}
instance : al Tryz.prog 178 := {}
instance : al Tryz.prog 179 := {}
instance : al Tryz.prog 180 := {}
instance : al Tryz.prog 181 := {}
instance : al Tryz.prog 182 := {}
instance : al Tryz.prog 183 := {}
instance : al Tryz.prog 184 := {}
instance : al Tryz.prog 185 := {}
instance : al Tryz.prog 186 := {}
instance : al Tryz.prog 187 := {}
instance : al Tryz.prog 188 := {}
instance : al Tryz.prog 189 := {}
instance : al Tryz.prog 190 := {}
instance : al Tryz.prog 191 := {}
instance : al Tryz.prog 192 := {}
instance : al Tryz.prog 193 := {}
instance : al Tryz.prog 194 := {}
instance : al Tryz.prog 195 := {}
instance : al Tryz.prog 196 := {}
instance : al Tryz.prog 197 := {}
instance : al Tryz.prog 198 := {}
instance : al Tryz.prog 199 := {}
instance : al Tryz.prog 200 := {}
instance : al Tryz.prog 201 := {}
instance : al Tryz.prog 202 := {}
instance : al Tryz.prog 203 := {}
instance : al Tryz.prog 204 := {}
instance : al Tryz.prog 205 := {}
instance : al Tryz.prog 206 := {}
instance : al Tryz.prog 207 := {}
instance : al Tryz.prog 208 := {}
instance : al Tryz.prog 209 := {}
instance : al Tryz.prog 210 := {}
instance : al Tryz.prog 211 := {}
instance : al Tryz.prog 212 := {}
instance : al Tryz.prog 213 := {}
instance : al Tryz.prog 214 := {}
instance : al Tryz.prog 215 := {}
instance : al Tryz.prog 216 := {}
instance : al Tryz.prog 217 := {}
instance : al Tryz.prog 218 := {}
instance : al Tryz.prog 219 := {}
instance : al Tryz.prog 220 := {}
instance : al Tryz.prog 221 := {}
instance : al Tryz.prog 222 := {}
instance : al Tryz.prog 223 := {}
instance : al Tryz.prog 224 := {}
instance : al Tryz.prog 225 := {}
instance : al Tryz.prog 226 := {}
instance : al Tryz.prog 227 := {}
instance : al Tryz.prog 228 := {}
instance : al Tryz.prog 229 := {}
instance : al Tryz.prog 230 := {}
instance : al Tryz.prog 231 := {}
instance : al Tryz.prog 232 := {}
instance : al Tryz.prog 233 := {}
instance : al Tryz.prog 234 := {}
instance : al Tryz.prog 235 := {}
instance : al Tryz.prog 236 := {}
instance : al Tryz.prog 237 := {}
instance : al Tryz.prog 238 := {}
instance : al Tryz.prog 239 := {}
instance : al Tryz.prog 240 := {}
instance : al Tryz.prog 241 := {}
instance : al Tryz.prog 242 := {}
instance : al Tryz.prog 243 := {}
instance : al Tryz.prog 244 := {}
instance : al Tryz.prog 245 := {}
instance : al Tryz.prog 246 := {}
instance : al Tryz.prog 247 := {}
instance : al Tryz.prog 248 := {}
instance : al Tryz.prog 249 := {}
instance : al Tryz.prog 250 := {}
instance : al Tryz.prog 251 := {}
instance : al Tryz.prog 252 := {}
instance : al Tryz.prog 253 := {}
instance : al Tryz.prog 254 := {}
instance : al Tryz.prog 255 := {}
instance : al Tryz.prog 256 := {}
instance : al Tryz.prog 257 := {}
instance : al Tryz.prog 258 := {}
instance : al Tryz.prog 259 := {}
instance : al Tryz.prog 260 := {}
instance : al Tryz.prog 263 := {}
instance : al Tryz.prog 264 := {}
instance : al Tryz.prog 265 := {}
instance : al Tryz.prog 266 := {}
instance : al Tryz.prog 267 := {}
instance : al Tryz.prog 268 := {}
instance : al Tryz.prog 269 := {}
instance : al Tryz.prog 270 := {}
instance : al Tryz.prog 271 := {}
instance : al Tryz.prog 273 := {}
instance : al Tryz.prog 274 := {}
instance : al Tryz.prog 275 := {}
instance : al Tryz.prog 276 := {}
instance : al Tryz.prog 277 := {}
instance : al Tryz.prog 278 := {}
variable {P : Program} {R : Ending → World → Prop} {ag r : Bool} {args : Array Operand} {b by' c dj j n o off : Nat} {cs vs zc : List Value} {ft t' : TypeId} {fz : Nat × Nat} {parts : Array (Nat × Operand)} {ps : List (Nat × Value)} {v1 : Value} {w : World} {ρ : Rf}
open Go.RowKit
section
variable {ro : Mode} {P : Program} {N d : Nat} {ops : Array Oper} {Q : Kq} {ρ : Rf} {w w0 : World} {rest : List Oper} {H : List HE} {ty : TypeId} {pos : String} {af : Array Edge} {x y : Operand} {t u : TypeId}
theorem mI {k : IntKind} {a : Int} (kk : WL ro P N ops Q rest (cI ρ d (.int k a)) w) (hx : ev ρ x = .int k a := by exact cK rfl) (hN : d < N := by decide) : WL ro P N ops Q (⟨some d, .move x, ty, pos, af, none⟩ :: rest) ρ w := qY hx hN kk
theorem aI {k : IntKind} {a : Int} (kk : WL ro P N ops Q rest (cI ρ d (.int k a)) w) (hx : ev ρ x = .int k a := by exact cK rfl) (hN : d < N := by decide) : WL ro P N ops Q (⟨some d, .assign x, ty, pos, af, none⟩ :: rest) ρ w := j8 hx hN kk
theorem mB {a : Bool} (kk : WL ro P N ops Q rest (cI ρ d (.bool a)) w) (hx : ev ρ x = .bool a := by exact sS rfl) (hN : d < N := by decide) : WL ro P N ops Q (⟨some d, .move x, ty, pos, af, none⟩ :: rest) ρ w := qY hx hN kk
theorem aB {a : Bool} (kk : WL ro P N ops Q rest (cI ρ d (.bool a)) w) (hx : ev ρ x = .bool a := by exact sS rfl) (hN : d < N := by decide) : WL ro P N ops Q (⟨some d, .assign x, ty, pos, af, none⟩ :: rest) ρ w := j8 hx hN kk
theorem mS {a : ByteArray} (kk : WL ro P N ops Q rest (cI ρ d (.string a)) w) (hx : ev ρ x = .string a := by exact B5 rfl) (hN : d < N := by decide) : WL ro P N ops Q (⟨some d, .move x, ty, pos, af, none⟩ :: rest) ρ w := qY hx hN kk
theorem aS {a : ByteArray} (kk : WL ro P N ops Q rest (cI ρ d (.string a)) w) (hx : ev ρ x = .string a := by exact B5 rfl) (hN : d < N := by decide) : WL ro P N ops Q (⟨some d, .assign x, ty, pos, af, none⟩ :: rest) ρ w := j8 hx hN kk
theorem mL {A : Option Addr} (kk : WL ro P N ops Q rest (cI ρ d (.slice A n c)) w) (hx : ev ρ x = .slice A n c := by exact Fo rfl) (hN : d < N := by decide) : WL ro P N ops Q (⟨some d, .move x, ty, pos, af, none⟩ :: rest) ρ w := qY hx hN kk
theorem aL {A : Option Addr} (kk : WL ro P N ops Q rest (cI ρ d (.slice A n c)) w) (hx : ev ρ x = .slice A n c := by exact Fo rfl) (hN : d < N := by decide) : WL ro P N ops Q (⟨some d, .assign x, ty, pos, af, none⟩ :: rest) ρ w := j8 hx hN kk
theorem mT {l : List Value} (kk : WL ro P N ops Q rest (cI ρ d (.tuple l.toArray)) w) (hx : ev ρ x = .tuple l.toArray := by exact P1 rfl) (hN : d < N := by decide) : WL ro P N ops Q (⟨some d, .move x, ty, pos, af, none⟩ :: rest) ρ w := qY hx hN kk
theorem bh {k : IntKind} {a b : Int} (kk : WL ro P N ops Q rest (cI ρ d (.bool r)) w) (hx : ev ρ x = .int k a := by exact rfl) (hy : ev ρ y = .int k b := by exact rfl) (hr : decide (a < b) = r := by first | exact U0 Uz | exact Vf Uz | exact rfl) (hN : d < N := by decide) : WL ro P N ops Q (⟨some d, .binOp .lss t x y u, ty, pos, af, none⟩ :: rest) ρ w := K1 hx hy hN (by rw [hr]; exact kk)
theorem Qk {k : IntKind} {a b : Int} (kk : WL ro P N ops Q rest (cI ρ d (.bool r)) w) (hx : ev ρ x = .int k a := by exact rfl) (hy : ev ρ y = .int k b := by exact rfl) (hr : decide (a ≤ b) = r := by first | exact U0 Uz | exact Vf Uz | exact rfl) (hN : d < N := by decide) : WL ro P N ops Q (⟨some d, .binOp .leq t x y u, ty, pos, af, none⟩ :: rest) ρ w := Lh hx hy hN (by rw [hr]; exact kk)
theorem cq {k : IntKind} {a b : Int} (kk : WL ro P N ops Q rest (cI ρ d (.bool r)) w) (hx : ev ρ x = .int k a := by exact rfl) (hy : ev ρ y = .int k b := by exact rfl) (hr : decide (b < a) = r := by first | exact U0 Uz | exact Vf Uz | exact rfl) (hN : d < N := by decide) : WL ro P N ops Q (⟨some d, .binOp .gtr t x y u, ty, pos, af, none⟩ :: rest) ρ w := Mz hx hy hN (by rw [hr]; exact kk)
theorem dL {k : IntKind} {a b : Int} (kk : WL ro P N ops Q rest (cI ρ d (.bool r)) w) (hx : ev ρ x = .int k a := by exact rfl) (hy : ev ρ y = .int k b := by exact rfl) (hr : decide (b ≤ a) = r := by first | exact U0 Uz | exact Vf Uz | exact rfl) (hN : d < N := by decide) : WL ro P N ops Q (⟨some d, .binOp .geq t x y u, ty, pos, af, none⟩ :: rest) ρ w := Lv hx hy hN (by rw [hr]; exact kk)
theorem cW {k : IntKind} {a b : Int} (kk : WL ro P N ops Q rest (cI ρ d (.bool r)) w) (hx : ev ρ x = .int k a := by exact rfl) (hy : ev ρ y = .int k b := by exact rfl) (hr : decide (a = b) = r := by first | exact U0 Uz | exact Vf Uz | exact rfl) (hN : d < N := by decide) : WL ro P N ops Q (⟨some d, .binOp .eql t x y u, ty, pos, af, none⟩ :: rest) ρ w := Ej hx hy hN (by rw [hr]; exact kk)
theorem dk {k : IntKind} {a b : Int} (kk : WL ro P N ops Q rest (cI ρ d (.bool r)) w) (hx : ev ρ x = .int k a := by exact rfl) (hy : ev ρ y = .int k b := by exact rfl) (hr : decide (a ≠ b) = r := by first | exact U0 Uz | exact Vf Uz | exact rfl) (hN : d < N := by decide) : WL ro P N ops Q (⟨some d, .binOp .neq t x y u, ty, pos, af, none⟩ :: rest) ρ w := MW hx hy hN (by rw [hr]; exact kk)
theorem bo {a b : Int} (kk : WL ro P N ops Q rest (cI ρ d (.int .i64 (a + b))) w) (hx : ev ρ x = .int .i64 a := by exact rfl) (hy : ev ρ y = .int .i64 b := by exact rfl) (h1 : -9223372036854775808 ≤ a + b := by omega) (h2 : a + b ≤ 9223372036854775807 := by omega) (hN : d < N := by decide) : WL ro P N ops Q (⟨some d, .binOp .add t x y u, ty, pos, af, none⟩ :: rest) ρ w := PY hx hy h1 h2 hN kk
theorem dW {a b : Int} (kk : WL ro P N ops Q rest (cI ρ d (.int .i64 (a - b))) w) (hx : ev ρ x = .int .i64 a := by exact rfl) (hy : ev ρ y = .int .i64 b := by exact rfl) (h1 : -9223372036854775808 ≤ a - b := by omega) (h2 : a - b ≤ 9223372036854775807 := by omega) (hN : d < N := by decide) : WL ro P N ops Q (⟨some d, .binOp .sub t x y u, ty, pos, af, none⟩ :: rest) ρ w := Qx hx hy h1 h2 hN kk
theorem mulC {a b : Int} (kk : WL ro P N ops Q rest (cI ρ d (.int .i64 (a * b))) w) (hx : ev ρ x = .int .i64 a := by exact rfl) (hy : ev ρ y = .int .i64 b := by exact rfl) (h1 : -9223372036854775808 ≤ a * b := by omega) (h2 : a * b ≤ 9223372036854775807 := by omega) (hN : d < N := by decide) : WL ro P N ops Q (⟨some d, .binOp .mul t x y u, ty, pos, af, none⟩ :: rest) ρ w := PA hx hy h1 h2 hN kk
theorem dt {i : Nat} {v : Value} (kk : WL ro P N ops Q rest (cI ρ d (v)) w) (hx : ev ρ x = .tuple vs.toArray := by exact rfl) (hv : vs[i]? = some v := by exact rfl) (hN : d < N := by decide) : WL ro P N ops Q (⟨some d, .extract x i, ty, pos, af, none⟩ :: rest) ρ w := F3 hx hv hN kk
theorem fy {b : Bool} (kk : WL ro P N ops Q rest (cI ρ d (.bool !b)) w) (hx : ev ρ x = .bool b := by exact rfl) (hN : d < N := by decide) : WL ro P N ops Q (⟨some d, .unOp .not t x, ty, pos, af, none⟩ :: rest) ρ w := SK hx hN kk
theorem aJ {e : TypeId} {A : Option Addr} [ht : bk P t (.slice e)] (kk : WL ro P N ops Q rest (cI ρ d (.int .i64 n)) w) (hx : ev ρ x = .slice A n c := by exact rfl) (hN : d < N := by decide) : WL ro P N ops Q (⟨some d, .call ⟨.builtin .len, #[x], #[t]⟩, ty, pos, af, none⟩ :: rest) ρ w := IY ht.out hx hN kk
theorem bH {s : TypeId} {f : Nat} [hf : eX P s f off ft] (kk : WL ro P N ops Q rest (cI ρ d (.pointer (some ⟨b, o + off, none⟩))) w) (hx : ev ρ x = .pointer (some ⟨b, o, none⟩) := by exact rfl) (hN : d < N := by decide) : WL ro P N ops Q (⟨some d, .fieldAddr s x f, ty, pos, af, none⟩ :: rest) ρ w := A0 hf.out hx hN kk
theorem bG {v : Value} (hh : Hp w0 H w) (i : Nat) [ht : aM P t n false by' zc] (kk : WL ro P N ops Q rest (cI ρ d (v)) w) (hx : ev ρ x = .pointer (some ⟨b, o, none⟩) := by exact rfl) (hi : H[i]? = some (.blk b t' cs fz) := by exact rfl) (hv : cs[o]? = some v := by exact rfl) (hN : d < N := by decide) : WL ro P N ops Q (⟨some d, .load t x, ty, pos, af, none⟩ :: rest) ρ w := bV ht.out hx (hh.dN hi hv) hN kk
theorem cE (hh : Hp w0 H w) (i : Nat) (vs : List Value) [ht : aM P t n true by' zc] (kk : WL ro P N ops Q rest (cI ρ d (.agg vs.toArray)) w) (hx : ev ρ x = .pointer (some ⟨b, o, none⟩) := by exact rfl) (hi : H[i]? = some (.blk b t' cs fz) := by exact rfl) (hv : (cs.drop o).take n = vs := by exact rfl) (hl : vs.length = n := by exact rfl) (hN : d < N := by decide) : WL ro P N ops Q (⟨some d, .load t x, ty, pos, af, none⟩ :: rest) ρ w := cw ht.out hx (hh.cn hi hv) hl hN kk
theorem bW (hh : Hp w0 H w) [ht : aM P t n ag by' zc] (kk : ∀ b w', Hp w0 (.blk b t zc (0, 0) :: H) w' → WL ro P N ops Q rest (cI ρ d (.pointer (some ⟨b, 0, none⟩))) w') (hN : d < N := by decide) : WL ro P N ops Q (⟨some d, .alloc t, ty, pos, af, none⟩ :: rest) ρ w := Ja hh ht.out hN kk
theorem cz {v : Value} (hh : Hp w0 H w) (cs : List Value) (kk : ∀ b w', Hp w0 (.blk b t cs (0, 0) :: H) w' → WL ro P N ops Q rest (cI ρ d (.pointer (some ⟨b, 0, none⟩))) w') (hx : ev ρ x = v := by exact rfl) (hc : v.cells = cs.toArray := by exact rfl) (hN : d < N := by decide) : WL ro P N ops Q (⟨some d, .box t x, ty, pos, af, none⟩ :: rest) ρ w := Pd hh hx hc hN kk
theorem bX {v : Value} (hh : Hp w0 H w) (i : Nat) (vs : List Value) [ht : aM P t n ag by' zc] (kk : ∀ w', Hp w0 (H.set i (.blk b t' (cm cs o vs) fz)) w' → WL ro P N ops Q rest ρ w') (hx : ev ρ x = .pointer (some ⟨b, o, none⟩) := by exact rfl) (hi : H[i]? = some (.blk b t' cs fz) := by exact rfl) (hy : ev ρ y = v := by exact rfl) (hc : v.cells = vs.toArray := by exact rfl) (hl : vs.length = n := by exact rfl) (ho : o + n ≤ cs.length := by simp) (h1 : (vs.all Value.oneCell') = true := by exact rfl) : WL ro P N ops Q (⟨none, .store t x y, ty, pos, af, none⟩ :: rest) ρ w := vp hh hx hi hy hc ht.out hl ho h1 kk
theorem gH {pl : List (Nat × Nat)} (cs : List Value) [hte : aM P t n true by' zc] [hpl : kW P t pl] (kk : WL ro P N ops Q rest (cI ρ d (.agg cs.toArray)) w) (hp : xn ρ parts.toList = ps := by exact rfl) (hf : ky (pl[·]?) zc ps = some cs := by exact rfl) (hN : d < N := by decide) : WL ro P N ops Q (⟨some d, .build t parts, ty, pos, af, none⟩ :: rest) ρ w := LR hte.out hpl.out hp hf hN kk
theorem fO {c a b : Operand} {v : Bool} (kk : WL ro P N ops Q rest (cI ρ d (.bool v)) w) (hc : ev ρ c = .bool true := by exact rfl) (hx : ev ρ a = .bool v := by exact sS rfl) (hN : d < N := by decide) : WL ro P N ops Q (⟨some d, .pick c a b, ty, pos, af, none⟩ :: rest) ρ w := KU hc hx hN kk
theorem eV {c a b : Operand} {v : Bool} (kk : WL ro P N ops Q rest (cI ρ d (.bool v)) w) (hc : ev ρ c = .bool false := by exact rfl) (hx : ev ρ b = .bool v := by exact sS rfl) (hN : d < N := by decide) : WL ro P N ops Q (⟨some d, .pick c a b, ty, pos, af, none⟩ :: rest) ρ w := JD hc hx hN kk
theorem gS {op : Op} {b c : Bool} (kk : WL ro P N ops Q rest (cI ρ d undef) w) (hN : d < N := by decide) (hj : (ops[j]?).bind (·.dst) = some dj := by exact rfl) (hv : ρ dj = .bool c := by exact rfl) (hb : c ≠ b := by decide) : WL ro P N ops Q (⟨some d, op, ty, pos, af, some (j, b)⟩ :: rest) ρ w := kV hN hj hv hb kk
theorem gV {op : Op} {b : Bool} (kk : WL ro P N ops Q rest (cI ρ d undef) w) (hN : d < N := by decide) (hj : (ops[j]?).bind (·.dst) = some dj := by exact rfl) (hb : nb (ρ dj) b = true := by exact rfl) : WL ro P N ops Q (⟨some d, op, ty, pos, af, some (j, b)⟩ :: rest) ρ w := uF hN hj hb kk
theorem gT {dd : Option Nat} {op : Op} {b : Bool} (kk : WL ro P N ops Q (⟨dd, op, ty, pos, af, none⟩ :: rest) ρ w) (hj : (ops[j]?).bind (·.dst) = some dj := by exact rfl) (hv : ρ dj = .bool b := by exact rfl) : WL ro P N ops Q (⟨dd, op, ty, pos, af, some (j, b)⟩ :: rest) ρ w := aG hj hv kk
theorem bD {f : FuncId} {ts : Array TypeId} {v : Value} (hh : Hp w0 H w) (hc : Calls P f vs.toArray w fun e w' => e = .returned v ∧ Below w.heap.size w w') [hf : al P f] (ha : xf ρ args.toList = vs) (kk : ∀ w', Hp w0 H w' → WL ro P N ops Q rest (cI ρ d v) w') (hN : d < N := by decide) : WL ro P N ops Q (⟨some d, .call ⟨.value (.func f), args, ts⟩, ty, pos, af, none⟩ :: rest) ρ w := aF hc hf.out ha hN fun _ _ hq => ⟨_, hq.1, kk _ (hh.ext hq.2)⟩
theorem sr {id : Nat} {y : Code} {l : List Oper} (h : WL ro P N l.toArray (cD (fun ρ w => WC ro P N y Q ρ w) Q) l ρ w) : WC ro P N (.seq (.region id l.toArray false) y) Q ρ w := ah (ao h)
theorem cT {c : Operand} {x y : Code} (h : WC ro P N x Q ρ w) (hc : ev ρ c = .bool true := by exact rfl) : WC ro P N (.cond c x y) Q ρ w := FU hc h
theorem cF {c : Operand} {x y : Code} (h : WC ro P N y Q ρ w) (hc : ev ρ c = .bool false := by exact rfl) : WC ro P N (.cond c x y) Q ρ w := Hs hc h
theorem de {fn : Func} {e : Exit} {t0 : Tmp} {v0 : Value} (h : R (.returned v0) w) (hr : fn.results = #[.tmp t0] := by exact rfl) (h0 : ρ t0 = v0 := by first | exact lI rfl | exact mG rfl | exact wj rfl | exact G0 rfl | exact v_agg rfl | exact rfl) (he : e = .normal ∨ e = .ret := by first | exact .inr rfl | exact .inl rfl) : nc P fn R e ρ w := Tl he hr h0 h
theorem KW {fn : Func} {e : Exit} {t0 t1 : Tmp} {v0 : Value} (h : R (.returned (.tuple #[v0, v1])) w) (hr : fn.results = #[.tmp t0, .tmp t1] := by exact rfl) (h0 : ρ t0 = v0 := by first | exact lI rfl | exact mG rfl | exact wj rfl | exact G0 rfl | exact v_agg rfl | exact rfl) (h1 : ρ t1 = v1 := by first | exact lI rfl | exact mG rfl | exact wj rfl | exact G0 rfl | exact v_agg rfl | exact rfl) (he : e = .normal ∨ e = .ret := by first | exact .inr rfl | exact .inl rfl) : nc P fn R e ρ w := To he hr h0 h1 h
theorem Uf {fn : Func} {e : Exit} {t0 t1 t2 : Tmp} {v0 v2 : Value} (h : R (.returned (.tuple #[v0, v1, v2])) w) (hr : fn.results = #[.tmp t0, .tmp t1, .tmp t2] := by exact rfl) (h0 : ρ t0 = v0 := by first | exact lI rfl | exact mG rfl | exact wj rfl | exact G0 rfl | exact v_agg rfl | exact rfl) (h1 : ρ t1 = v1 := by first | exact lI rfl | exact mG rfl | exact wj rfl | exact G0 rfl | exact v_agg rfl | exact rfl) (h2 : ρ t2 = v2 := by first | exact lI rfl | exact mG rfl | exact wj rfl | exact G0 rfl | exact v_agg rfl | exact rfl) (he : e = .normal ∨ e = .ret := by first | exact .inr rfl | exact .inl rfl) : nc P fn R e ρ w := SZ he hr h0 h1 h2 h
theorem Mn {fn : Func} {e : Exit} {r0 : ResultVar} {v0 : Value} (h1 : gW P ρ w [r0] [v0]) (h : R (.returned v0) w) (hr : fn.results = #[r0] := by exact rfl) (he : e = .normal ∨ e = .ret := by first | exact .inr rfl | exact .inl rfl) : nc P fn R e ρ w := RP he hr h1 h
theorem QZ {fn : Func} {e : Exit} {r0 r1 : ResultVar} {v0 : Value} (h1 : gW P ρ w [r0, r1] [v0, v1]) (h : R (.returned (.tuple #[v0, v1])) w) (hr : fn.results = #[r0, r1] := by exact rfl) (he : e = .normal ∨ e = .ret := by first | exact .inr rfl | exact .inl rfl) : nc P fn R e ρ w := Rk he hr h1 h
theorem TC {fn : Func} {e : Exit} {r0 r1 r2 : ResultVar} {v0 v2 : Value} (h1 : gW P ρ w [r0, r1, r2] [v0, v1, v2]) (h : R (.returned (.tuple #[v0, v1, v2])) w) (hr : fn.results = #[r0, r1, r2] := by exact rfl) (he : e = .normal ∨ e = .ret := by first | exact .inr rfl | exact .inl rfl) : nc P fn R e ρ w := Ru he hr h1 h
end
class TS (P : Program) (t : TypeId) (n : outParam Nat) : Prop where out : (P.info? t).map (·.size) = some n
instance {P : Program} {t n b : Nat} {ag : Bool} {zc : List Value} [aM P t n ag b zc] : TS P t n := ⟨aM.size⟩
variable {K : Value → World → Prop} {M rs : List Nat} {N base fuel k m : Nat} {W w' w0 w1 : World} {ad : Addr} {next : Rf → World → Prop} {ops : Array Oper} {pos : String} {α : Type}
section
variable {D : List Deferred}
section
variable {P : Program} {N : Nat} {Q : Kq} {ρ : Rf} {w : World}
def OM (ops : Array Oper) : Nat → Nat → Nat → Bool
 | 0, _, _ => false
 | n + 1, k, i => match ops[k]? with
  | none => false
  | some o => (o.after.any fun e => Region.binds .any e && e.on == i) || o.after.any fun e => Region.binds .any e && OM ops n e.on i
def re (ops : Array Oper) (L : Array Bool) : Prop := ∀ k o, ops[k]? = some o → L.getD k false = true → ∀ e ∈ o.after, Region.binds .any e = true → L.getD e.on false = true
theorem mJ {ops : Array Oper} {L : Array Bool} (hc : re ops L) : ∀ (n k i : Nat), (∀ o, ops[k]? = some o → ∀ e ∈ o.after, Region.binds .any e = true → L.getD e.on false = true) → OM ops n k i = true → L.getD i false = true
 | 0, _, _, _, h => by simp [OM] at h
 | n + 1, k, i, hk, h => by
  unfold OM at h;split at h
  ·cases h
  ·rename_i o ho;rw [W6] at h
   rcases h with h | h
   ·obtain ⟨e, he, h⟩ := Array.any_eq_true'.1 h;simp only [UX, Wl] at h;rw [← h.2];exact hk o ho e he h.1
   ·obtain ⟨e, he, h⟩ := Array.any_eq_true'.1 h;simp only [UX] at h;have h1 := hk o ho e he h.1;exact mJ hc n e.on i (fun o' ho' => hc e.on o' ho' h1) h.2
structure OG (P : Program) (ops : Array Oper) (o : Oper) (ρ : Rf) (w : World) (K : Value → World → Prop) : Prop where
 out : ∀ (a : Act) (next : Act → World → Prop) (Q : Exit → Act → World → Prop), (∀ i, a.tmps.getD i undef = ρ i) → (∀ v w', K v w' → next (a.put o.dst v) w') →
  if Region.wanted o (yielded ops a.tmps) then o.wp P a w next Q ∨ (o.asks P a w ∧ LetsOut Q) else next (a.put o.dst undef) w
theorem En {a : Act} (h : ∀ i, a.tmps.getD i undef = ρ i) : a.eval = ev ρ := by
 funext x
 cases x with
 | tmp t => exact h t
 | _ => rfl
theorem fi {o : Oper} {v : Value} (hg : o.guard = none) (hr : (execOp (ev ρ) o).run P w = .ok (.value v) w') (hk : K v w') : OG P ops o ρ w K :=
 ⟨fun a next Q ha hn => by
  rw [UF (by simp [Region.wanted, hg])];refine .inl ?_;unfold Oper.wp;rw [En ha, hr];exact hn _ _ hk⟩
theorem a7 {o : Oper} {f : FuncId} {args : Array Value} (hg : o.guard = none) (hr : (execOp (ev ρ) o).run P w = .ok (.enter f args) w1) (hc : Calls P f args w1 R)
  (hk : ∀ e w', R e w' → ∃ v, e = .returned v ∧ K v w') : OG P ops o ρ w K :=
 ⟨fun a next Q ha hn => by
  rw [UF (by simp [Region.wanted, hg])];refine .inl ?_;unfold Oper.wp;rw [En ha, hr];show Calls P f args w1 _;refine hc.mono fun e w' hR => ?_;obtain ⟨v, rfl, hkv⟩ := hk e w' hR;exact hn _ _ hkv⟩
theorem bf {d : Option Nat} {op : Op} {ty : TypeId} {af : Array Edge} {b : Bool}
  (hj : (ops[j]?).bind (·.dst) = some dj) (hv : ρ dj = .bool b) (h : OG P ops ⟨d, op, ty, pos, af, none⟩ ρ w K) : OG P ops ⟨d, op, ty, pos, af, some (j, b)⟩ ρ w K :=
 ⟨fun a next Q ha hn => by
  have h1 : Region.wanted ⟨d, op, ty, pos, af, some (j, b)⟩ (yielded ops a.tmps) = true := by
   have h2 := ha dj;rw [hv, VR] at h2
   cases h3 : a.tmps[dj]? with
   | none => rw [h3] at h2; cases h2
   | some x =>
    rw [h3] at h2;simp only [VV] at h2;subst h2;simp [Region.wanted, yielded, hj, h3]
  have h2 := h.out a next Q ha hn;rw [UF (by simp [Region.wanted])] at h2;rw [UF h1];exact h2⟩
theorem vD {d : Option Nat} {op : Op} {ty : TypeId} {af : Array Edge} {b c : Bool}
  (hj : (ops[j]?).bind (·.dst) = some dj) (hv : ρ dj = .bool c) (hb : c ≠ b) (h : K undef w) : OG P ops ⟨d, op, ty, pos, af, some (j, b)⟩ ρ w K :=
 ⟨fun a next Q ha hn => by
  have h1 : Region.wanted ⟨d, op, ty, pos, af, some (j, b)⟩ (yielded ops a.tmps) = false := by
   have h2 := ha dj;rw [hv, VR] at h2
   cases h3 : a.tmps[dj]? with
   | none => rw [h3] at h2; cases h2
   | some x =>
    rw [h3] at h2;simp only [VV] at h2;subst h2;simp [Region.wanted, yielded, hj, h3, hb]
  rw [h1];exact hn _ _ h⟩
def dp (V : Nat → Value → World → Prop) (ρ ρ1 : Rf) (w1 : World) : List (Nat × Option Nat) → Prop
 | [] => True
 | (t, some j) :: r => V j (ρ1 t) w1 ∧ dp V ρ ρ1 w1 r
 | (t, none) :: r => ρ1 t = ρ t ∧ dp V ρ ρ1 w1 r
def DO (P : Program) (ops : Array Oper) (J : World → Prop) (V : Nat → Value → World → Prop) (ρ : Rf) : Nat → List Oper → List (List (Nat × Option Nat)) → Prop
 | i, o :: os, s :: ss => ((∀ v w w', V i v w → Below w.heap.size w w' → V i v w') ∧ ∀ ρ1 w1, J w1 → dp V ρ ρ1 w1 s → OG P ops o ρ1 w1 fun v w2 => Below w1.heap.size w1 w2 ∧ V i v w2) ∧ DO P ops J V ρ (i + 1) os ss
 | _, [], [] => True
 | _, _, _ => False
theorem EG {ops : Array Oper} {J : World → Prop} {V : Nat → Value → World → Prop} : ∀ (l : List Oper) (ss : List (List (Nat × Option Nat))) (i : Nat), DO P ops J V ρ i l ss → l.length = ss.length ∧ ∀ k o, l[k]? = some o → ∃ s, ss[k]? = some s ∧
  (∀ v w w', V (i + k) v w → Below w.heap.size w w' → V (i + k) v w') ∧ ∀ ρ1 w1, J w1 → dp V ρ ρ1 w1 s → OG P ops o ρ1 w1 fun v w2 => Below w1.heap.size w1 w2 ∧ V (i + k) v w2
 | [], [], _, _ => ⟨rfl, fun k o h => by simp at h⟩
 | [], _ :: _, _, h => h.elim
 | _ :: _, [], _, h => h.elim
 | o :: l, s :: ss, i, h => by
  obtain ⟨h1, h2⟩ := EG l ss (i + 1) h.2;refine ⟨by simp [h1], fun k o' hk => ?_⟩
  cases k with
  | zero =>
   simp only [XM, Wv] at hk;subst hk;exact ⟨s, rfl, h.1⟩
  | succ k =>
   obtain ⟨s', hs, h3⟩ := h2 k o' (by simpa using hk);refine ⟨s', by simpa using hs, ?_⟩;have e : i + 1 + k = i + (k + 1) := Uz;rw [e] at h3;exact h3
def mV (ρ : Rf) (f : Nat → Value) : List (Nat × Nat) → Rf
 | [] => ρ
 | (i, d) :: r => cI (mV ρ f r) d (f i)
def BM (V : Nat → Value → World → Prop) (f : Nat → Value) (w : World) : List (Nat × Nat) → Prop
 | [] => True
 | (i, _) :: r => V i (f i) w ∧ BM V f w r
def jt (n k : Nat) : Array Bool := (List.replicate k true ++ List.replicate (n - k) false).toArray
def CV (l : List Oper) (m N : Nat) (src : List (List (Nat × Option Nat))) (ds : List (Nat × Nat)) : Bool :=
 let ops := l.toArray
 let pre := (List.range m).map fun i => ((ops[i]?).bind (·.dst))
 (m ≤ l.length) && (src.length == m) &&
 (ds == (pre.zipIdx.filterMap fun (d, i) => d.map fun d => (i, d)).reverse) && (decide (ds.map (·.2)).Nodup) && (ds.all fun p => p.2 < N) &&
 ((List.range m).all fun i => match ops[i]?, src[i]? with
  | some o, some s => ((o.looksAt ops).all fun t => s.any fun p => p.1 == t) &&
    s.all fun p => match p.2 with
     | some j => (j < m) && ((ops[j]?).bind (·.dst) == some p.1) && OM ops 16 i j
     | none => (List.range m).all fun j => !((ops[j]?).bind (·.dst) == some p.1) || (j != i && OM ops 16 j i)
  | _, _ => false) &&
 (l.length == m || ((List.range m).all fun i => OM ops 16 m i)) &&
 ((List.range (l.length - m)).all fun k => Region.ready .any ops (jt l.length (m + k)) == [m + k]) && (Region.ready .any ops (jt l.length l.length) == []) &&
 ((List.range (l.length - m)).all fun k => k == 0 || OM ops 16 (m + k) m) &&
 ((List.range l.length).all fun i => match ops[i]? with | some o => o.after.all fun e => !Region.binds .any e || e.on < i | none => false)
theorem Hc (n k i : Nat) : (jt n k).getD i false = decide (i < k) := by
 unfold jt;rw [VR, W0]
 rcases Vv i k with h | h
 ·rw [WV (by simpa using h)];simp [h]
 ·rw [VW (by simpa using h), Yc];have : ¬ i < k := Uz;split <;> simp [this]
theorem KG (n k : Nat) (hk : k < n) : (jt n k).setIfInBounds k true = jt n (k + 1) := by
 unfold jt;rw [List.setIfInBounds_toArray];congr 1;apply VU;intro i;rw [Wd];simp only [List.getElem?_append, V1, Yc, UM];by_cases h1 : k = i
 ·subst h1;rw [UF rfl, UF Uz, UF (show k < k + 1 by omega), UF (show k < k + 1 by omega)]
 ·rw [UE h1];by_cases h2 : i < k
  ·rw [UF h2, UF h2, UF (show i < k + 1 by omega), UF (show i < k + 1 by omega)]
  ·rw [UE h2, UE (show ¬ i < k + 1 by omega)];by_cases h3 : i - k < n - k
   ·rw [UF h3, UF (show i - (k + 1) < n - (k + 1) by omega)]
   ·rw [UE h3, UE (show ¬ i - (k + 1) < n - (k + 1) by omega)]
theorem G9 (n k : Nat) (hk : k ≤ n) : (jt n k).size = n := by simp [jt]; omega
theorem Cy (n k : Nat) : (jt n k).toList.countP (fun b => b) = k := by
 simp [jt, List.countP_replicate]
theorem yr {L : Array Bool} (hs : L.size = n) (hk : k ≤ n) (h1 : ∀ i, i < k → L.getD i false = true) (h2 : ∀ i, k ≤ i → L.getD i false = false) : L = jt n k := by
 apply Array.ext
 ·rw [hs, G9 n k hk]
 ·intro i hi hi2;have e1 : L[i] = L.getD i false := by simp [hi]
  have e2 : (jt n k)[i] = (jt n k).getD i false := by simp [hi2]
  rw [e1, e2, Hc n k i]
  rcases Vv i k with h | h
  ·rw [h1 i h]; simp [h]
  ·rw [h2 i h];have : ¬ i < k := Uz;simp [this]
theorem pL {l : List Oper} {Q' : Exit → Act → World → Prop} (m : Nat)
  (hr : ∀ k, m ≤ k → k < l.length → Region.ready .any l.toArray (jt l.length k) = [k]) (hend : Region.ready .any l.toArray (jt l.length l.length) = []) :
  ∀ (fuel k : Nat) (a : Act) (w : World), m ≤ k → k ≤ l.length → l.length ≤ fuel + k → wpList P l.toArray Q' (l.drop k) a w → wpAny P .any l.toArray Q' fuel (jt l.length k) a w
 | fuel, k, a, w, hmk, hk, hf, h => by
  rcases Vv k l.length with hlt | hge
  ·cases fuel with
   | zero => omega
   | succ fuel =>
    refine wpAny_all (hr k hmk hlt) (by simp) fun i hi => ?_;obtain rfl : i = k := by simpa using hi
    rw [V0 hlt] at h;unfold wpList at h;have ho : l.toArray[i]? = some l[i] := by simp [hlt]
    have hset := KG l.length i hlt;have hgo : ∀ a w, wpList P l.toArray Q' (l.drop (i + 1)) a w → wpAny P .any l.toArray Q' fuel ((jt l.length i).setIfInBounds i true) a w := fun a w h => by
     rw [hset];exact pL m hr hend fuel (i + 1) a w Uz Uz Uz h
    unfold wpOp;rw [ho];simp only [];split at h
    ·rename_i hw;rw [UF hw];exact h.imp (Oper.wp_mono hgo) id
    ·rename_i hw;rw [UE hw];exact hgo _ _ h
  ·obtain rfl : k = l.length := Uz;rw [List.drop_length] at h;exact wpAny_done hend h fuel
structure DI (D : List Deferred) (N : Nat) (ops : Array Oper) (m : Nat) (ρ : Rf) (J : World → Prop) (V : Nat → Value → World → Prop) (L : Array Bool) (a : Act) (w : World) : Prop where
 nd : a.defers = D
 sz : a.tmps.size = N
 j : J w
 ls : L.size = ops.size
 cl : re ops L
 tl : ∀ k, m ≤ k → L.getD k false = false
 vs : ∀ i d, i < m → L.getD i false = true → (ops[i]?).bind (·.dst) = some d → V i (a.tmps.getD d undef) w
 KY : ∀ s, (∀ i, i < m → L.getD i false = true → (ops[i]?).bind (·.dst) ≠ some s) → a.tmps.getD s undef = ρ s
theorem dD {L : Array Bool} {i : Nat} (hi : i < L.size) : (L.setIfInBounds i true).getD j false = (decide (j = i) || L.getD j false) := by
 rw [VR, Array.getElem?_setIfInBounds];by_cases h : i = j
 ·subst h; simp [hi]
 ·have : ¬ j = i := fun e => h e.symm;simp [h, this]
theorem ea {a : Act} {d s : Nat} {v : Value} (hd : d < a.tmps.size) : (a.put (some d) v).tmps.getD s undef = if s = d then v else a.tmps.getD s undef := by
 by_cases h : s = d
 ·subst h; simp [Act.put, hd]
 ·have : d ≠ s := fun e => h e.symm;simp [Act.put, Array.getElem?_setIfInBounds_ne this, h]
theorem lZ (f : Nat → Value) : ∀ (ds : List (Nat × Nat)) (s : Nat), (ds.map (·.2)).Nodup → (∀ i, (i, s) ∈ ds → mV ρ f ds s = f i) ∧ ((∀ i, (i, s) ∉ ds) → mV ρ f ds s = ρ s)
 | [], s, _ => ⟨fun i h => by simp at h, fun _ => rfl⟩
 | (j, d) :: r, s, h => by
  rw [U9, WM] at h;obtain ⟨h1, h2⟩ := lZ f r s h.2;constructor
  ·intro i hi
   rcases UZ.1 hi with hi' | hi'
   ·injection hi' with e1 e2
    subst e1; subst e2;exact iE _ _ _
   ·have hne : s ≠ d := fun e => h.1 (e ▸ UY.2 ⟨_, hi', rfl⟩);exact (bp _ hne _).trans (h1 i hi')
  ·intro hn;have hne : s ≠ d := by
    rintro rfl;exact hn j UR
   exact (bp _ hne _).trans (h2 fun i hi => hn i (UT _ hi))
theorem sK {V : Nat → Value → World → Prop} {f : Nat → Value} {w : World} : ∀ (ds : List (Nat × Nat)), (∀ p ∈ ds, V p.1 (f p.1) w) → BM V f w ds
 | [], _ => trivial
 | (i, d) :: r, h => ⟨h (i, d) UR, sK r fun p hp => h p (UT _ hp)⟩
theorem pN {V : Nat → Value → World → Prop} {ρ1 : Rf} {w1 : World} : ∀ (s : List (Nat × Option Nat)), (∀ p ∈ s, match p.2 with | some j => V j (ρ1 p.1) w1 | none => ρ1 p.1 = ρ p.1) → dp V ρ ρ1 w1 s
 | [], _ => trivial
 | (t, some j) :: r, h => ⟨h (t, some j) UR, pN r fun p hp => h p (UT _ hp)⟩
 | (t, none) :: r, h => ⟨h (t, none) UR, pN r fun p hp => h p (UT _ hp)⟩
theorem K8 {id : Nat} {l : List Oper} (m : Nat) (src : List (List (Nat × Option Nat))) (ds : List (Nat × Nat)) (J : World → Prop) (V : Nat → Value → World → Prop) (hm : P.follows .mixedOrders = true) (hok : CV l m N src ds = true)
  (hJ : ∀ w w', J w → Below w.heap.size w w' → J w') (h0 : J w) (hops : DO P l.toArray J V ρ 0 (l.take m) src)
  (tail : ∀ f w', J w' → BM V f w' ds → WL ⟨none, D, false⟩ P N l.toArray Q (l.drop m) (mV ρ f ds) w') : WC ⟨none, D, false⟩ P N (.region id l.toArray true) Q ρ w := by
 refine WC.qx fun a hf => wp_region_any hm ?_;simp only [CV, UX, U2, Wl, Vb, Vi] at hok;obtain ⟨⟨⟨⟨⟨⟨⟨⟨⟨⟨hml, _⟩, hds⟩, hnd⟩, hdN⟩, hrd⟩, htail⟩, hready⟩, hend⟩, hdep⟩, hedge⟩ := hok;have hdo := (EG _ _ _ hops).2;have hpre : ∀ i d, i < m → ((l.toArray[i]?).bind (·.dst)) = some d → (i, d) ∈ ds := fun i d hi hd => by
  exact Qp
 have hdsm : ∀ i d, (i, d) ∈ ds → i < m ∧ ((l.toArray[i]?).bind (·.dst)) = some d := fun i d hp => by
  exact QK
 have hone : ∀ i j d, i < m → j < m → ((l.toArray[i]?).bind (·.dst)) = some d → ((l.toArray[j]?).bind (·.dst)) = some d → i = j := fun i j d hi hj h1 h2 => by
  exact PE
 have hnn : l.toArray.size = l.length := by simp
 have full : ∀ (L : Array Bool) (a : Act) (w : World) (fuel : Nat), DI D N l.toArray m ρ J V L a w → (∀ i, i < m → L.getD i false = true) → l.length ≤ fuel + m → wpAny P .any l.toArray (dx N D Q) fuel L a w := by
  intro L a w fuel hI hall hfu;have hL : L = jt l.length m := yr (by rw [hI.ls, hnn]) hml hall hI.tl;rw [hL];refine pL m (fun k h1 h2 => ?_) hend fuel m a w (UH _) hml hfu ?_
  ·have := hready (k - m) Uz;rwa [show m + (k - m) = k by omega] at this
  ·have hfits : ew N D a (mV ρ (fun i => match (l.toArray[i]?).bind (·.dst) with | some d => a.tmps.getD d undef | none => undef) ds) := by
    exact So
   refine (tail _ w hI.j (sK ds fun p hp => ?_)).out a hfits;obtain ⟨h1, h2⟩ := hdsm p.1 p.2 hp;have := hI.vs p.1 p.2 h1 (hall _ h1) h2;rw [h2];exact this
 have key : ∀ (fuel : Nat) (L : Array Bool) (a : Act) (w : World), DI D N l.toArray m ρ J V L a w → fuel + L.toList.countP (fun b => b) = l.length → wpAny P .any l.toArray (dx N D Q) fuel L a w := by
  intro fuel
  induction fuel with
  | zero =>
   exact SC
  | succ fuel ih =>
   intro L a w hI hc;by_cases hall : ∀ i, i < m → L.getD i false = true
   ·exact Q3
   ·have hsome : ∃ i, i < m ∧ L.getD i false = false := by
     exact Rh
    have hready_spec : ∀ i, i ∈ Region.ready .any l.toArray L ↔ i < l.length ∧ L.getD i true = false ∧ ∃ o, l.toArray[i]? = some o ∧ ∀ e ∈ o.after, Region.binds .any e = true → L.getD e.on false = true := fun i => by
     exact P4
    refine ⟨fun hnil => ?_, fun i hi => ?_⟩
    ·exact SE
    ·obtain ⟨hil, hun, o, ho, hed⟩ := (hready_spec i).1 hi;have hiL : i < L.size := by rw [hI.ls, hnn]; exact hil
     have hun' : L.getD i false = false := by
      exact P5
     have hed' : ∀ o', l.toArray[i]? = some o' → ∀ e ∈ o'.after, Region.binds .any e = true → L.getD e.on false = true := fun o' ho' => by
      exact Jn
     have him : i < m := by
      rcases Vv i m with h | h
      ·exact h
      ·exfalso
       rcases Vv m i with h2 | h2
       ·have h3 := hdep (i - m) Uz;rw [show m + (i - m) = i by omega] at h3;have h4 : (i - m == 0) = false := by simp; omega
        rw [h4, VI] at h3;have := mJ hI.cl 16 i m hed' h3;rw [hI.tl m (UH _)] at this
        cases this
       ·obtain rfl : i = m := Uz;have h4 : (l.length == i) = false := by simp; omega
        rw [h4, VI] at htail;have h5 := Vb.1 htail;obtain ⟨j, hj, hju⟩ := hsome;have := mJ hI.cl 16 i j hed' (h5 j (by simpa using hj));rw [hju] at this
        cases this
     have hok' : (l.take m)[i]? = some o := by
      rw [Wq, UF him];simpa using ho
     obtain ⟨s, hs, hstab, hog⟩ := hdo i o hok';rw [U5] at hstab hog;have hrdi := hrd i him;rw [ho, hs] at hrdi;simp only [UX, Vb] at hrdi;have hro : dp V ρ (fun t => a.tmps.getD t undef) w s := pN s fun p hp => by
      have hp2 := hrdi.2 p hp
      cases hp3 : p.2 with
      | some j =>
       rw [hp3] at hp2;simp only [UX, U2, Wl] at hp2;exact hI.vs j p.1 hp2.1.1 (mJ hI.cl 16 i j hed' hp2.2) hp2.1.2
      | none =>
       rw [hp3] at hp2;refine hI.KY p.1 fun j hj hjl hjd => ?_;have h6 := Vb.1 hp2 j (by simpa using hj);rw [hjd] at h6;simp only [beq_self_eq_true, Bool.not_true, VI, UX] at h6;have := mJ hI.cl 16 j i (fun o' ho' e he hb => hI.cl j o' ho' hjl e he hb) h6.2;rw [hun'] at this
       cases this
     have hgo := (hog _ w hI.j hro).out a (wpAny P .any l.toArray (dx N D Q) fuel (L.setIfInBounds i true)) (dx N D Q) (fun _ => rfl) (fun v w2 hv => by
      refine ih _ _ _ ?_ ?_
      ·refine ⟨?_, ?_, hJ _ _ hI.j hv.1, by simpa using hI.ls, ?_, ?_, ?_, ?_⟩
       ·cases o.dst <;> exact hI.nd
       ·cases hod : o.dst with
        | none => exact hI.sz
        | some d => simpa [Act.put] using hI.sz
       ·intro k ok hk hkl e he hb;rw [dD hiL] at hkl ⊢;by_cases hki : k = i
        ·subst hki;simp [hed' ok hk e he hb]
        ·simp only [hki, decide_false, VI] at hkl;simp [hI.cl k ok hk hkl e he hb]
       ·intro k hk;rw [dD hiL, hI.tl k hk];have : ¬ k = i := Uz;simp [this]
       ·intro j d hj hjl hjd;rw [dD hiL] at hjl;have hd1 : ∀ d', o.dst = some d' → d' < a.tmps.size := fun d' hd' => by
         rw [hI.sz];exact hdN (i, d') (hpre i d' him (by rw [ho]; exact hd'))
        by_cases hji : j = i
        ·subst hji;rw [ho] at hjd;simp only [W3] at hjd;rw [hjd, ea (hd1 d hjd), UF rfl];exact hv.2
        ·simp only [hji, decide_false, VI] at hjl;have hold := hI.vs j d hj hjl hjd;have hdj : (j, d) ∈ ds := hpre j d hj hjd;have hst := (hdo j (l.toArray[j]?.getD default) (by
          have : j < l.length := Uz;rw [Wq, UF hj];simp [this])).choose_spec.2.1
         rw [U5] at hst;have hne : ∀ d', o.dst = some d' → d ≠ d' := fun d' hd' e => by
          subst e;exact hji (hone j i d hj him hjd (by rw [ho]; exact hd'))
         cases hod : o.dst with
         | none => exact hst _ _ _ hold hv.1
         | some d' =>
          rw [ea (hd1 d' hod), UE (hne d' hod)];exact hst _ _ _ hold hv.1
       ·intro s' hs';have hni : ((l.toArray[i]?).bind (·.dst)) ≠ some s' := hs' i him (by rw [dD hiL]; simp);have hold := hI.KY s' fun j hj hjl => hs' j hj (by rw [dD hiL]; simp [hjl]);rw [ho] at hni;simp only [W3] at hni
        cases hod : o.dst with
        | none => exact hold
        | some d' =>
         rw [ea (by rw [hI.sz]; exact hdN (i, d') (hpre i d' him (by rw [ho]; exact hod))), UE (fun e => hni (by rw [hod, e]))];exact hold
      ·have hLi : L.toList[i]? = some false := by
        have h3 : i < L.toList.length := by simpa using hiL
        rw [VZ h3];have : L.getD i false = L.toList[i] := by simp [hiL]
        rw [← this, hun']
       rw [Array.toList_setIfInBounds, List.countP_set (by simpa using hiL)];have h4 : L.toList[i]'(by simpa using hiL) = false := (UW.1 hLi).2;rw [h4];simp only [XP, if_false, if_true];omega)
     unfold wpOp;rw [ho];exact hgo
 have hJ0 : J ({ w with drawn := w.drawn + 1 } : World) := hJ w _ h0 ⟨rfl, rfl, rfl, UH _, fun _ _ => rfl⟩;have hr0 : ∀ i, (Array.replicate l.toArray.size false).getD i false = false := fun i => by
  rw [VR, Array.getElem?_replicate]; split <;> rfl
 refine key _ _ _ _ ⟨hf.nd, hf.sz, hJ0, by simp, fun k o _ hk => ?_, fun k _ => hr0 k, fun i d _ hi => ?_, fun s _ => hf.at_ s⟩ ?_
 ·rw [hr0] at hk; cases hk
 ·rw [hr0] at hi; cases hi
 ·simp [List.countP_replicate]
def Is (c : Value) : Value → World → Prop := fun v _ => v = c
theorem Is.ext {c : Value} (v : Value) (w w' : World) (h : Is c v w) (_ : Below w.heap.size w w') : Is c v w' := h
structure JJ (w0 : World) (H : List HE) (w W : World) : Prop where
 hp : Hp w0 H W
 bl : Below w.heap.size w W
theorem JJ.ext {H : List HE} {W' : World} (h : JJ w0 H w W) (hb : Below W.heap.size W W') : JJ w0 H w W' := ⟨h.hp.ext hb, h.bl.trans (hb.mono h.bl.size)⟩
theorem JJ.start {H : List HE} (h : Hp w0 H w) : JJ w0 H w w := ⟨h, Below.refl _ _⟩
def RN (n k : Nat) (cs : List Value) : Value → World → Prop := fun v W => ∃ b, v = .slice (some ⟨b, 0, none⟩) n n ∧ Sl W (some ⟨b, 0, none⟩) n k cs
def dw (w : World) (t : TypeId) (cs : List Value) : Value → World → Prop := fun v W => ∃ b, v = .pointer (some ⟨b, 0, none⟩) ∧ w.heap.size ≤ b ∧ W.heap[b]? = some (.cells cs.toArray t (0, 0))
theorem dw.ext {t : TypeId} (v : Value) (w1 w2 : World) (h : dw w t cs v w1) (hb : Below w1.heap.size w1 w2) : dw w t cs v w2 := by
 obtain ⟨b, h1, h2, h3⟩ := h;have hlt : b < w1.heap.size := by
  rcases Vv b w1.heap.size with hlt | hge
  ·exact hlt
  ·rw [XL hge] at h3; cases h3
 exact ⟨b, h1, h2, (hb.block b hlt).trans h3⟩
theorem ji {d : Option Nat} {ty : TypeId} {af : Array Edge} {t e : TypeId} {len sz : Nat} (ht : P.underlying t = some (.slice e)) (hte : dr P e = some (sz, ag, by', zc))
  (hp : xn ρ parts.toList = ps) (hzl : zc.length = sz) (hf : ky (fun i => some (i * sz, sz)) (fM len zc) ps = some cs) (h0 : ¬ len * sz = 0) (hsl : len * sz ≤ 16777216) (hl : cs.length = len * sz)
  (hk : ∀ v w2, RN len sz cs v w2 → Below w.heap.size w w2 → K v w2) : OG P ops ⟨d, .buildSlice t len parts, ty, pos, af, none⟩ ρ w K := by
 obtain ⟨z, hz, hzc⟩ := dF (w := w) hte;have hbl : Below w.heap.size w (w.alloc (.cells cs.toArray e)) := (Below.refl _ _).alloc (UH _) _;refine fi rfl (w' := w.alloc (.cells cs.toArray e)) (v := .slice (some ⟨w.heap.size, 0, none⟩) len len) ?_ (hk _ _ ⟨w.heap.size, rfl, hl, fun _ => ⟨_, rfl, fun j u hu => ?_⟩⟩ hbl)
 ·exact Ql
 ·rw [fD, U5, cell_of_row _ w.heap.size j cs.toArray e (0, 0) (heap_alloc_new w _)];simpa using hu
theorem kd {d : Option Nat} {ty : TypeId} {af : Array Edge} {t : TypeId} {wr : World} (ht : dr P t = some (n, ag, by', zc)) (hb : Below wr.heap.size wr w)
  (hk : ∀ v w2, dw wr t zc v w2 → Below w.heap.size w w2 → K v w2) : OG P ops ⟨d, .alloc t, ty, pos, af, none⟩ ρ w K := by
 obtain ⟨z, hz, hzc⟩ := dF (w := w) ht;exact fi rfl (w' := w.alloc (.cells zc.toArray t)) (v := .pointer (some ⟨w.heap.size, 0, none⟩)) (by simp [execOp, Instr.alloc, newVar, newRow, hz, hzc]) (hk _ _ ⟨w.heap.size, rfl, hb.size, heap_alloc_new w _⟩ ((Below.refl _ _).alloc (UH _) _))
theorem JJ.newVar {H : List HE} {t : TypeId} (h : JJ w0 H w W) (hs : Hp w0 H w) (h2 : w.heap.size ≤ b) (h3 : W.heap[b]? = some (.cells cs.toArray t (0, 0))) : Hp w0 (.blk b t cs (0, 0) :: H) W := by
 refine ⟨h.hp.below, ?_, ?_⟩
 ·intro y hy
  rcases UZ.1 hy with rfl | hy
  ·exact ⟨U1 hs.size h2, h3, .inr (UH _)⟩
  ·exact h.hp.own y hy
 ·rw [Wm];show (b :: H.filterMap HE.id).Nodup;refine WM.2 ⟨fun hm => ?_, h.hp.nd⟩;obtain ⟨y, hy, hyb⟩ := VF.1 hm;have := (dO (hs.own y hy) hyb).2;omega
end
section
abbrev VP := Value → World → Prop
def eE (pv : Nat → VP) (i : Nat) (V : VP) : Nat → VP := fun j => cond (Nat.beq j i) V (pv j)
def Te : Nat → VP := fun _ _ _ => True
def DX (P : Program) (ops : Array Oper) (J : World → Prop) (ρ : Rf) (T : (Nat → VP) → Prop) : Nat → (Nat → VP) → List Oper → List (List (Nat × Option Nat)) → Prop
 | i, pv, o :: os, s :: ss => ∃ V : VP, (∀ v w w', V v w → Below w.heap.size w w' → V v w') ∧ (∀ ρ1 w1, J w1 → dp pv ρ ρ1 w1 s → OG P ops o ρ1 w1 fun v w2 => Below w1.heap.size w1 w2 ∧ V v w2) ∧ DX P ops J ρ T (i + 1) (eE pv i V) os ss
 | _, pv, [], [] => T pv
 | _, _, _, _ => False
theorem LO (pv : Nat → VP) (i : Nat) (V : VP) : eE pv i V i = V := by simp [eE]
theorem x6 (pv : Nat → VP) {i : Nat} (V : VP) (h : j ≠ i) : eE pv i V j = pv j := by
 have : Nat.beq j i = false := by rw [Xh]; intro h2; exact h (Nat.eq_of_beq_eq_true h2)
 simp only [eE, this, cond_false]
theorem qD {V V' : Nat → VP} {ρ ρ1 : Rf} {w1 : World} (h : ∀ j v w, V j v w → V' j v w) : ∀ s, dp V ρ ρ1 w1 s → dp V' ρ ρ1 w1 s
 | [], _ => trivial
 | (_, some _) :: r, hh => ⟨h _ _ _ hh.1, qD h r hh.2⟩
 | (_, none) :: r, hh => ⟨hh.1, qD h r hh.2⟩
theorem Ec {P : Program} {ops : Array Oper} {J : World → Prop} {ρ : Rf} {T : (Nat → VP) → Prop} : ∀ (os : List Oper) (ss : List (List (Nat × Option Nat))) (i : Nat) (pv : Nat → VP), (∀ j, i ≤ j → ∀ v w, pv j v w) → DX P ops J ρ T i pv os ss →
  ∃ V, (∀ j, j < i → V j = pv j) ∧ DO P ops J V ρ i os ss ∧ T V
 | [], [], _, pv, _, h => ⟨pv, fun _ _ => rfl, trivial, h⟩
 | [], _ :: _, _, _, _, h => h.elim
 | _ :: _, [], _, _, _, h => h.elim
 | o :: os, s :: ss, i, pv, hpv, ⟨V, h1, h2, h3⟩ => by
  obtain ⟨V', h4, h5, h6⟩ := Ec os ss (i + 1) (eE pv i V) (fun j hj v w => by rw [x6 _ _ Uz]; exact hpv j Uz v w) h3;have e : V' i = V := by rw [h4 i Uz, LO]
  refine ⟨V', fun j hj => by rw [h4 j Uz, x6 _ _ Uz], ⟨⟨?_, ?_⟩, h5⟩, h6⟩
  ·rw [e]; exact h1
  ·intro ρ1 w1 hj hr;rw [e];refine h2 ρ1 w1 hj (qD (fun j v w hh => ?_) s hr)
   rcases Vv j i with hlt | hge
   ·rw [h4 j Uz, x6 _ _ Uz] at hh; exact hh
   ·exact hpv j hge v w
theorem aZ {Q : Kq} {id : Nat} {l : List Oper} (m : Nat) (src : List (List (Nat × Option Nat))) (ds : List (Nat × Nat)) {H : List HE} (hh : Hp w0 H w) (hm : P.follows .mixedOrders = true) (hok : CV l m N src ds = true)
  (h : DX P l.toArray (JJ w0 H w) ρ (fun V => ∀ f w', JJ w0 H w w' → BM V f w' ds → WL ⟨none, D, false⟩ P N l.toArray Q (l.drop m) (mV ρ f ds) w') 0 Te (l.take m) src) : WC ⟨none, D, false⟩ P N (.region id l.toArray true) Q ρ w := by
 obtain ⟨V, _, h1, h2⟩ := Ec _ _ _ _ (fun _ _ _ _ => trivial) h;exact K8 m src ds (JJ w0 H w) V hm hok (fun _ _ h hb => h.ext hb) (JJ.start hh) h1 h2
variable {P : Program} {ops : Array Oper} {J : World → Prop} {ρ : Rf} {T : (Nat → VP) → Prop} {i : Nat} {pv : Nat → VP} {os : List Oper} {s : List (Nat × Option Nat)} {ss : List (List (Nat × Option Nat))} {d : Option Nat} {op : Op} {ty : TypeId} {pos : String} {af : Array Edge}
theorem aT (h : T pv) : DX P ops J ρ T i pv [] [] := h
theorem aP {o : Oper} (V : VP) (h1 : ∀ v w w', V v w → Below w.heap.size w w' → V v w') (h2 : ∀ ρ1 w1, J w1 → dp (pv) ρ ρ1 w1 s → OG P ops o ρ1 w1 fun v w2 => Below w1.heap.size w1 w2 ∧ V v w2)
  (k : DX P ops J ρ T (i + 1) (eE pv i (V)) os ss) : DX P ops J ρ T i pv (o :: os) (s :: ss) := ⟨V, h1, h2, k⟩
theorem bz {v : Value} (hr : ∀ ρ1 w1, J w1 → dp (pv) ρ ρ1 w1 s → (execOp (ev ρ1) ⟨d, op, ty, pos, af, none⟩).run P w1 = .ok (.value v) w1)
  (k : DX P ops J ρ T (i + 1) (eE pv i (Is v)) os ss) : DX P ops J ρ T i pv (⟨d, op, ty, pos, af, none⟩ :: os) (s :: ss) :=
 aP (Is v) Is.ext (fun ρ1 w1 hj h => fi rfl (hr ρ1 w1 hj h) ⟨Below.refl _ _, rfl⟩) k
theorem LK {v : Value} {f : FuncId} {args : Array Value} (hr : ∀ ρ1 w1, J w1 → dp (pv) ρ ρ1 w1 s → (execOp (ev ρ1) ⟨d, op, ty, pos, af, none⟩).run P w1 = .ok (.enter f args) w1)
  (hc : ∀ w1, J w1 → Calls P f args w1 fun e w' => e = .returned v ∧ Below w1.heap.size w1 w')
  (k : DX P ops J ρ T (i + 1) (eE pv i (Is v)) os ss) : DX P ops J ρ T i pv (⟨d, op, ty, pos, af, none⟩ :: os) (s :: ss) :=
 aP (Is v) Is.ext (fun ρ1 w1 hj h => a7 rfl (hr ρ1 w1 hj h) (hc w1 hj) fun _ _ hq => ⟨v, hq.1, hq.2, rfl⟩) k
def Rows (n k : Nat) (cs : List Value) : VP := fun v W => ∃ A c, v = .slice A n c ∧ Sl W A n k cs
theorem Rows.ext (v : Value) (w w' : World) (h : Rows n k cs v w) (hb : Below w.heap.size w w') : Rows n k cs v w' := let ⟨A, c, h1, h2⟩ := h; ⟨A, c, h1, h2.ext hb⟩
theorem vE {t e : TypeId} {len sz : Nat} (ht : P.underlying t = some (.slice e)) (hte : dr P e = some (sz, ag, by', zc))
  (hp : ∀ ρ1 w1, J w1 → dp (pv) ρ ρ1 w1 s → xn ρ1 parts.toList = ps) (hzl : zc.length = sz) (hf : ky (fun i => some (i * sz, sz)) (fM len zc) ps = some cs) (h0 : ¬ len * sz = 0) (hsl : len * sz ≤ 16777216) (hl : cs.length = len * sz)
  (k : DX P ops J ρ T (i + 1) (eE pv i (Rows len sz cs)) os ss) : DX P ops J ρ T i pv (⟨d, .buildSlice t len parts, ty, pos, af, none⟩ :: os) (s :: ss) :=
 aP (Rows len sz cs) Rows.ext (fun ρ1 w1 hj h => ji ht hte (hp ρ1 w1 hj h) hzl hf h0 hsl hl fun _ _ ⟨_, hv, hs⟩ hb => ⟨hb, _, _, hv, hs⟩) k
theorem yc {b : Bool} {v : Value} (hj : (ops[j]?).bind (·.dst) = some dj) (hv : ∀ ρ1 w1, J w1 → dp (pv) ρ ρ1 w1 s → ρ1 dj = .bool b)
  (hr : ∀ ρ1 w1, J w1 → dp (pv) ρ ρ1 w1 s → (execOp (ev ρ1) ⟨d, op, ty, pos, af, none⟩).run P w1 = .ok (.value v) w1)
  (k : DX P ops J ρ T (i + 1) (eE pv i (Is v)) os ss) : DX P ops J ρ T i pv (⟨d, op, ty, pos, af, some (j, b)⟩ :: os) (s :: ss) :=
 aP (Is v) Is.ext (fun ρ1 w1 hj' h => bf hj (hv ρ1 w1 hj' h) (fi rfl (hr ρ1 w1 hj' h) ⟨Below.refl _ _, rfl⟩)) k
theorem lV {b : Bool} {v : Value} {f : FuncId} {args : Array Value} (hj : (ops[j]?).bind (·.dst) = some dj) (hv : ∀ ρ1 w1, J w1 → dp (pv) ρ ρ1 w1 s → ρ1 dj = .bool b)
  (hr : ∀ ρ1 w1, J w1 → dp (pv) ρ ρ1 w1 s → (execOp (ev ρ1) ⟨d, op, ty, pos, af, none⟩).run P w1 = .ok (.enter f args) w1)
  (hc : ∀ w1, J w1 → Calls P f args w1 fun e w' => e = .returned v ∧ Below w1.heap.size w1 w')
  (k : DX P ops J ρ T (i + 1) (eE pv i (Is v)) os ss) : DX P ops J ρ T i pv (⟨d, op, ty, pos, af, some (j, b)⟩ :: os) (s :: ss) :=
 aP (Is v) Is.ext (fun ρ1 w1 hj' h => bf hj (hv ρ1 w1 hj' h) (a7 rfl (hr ρ1 w1 hj' h) (hc w1 hj') fun _ _ hq => ⟨v, hq.1, hq.2, rfl⟩)) k
theorem xL {b c : Bool} (hj : (ops[j]?).bind (·.dst) = some dj) (hv : ∀ ρ1 w1, J w1 → dp (pv) ρ ρ1 w1 s → ρ1 dj = .bool c) (hb : c ≠ b)
  (k : DX P ops J ρ T (i + 1) (eE pv i (Is undef)) os ss) : DX P ops J ρ T i pv (⟨d, op, ty, pos, af, some (j, b)⟩ :: os) (s :: ss) :=
 aP (Is undef) Is.ext (fun ρ1 w1 hj' h => vD hj (hv ρ1 w1 hj' h) hb ⟨Below.refl _ _, rfl⟩) k
end
end
def az {α : Type} (f : α → List Value) (l : List α) : List Value := l.flatMap f
section
variable {α : Type} {f : α → List Value} {sz : Nat}
theorem eT (hf : ∀ x, (f x).length = sz) (l : List α) : (az f l).length = l.length * sz := by
 induction l with
 | nil => simp [az]
 | cons x l ih =>
  have : az f (x :: l) = f x ++ az f l := by simp [az]
  rw [this, UM, hf, ih, U7, VO]; omega
theorem jZ (x : α) (l : List α) : az f (x :: l) = f x ++ az f l := by simp [az]
theorem bU (l m : List α) : az f (l ++ m) = az f l ++ az f m := by simp [az]
theorem jv (x : α) : az f [x] = f x := by simp [az]
theorem jU (hf : ∀ x, (f x).length = sz) (l : List α) (k : Nat) : (az f l).drop (k * sz) = az f (l.drop k) := by
 induction l generalizing k with
 | nil => simp [az]
 | cons x l ih =>
  cases k with
  | zero => simp
  | succ k => rw [jZ, VO, Wx, ← hf x, List.drop_append, List.drop_succ_cons, ← ih k, hf x]; simp [hf x]
theorem kX (hf : ∀ x, (f x).length = sz) (l : List α) (k : Nat) : (az f l).take (k * sz) = az f (l.take k) := by
 induction l generalizing k with
 | nil => simp [az]
 | cons x l ih =>
  cases k with
  | zero => simp [az]
  | succ k => rw [jZ, VO, Wx, List.take_succ_cons, jZ, ← ih k, ← hf x, List.take_append]; simp; exact UQ (Nat.le_add_right _ _)
theorem tF (hf : ∀ x, (f x).length = sz) {l : List α} {x : α} (h : l[k]? = some x) : ((az f l).drop (k * sz)).take sz = f x := by
 obtain ⟨h1, h2⟩ := UW.1 h;rw [jU hf, V0 h1, h2, jZ, X5 (by rw [hf]; omega), UQ (by rw [hf]; omega)]
theorem Rd.recAt {l : List α} (h : Rd w ad (az f l)) (hf : ∀ x, (f x).length = sz) {x : α} (hx : l[k]? = some x) : Rd w (ad.add (k * sz)) (f x) := by
 have := h.elem k sz;rwa [tF hf hx] at this
theorem Sl.bq {A : Option Addr} {l : List α} (h : Sl w A n sz (az f l)) (hf : ∀ x, (f x).length = sz) (h0 : 0 < sz) : l.length = n := by
 have := h.1;rw [eT hf] at this;exact Nat.eq_of_mul_eq_mul_right h0 this
theorem ju (hf : ∀ x, (f x).length = sz) {l : List α} {y : α} (h : k < l.length) : cm (az f l) (k * sz) (f y) = az f (l.set k y) := by
 unfold cm;rw [kX hf, hf, ← VO, jU hf, XT, UF h, bU, jZ, Vt]
theorem ck (h : ∀ x, (f x).all Value.oneCell' = true) (l : List α) : ((az f l).all Value.oneCell') = true := by
 rw [Vb];intro v hv;obtain ⟨x, _, hx⟩ := WI.1 hv;exact Vb.1 (h x) v hx
end
theorem gl {l : List α} {x : α} (h : l[k]? = some x) : l.drop k = x :: l.drop (k + 1) := by
 obtain ⟨h1, rfl⟩ := UW.1 h;exact V0 h1
theorem iX {p : α → Bool} {l : List α} (h : l.any p = false) : l.find? p = none := by
 rw [List.find?_eq_none];intro x hx;have := Wb.1 h x hx;simpa using this
theorem xk {p : α → Bool} {l : List α} {i : Nat} {x : α} (h : (l.take i).any p = false) (hx : l[i]? = some x) (hp : p x = true) : l.find? p = some x := by
 have : l = l.take i ++ x :: l.drop (i + 1) := by rw [← gl hx, VA]
 rw [this, List.find?_append, iX h, List.find?_cons_of_pos hp]
 rfl
section
variable {D : List Deferred}
section
variable {P : Program} {N : Nat} {Q : Kq} {ρ : Rf} {w : World}
def om (acc : List Nat) : List Edge → Nat
 | [] => 0
 | e :: r => bif Region.binds .any e then 1 <<< e.on ||| acc.getD e.on 0 ||| om acc r else om acc r
def tZ : List Oper → List Nat → List Nat
 | [], acc => acc
 | o :: r, acc => tZ r (acc ++ [om acc o.after.toList])
theorem oW {acc : List Nat} {i : Nat} : ∀ {es : List Edge}, (om acc es).testBit i = true → ∃ e ∈ es, Region.binds .any e = true ∧ (e.on = i ∨ (acc.getD e.on 0).testBit i = true)
 | [], h => by simp [om] at h
 | e :: r, h => by
  unfold om at h
  cases hb : Region.binds .any e with
  | false =>
   rw [hb, cond_false] at h;obtain ⟨e', h1, h2⟩ := oW h;exact ⟨e', UT _ h1, h2⟩
  | true =>
   rw [hb, cond_true, Nat.testBit_or, Nat.testBit_or, W6, W6] at h
   rcases h with (h | h) | h
   ·refine ⟨e, UR, hb, .inl ?_⟩;rw [Nat.one_shiftLeft, Nat.testBit_two_pow] at h;simpa using h
   ·exact ⟨e, UR, hb, .inr h⟩
   ·obtain ⟨e', h1, h2⟩ := oW h;exact ⟨e', UT _ h1, h2⟩
theorem Bd : ∀ (l : List Oper) (acc : List Nat), ∃ t, tZ l acc = acc ++ t
 | [], acc => ⟨[], by simp [tZ]⟩
 | o :: r, acc => by
  obtain ⟨t, h⟩ := Bd r (acc ++ [om acc o.after.toList]);exact ⟨_, by rw [tZ, h, Vt]⟩
theorem ER : ∀ (l : List Oper) (acc : List Nat) (k i : Nat), acc.length ≤ k → ((tZ l acc).getD k 0).testBit i = true → ∃ o, l[k - acc.length]? = some o ∧ ∃ e ∈ o.after, Region.binds .any e = true ∧ (e.on = i ∨ e.on < k ∧ ((tZ l acc).getD e.on 0).testBit i = true)
 | [], acc, k, i, hk, h => by
  rw [tZ, VQ, Vd hk] at h;simp at h
 | o :: r, acc, k, i, hk, h => by
  rcases Vv acc.length k with hlt | hge
  ·have hl : (acc ++ [om acc o.after.toList]).length = acc.length + 1 := by simp
   obtain ⟨o', h1, h2⟩ := ER r (acc ++ [om acc o.after.toList]) k i Uz h;refine ⟨o', ?_, h2⟩;rw [hl] at h1;rw [show k - acc.length = (k - (acc.length + 1)) + 1 by omega, Xn];exact h1
  ·obtain rfl : k = acc.length := Uz;obtain ⟨t, ht⟩ := Bd r (acc ++ [om acc o.after.toList]);refine ⟨o, by rw [Vw]; rfl, ?_⟩;rw [tZ, ht] at h ⊢;rw [VQ, Vt, VW (UH _), Vw] at h;simp only [UP, XM, VV, UN] at h;obtain ⟨e, h1, h2, h3⟩ := oW h;refine ⟨e, by simpa using h1, h2, ?_⟩
   rcases h3 with h3 | h3
   ·exact .inl h3
   ·have h4 : e.on < acc.length := by
     rcases Vv e.on acc.length with h5 | h5
     ·exact h5
     ·rw [VQ, Vd h5] at h3; simp at h3
    refine .inr ⟨h4, ?_⟩;rw [VQ, Vt, WV h4, ← VQ];exact h3
theorem kn {l : List Oper} {L : Array Bool} (hM : tZ l [] = M) (hc : re l.toArray L) : ∀ (k i : Nat), (∀ o, l.toArray[k]? = some o → ∀ e ∈ o.after, Region.binds .any e = true → L.getD e.on false = true) → (M.getD k 0).testBit i = true → L.getD i false = true := by
 intro k
 induction k using Nat.strongRecOn with
 | _ k ih =>
  intro i hk h;rw [← hM] at h;obtain ⟨o, ho, e, he, hb, h3⟩ := ER l [] k i (UI _) h;have ho' : l.toArray[k]? = some o := by rw [W0]; exact ho
  have h1 := hk o ho' e he hb
  rcases h3 with h3 | ⟨h3, h4⟩
  ·rw [← h3]; exact h1
  ·rw [hM] at h4;exact ih e.on h3 i (fun o' ho2 => hc e.on o' ho2 h1) h4
def SQ (n m : Nat) (fl : List Nat) : Array Bool := ((List.range n).map fun i => decide (i < m ∧ i ∉ fl)).toArray
theorem KR {i : Nat} {fl : List Nat} (hi : i < n) : (SQ n m fl).getD i true = decide (i < m ∧ i ∉ fl) := by
 unfold SQ;rw [VR, W0, UO, Vq hi]
 rfl
def NP (Q : Kq) : Prop := ∀ c ρ w, ¬ Q (.panic c) ρ w
theorem cA {fn : Func} : NP (nc P fn R) := fun _ _ _ h => h.1.elim nofun nofun
theorem bR (h : NP Q) : NP (cD next Q) := fun c ρ w hq => h c ρ w hq
theorem cB {id : Nat} (h : NP Q) : NP (qI id Q) := fun c ρ w hq => h c ρ w hq
def ud : Op → Bool
 | .extract _ _ => true
 | .move _ => true
 | _ => false
def Pn (l : List Oper) (m : Nat) (fl : List Nat) (i : Nat) : Bool :=
 Region.free .any l.toArray (SQ l.length m fl) i && match l[i]? with
  | some ⟨some _, op, _, _, af, none⟩ => ud op && af.all fun e => !Region.binds .any e || (decide (e.on < m) && !fl.contains e.on)
  | _ => false
theorem FR {l : List Oper} {fl : List Nat} {i : Nat} (h : Pn l m fl i = true) : Region.free .any l.toArray (SQ l.length m fl) i = true ∧ (∀ o, l[i]? = some o → ∀ e ∈ o.after, Region.binds .any e = true → e.on < m ∧ e.on ∉ fl) ∧
  ∃ d op ty pos af, l[i]? = some ⟨some d, op, ty, pos, af, none⟩ ∧ ud op = true := by
 unfold Pn at h;rw [UX] at h;obtain ⟨h1, h2⟩ := h;split at h2
 ·rename_i d op ty pos af ho;rw [UX] at h2;obtain ⟨hpu, h2⟩ := h2;refine ⟨h1, fun o ho' e he hb => ?_, d, op, ty, pos, af, ho, hpu⟩;rw [ho] at ho';injection ho' with ho'
  subst ho';have := XX.1 h2 e he;simp only [hb, Bool.not_true, VI, UX, U2, X3, List.contains_eq_mem, XS] at this;exact this
 ·cases h2
def yE (l : List Oper) (m N : Nat) (src : List (List (Nat × Option Nat))) (ds : List (Nat × Nat)) (fl M : List Nat) : Bool :=
 let ops := l.toArray
 let pre := (List.range m).map fun i => ((ops[i]?).bind (·.dst))
 (m ≤ l.length) && (src.length == m) &&
 (ds == (pre.zipIdx.filterMap fun (d, i) => d.map fun d => (i, d)).reverse) && (decide (ds.map (·.2)).Nodup) && (ds.all fun p => p.2 < N) &&
 ((List.range m).all fun i => match ops[i]?, src[i]? with
  | some o, some s => ((o.looksAt ops).all fun t => s.any fun p => p.1 == t) &&
    s.all fun p => match p.2 with
     | some j => (j < m) && ((ops[j]?).bind (·.dst) == some p.1) && (M.getD i 0).testBit j
     | none => (List.range m).all fun j => !((ops[j]?).bind (·.dst) == some p.1) || (j != i && (M.getD j 0).testBit i)
  | _, _ => false) &&
 (l.length == m || ((List.range m).all fun i => fl.contains i || (M.getD m 0).testBit i)) &&
 ((List.range (l.length - m)).all fun k => Region.ready .any ops (jt l.length (m + k)) == [m + k]) && (Region.ready .any ops (jt l.length l.length) == []) &&
 ((List.range (l.length - m)).all fun k => k == 0 || (M.getD (m + k) 0).testBit m) &&
 ((List.range l.length).all fun i => match ops[i]? with | some o => o.after.all fun e => !Region.binds .any e || e.on < i | none => false) &&
 Region.noSelect ops && (fl.all fun i => Pn l m fl i) && (tZ l [] == M)
def yP (P : Program) (l : List Oper) : List Nat → Prop
 | [] => True
 | i :: r => (∃ d t ty pos af n ag by' zc, l[i]? = some ⟨some d, .alloc t, ty, pos, af, none⟩ ∧ dr P t = some (n, ag, by', zc)) ∧ yP P l r
theorem yP.at {l : List Oper} : ∀ {fr : List Nat}, yP P l fr → ∀ i ∈ fr, ∃ d t ty pos af n ag by' zc, l[i]? = some ⟨some d, .alloc t, ty, pos, af, none⟩ ∧ dr P t = some (n, ag, by', zc)
 | [], _, _, hi => by simp at hi
 | j :: r, h, i, hi => by
  rcases UZ.1 hi with rfl | hi
  ·exact h.1
  ·exact yP.at h.2 i hi
theorem eO {l : List Oper} : yP P l [] := trivial
theorem qJ {l : List Oper} {i d t ty : Nat} {af : Array Edge} {r : List Nat} (h : l[i]? = some ⟨some d, .alloc t, ty, pos, af, none⟩) (ht : dr P t = some (n, ag, by', zc)) (hr : yP P l r) : yP P l (i :: r) := ⟨⟨d, t, ty, pos, af, n, ag, by', zc, h, ht⟩, hr⟩
theorem HP {d : Nat} {t ty : Nat} {af : Array Edge} (ht : dr P t = some (n, ag, by', zc)) (h : OG P ops ⟨some d, .alloc t, ty, pos, af, none⟩ ρ w K)
  (a : Act) (hd : d < a.tmps.size) (next : Act → World → Prop) (Q : Exit → Act → World → Prop) (ha : ∀ i, a.tmps.getD i undef = ρ i) (hn : ∀ v w', K v w' → (∃ b, v = .pointer (some ⟨b, 0, none⟩) ∧ w.heap.size ≤ b ∧ b < w'.heap.size) → next (a.put (some d) v) w') :
  if Region.wanted ⟨some d, .alloc t, ty, pos, af, none⟩ (yielded ops a.tmps) then (Oper.wp P ⟨some d, .alloc t, ty, pos, af, none⟩ a w next Q) ∨ ((Oper.asks P ⟨some d, .alloc t, ty, pos, af, none⟩ a w) ∧ LetsOut Q) else next (a.put (some d) undef) w := by
 have h1 := h.out a (fun a' w' => ∃ v, a' = a.put (some d) v ∧ K v w') Q ha fun v w' hk => ⟨v, rfl, hk⟩;have hw : Region.wanted ⟨some d, .alloc t, ty, pos, af, none⟩ (yielded ops a.tmps) = true := by simp [Region.wanted]
 rw [UF hw] at h1 ⊢;refine h1.imp (fun h2 => ?_) id;obtain ⟨z, hz, hzc⟩ := dF (w := w) ht;have hr : (execOp a.eval ⟨some d, .alloc t, ty, pos, af, none⟩).run P w = .ok (.value (.pointer (some ⟨w.heap.size, 0, none⟩))) (w.alloc (.cells zc.toArray t)) := by simp [execOp, Instr.alloc, newVar, newRow, hz, hzc]
 unfold Oper.wp at h2 ⊢;rw [hr] at h2 ⊢;obtain ⟨v, hv, hk⟩ : ∃ v, a.put (some d) (.pointer (some ⟨w.heap.size, 0, none⟩)) = a.put (some d) v ∧ K v (w.alloc (.cells zc.toArray t)) := h2;have h3 := VJ (fun a' : Act => a'.tmps.getD d undef) hv;simp only [ea hd, UF] at h3;subst h3;exact hn _ _ hk ⟨_, rfl, UH _, (Xw.1 (heap_alloc_new w _)).1⟩
theorem AV {x : Operand} {ty d : Nat} {af : Array Edge} (f : Operand → Value) (w : World) : (∃ v, ∀ w', (execOp f ⟨some d, .extract x k, ty, pos, af, none⟩).run P w' = .ok (.value v) w') ∨ ∀ a K, Oper.upon P ⟨some d, .extract x k, ty, pos, af, none⟩ a K (fun _ _ _ => False) ((execOp f ⟨some d, .extract x k, ty, pos, af, none⟩).run P w) → False := by
 cases hx : f x with
 | tuple xs =>
  cases hk : xs[k]? with
  | some v => exact .inl ⟨v, fun w' => by simp [execOp, hx, Instr.extract, hk]⟩
  | none => exact .inr fun a K h => by simp [execOp, hx, Instr.extract, hk, Oper.upon] at h
 | _ => exact .inr fun a K h => by simp [execOp, hx, Instr.extract, Oper.upon] at h
theorem pure_run {op : Op} (hp : ud op = true) {ty d : Nat} {af : Array Edge} (f : Operand → Value) (w : World) : (∃ v, ∀ w', (execOp f ⟨some d, op, ty, pos, af, none⟩).run P w' = .ok (.value v) w') ∨ ∀ a K, Oper.upon P ⟨some d, op, ty, pos, af, none⟩ a K (fun _ _ _ => False) ((execOp f ⟨some d, op, ty, pos, af, none⟩).run P w) → False := by
 unfold ud at hp;split at hp
 ·exact AV f w
 ·exact .inl ⟨_, fun w' => by simp [execOp]; rfl⟩
 ·cases hp
theorem AH {d : Nat} {op : Op} (hp : ud op = true) {ty : Nat} {af : Array Edge} (h : OG P ops ⟨some d, op, ty, pos, af, none⟩ ρ w K) (a : Act) (hd : d < a.tmps.size) (ha : ∀ i, a.tmps.getD i undef = ρ i) :
  ∃ v, (∀ w', (execOp a.eval ⟨some d, op, ty, pos, af, none⟩).run P w' = .ok (.value v) w') ∧ K v w := by
 have h1 := h.out a (fun a' w' => ∃ v, a' = a.put (some d) v ∧ K v w') (fun _ _ _ => False) ha fun v w' hk => ⟨v, rfl, hk⟩;rw [UF (by simp [Region.wanted])] at h1
 rcases h1 with h1 | ⟨_, _, _, h1⟩
 ·unfold Oper.wp at h1
  rcases pure_run (P := P) hp (d := d) (ty := ty) (pos := pos) (af := af) a.eval w with ⟨v, hv⟩ | hn
  ·rw [hv w] at h1;obtain ⟨v', h2, hk⟩ : ∃ v', a.put (some d) v = a.put (some d) v' ∧ K v' w := h1;have h3 := VJ (fun a' : Act => a'.tmps.getD d undef) h2;simp only [ea hd, UF] at h3;subst h3;exact ⟨v, hv, hk⟩
  ·exact (hn _ _ h1).elim
 ·exact h1.elim
structure SS (D : List Deferred) (fr : List Nat) (N : Nat) (ops : Array Oper) (m : Nat) (ρ : Rf) (J : World → Prop) (V : Nat → Value → World → Prop) (L : Array Bool) (a : Act) (w : World) : Prop where
 nd : a.defers = D
 sz : a.tmps.size = N
 j : J w
 ls : L.size = ops.size
 cl : re ops L
 tl : ∀ k, m ≤ k → L.getD k false = false
 vs : ∀ i d, i < m → L.getD i false = true → (ops[i]?).bind (·.dst) = some d → V i (a.tmps.getD d undef) w
 KY : ∀ s, (∀ i, i < m → L.getD i false = true → (ops[i]?).bind (·.dst) ≠ some s) → a.tmps.getD s undef = ρ s
 fb : ∀ i ∈ fr, L.getD i false = true → ∀ d, (ops[i]?).bind (·.dst) = some d → ∃ b, a.tmps.getD d undef = .pointer (some ⟨b, 0, none⟩) ∧ b < w.heap.size
 fd : ∀ i ∈ fr, ∀ j ∈ fr, i ≠ j → L.getD i false = true → L.getD j false = true → ∀ d e, (ops[i]?).bind (·.dst) = some d → (ops[j]?).bind (·.dst) = some e → a.tmps.getD d undef ≠ a.tmps.getD e undef
theorem JU {id : Nat} {l : List Oper} (fr fl M : List Nat) (m : Nat) (src : List (List (Nat × Option Nat))) (ds : List (Nat × Nat)) (J : World → Prop) (V : Nat → Value → World → Prop) (hm : P.follows .mixedOrders = true) (hok : yE l m N src ds fl M = true) (hfr : yP P l fr) (hfm : fr.all (fun i => i < m) = true) (hQp : NP Q)
  (hJ : ∀ w w', J w → Below w.heap.size w w' → J w') (h0 : J w) (hops : DO P l.toArray J V ρ 0 (l.take m) src)
  (tail : ∀ f w', J w' → BM V f w' ds → (∀ i ∈ fr, ∀ j ∈ fr, i ≠ j → f i ≠ f j) → WL ⟨none, D, false⟩ P N l.toArray Q (l.drop m) (mV ρ f ds) w') : WC ⟨none, D, false⟩ P N (.region id l.toArray true) Q ρ w := by
 refine WC.qx fun a hf => wp_region_any hm ?_;simp only [yE, UX, U2, Wl, Vb, Vi] at hok;obtain ⟨⟨⟨⟨⟨⟨⟨⟨⟨⟨⟨⟨⟨hml, _⟩, hds⟩, hnd⟩, hdN⟩, hrd⟩, htail⟩, hready⟩, hend⟩, hdep⟩, hedge⟩, hns⟩, hflo⟩, hM⟩ := hok;have hfl := fun i hi => FR (hflo i hi);have hdo := (EG _ _ _ hops).2;have hpre : ∀ i d, i < m → ((l.toArray[i]?).bind (·.dst)) = some d → (i, d) ∈ ds := fun i d hi hd => by
  exact Qp
 have hdsm : ∀ i d, (i, d) ∈ ds → i < m ∧ ((l.toArray[i]?).bind (·.dst)) = some d := fun i d hp => by
  exact QK
 have hone : ∀ i j d, i < m → j < m → ((l.toArray[i]?).bind (·.dst)) = some d → ((l.toArray[j]?).bind (·.dst)) = some d → i = j := fun i j d hi hj h1 h2 => by
  exact PE
 have hnn : l.toArray.size = l.length := by simp
 have hfm' : ∀ i ∈ fr, i < m := fun i hi => by simpa using Vb.1 hfm i hi
 have full : ∀ (L : Array Bool) (a : Act) (w : World) (fuel : Nat), SS D fr N l.toArray m ρ J V L a w → (∀ i, i < m → L.getD i false = true) → l.length ≤ fuel + m → wpAny P .any l.toArray (dx N D Q) fuel L a w := by
  intro L a w fuel hI hall hfu;have hL : L = jt l.length m := yr (by rw [hI.ls, hnn]) hml hall hI.tl;rw [hL];refine pL m (fun k h1 h2 => ?_) hend fuel m a w (UH _) hml hfu ?_
  ·have := hready (k - m) Uz;rwa [show m + (k - m) = k by omega] at this
  ·have hfits : ew N D a (mV ρ (fun i => match (l.toArray[i]?).bind (·.dst) with | some d => a.tmps.getD d undef | none => undef) ds) := by
    exact So
   refine (tail _ w hI.j (sK ds fun p hp => ?_) fun i hi j hj hij => ?_).out a hfits
   rotate_left
   ·obtain ⟨d, t, ty, pos, af, n, ag, by', zc, hi1, _⟩ := hfr.at i hi;obtain ⟨e, t', ty', pos', af', n', ag', by'', zc', hj1, _⟩ := hfr.at j hj;have hi2 : (l.toArray[i]?).bind (·.dst) = some d := by rw [W0, hi1]; rfl
    have hj2 : (l.toArray[j]?).bind (·.dst) = some e := by rw [W0, hj1]; rfl
    rw [hi2, hj2];exact hI.fd i hi j hj hij (hall i (hfm' i hi)) (hall j (hfm' j hj)) d e hi2 hj2
   obtain ⟨h1, h2⟩ := hdsm p.1 p.2 hp;have := hI.vs p.1 p.2 h1 (hall _ h1) h2;rw [h2];exact this
 have key : ∀ (fuel : Nat) (L : Array Bool) (a : Act) (w : World), SS D fr N l.toArray m ρ J V L a w → fuel + L.toList.countP (fun b => b) = l.length → wpAny P .any l.toArray (dx N D Q) fuel L a w := by
  intro fuel
  induction fuel with
  | zero =>
   exact SC
  | succ fuel ih =>
   intro L a w hI hc;by_cases hall : ∀ i, i < m → L.getD i false = true
   ·exact Q3
   ·have hsome : ∃ i, i < m ∧ L.getD i false = false := by
     exact Rh
    have hready_spec : ∀ i, i ∈ Region.ready .any l.toArray L ↔ i < l.length ∧ L.getD i true = false ∧ ∃ o, l.toArray[i]? = some o ∧ ∀ e ∈ o.after, Region.binds .any e = true → L.getD e.on false = true := fun i => by
     exact P4
    have both : ∀ (i : Nat) (_ : i < m) (o : Oper) (_ : l.toArray[i]? = some o) (_ : L.getD i false = false) (_ : ∀ e ∈ o.after, Region.binds .any e = true → L.getD e.on false = true),
      OG P l.toArray o (fun t => a.tmps.getD t undef) w (fun v w2 => Below w.heap.size w w2 ∧ V i v w2) ∧
      ∀ v w2, (Below w.heap.size w w2 ∧ V i v w2) → (i ∈ fr → ∃ b, v = .pointer (some ⟨b, 0, none⟩) ∧ w.heap.size ≤ b ∧ b < w2.heap.size) → wpAny P .any l.toArray (dx N D Q) fuel (L.setIfInBounds i true) (a.put o.dst v) w2 := fun i him o ho hun' hed => by
     have hiL : i < L.size := by rw [hI.ls, hnn]; omega
     have hed' : ∀ o', l.toArray[i]? = some o' → ∀ e ∈ o'.after, Region.binds .any e = true → L.getD e.on false = true := fun o' ho' => by
      rw [ho] at ho'; injection ho' with ho'; subst ho'; exact hed
     have hok' : (l.take m)[i]? = some o := by
      rw [Wq, UF him];simpa using ho
     obtain ⟨s, hs, hstab, hog⟩ := hdo i o hok';rw [U5] at hstab hog;have hrdi := hrd i him;rw [ho, hs] at hrdi;simp only [UX, Vb] at hrdi;have hro : dp V ρ (fun t => a.tmps.getD t undef) w s := pN s fun p hp => by
      have hp2 := hrdi.2 p hp
      cases hp3 : p.2 with
      | some j =>
       rw [hp3] at hp2;simp only [UX, U2, Wl] at hp2;exact hI.vs j p.1 hp2.1.1 (kn hM hI.cl i j hed' hp2.2) hp2.1.2
      | none =>
       rw [hp3] at hp2;refine hI.KY p.1 fun j hj hjl hjd => ?_;have h6 := Vb.1 hp2 j (by simpa using hj);rw [hjd] at h6;simp only [beq_self_eq_true, Bool.not_true, VI, UX] at h6;have := kn hM hI.cl j i (fun o' ho' e he hb => hI.cl j o' ho' hjl e he hb) h6.2;rw [hun'] at this
       cases this
     have hnext : ∀ v w2, (Below w.heap.size w w2 ∧ V i v w2) → (i ∈ fr → ∃ b, v = .pointer (some ⟨b, 0, none⟩) ∧ w.heap.size ≤ b ∧ b < w2.heap.size) → wpAny P .any l.toArray (dx N D Q) fuel (L.setIfInBounds i true) (a.put o.dst v) w2 := fun v w2 hv hfv => by
      have hd1 : ∀ d', o.dst = some d' → d' < a.tmps.size := fun d' hd' => by
       rw [hI.sz];exact hdN (i, d') (hpre i d' him (by rw [ho]; exact hd'))
      have hput : ∀ j d, j < m → j ≠ i → (l.toArray[j]?).bind (·.dst) = some d → (a.put o.dst v).tmps.getD d undef = a.tmps.getD d undef := fun j d hj hji hjd => by
       cases hod : o.dst with
       | none => rfl
       | some d' => rw [ea (hd1 d' hod), UE fun e => hji (hone j i d hj him hjd (by rw [ho, e]; exact hod))]
      have hputi : ∀ d, (l.toArray[i]?).bind (·.dst) = some d → (a.put o.dst v).tmps.getD d undef = v := fun d hd => by
       rw [ho] at hd;simp only [W3] at hd;rw [hd, ea (hd1 d hd), UF rfl]
      have hfd : ∀ j ∈ fr, j ≠ i → L.getD j false = true → i ∈ fr → ∀ e, (l.toArray[j]?).bind (·.dst) = some e → a.tmps.getD e undef ≠ v := fun j hj hji hjl hif e hje heq => by
       obtain ⟨b, hb1, hb2⟩ := hI.fb j hj hjl e hje;obtain ⟨b', hv1, hb3, _⟩ := hfv hif;rw [hb1, hv1] at heq;injection heq with heq
       injection heq with heq
       injection heq with heq
       omega
      refine ih _ _ _ ?_ ?_
      ·refine ⟨?_, ?_, hJ _ _ hI.j hv.1, by simpa using hI.ls, ?_, ?_, ?_, ?_, ?_, ?_⟩
       ·cases o.dst <;> exact hI.nd
       ·cases hod : o.dst with
        | none => exact hI.sz
        | some d => simpa [Act.put] using hI.sz
       ·intro k ok hk hkl e he hb;rw [dD hiL] at hkl ⊢;by_cases hki : k = i
        ·subst hki;simp [hed' ok hk e he hb]
        ·simp only [hki, decide_false, VI] at hkl;simp [hI.cl k ok hk hkl e he hb]
       ·intro k hk;rw [dD hiL, hI.tl k hk];have : ¬ k = i := Uz;simp [this]
       ·intro j d hj hjl hjd;rw [dD hiL] at hjl;have hd1 : ∀ d', o.dst = some d' → d' < a.tmps.size := fun d' hd' => by
         rw [hI.sz];exact hdN (i, d') (hpre i d' him (by rw [ho]; exact hd'))
        by_cases hji : j = i
        ·subst hji;rw [ho] at hjd;simp only [W3] at hjd;rw [hjd, ea (hd1 d hjd), UF rfl];exact hv.2
        ·simp only [hji, decide_false, VI] at hjl;have hold := hI.vs j d hj hjl hjd;have hdj : (j, d) ∈ ds := hpre j d hj hjd;have hst := (hdo j (l.toArray[j]?.getD default) (by
          have : j < l.length := Uz;rw [Wq, UF hj];simp [this])).choose_spec.2.1
         rw [U5] at hst;have hne : ∀ d', o.dst = some d' → d ≠ d' := fun d' hd' e => by
          subst e;exact hji (hone j i d hj him hjd (by rw [ho]; exact hd'))
         cases hod : o.dst with
         | none => exact hst _ _ _ hold hv.1
         | some d' =>
          rw [ea (hd1 d' hod), UE (hne d' hod)];exact hst _ _ _ hold hv.1
       ·intro s' hs';have hni : ((l.toArray[i]?).bind (·.dst)) ≠ some s' := hs' i him (by rw [dD hiL]; simp);have hold := hI.KY s' fun j hj hjl => hs' j hj (by rw [dD hiL]; simp [hjl]);rw [ho] at hni;simp only [W3] at hni
        cases hod : o.dst with
        | none => exact hold
        | some d' =>
         rw [ea (by rw [hI.sz]; exact hdN (i, d') (hpre i d' him (by rw [ho]; exact hod))), UE (fun e => hni (by rw [hod, e]))];exact hold
       ·intro j hj hjl d hjd;rw [dD hiL] at hjl;by_cases hji : j = i
        ·subst hji;obtain ⟨b, hb1, _, hb3⟩ := hfv hj;exact ⟨b, (hputi d hjd).trans hb1, hb3⟩
        ·simp only [hji, decide_false, VI] at hjl;obtain ⟨b, hb1, hb2⟩ := hI.fb j hj hjl d hjd;exact ⟨b, (hput j d (hfm' j hj) hji hjd).trans hb1, VN hb2 hv.1.size⟩
       ·intro j hj k hk hjk hjl hkl d e hjd hke;rw [dD hiL] at hjl hkl;by_cases hji : j = i
        ·subst hji;have hkj : k ≠ j := fun e => hjk e.symm;simp only [hkj, decide_false, VI] at hkl;rw [hputi d hjd, hput k e (hfm' k hk) hkj hke];exact fun he => hfd k hk hkj hkl hj e hke he.symm
        ·simp only [hji, decide_false, VI] at hjl;by_cases hki : k = i
         ·subst hki;rw [hputi e hke, hput j d (hfm' j hj) hji hjd];exact hfd j hj hji hjl hk d hjd
         ·simp only [hki, decide_false, VI] at hkl;rw [hput j d (hfm' j hj) hji hjd, hput k e (hfm' k hk) hki hke];exact hI.fd j hj k hk hjk hjl hkl d e hjd hke
      ·have hLi : L.toList[i]? = some false := by
        have h3 : i < L.toList.length := by simpa using hiL
        rw [VZ h3];have : L.getD i false = L.toList[i] := by simp [hiL]
        rw [← this, hun']
       rw [Array.toList_setIfInBounds, List.countP_set (by simpa using hiL)];have h4 : L.toList[i]'(by simpa using hiL) = false := (UW.1 hLi).2;rw [h4];simp only [XP, if_false, if_true];omega
     exact ⟨hog _ w hI.j hro, hnext⟩
    by_cases hnf : ∀ i, i < m → i ∉ fl → L.getD i false = true
    ·obtain ⟨i, him, hun'⟩ := hsome;have hif : i ∈ fl := Wz fun h => by
      have h2 := hnf i him h;rw [hun'] at h2
      cases h2
     obtain ⟨hfree, hedf, d, op, ty, pos, af, hlo, hpu⟩ := hfl i hif;have ho : l.toArray[i]? = some ⟨some d, op, ty, pos, af, none⟩ := by rw [W0]; exact hlo
     have hed : ∀ e ∈ af, Region.binds .any e = true → L.getD e.on false = true := fun e he hb => by
      obtain ⟨h1, h2⟩ := hedf _ hlo e he hb;exact hnf e.on h1 h2
     have hil : i < l.length := Uz;have hiL : i < L.size := by rw [hI.ls, hnn]; exact hil
     have hunt : L.getD i true = false := by
      rw [VR] at hun' ⊢;rw [WZ hiL] at hun' ⊢;simpa using hun'
     obtain ⟨hog, hnext⟩ := both i him _ ho hun' hed;obtain ⟨v, hv, hk⟩ := AH hpu hog a (by rw [hI.sz]; exact hdN (i, d) (hpre i d him (by rw [ho]; rfl))) fun _ => rfl;refine wpAny_first (v := v) ho (Region.noSelect_spec hns) (fun c a w ⟨ρ', _, hq⟩ => (hQp c ρ' w hq).elim) fuel L a w (fun j oj hj hji hjl hno => ?_) ((hready_spec i).2 ⟨hil, hunt, _, ho, hed⟩) (.inl ⟨by simp [Region.wanted], hv⟩) (hnext v w hk fun hfr' => ?_)
     ·refine Region.free_spec ho hfree j oj hj hji ?_ hno;have hjlen : j < l.length := by have := (Xw.1 hj).1; omega
      rw [KR hjlen];rw [XS];rintro ⟨h1, h2⟩;have h3 := hnf j h1 h2;have hjL : j < L.size := by rw [hI.ls, hnn]; exact hjlen
      rw [VR] at h3 hjl;rw [WZ hjL] at h3 hjl;simp only [VV] at h3 hjl;rw [h3] at hjl
      cases hjl
     ·obtain ⟨d', t, ty', pos', af', n, ag, by', zc, hi1, _⟩ := hfr.at i hfr';rw [hlo] at hi1;injection hi1 with hi1
      injection hi1 with _ hi1
      subst hi1
      cases hpu
    have hsome2 : ∃ i, i < m ∧ i ∉ fl ∧ L.getD i false = false := by
     refine Wz fun hn => hnf fun i hi hif => ?_
     cases hc2 : L.getD i false with
     | true => rfl
     | false => exact absurd ⟨i, hi, hif, hc2⟩ hn
    refine ⟨fun hnil => ?_, fun i hi => ?_⟩
    ·exact SE
    ·obtain ⟨hil, hun, o, ho, hed⟩ := (hready_spec i).1 hi;have hiL : i < L.size := by rw [hI.ls, hnn]; exact hil
     have hun' : L.getD i false = false := by
      exact P5
     have hed' : ∀ o', l.toArray[i]? = some o' → ∀ e ∈ o'.after, Region.binds .any e = true → L.getD e.on false = true := fun o' ho' => by
      exact Jn
     have him : i < m := by
      rcases Vv i m with h | h
      ·exact h
      ·exfalso
       rcases Vv m i with h2 | h2
       ·exact Rj
       ·obtain rfl : i = m := Uz;have h4 : (l.length == i) = false := by simp; omega
        rw [h4, VI] at htail;have h5 := Vb.1 htail;obtain ⟨j, hj, hjf, hju⟩ := hsome2;have h6 := h5 j (by simpa using hj);have h7 : fl.contains j = false := by simpa using hjf
        rw [h7, VI] at h6;have := kn hM hI.cl i j hed' h6;rw [hju] at this
        cases this
     obtain ⟨hog, hnext⟩ := both i him o ho hun' hed;have hgo : if Region.wanted o (yielded l.toArray a.tmps) then (o.wp P a w (wpAny P .any l.toArray (dx N D Q) fuel (L.setIfInBounds i true)) (dx N D Q)) ∨ ((o.asks P a w) ∧ LetsOut (dx N D Q)) else wpAny P .any l.toArray (dx N D Q) fuel (L.setIfInBounds i true) (a.put o.dst undef) w := by
      by_cases hif : i ∈ fr
      ·obtain ⟨d, t, ty, pos, af, n, ag, by', zc, hi1, ht⟩ := hfr.at i hif;have ho2 : o = ⟨some d, .alloc t, ty, pos, af, none⟩ := by
        have h7 := ho;rw [W0, hi1] at h7;injection h7 with h7
        exact h7.symm
       have hds : d < a.tmps.size := by
        rw [hI.sz];exact hdN (i, d) (hpre i d him (by rw [ho, ho2]; rfl))
       subst ho2;exact HP ht hog a hds _ _ (fun _ => rfl) fun v w' hk hb => hnext v w' hk fun _ => hb
      ·exact hog.out a _ _ (fun _ => rfl) fun v w2 hv => hnext v w2 hv fun h => absurd h hif
     unfold wpOp;rw [ho];exact hgo
 exact Sr
end
theorem dX {Q : Kq} {id : Nat} {l : List Oper} (fr fl M : List Nat) (m : Nat) (src : List (List (Nat × Option Nat))) (ds : List (Nat × Nat)) {H : List HE} (hh : Hp w0 H w) (hm : P.follows .mixedOrders = true) (hok : yE l m N src ds fl M = true)
  (hfr : yP P l fr) (hfm : fr.all (fun i => i < m) = true) (hQp : NP Q)
  (h : DX P l.toArray (JJ w0 H w) ρ (fun V => ∀ f w', JJ w0 H w w' → BM V f w' ds → (∀ i ∈ fr, ∀ j ∈ fr, i ≠ j → f i ≠ f j) → WL ⟨none, D, false⟩ P N l.toArray Q (l.drop m) (mV ρ f ds) w') 0 Te (l.take m) src) : WC ⟨none, D, false⟩ P N (.region id l.toArray true) Q ρ w := by
 obtain ⟨V, _, h1, h2⟩ := Ec _ _ _ _ (fun _ _ _ _ => trivial) h;exact JU fr fl M m src ds (JJ w0 H w) V hm hok hfr hfm hQp (fun _ _ h hb => h.ext hb) (JJ.start hh) h1 h2
end
section
variable {ro : Mode}
def cg (ρ : Rf) : List (Nat × Value) → Rf
 | [] => ρ
 | (d, v) :: r => cI (cg ρ r) d v
def RI (f : Nat → Value) : List (Nat × Nat) → List (Nat × Value) → Prop
 | [], [] => True
 | (i, d) :: r, (d', v) :: s => (d = d' ∧ f i = v) ∧ RI f r s
 | _, _ => False
theorem br {ρ : Rf} {f : Nat → Value} : ∀ {ds : List (Nat × Nat)} {vs : List (Nat × Value)}, RI f ds vs → mV ρ f ds = cg ρ vs
 | [], [], _ => rfl
 | [], _ :: _, h => h.elim
 | _ :: _, [], h => h.elim
 | (i, d) :: r, (d', v) :: s, h => by
  obtain ⟨⟨rfl, rfl⟩, h2⟩ := h;rw [mV, cg, br h2]
theorem aX {f : Nat → Value} : RI f [] [] := trivial
theorem ae {f : Nat → Value} {i d : Nat} {v : Value} {r : List (Nat × Nat)} {s : List (Nat × Value)} (h : f i = v) (hr : RI f r s) : RI f ((i, d) :: r) ((d, v) :: s) := ⟨⟨rfl, h⟩, hr⟩
theorem aY {Q : Kq} {l : List Oper} {ρ' : Rf} (h : ρ = ρ') (k : WL ro P N ops Q l ρ' w) : WL ro P N ops Q l ρ w := h ▸ k
section
variable {P : Program} {ops : Array Oper} {J : World → Prop} {ρ : Rf} {T : (Nat → VP) → Prop} {i : Nat} {pv : Nat → VP} {os : List Oper} {s : List (Nat × Option Nat)} {ss : List (List (Nat × Option Nat))} {d : Option Nat} {ty : TypeId} {pos : String} {af : Array Edge}
theorem u2 {op : Op} {b : Bool} (hj : (ops[j]?).bind (·.dst) = some dj) (hv : ρ dj = undef) (h : K undef w) : OG P ops ⟨d, op, ty, pos, af, some (j, b)⟩ ρ w K :=
 ⟨fun a next Q ha hn => by
  have h1 : Region.wanted ⟨d, op, ty, pos, af, some (j, b)⟩ (yielded ops a.tmps) = false := by
   have h2 := ha dj;rw [hv, VR] at h2
   cases h3 : a.tmps[dj]? with
   | none => simp [Region.wanted, yielded, hj, h3]
   | some x =>
    rw [h3] at h2;simp only [VV] at h2;subst h2;simp [Region.wanted, yielded, hj, h3, undef]
  rw [h1];exact hn _ _ h⟩
theorem AN {b : Bool} {op : Op} (hj : (ops[j]?).bind (·.dst) = some dj) (hv : ∀ ρ1 w1, J w1 → dp (pv) ρ ρ1 w1 s → ρ1 dj = undef)
  (k : DX P ops J ρ T (i + 1) (eE pv i (Is undef)) os ss) : DX P ops J ρ T i pv (⟨d, op, ty, pos, af, some (j, b)⟩ :: os) (s :: ss) :=
 aP (Is undef) Is.ext (fun ρ1 w1 hj' h => u2 hj (hv ρ1 w1 hj' h) ⟨Below.refl _ _, rfl⟩) k
theorem a6 {b : Bool} {t e : TypeId} {len sz : Nat} (hj : (ops[j]?).bind (·.dst) = some dj) (hg : ∀ ρ1 w1, J w1 → dp (pv) ρ ρ1 w1 s → ρ1 dj = .bool b)
  (ht : P.underlying t = some (.slice e)) (hte : dr P e = some (sz, ag, by', zc))
  (hp : ∀ ρ1 w1, J w1 → dp (pv) ρ ρ1 w1 s → xn ρ1 parts.toList = ps) (hzl : zc.length = sz) (hf : ky (fun i => some (i * sz, sz)) (fM len zc) ps = some cs) (h0 : ¬ len * sz = 0) (hsl : len * sz ≤ 16777216) (hl : cs.length = len * sz)
  (k : DX P ops J ρ T (i + 1) (eE pv i (Rows len sz cs)) os ss) : DX P ops J ρ T i pv (⟨d, .buildSlice t len parts, ty, pos, af, some (j, b)⟩ :: os) (s :: ss) :=
 aP (Rows len sz cs) Rows.ext (fun ρ1 w1 hj' h => bf hj (hg ρ1 w1 hj' h) (ji ht hte (hp ρ1 w1 hj' h) hzl hf h0 hsl hl fun _ _ ⟨_, hv, hs⟩ hb => ⟨hb, _, _, hv, hs⟩)) k
end
theorem Hp.iF {f : α → List Value} {sz : Nat} {H : List HE} {i e g : Nat} {l : List α} {x : α} (hh : Hp w0 H w) (hi : H[i]? = some (.row (some ⟨g, 0, none⟩) n c e sz (az f l))) (hf : ∀ x, (f x).length = sz) (h0 : 0 < sz) (hx : l[k]? = some x) : Rd w ⟨g, k * sz, none⟩ (f x) := by
 have hs := hh.aA hi;have hl := hs.bq hf h0;obtain ⟨ad, h1, h2⟩ := hs.2 (by have := (UW.1 hx).1; omega);injection h1 with h1
 subst h1;have h3 := h2.recAt hf hx;rwa [fD, U5] at h3
end
section
variable {ro : Mode}
section
variable {P : Program} {ρ : Rf} {w : World}
end
end
section
variable {ro : Mode}
section
variable {P : Program} {ρ : Rf} {w : World}
end
section
variable {P : Program} {N : Nat} {ops : Array Oper} {Q : Kq} {ρ : Rf} {w : World} {rest : List Oper} {d ty : Nat} {pos : String} {af : Array Edge}
end
end
section
variable {P : Program} {N : Nat} {Q : Kq} {ρ : Rf} {w : World}
structure WA (P : Program) (N : Nat) (ops : Array Oper) (Q : Kq) (fuel : Nat) (L : Array Bool) (ρ : Rf) (w : World) : Prop where
 out : ∀ a, Fits N a ρ → wpAny P .any ops (lift N Q) fuel L a w
theorem vc {o : Oper} {a : Act} {K : Act → World → Prop} {r : Result Next} (h : o.upon P a K (lift N (cD next Q)) r) : o.upon P a K (lift N Q) r := by
 have hp : ∀ c a w, lift N (cD next Q) (.panic c) a w → lift N Q (.panic c) a w := fun _ _ _ h => h;have ho : LetsOut (lift N (cD next Q)) → LetsOut (lift N Q) := fun ⟨a, w, h⟩ => ⟨a, w, h⟩
 cases r with
 | ok n w' =>
  cases n <;> simp only [Oper.upon] at h ⊢ <;> first
   | exact h
   | exact Calls.mono h (fun e w'' he => by cases e <;> first | exact he | exact hp _ _ _ he | exact ho he)
 | halt x w' => cases x <;> simp only [Oper.upon] at h ⊢ <;> first | exact h | exact hp _ _ _ h | exact ho h
theorem EI {L : Array Bool} (hr : Region.ready .any ops L = rs) (hne : rs ≠ [])
  (h : ∀ i ∈ rs, ∃ o, ops[i]? = some o ∧ WL .plain P N ops (cD (fun ρ w => WA P N ops Q fuel (L.setIfInBounds i true) ρ w) Q) [o] ρ w) : WA P N ops Q (fuel + 1) L ρ w := by
 refine ⟨fun a hf => wpAny_all hr hne fun i hi => ?_⟩;obtain ⟨o, ho, hw⟩ := h i hi;have h1 := hw.out a hf;have hK : ∀ a w, wpList P ops (lift N (cD (fun ρ w => WA P N ops Q fuel (L.setIfInBounds i true) ρ w) Q)) [] a w → wpAny P .any ops (lift N Q) fuel (L.setIfInBounds i true) a w := fun a w ⟨ρ', hf', hq⟩ => by
  have hq' : WA P N ops Q fuel (L.setIfInBounds i true) ρ' w := hq;exact hq'.out a hf'
 unfold wpOp;rw [ho];simp only [];unfold wpList at h1;split at h1
 ·rename_i hwt;rw [UF hwt];refine h1.imp (fun h2 => Oper.wp_mono hK ?_) (fun h2 => ⟨h2.1, ?_⟩)
  ·unfold Oper.wp at h2 ⊢;exact vc h2
  ·obtain ⟨a', w', h3⟩ := h2.2;exact ⟨a', w', h3⟩
 ·rename_i hwt;rw [UE hwt];exact hK _ _ h1
theorem fQ {L : Array Bool} {i : Nat} {o : Oper} (hr : Region.ready .any ops L = [i]) (ho : ops[i]? = some o)
  (h : WL .plain P N ops (cD (fun ρ w => WA P N ops Q fuel (L.setIfInBounds i true) ρ w) Q) [o] ρ w) : WA P N ops Q (fuel + 1) L ρ w :=
 EI hr (by simp) fun j hj => by
  obtain rfl : j = i := by simpa using hj
  exact ⟨o, ho, h⟩
theorem tS {L : Array Bool} {i i2 : Nat} {o o2 : Oper} (hr : Region.ready .any ops L = [i, i2]) (ho : ops[i]? = some o) (ho2 : ops[i2]? = some o2)
  (h : WL .plain P N ops (cD (fun ρ w => WA P N ops Q fuel (L.setIfInBounds i true) ρ w) Q) [o] ρ w)
  (h2 : WL .plain P N ops (cD (fun ρ w => WA P N ops Q fuel (L.setIfInBounds i2 true) ρ w) Q) [o2] ρ w) : WA P N ops Q (fuel + 1) L ρ w :=
 EI hr (by simp) fun j hj => by
  rcases UZ.1 hj with rfl | hj
  ·exact ⟨o, ho, h⟩
  ·obtain rfl : j = i2 := by simpa using hj
   exact ⟨o2, ho2, h2⟩
theorem fF {L : Array Bool} (h : WA P N ops Q fuel L ρ w) : WL .plain P N ops (cD (fun ρ w => WA P N ops Q fuel L ρ w) Q) [] ρ w := aa h
theorem kv {l : List Oper} {L : Array Bool} (m : Nat) (hm : m ≤ l.length) (hL : L = jt l.length m) (hf : l.length ≤ fuel + m)
  (hr : ((List.range (l.length - m)).all fun k => Region.ready .any l.toArray (jt l.length (m + k)) == [m + k]) = true) (hend : Region.ready .any l.toArray (jt l.length l.length) = [])
  (h : WL .plain P N l.toArray Q (l.drop m) ρ w) : WA P N l.toArray Q fuel L ρ w :=
 ⟨fun a hfits => by
  rw [hL];refine pL m (fun k h1 h2 => ?_) hend fuel m a w (UH _) hm hf (h.out a hfits);have h3 := Vb.1 hr (k - m) (by simp; omega);rw [show m + (k - m) = k by omega] at h3;exact eq_of_beq h3⟩
theorem qo {id : Nat} {l : List Oper} {H : List HE} (hh : Hp w0 H w) (hm : P.follows .mixedOrders = true) (h : ∀ w', JJ w0 H w w' → WA P N l.toArray Q l.length (Array.replicate l.length false) ρ w') : WC .plain P N (.region id l.toArray true) Q ρ w := by
 refine WC.qx fun a hf => wp_region_any hm ?_;have hb : Below w.heap.size w ({ w with drawn := w.drawn + 1 } : World) := ⟨rfl, rfl, rfl, UH _, fun _ _ => rfl⟩;have := (h _ ((JJ.start hh).ext hb)).out a hf;simpa using this
end
section
variable {P : Program} {N : Nat} {Q : Kq} {ρ : Rf} {w : World}
def GO : List Nat → List (List Nat)
 | [] => [[]]
 | x :: r => GO r ++ (GO r).map (x :: ·)
theorem r8 (p : Nat → Bool) : ∀ l : List Nat, l.filter p ∈ GO l
 | [] => by simp [GO]
 | x :: r => by
  have ih := r8 p r;rw [List.filter_cons, GO];split
  ·exact Wp _ (UY.2 ⟨_, ih, rfl⟩)
  ·exact WB _ ih
def lD (n m : Nat) (fl D : List Nat) : Array Bool := ((List.range n).map fun i => decide (i < m ∧ (i ∉ fl ∨ i ∈ D))).toArray
def E6 (l : List Oper) (fl D : List Nat) : Bool := D.all fun i => match l[i]? with
 | some o => o.after.all fun e => !Region.binds .any e || !fl.contains e.on || D.contains e.on
 | none => true
def Q0 (ds : List (Nat × Nat)) (fl D : List Nat) : List (Nat × Nat) := ds.filter fun p => !fl.contains p.1 || D.contains p.1
def Ee (l : List Oper) (m : Nat) (fl : List Nat) (ds : List (Nat × Nat)) : List (List Nat × Nat × List (Nat × Nat)) :=
 ((GO fl).filter (E6 l fl)).map fun D => (D, l.length - (lD l.length m fl D).toList.countP (fun b => b) - 1, Q0 ds fl D)
def xO (l : List Oper) (m N : Nat) (src : List (List (Nat × Option Nat))) (ds : List (Nat × Nat)) (fl M : List Nat) : Bool :=
 let ops := l.toArray
 let pre := (List.range m).map fun i => ((ops[i]?).bind (·.dst))
 (m ≤ l.length) && (src.length == m) &&
 (ds == (pre.zipIdx.filterMap fun (d, i) => d.map fun d => (i, d)).reverse) && (decide (ds.map (·.2)).Nodup) && (ds.all fun p => p.2 < N) &&
 ((List.range m).all fun i => match ops[i]?, src[i]? with
  | some o, some s => ((o.looksAt ops).all fun t => s.any fun p => p.1 == t) &&
    s.all fun p => match p.2 with
     | some j => (j < m) && ((ops[j]?).bind (·.dst) == some p.1) && (M.getD i 0).testBit j
     | none => (List.range m).all fun j => !((ops[j]?).bind (·.dst) == some p.1) || (j != i && (M.getD j 0).testBit i)
  | _, _ => false) &&
 (l.length == m || ((List.range m).all fun i => fl.contains i || (M.getD m 0).testBit i)) &&
 ((List.range (l.length - m)).all fun k => k == 0 || (M.getD (m + k) 0).testBit m) &&
 ((List.range l.length).all fun i => match ops[i]? with | some o => o.after.all fun e => !Region.binds .any e || e.on < i | none => false) && (tZ l [] == M)
theorem J2 {id : Nat} {l : List Oper} (fl M : List Nat) (m : Nat) (src : List (List (Nat × Option Nat))) (ds : List (Nat × Nat)) (Ds : List (List Nat × Nat × List (Nat × Nat))) (J : World → Prop) (V : Nat → Value → World → Prop) (hm : P.follows .mixedOrders = true) (hok : xO l m N src ds fl M = true) (hDs : Ee l m fl ds = Ds) (hmn : m < l.length)
  (hJ : ∀ w w', J w → Below w.heap.size w w' → J w') (h0 : J w) (hops : DO P l.toArray J V ρ 0 (l.take m) src)
  (tail : ∀ p ∈ Ds, ∀ f w', J w' → BM V f w' p.2.2 → WL .plain P N l.toArray (cD (fun ρ w => WA P N l.toArray Q p.2.1 ((lD l.length m fl p.1).setIfInBounds m true) ρ w) Q) ((l.drop m).take 1) (mV ρ f p.2.2) w') : WC .plain P N (.region id l.toArray true) Q ρ w := by
 refine WC.qx fun a hf => wp_region_any hm ?_;simp only [xO, UX, U2, Wl, Vb, Vi] at hok;obtain ⟨⟨⟨⟨⟨⟨⟨⟨⟨hml, _⟩, hds⟩, hnd⟩, hdN⟩, hrd⟩, htail⟩, hdep⟩, hedge⟩, hM⟩ := hok;have hdo := (EG _ _ _ hops).2;have hpre : ∀ i d, i < m → ((l.toArray[i]?).bind (·.dst)) = some d → (i, d) ∈ ds := fun i d hi hd => by
  exact Qp
 have hdsm : ∀ i d, (i, d) ∈ ds → i < m ∧ ((l.toArray[i]?).bind (·.dst)) = some d := fun i d hp => by
  exact QK
 have hone : ∀ i j d, i < m → j < m → ((l.toArray[i]?).bind (·.dst)) = some d → ((l.toArray[j]?).bind (·.dst)) = some d → i = j := fun i j d hi hj h1 h2 => by
  exact PE
 have hnn : l.toArray.size = l.length := by simp
 have part : ∀ (L : Array Bool) (a : Act) (w : World) (fuel : Nat), SS [] [] N l.toArray m ρ J V L a w → (∀ i, i < m → i ∉ fl → L.getD i false = true) → fuel + 1 + L.toList.countP (fun b => b) = l.length → ∀ o, l.toArray[m]? = some o →
   wpOp P l.toArray (lift N Q) m (wpAny P .any l.toArray (lift N Q) fuel (L.setIfInBounds m true)) a w := by
  intro L a w fuel hI hall hfu o ho;have hflt : ∀ i, i ∈ fl.filter (fun i => L.getD i false) ↔ i ∈ fl ∧ L.getD i false = true := fun i => by rw [V7]
  have hL : L = lD l.length m fl (fl.filter fun i => L.getD i false) := by
   apply Array.ext (by simp [lD, hI.ls]);intro i h1 h2;have e1 : L.getD i false = L[i] := by simp [h1]
   rw [← e1];simp only [lD, List.getElem_toArray, List.getElem_map, List.getElem_range]
   rcases Vv i m with h | h
   ·by_cases hif : i ∈ fl
    ·cases hc : L.getD i false with
     | true => exact (U0 ⟨h, .inr ((hflt i).2 ⟨hif, hc⟩)⟩).symm
     | false => exact (Vf fun hh => hh.2.elim (fun hn => hn hif) fun hd => by rw [((hflt i).1 hd).2] at hc; cases hc).symm
    ·rw [hall i h hif];exact (U0 ⟨h, .inl hif⟩).symm
   ·rw [hI.tl i h];exact (Vf fun hh => by omega).symm
  have hcl : E6 l fl (fl.filter fun i => L.getD i false) = true := Vb.2 fun i hi => by
   obtain ⟨h1, h2⟩ := (hflt i).1 hi
   cases hli : l[i]? with
   | none => rfl
   | some oi =>
    refine XX.2 fun e he => ?_
    cases hb : Region.binds .any e with
    | false => rfl
    | true =>
     have h3 := hI.cl i oi (by rw [W0]; exact hli) h2 e he hb;by_cases hef : e.on ∈ fl
     ·rw [W6];exact .inr (List.contains_iff_mem.2 ((hflt _).2 ⟨hef, h3⟩))
     ·simp [hef]
  have hmem : (fl.filter (fun i => L.getD i false), l.length - (lD l.length m fl (fl.filter fun i => L.getD i false)).toList.countP (fun b => b) - 1, Q0 ds fl (fl.filter fun i => L.getD i false)) ∈ Ds := by
   rw [← hDs];exact UY.2 ⟨_, V7.2 ⟨r8 _ _, hcl⟩, rfl⟩
  have hfu' : l.length - L.toList.countP (fun b => b) - 1 = fuel := Uz;have htl := tail _ hmem;simp only [← hL, hfu'] at htl;have hsub : ∀ p ∈ Q0 ds fl (fl.filter fun i => L.getD i false), p ∈ ds ∧ L.getD p.1 false = true := fun p hp => by
   obtain ⟨h1, h2⟩ := V7.1 hp;refine ⟨h1, ?_⟩;simp only [W6, X3, List.contains_eq_mem, XS, U2] at h2
   rcases h2 with h2 | h2
   ·exact hall _ (hdsm _ _ h1).1 h2
   ·exact ((hflt _).1 h2).2
  have hnd' : ((Q0 ds fl (fl.filter fun i => L.getD i false)).map (·.2)).Nodup := (List.filter_sublist.map _).nodup hnd;have hfits : Fits N a (mV ρ (fun i => match (l.toArray[i]?).bind (·.dst) with | some d => a.tmps.getD d undef | none => undef) (Q0 ds fl (fl.filter fun i => L.getD i false))) := by
   refine ⟨hI.nd, hI.sz, fun s => ?_⟩;by_cases hs : ∃ i, (i, s) ∈ Q0 ds fl (fl.filter fun i => L.getD i false)
   ·obtain ⟨i, hi⟩ := hs;rw [(lZ _ _ s hnd').1 i hi, (hdsm i s (hsub _ hi).1).2]
   ·rw [(lZ _ _ s hnd').2 fun i hi => hs ⟨i, hi⟩];refine hI.KY s fun i hi hil hd => hs ⟨i, V7.2 ⟨hpre i s hi hd, ?_⟩⟩;by_cases hif : i ∈ fl
    ·rw [W6];exact .inr (List.contains_iff_mem.2 ((hflt i).2 ⟨hif, hil⟩))
    ·simp [hif]
  have h1 := (htl (fun i => match (l.toArray[i]?).bind (·.dst) with | some d => a.tmps.getD d undef | none => undef) w hI.j (sK _ fun p hp => by
   obtain ⟨h1, h2⟩ := hsub p hp;obtain ⟨h3, h4⟩ := hdsm p.1 p.2 h1;have := hI.vs p.1 p.2 h3 h2 h4;rw [h4];exact this)).out a hfits
  have hone' : (l.drop m).take 1 = [o] := by
   rw [W0] at ho;obtain ⟨h2, h3⟩ := UW.1 ho;rw [V0 h2, h3]
   rfl
  rw [hone'] at h1;have hK : ∀ a w, wpList P l.toArray (lift N (cD (fun ρ w => WA P N l.toArray Q fuel (L.setIfInBounds m true) ρ w) Q)) [] a w → wpAny P .any l.toArray (lift N Q) fuel (L.setIfInBounds m true) a w := fun a w ⟨ρ', hf', hq⟩ => by
   have hq' : WA P N l.toArray Q fuel (L.setIfInBounds m true) ρ' w := hq;exact hq'.out a hf'
  unfold wpOp;rw [ho];simp only [];unfold wpList at h1;split at h1
  ·rename_i hwt;rw [UF hwt];refine h1.imp (fun h2 => Oper.wp_mono hK ?_) (fun h2 => ⟨h2.1, ?_⟩)
   ·unfold Oper.wp at h2 ⊢;exact vc h2
   ·obtain ⟨a', w', h3⟩ := h2.2;exact ⟨a', w', h3⟩
  ·rename_i hwt;rw [UE hwt];exact hK _ _ h1
 have key : ∀ (fuel : Nat) (L : Array Bool) (a : Act) (w : World), SS [] [] N l.toArray m ρ J V L a w → fuel + L.toList.countP (fun b => b) = l.length → wpAny P .any l.toArray (lift N Q) fuel L a w := by
  intro fuel
  induction fuel with
  | zero =>
   intro L a w hI hc;have hall : ∀ i, i < l.length → L.getD i false = true := fun i hi => by
    exact NW
   have h1 := hall m hmn;rw [hI.tl m (UH _)] at h1
   cases h1
  | succ fuel ih =>
   intro L a w hI hc
   ·have hready_spec : ∀ i, i ∈ Region.ready .any l.toArray L ↔ i < l.length ∧ L.getD i true = false ∧ ∃ o, l.toArray[i]? = some o ∧ ∀ e ∈ o.after, Region.binds .any e = true → L.getD e.on false = true := fun i => by
     exact P4
    have both : ∀ (i : Nat) (_ : i < m) (o : Oper) (_ : l.toArray[i]? = some o) (_ : L.getD i false = false) (_ : ∀ e ∈ o.after, Region.binds .any e = true → L.getD e.on false = true),
      OG P l.toArray o (fun t => a.tmps.getD t undef) w (fun v w2 => Below w.heap.size w w2 ∧ V i v w2) ∧
      ∀ v w2, (Below w.heap.size w w2 ∧ V i v w2) → (i ∈ ([] : List Nat) → ∃ b, v = .pointer (some ⟨b, 0, none⟩) ∧ w.heap.size ≤ b ∧ b < w2.heap.size) → wpAny P .any l.toArray (lift N Q) fuel (L.setIfInBounds i true) (a.put o.dst v) w2 := fun i him o ho hun' hed => by
     have hiL : i < L.size := by rw [hI.ls, hnn]; omega
     have hed' : ∀ o', l.toArray[i]? = some o' → ∀ e ∈ o'.after, Region.binds .any e = true → L.getD e.on false = true := fun o' ho' => by
      rw [ho] at ho'; injection ho' with ho'; subst ho'; exact hed
     have hok' : (l.take m)[i]? = some o := by
      rw [Wq, UF him];simpa using ho
     obtain ⟨s, hs, hstab, hog⟩ := hdo i o hok';rw [U5] at hstab hog;have hrdi := hrd i him;rw [ho, hs] at hrdi;simp only [UX, Vb] at hrdi;have hro : dp V ρ (fun t => a.tmps.getD t undef) w s := pN s fun p hp => by
      have hp2 := hrdi.2 p hp
      cases hp3 : p.2 with
      | some j =>
       rw [hp3] at hp2;simp only [UX, U2, Wl] at hp2;exact hI.vs j p.1 hp2.1.1 (kn hM hI.cl i j hed' hp2.2) hp2.1.2
      | none =>
       rw [hp3] at hp2;refine hI.KY p.1 fun j hj hjl hjd => ?_;have h6 := Vb.1 hp2 j (by simpa using hj);rw [hjd] at h6;simp only [beq_self_eq_true, Bool.not_true, VI, UX] at h6;have := kn hM hI.cl j i (fun o' ho' e he hb => hI.cl j o' ho' hjl e he hb) h6.2;rw [hun'] at this
       cases this
     have hnext : ∀ v w2, (Below w.heap.size w w2 ∧ V i v w2) → (i ∈ ([] : List Nat) → ∃ b, v = .pointer (some ⟨b, 0, none⟩) ∧ w.heap.size ≤ b ∧ b < w2.heap.size) → wpAny P .any l.toArray (lift N Q) fuel (L.setIfInBounds i true) (a.put o.dst v) w2 := fun v w2 hv hfv => by
      have hd1 : ∀ d', o.dst = some d' → d' < a.tmps.size := fun d' hd' => by
       rw [hI.sz];exact hdN (i, d') (hpre i d' him (by rw [ho]; exact hd'))
      have hput : ∀ j d, j < m → j ≠ i → (l.toArray[j]?).bind (·.dst) = some d → (a.put o.dst v).tmps.getD d undef = a.tmps.getD d undef := fun j d hj hji hjd => by
       cases hod : o.dst with
       | none => rfl
       | some d' => rw [ea (hd1 d' hod), UE fun e => hji (hone j i d hj him hjd (by rw [ho, e]; exact hod))]
      have hputi : ∀ d, (l.toArray[i]?).bind (·.dst) = some d → (a.put o.dst v).tmps.getD d undef = v := fun d hd => by
       rw [ho] at hd;simp only [W3] at hd;rw [hd, ea (hd1 d hd), UF rfl]
      refine ih _ _ _ ?_ ?_
      ·refine ⟨?_, ?_, hJ _ _ hI.j hv.1, by simpa using hI.ls, ?_, ?_, ?_, ?_, ?_, ?_⟩
       ·cases o.dst <;> exact hI.nd
       ·cases hod : o.dst with
        | none => exact hI.sz
        | some d => simpa [Act.put] using hI.sz
       ·intro k ok hk hkl e he hb;rw [dD hiL] at hkl ⊢;by_cases hki : k = i
        ·subst hki;simp [hed' ok hk e he hb]
        ·simp only [hki, decide_false, VI] at hkl;simp [hI.cl k ok hk hkl e he hb]
       ·intro k hk;rw [dD hiL, hI.tl k hk];have : ¬ k = i := Uz;simp [this]
       ·intro j d hj hjl hjd;rw [dD hiL] at hjl;have hd1 : ∀ d', o.dst = some d' → d' < a.tmps.size := fun d' hd' => by
         rw [hI.sz];exact hdN (i, d') (hpre i d' him (by rw [ho]; exact hd'))
        by_cases hji : j = i
        ·subst hji;rw [ho] at hjd;simp only [W3] at hjd;rw [hjd, ea (hd1 d hjd), UF rfl];exact hv.2
        ·simp only [hji, decide_false, VI] at hjl;have hold := hI.vs j d hj hjl hjd;have hdj : (j, d) ∈ ds := hpre j d hj hjd;have hst := (hdo j (l.toArray[j]?.getD default) (by
          have : j < l.length := Uz;rw [Wq, UF hj];simp [this])).choose_spec.2.1
         rw [U5] at hst;have hne : ∀ d', o.dst = some d' → d ≠ d' := fun d' hd' e => by
          subst e;exact hji (hone j i d hj him hjd (by rw [ho]; exact hd'))
         cases hod : o.dst with
         | none => exact hst _ _ _ hold hv.1
         | some d' =>
          rw [ea (hd1 d' hod), UE (hne d' hod)];exact hst _ _ _ hold hv.1
       ·intro s' hs';have hni : ((l.toArray[i]?).bind (·.dst)) ≠ some s' := hs' i him (by rw [dD hiL]; simp);have hold := hI.KY s' fun j hj hjl => hs' j hj (by rw [dD hiL]; simp [hjl]);rw [ho] at hni;simp only [W3] at hni
        cases hod : o.dst with
        | none => exact hold
        | some d' =>
         rw [ea (by rw [hI.sz]; exact hdN (i, d') (hpre i d' him (by rw [ho]; exact hod))), UE (fun e => hni (by rw [hod, e]))];exact hold
       ·intro j hj
        cases hj
       ·intro j hj
        cases hj
      ·have hLi : L.toList[i]? = some false := by
        have h3 : i < L.toList.length := by simpa using hiL
        rw [VZ h3];have : L.getD i false = L.toList[i] := by simp [hiL]
        rw [← this, hun']
       rw [Array.toList_setIfInBounds, List.countP_set (by simpa using hiL)];have h4 : L.toList[i]'(by simpa using hiL) = false := (UW.1 hLi).2;rw [h4];simp only [XP, if_false, if_true];omega
     exact ⟨hog _ w hI.j hro, hnext⟩
    refine ⟨fun hnil => ?_, fun i hi => ?_⟩
    ·exfalso;have hmin : ∀ k, (∃ i, i < k ∧ i < m + 1 ∧ L.getD i false = false) → ∃ i, i < m + 1 ∧ L.getD i false = false ∧ ∀ j, j < i → L.getD j false = true := by
      intro k
      induction k with
      | zero => rintro ⟨i, h, _⟩; omega
      | succ k ihk =>
       rintro ⟨i, h1, h2, h3⟩;by_cases hex : ∃ i, i < k ∧ i < m + 1 ∧ L.getD i false = false
       ·exact ihk hex
       ·exact Ov
     obtain ⟨i, hi, hu, hlow⟩ := hmin (m + 1) ⟨m, Uz, Uz, hI.tl m (UH _)⟩;exact N9
    ·obtain ⟨hil, hun, o, ho, hed⟩ := (hready_spec i).1 hi;have hiL : i < L.size := by rw [hI.ls, hnn]; exact hil
     have hun' : L.getD i false = false := by
      exact P5
     have hed' : ∀ o', l.toArray[i]? = some o' → ∀ e ∈ o'.after, Region.binds .any e = true → L.getD e.on false = true := fun o' ho' => by
      exact Jn
     rcases Vv i m with him | him
     ·obtain ⟨hog, hnext⟩ := both i him o ho hun' hed;have hgo := hog.out a (wpAny P .any l.toArray (lift N Q) fuel (L.setIfInBounds i true)) (lift N Q) (fun _ => rfl) fun v w2 hv => hnext v w2 hv fun h => nomatch h;unfold wpOp;rw [ho];exact hgo
     ·rcases Vv m i with h2 | h2
      ·exfalso;exact Rj
      ·obtain rfl : i = m := Uz;refine part L a w fuel hI (fun j hj hjf => ?_) hc o ho;have h4 : (l.length == i) = false := by simp; omega
       rw [h4, VI] at htail;have h6 := Vb.1 htail j (by simpa using hj);have h7 : fl.contains j = false := by simpa using hjf
       rw [h7, VI] at h6;exact kn hM hI.cl i j hed' h6
 exact Sr
end
theorem qU {Q : Kq} {id : Nat} {l : List Oper} (fl M : List Nat) (m : Nat) (src : List (List (Nat × Option Nat))) (ds : List (Nat × Nat)) (Ds : List (List Nat × Nat × List (Nat × Nat))) {H : List HE} (hh : Hp w0 H w) (hm : P.follows .mixedOrders = true) (hok : xO l m N src ds fl M = true) (hDs : Ee l m fl ds = Ds) (hmn : m < l.length)
  (h : DX P l.toArray (JJ w0 H w) ρ (fun V => ∀ p ∈ Ds, ∀ f w', JJ w0 H w w' → BM V f w' p.2.2 → WL .plain P N l.toArray (cD (fun ρ w => WA P N l.toArray Q p.2.1 ((lD l.length m fl p.1).setIfInBounds m true) ρ w) Q) ((l.drop m).take 1) (mV ρ f p.2.2) w') 0 Te (l.take m) src) : WC .plain P N (.region id l.toArray true) Q ρ w := by
 obtain ⟨V, _, h1, h2⟩ := Ec _ _ _ _ (fun _ _ _ _ => trivial) h;exact J2 fl M m src ds Ds (JJ w0 H w) V hm hok hDs hmn (fun _ _ h hb => h.ext hb) (JJ.start hh) h1 h2
theorem jy {d : Option Nat} {ty : TypeId} {af : Array Edge} {g : Option (Nat × Bool)} {t e : TypeId} {x lo : Operand} {A : Option Addr} {l sz : Nat} {k : IntKind} {m : Int} (ht : P.underlying t = some (.slice e)) (hsz : (P.info? e).map (·.size) = some sz) (hx : ev ρ x = .slice A n c) (hlo : ev ρ lo = .int k m)
  (hm : m = (l : Int)) (h1 : l ≤ n) (h2 : n ≤ c) : (execOp (ev ρ) ⟨d, .slice t x (some lo) none none, ty, pos, af, g⟩).run P w = .ok (.value (.slice (if c = l then A else A.map (·.add (l * sz))) (n - l) (c - l))) w :=
 jf (lo := some lo) (hi := none) (l := l) (h := n) ht hsz hx ⟨k, m, hlo, hm⟩ rfl h1 h2
theorem Sl.front {A : Option Addr} {xs : List Value} (h : Sl w A n k xs) (hm : m ≤ n) : Sl w A m k (xs.take (m * k)) := by
 have hle : m * k ≤ n * k := VG _ hm;refine ⟨by rw [U6, h.1]; omega, fun h0 => ?_⟩;obtain ⟨ad, h1, h2⟩ := h.2 Uz;exact ⟨ad, h1, h2.take _⟩
theorem Sl.back {A : Option Addr} {l : Nat} {xs : List Value} (h : Sl w A n k xs) (hl : l ≤ n) (hc : n ≤ c) : Sl w (if c = l then A else A.map (·.add (l * k))) (n - l) k (xs.drop (l * k)) := by
 have h1 := h.cut hl (UH n) hc;have h2 : ((xs.drop (l * k)).take ((n - l) * k)) = xs.drop (l * k) := UQ (by rw [VY, h.1, Nat.sub_mul]; exact UH _);rwa [h2] at h1
def T3 (base : Nat) (t : TypeId) (sz : Nat) : VP := fun v W => ∃ g, v = .slice (some ⟨g, 0, none⟩) 0 0 ∧ W.ownsRow base t sz (.slice (some ⟨g, 0, none⟩) 0 0) 0 []
def vx (base : Nat) (t : TypeId) (n sz : Nat) (cs : List Value) : VP := fun v W => ∃ A c, v = .slice A n c ∧ W.ownsRow base t sz (.slice A n c) n cs
theorem uX {t : TypeId} {sz : Nat} {A : Option Addr} {xs : List Value} (h : w.ownsRow base t sz (.slice A n c) n xs) (hb : Below w.heap.size w w') : w'.ownsRow base t sz (.slice A n c) n xs := by
 refine ⟨h.1, h.2.imp id ?_⟩;rintro ⟨g, cap, cur, h1, h2, h3, h4⟩;have hlt : g < w.heap.size := by
  rcases Vv g w.heap.size with h | h
  ·exact h
  ·rw [XL h] at h3; cases h3
 exact ⟨g, cap, cur, h1, h2, (hb.block g hlt).trans h3, h4⟩
theorem vx.ext {t : TypeId} {sz : Nat} (v : Value) (w w' : World) (h : vx base t n sz cs v w) (hb : Below w.heap.size w w') : vx base t n sz cs v w' := let ⟨A, c, h1, h2⟩ := h; ⟨A, c, h1, uX h2 hb⟩
theorem JJ.Ie {H : List HE} {t : TypeId} {sz : Nat} {A : Option Addr} (hs : Hp w0 H w) (h : Hp w0 H W) (ho : W.ownsRow w.heap.size t sz (.slice A n c) n cs) : Hp w0 (.row A n c t sz cs :: H) W := by
 refine ⟨h.below, fun x hx => ?_, ?_⟩
 ·rcases UZ.1 hx with rfl | hx
  ·refine ⟨ho.1, ho.2.imp id ?_⟩;rintro ⟨g, cap, cur, h1, h2, h3⟩;exact ⟨g, cap, cur, h1, U1 hs.size h2, h3⟩
  ·exact h.own x hx
 ·rw [Wm]
  rcases ho.2 with ⟨h1, _⟩ | ⟨g, cap, cur, h1, h2, _⟩
  ·injection h1 with e1
   subst e1;exact h.nd
  ·injection h1 with e1
   subst e1;show (g :: H.filterMap HE.id).Nodup;refine WM.2 ⟨fun hm => ?_, h.nd⟩;obtain ⟨y, hy, hyb⟩ := VF.1 hm;have := (dO (hs.own y hy) hyb).2;omega
section
variable {P : Program} {ops : Array Oper} {J : World → Prop} {ρ : Rf} {T : (Nat → VP) → Prop} {i : Nat} {pv : Nat → VP} {os : List Oper} {s : List (Nat × Option Nat)} {ss : List (List (Nat × Option Nat))} {d : Option Nat} {ty : TypeId} {pos : String} {af : Array Edge}
end
section
variable {D : List Deferred}
section
variable {P : Program} {N : Nat} {Q : Kq} {ρ : Rf} {w : World}
structure Ux (D : List Deferred) (N : Nat) (ops : Array Oper) (m μ : Nat) (ρ : Rf) (J : Bool → World → Prop) (V : Nat → Value → World → Prop) (L : Array Bool) (a : Act) (w : World) : Prop where
 nd : a.defers = D
 sz : a.tmps.size = N
 j : J (L.getD μ false) w
 ls : L.size = ops.size
 cl : re ops L
 tl : ∀ k, m ≤ k → L.getD k false = false
 vs : ∀ i d, i < m → L.getD i false = true → (ops[i]?).bind (·.dst) = some d → V i (a.tmps.getD d undef) w
 KY : ∀ s, (∀ i, i < m → L.getD i false = true → (ops[i]?).bind (·.dst) ≠ some s) → a.tmps.getD s undef = ρ s
end
def TT (V : Nat → VP) : List Nat → Prop
 | [] => True
 | i :: r => (∀ v w w', V i v w → V i v w') ∧ TT V r
structure JC (w0 : World) (H : List HE) (W : World) : Prop where
 hp : Hp w0 H W
end
section
variable {P : Program} {ops : Array Oper} {J : World → Prop} {ρ : Rf} {T : (Nat → VP) → Prop} {i : Nat} {pv : Nat → VP} {os : List Oper} {s : List (Nat × Option Nat)} {ss : List (List (Nat × Option Nat))} {d : Option Nat} {ty : TypeId} {pos : String} {af : Array Edge} {x y : Operand} {t u : TypeId}
theorem dP {k : IntKind} {a : Int} (kk : DX P ops J ρ T (i + 1) (eE pv i (Is (.int k a))) os ss) (hx : ∀ ρ1 w1, J w1 → dp pv ρ ρ1 w1 s → ev ρ1 x = .int k a := by intro ρ1 w1 hj hR; first | exact hR.1 | exact hR.2.1 | exact hR.2.2.1 | exact rfl) : DX P ops J ρ T i pv (⟨d, .move x, ty, pos, af, none⟩ :: os) (s :: ss) := bz (fun ρ1 w1 hj h => eJ (hx ρ1 w1 hj h)) kk
theorem oK {a : Bool} (kk : DX P ops J ρ T (i + 1) (eE pv i (Is (.bool a))) os ss) (hx : ∀ ρ1 w1, J w1 → dp pv ρ ρ1 w1 s → ev ρ1 x = .bool a := by intro ρ1 w1 hj hR; first | exact hR.1 | exact hR.2.1 | exact hR.2.2.1 | exact rfl) : DX P ops J ρ T i pv (⟨d, .move x, ty, pos, af, none⟩ :: os) (s :: ss) := bz (fun ρ1 w1 hj h => eJ (hx ρ1 w1 hj h)) kk
theorem T2 {a : ByteArray} (kk : DX P ops J ρ T (i + 1) (eE pv i (Is (.string a))) os ss) (hx : ∀ ρ1 w1, J w1 → dp pv ρ ρ1 w1 s → ev ρ1 x = .string a := by intro ρ1 w1 hj hR; first | exact hR.1 | exact hR.2.1 | exact hR.2.2.1 | exact rfl) : DX P ops J ρ T i pv (⟨d, .move x, ty, pos, af, none⟩ :: os) (s :: ss) := bz (fun ρ1 w1 hj h => eJ (hx ρ1 w1 hj h)) kk
theorem gC {A : Option Addr} (kk : DX P ops J ρ T (i + 1) (eE pv i (Is (.slice A n c))) os ss) (hx : ∀ ρ1 w1, J w1 → dp pv ρ ρ1 w1 s → ev ρ1 x = .slice A n c := by intro ρ1 w1 hj hR; first | exact hR.1 | exact hR.2.1 | exact hR.2.2.1 | exact rfl) : DX P ops J ρ T i pv (⟨d, .move x, ty, pos, af, none⟩ :: os) (s :: ss) := bz (fun ρ1 w1 hj h => eJ (hx ρ1 w1 hj h)) kk
theorem TH {l : List Value} (kk : DX P ops J ρ T (i + 1) (eE pv i (Is (.tuple l.toArray))) os ss) (hx : ∀ ρ1 w1, J w1 → dp pv ρ ρ1 w1 s → ev ρ1 x = .tuple l.toArray := by intro ρ1 w1 hj hR; first | exact hR.1 | exact hR.2.1 | exact hR.2.2.1 | exact rfl) : DX P ops J ρ T i pv (⟨d, .move x, ty, pos, af, none⟩ :: os) (s :: ss) := bz (fun ρ1 w1 hj h => eJ (hx ρ1 w1 hj h)) kk
theorem La {f : Fn} {l r : List Value} (kk : DX P ops J ρ T (i + 1) (eE pv i (Is (.func f l.toArray r.toArray))) os ss) (hx : ∀ ρ1 w1, J w1 → dp pv ρ ρ1 w1 s → ev ρ1 x = .func f l.toArray r.toArray := by intro ρ1 w1 hj hR; first | exact hR.1 | exact hR.2.1 | exact hR.2.2.1 | exact rfl) : DX P ops J ρ T i pv (⟨d, .move x, ty, pos, af, none⟩ :: os) (s :: ss) := bz (fun ρ1 w1 hj h => eJ (hx ρ1 w1 hj h)) kk
theorem ef {c : TypeId} {f : Nat} [hf : eX P c f off ft] (kk : DX P ops J ρ T (i + 1) (eE pv i (Is (.pointer (some ⟨b, o + off, none⟩)))) os ss) (hx : ∀ ρ1 w1, J w1 → dp pv ρ ρ1 w1 s → ev ρ1 x = .pointer (some ⟨b, o, none⟩) := by intro ρ1 w1 hj hR; first | exact hR.1 | exact hR.2.1 | exact hR.2.2.1 | exact rfl) : DX P ops J ρ T i pv (⟨d, .fieldAddr c x f, ty, pos, af, none⟩ :: os) (s :: ss) := bz (fun ρ1 w1 hj h => r6 hf.out (hx ρ1 w1 hj h)) kk
theorem KX {c : TypeId} {f : Nat} [hf : eX P c f off ft] (kk : DX P ops J ρ T (i + 1) (eE pv i (Is (.pointer (some (ad.add off))))) os ss) (hx : ∀ ρ1 w1, J w1 → dp pv ρ ρ1 w1 s → ev ρ1 x = .pointer (some ad) := by intro ρ1 w1 hj hR; first | exact hR.1 | exact hR.2.1 | exact hR.2.2.1 | exact rfl) : DX P ops J ρ T i pv (⟨d, .fieldAddr c x f, ty, pos, af, none⟩ :: os) (s :: ss) := bz (fun ρ1 w1 hj h => qu hf.out (hx ρ1 w1 hj h)) kk
theorem sM {v : Value} (hc : ∀ w1, J w1 → w1.cell? ad = some v) [ht : aM P t n false by' zc] (kk : DX P ops J ρ T (i + 1) (eE pv i (Is (v))) os ss) (hx : ∀ ρ1 w1, J w1 → dp pv ρ ρ1 w1 s → ev ρ1 x = .pointer (some ad) := by intro ρ1 w1 hj hR; first | exact hR.1 | exact hR.2.1 | exact hR.2.2.1 | exact rfl) : DX P ops J ρ T i pv (⟨d, .load t x, ty, pos, af, none⟩ :: os) (s :: ss) := bz (fun ρ1 w1 hj h => jN ht.out (hx ρ1 w1 hj h) (hc w1 hj)) kk
theorem su (vs : List Value) (hc : ∀ w1, J w1 → Rd w1 ad vs) [ht : aM P t n true by' zc] (kk : DX P ops J ρ T (i + 1) (eE pv i (Is (.agg vs.toArray))) os ss) (hx : ∀ ρ1 w1, J w1 → dp pv ρ ρ1 w1 s → ev ρ1 x = .pointer (some ad) := by intro ρ1 w1 hj hR; first | exact hR.1 | exact hR.2.1 | exact hR.2.2.1 | exact rfl) (hl : vs.length = n := by exact rfl) : DX P ops J ρ T i pv (⟨d, .load t x, ty, pos, af, none⟩ :: os) (s :: ss) := bz (fun ρ1 w1 hj h => Da ht.out (hx ρ1 w1 hj h) (hc w1 hj) hl) kk
theorem gE {H : List HE} {v : Value} (j : Nat) [ht : aM P t n false by' zc] (kk : DX P ops (JJ w0 H w) ρ T (i + 1) (eE pv i (Is (v))) os ss) (hx : ∀ ρ1 w1, JJ w0 H w w1 → dp pv ρ ρ1 w1 s → ev ρ1 x = .pointer (some ⟨b, o, none⟩) := by intro ρ1 w1 hj hR; first | exact hR.1 | exact hR.2.1 | exact hR.2.2.1 | exact rfl) (hi : H[j]? = some (.blk b t' cs fz) := by exact rfl) (hv : cs[o]? = some v := by exact rfl) : DX P ops (JJ w0 H w) ρ T i pv (⟨d, .load t x, ty, pos, af, none⟩ :: os) (s :: ss) := bz (fun ρ1 w1 hj h => jN ht.out (hx ρ1 w1 hj h) (hj.hp.dN hi hv)) kk
theorem fS {H : List HE} (j : Nat) (vs : List Value) [ht : aM P t n true by' zc] (kk : DX P ops (JJ w0 H w) ρ T (i + 1) (eE pv i (Is (.agg vs.toArray))) os ss) (hx : ∀ ρ1 w1, JJ w0 H w w1 → dp pv ρ ρ1 w1 s → ev ρ1 x = .pointer (some ⟨b, o, none⟩) := by intro ρ1 w1 hj hR; first | exact hR.1 | exact hR.2.1 | exact hR.2.2.1 | exact rfl) (hi : H[j]? = some (.blk b t' cs fz) := by exact rfl) (hv : (cs.drop o).take n = vs := by exact rfl) (hl : vs.length = n := by exact rfl) : DX P ops (JJ w0 H w) ρ T i pv (⟨d, .load t x, ty, pos, af, none⟩ :: os) (s :: ss) := bz (fun ρ1 w1 hj h => Da ht.out (hx ρ1 w1 hj h) (hj.hp.cn hi hv) hl) kk
theorem CE {e : TypeId} {B : Option Addr} [ht : bk P t (.slice e)] (kk : DX P ops J ρ T (i + 1) (eE pv i (Is (.int .i64 n))) os ss) (hx : ∀ ρ1 w1, J w1 → dp pv ρ ρ1 w1 s → ev ρ1 x = .slice B n c := by intro ρ1 w1 hj hR; first | exact hR.1 | exact hR.2.1 | exact hR.2.2.1 | exact rfl) : DX P ops J ρ T i pv (⟨d, .call ⟨.builtin .len, #[x], #[t]⟩, ty, pos, af, none⟩ :: os) (s :: ss) := bz (fun ρ1 w1 hj h => As ht.out (hx ρ1 w1 hj h)) kk
theorem PU {k : IntKind} {a b : Int} (kk : DX P ops J ρ T (i + 1) (eE pv i (Is (.bool r))) os ss) (hx : ∀ ρ1 w1, J w1 → dp pv ρ ρ1 w1 s → ev ρ1 x = .int k a := by intro ρ1 w1 hj hR; first | exact hR.1 | exact hR.2.1 | exact hR.2.2.1 | exact rfl) (hy : ∀ ρ1 w1, J w1 → dp pv ρ ρ1 w1 s → ev ρ1 y = .int k b := by intro ρ1 w1 hj hR; first | exact hR.1 | exact hR.2.1 | exact hR.2.2.1 | exact rfl) (hr : decide (b < a) = r := by first | exact U0 Uz | exact Vf Uz | exact rfl) : DX P ops J ρ T i pv (⟨d, .binOp .gtr t x y u, ty, pos, af, none⟩ :: os) (s :: ss) := bz (fun ρ1 w1 hj h => by rw [← hr]; exact Ft (hx ρ1 w1 hj h) (hy ρ1 w1 hj h)) kk
theorem yl {k : IntKind} {a b : Int} (kk : DX P ops J ρ T (i + 1) (eE pv i (Is (.bool r))) os ss) (hx : ∀ ρ1 w1, J w1 → dp pv ρ ρ1 w1 s → ev ρ1 x = .int k a := by intro ρ1 w1 hj hR; first | exact hR.1 | exact hR.2.1 | exact hR.2.2.1 | exact rfl) (hy : ∀ ρ1 w1, J w1 → dp pv ρ ρ1 w1 s → ev ρ1 y = .int k b := by intro ρ1 w1 hj hR; first | exact hR.1 | exact hR.2.1 | exact hR.2.2.1 | exact rfl) (hr : decide (a = b) = r := by first | exact U0 Uz | exact Vf Uz | exact rfl) : DX P ops J ρ T i pv (⟨d, .binOp .eql t x y u, ty, pos, af, none⟩ :: os) (s :: ss) := bz (fun ρ1 w1 hj h => by rw [← hr]; exact ET (hx ρ1 w1 hj h) (hy ρ1 w1 hj h)) kk
theorem sG {a b : Int} (kk : DX P ops J ρ T (i + 1) (eE pv i (Is (.int .i64 (a + b)))) os ss) (hx : ∀ ρ1 w1, J w1 → dp pv ρ ρ1 w1 s → ev ρ1 x = .int .i64 a := by intro ρ1 w1 hj hR; first | exact hR.1 | exact hR.2.1 | exact hR.2.2.1 | exact rfl) (hy : ∀ ρ1 w1, J w1 → dp pv ρ ρ1 w1 s → ev ρ1 y = .int .i64 b := by intro ρ1 w1 hj hR; first | exact hR.1 | exact hR.2.1 | exact hR.2.2.1 | exact rfl) (h1 : -9223372036854775808 ≤ a + b := by omega) (h2 : a + b ≤ 9223372036854775807 := by omega) : DX P ops J ρ T i pv (⟨d, .binOp .add t x y u, ty, pos, af, none⟩ :: os) (s :: ss) := bz (fun ρ1 w1 hj h => H3 (hx ρ1 w1 hj h) (hy ρ1 w1 hj h) h1 h2) kk
theorem vN {a b : Int} (kk : DX P ops J ρ T (i + 1) (eE pv i (Is (.int .i64 (a - b)))) os ss) (hx : ∀ ρ1 w1, J w1 → dp pv ρ ρ1 w1 s → ev ρ1 x = .int .i64 a := by intro ρ1 w1 hj hR; first | exact hR.1 | exact hR.2.1 | exact hR.2.2.1 | exact rfl) (hy : ∀ ρ1 w1, J w1 → dp pv ρ ρ1 w1 s → ev ρ1 y = .int .i64 b := by intro ρ1 w1 hj hR; first | exact hR.1 | exact hR.2.1 | exact hR.2.2.1 | exact rfl) (h1 : -9223372036854775808 ≤ a - b := by omega) (h2 : a - b ≤ 9223372036854775807 := by omega) : DX P ops J ρ T i pv (⟨d, .binOp .sub t x y u, ty, pos, af, none⟩ :: os) (s :: ss) := bz (fun ρ1 w1 hj h => ID (hx ρ1 w1 hj h) (hy ρ1 w1 hj h) h1 h2) kk
theorem RQ {a b : Int} (kk : DX P ops J ρ T (i + 1) (eE pv i (Is (.int .i64 (a * b)))) os ss) (hx : ∀ ρ1 w1, J w1 → dp pv ρ ρ1 w1 s → ev ρ1 x = .int .i64 a := by intro ρ1 w1 hj hR; first | exact hR.1 | exact hR.2.1 | exact hR.2.2.1 | exact rfl) (hy : ∀ ρ1 w1, J w1 → dp pv ρ ρ1 w1 s → ev ρ1 y = .int .i64 b := by intro ρ1 w1 hj hR; first | exact hR.1 | exact hR.2.1 | exact hR.2.2.1 | exact rfl) (h1 : -9223372036854775808 ≤ a * b := by omega) (h2 : a * b ≤ 9223372036854775807 := by omega) : DX P ops J ρ T i pv (⟨d, .binOp .mul t x y u, ty, pos, af, none⟩ :: os) (s :: ss) := bz (fun ρ1 w1 hj h => JX (hx ρ1 w1 hj h) (hy ρ1 w1 hj h) h1 h2) kk
theorem GP {b : Bool} (kk : DX P ops J ρ T (i + 1) (eE pv i (Is (.bool !b))) os ss) (hx : ∀ ρ1 w1, J w1 → dp pv ρ ρ1 w1 s → ev ρ1 x = .bool b := by intro ρ1 w1 hj hR; first | exact hR.1 | exact hR.2.1 | exact hR.2.2.1 | exact rfl) : DX P ops J ρ T i pv (⟨d, .unOp .not t x, ty, pos, af, none⟩ :: os) (s :: ss) := bz (fun ρ1 w1 hj h => OZ (hx ρ1 w1 hj h)) kk
theorem Sh {v : Value} (kk : DX P ops J ρ T (i + 1) (eE pv i (Is (v))) os ss) (hx : ∀ ρ1 w1, J w1 → dp pv ρ ρ1 w1 s → ev ρ1 x = .tuple vs.toArray := by intro ρ1 w1 hj hR; first | exact hR.1 | exact hR.2.1 | exact hR.2.2.1 | exact rfl) (hv : vs[j]? = some v := by exact rfl) : DX P ops J ρ T i pv (⟨d, .extract x j, ty, pos, af, none⟩ :: os) (s :: ss) := bz (fun ρ1 w1 hj h => fH (hx ρ1 w1 hj h) hv) kk
theorem Gj {c a b : Operand} {v : Bool} (kk : DX P ops J ρ T (i + 1) (eE pv i (Is (.bool v))) os ss) (hc : ∀ ρ1 w1, J w1 → dp pv ρ ρ1 w1 s → ev ρ1 c = .bool true := by intro ρ1 w1 hj hR; first | exact hR.1 | exact hR.2.1 | exact hR.2.2.1 | exact rfl) (hx : ∀ ρ1 w1, J w1 → dp pv ρ ρ1 w1 s → ev ρ1 a = .bool v := by intro ρ1 w1 hj hR; first | exact hR.1 | exact hR.2.1 | exact hR.2.2.1 | exact rfl) : DX P ops J ρ T i pv (⟨d, .pick c a b, ty, pos, af, none⟩ :: os) (s :: ss) := bz (fun ρ1 w1 hj h => zD (hc ρ1 w1 hj h) (hx ρ1 w1 hj h)) kk
theorem MB {c a b : Operand} {v : Bool} (kk : DX P ops J ρ T (i + 1) (eE pv i (Is (.bool v))) os ss) (hc : ∀ ρ1 w1, J w1 → dp pv ρ ρ1 w1 s → ev ρ1 c = .bool false := by intro ρ1 w1 hj hR; first | exact hR.1 | exact hR.2.1 | exact hR.2.2.1 | exact rfl) (hx : ∀ ρ1 w1, J w1 → dp pv ρ ρ1 w1 s → ev ρ1 b = .bool v := by intro ρ1 w1 hj hR; first | exact hR.1 | exact hR.2.1 | exact hR.2.2.1 | exact rfl) : DX P ops J ρ T i pv (⟨d, .pick c a b, ty, pos, af, none⟩ :: os) (s :: ss) := bz (fun ρ1 w1 hj h => BK (hc ρ1 w1 hj h) (hx ρ1 w1 hj h)) kk
theorem KZ {e : TypeId} {sz : Nat} {q : IntKind} {m : Int} (k : Nat) [ht : bk P t (.slice e)] [hs : TS P e sz] (kk : DX P ops J ρ T (i + 1) (eE pv i (Is (.pointer (some ⟨b, k * sz, none⟩)))) os ss) (hx : ∀ ρ1 w1, J w1 → dp pv ρ ρ1 w1 s → ev ρ1 x = .slice (some ⟨b, 0, none⟩) n c := by intro ρ1 w1 hj hR; first | exact hR.1 | exact hR.2.1 | exact hR.2.2.1 | exact rfl) (hy : ∀ ρ1 w1, J w1 → dp pv ρ ρ1 w1 s → ev ρ1 y = .int q m := by intro ρ1 w1 hj hR; first | exact hR.1 | exact hR.2.1 | exact hR.2.2.1 | exact rfl) (hm : m = (k : Int) := by omega) (h1 : k < n := by omega) : DX P ops J ρ T i pv (⟨d, .indexAddr t x y, ty, pos, af, none⟩ :: os) (s :: ss) := bz (fun ρ1 w1 hj h => oU ht.out hs.out (hx ρ1 w1 hj h) (hy ρ1 w1 hj h) hm h1) kk
theorem nM {e : TypeId} {sz : Nat} {q : IntKind} {m : Int} (k : Nat) [ht : bk P t (.slice e)] [hs : TS P e sz] (kk : DX P ops J ρ T (i + 1) (eE pv i (Is (.pointer (some (ad.add (k * sz)))))) os ss) (hx : ∀ ρ1 w1, J w1 → dp pv ρ ρ1 w1 s → ev ρ1 x = .slice (some ad) n c := by intro ρ1 w1 hj hR; first | exact hR.1 | exact hR.2.1 | exact hR.2.2.1 | exact rfl) (hy : ∀ ρ1 w1, J w1 → dp pv ρ ρ1 w1 s → ev ρ1 y = .int q m := by intro ρ1 w1 hj hR; first | exact hR.1 | exact hR.2.1 | exact hR.2.2.1 | exact rfl) (hm : m = (k : Int) := by omega) (h1 : k < n := by omega) : DX P ops J ρ T i pv (⟨d, .indexAddr t x y, ty, pos, af, none⟩ :: os) (s :: ss) := bz (fun ρ1 w1 hj h => ie ht.out hs.out (hx ρ1 w1 hj h) (hy ρ1 w1 hj h) hm h1) kk
theorem dC {f : FuncId} {ts : Array TypeId} {v : Value} (hc : ∀ w1, J w1 → Calls P f vs.toArray w1 fun e w' => e = .returned v ∧ Below w1.heap.size w1 w') [hf : al P f] (kk : DX P ops J ρ T (i + 1) (eE pv i (Is (v))) os ss) (ha : ∀ ρ1 w1, J w1 → dp pv ρ ρ1 w1 s → xf ρ1 args.toList = vs := by intro ρ1 w1 hj hR; repeat (first | exact aW | (apply aw; first | exact hR.1 | exact hR.2.1 | exact hR.2.2.1 | exact hR.2.2.2.1 | exact rfl))) : DX P ops J ρ T i pv (⟨d, .call ⟨.value (.func f), args, ts⟩, ty, pos, af, none⟩ :: os) (s :: ss) := LK (fun ρ1 w1 hj h => aK hf.out (ha ρ1 w1 hj h)) hc kk
theorem dB {pl : List (Nat × Nat)} (cs : List Value) [hte : aM P t n true by' zc] [hpl : kW P t pl] (kk : DX P ops J ρ T (i + 1) (eE pv i (Is (.agg cs.toArray))) os ss) (hp : ∀ ρ1 w1, J w1 → dp pv ρ ρ1 w1 s → xn ρ1 parts.toList = ps := by intro ρ1 w1 hj hR; repeat (first | exact bZ | (apply aN; first | exact hR.1 | exact hR.2.1 | exact hR.2.2.1 | exact hR.2.2.2.1 | exact rfl))) (hf : ky (pl[·]?) zc ps = some cs := by exact rfl) : DX P ops J ρ T i pv (⟨d, .build t parts, ty, pos, af, none⟩ :: os) (s :: ss) := bz (fun ρ1 w1 hj h => sT hte.out hpl.out (hp ρ1 w1 hj h) hf) kk
theorem sA {e : TypeId} {len sz : Nat} (cs : List Value) [ht : bk P t (.slice e)] [hte : aM P e sz ag by' zc] (kk : DX P ops J ρ T (i + 1) (eE pv i (Rows len sz cs)) os ss) (hp : ∀ ρ1 w1, J w1 → dp pv ρ ρ1 w1 s → xn ρ1 parts.toList = ps := by intro ρ1 w1 hj hR; repeat (first | exact bZ | (apply aN; first | exact hR.1 | exact hR.2.1 | exact hR.2.2.1 | exact hR.2.2.2.1 | exact rfl))) (hzl : zc.length = sz := by exact rfl) (hf : ky (fun i => some (i * sz, sz)) (fM len zc) ps = some cs := by exact rfl) (h0 : ¬ len * sz = 0 := by decide) (hsl : len * sz ≤ 16777216 := by decide) (hl : cs.length = len * sz := by exact rfl) : DX P ops J ρ T i pv (⟨d, .buildSlice t len parts, ty, pos, af, none⟩ :: os) (s :: ss) := vE ht.out hte.out hp hzl hf h0 hsl hl kk
theorem dS {b c : Bool} {op : Op} (kk : DX P ops J ρ T (i + 1) (eE pv i (Is (undef))) os ss) (hj : (ops[j]?).bind (·.dst) = some dj := by exact rfl) (hv : ∀ ρ1 w1, J w1 → dp pv ρ ρ1 w1 s → ρ1 dj = .bool c := by intro ρ1 w1 hj hR; first | exact hR.1 | exact hR.2.1 | exact hR.2.2.1 | exact hR.2.2.2.1) (hb : c ≠ b := by decide) : DX P ops J ρ T i pv (⟨d, op, ty, pos, af, some (j, b)⟩ :: os) (s :: ss) := xL hj hv hb kk
theorem dU {b : Bool} {op : Op} (kk : DX P ops J ρ T (i + 1) (eE pv i (Is (undef))) os ss) (hj : (ops[j]?).bind (·.dst) = some dj := by exact rfl) (hv : ∀ ρ1 w1, J w1 → dp pv ρ ρ1 w1 s → ρ1 dj = undef := by intro ρ1 w1 hj hR; first | exact hR.1 | exact hR.2.1 | exact hR.2.2.1 | exact hR.2.2.2.1) : DX P ops J ρ T i pv (⟨d, op, ty, pos, af, some (j, b)⟩ :: os) (s :: ss) := AN hj hv kk
theorem dG {b : Bool} {op : Op} (kk : DX P ops J ρ T i pv (⟨d, op, ty, pos, af, none⟩ :: os) (s :: ss)) (hj : (ops[j]?).bind (·.dst) = some dj := by exact rfl) (hv : ∀ ρ1 w1, J w1 → dp pv ρ ρ1 w1 s → ρ1 dj = .bool b := by intro ρ1 w1 hj hR; first | exact hR.1 | exact hR.2.1 | exact hR.2.2.1 | exact hR.2.2.2.1) : DX P ops J ρ T i pv (⟨d, op, ty, pos, af, some (j, b)⟩ :: os) (s :: ss) := let ⟨V, h1, h2, h3⟩ := kk; ⟨V, h1, fun ρ1 w1 hj1 h => bf hj (hv ρ1 w1 hj1 h) (h2 ρ1 w1 hj1 h), h3⟩
end
variable {cy : Nat}
section
variable {ro : Mode}
section
variable {P : Program} {N : Nat} {ops : Array Oper} {Q : Kq} {ρ : Rf} {w w0 : World} {rest : List Oper} {H : List HE} {d : Nat} {ty : TypeId} {pos : String} {af : Array Edge}
theorem Mk (hh : Hp w0 H w) {t s e : TypeId} {x y : Operand} {i dl dc sz : Nat} {B : Option Addr} {xs news : List Value} (hi : H[i]? = some (.row (some ⟨b, 0, none⟩) m c e sz xs)) (hx : ev ρ x = .slice (some ⟨b, o, none⟩) dl dc) (hy : ev ρ y = .slice B n cy)
  (hsl : Sl w B n sz news) (ht : P.underlying t = some (.slice e)) (hte : dr P e = some (sz, ag, by', zc)) (ho : o + min n dl * sz ≤ xs.length) (h1 : (news.all Value.oneCell') = true) (hN : d < N)
  (kk : ∀ w', Hp w0 (H.set i (.row (some ⟨b, 0, none⟩) m c e sz (cm xs o (news.take (min n dl * sz))))) w' → WL ro P N ops Q rest (cI ρ d (.int .i64 ((min n dl : Nat) : Int))) w') :
  WL ro P N ops Q (⟨some d, .call ⟨.builtin .copy, #[x, y], #[t, s]⟩, ty, pos, af, none⟩ :: rest) ρ w := by
 obtain ⟨inf, z, dd, hti, hd, hz, hsz, hby, hzc, _⟩ := eG hte;have hrow := hh.at_ hi;obtain ⟨hlen, h2⟩ := hrow;have hnl := hsl.1;have hmin : min n dl * sz ≤ n * sz := VG _ (Nat.min_le_left _ _);have hvl : (news.take (min n dl * sz)).length = min n dl * sz := by rw [U6]; omega
 have h1' : ∀ v ∈ news.take (min n dl * sz), v.oneCell' = true := fun v hv => Vb.1 h1 v (WX hv);have hcells : (Builtin.firstCells sz (min n dl) (.slice B n cy)).run P w = .ok (news.take (min n dl * sz)).toArray w := by
  cases B with
  | none =>
   have h0 : n = 0 := by
    rcases WG n with h0 | h0
    ·exact h0
    ·obtain ⟨ad, h1, _⟩ := hsl.2 h0; cases h1
   subst h0;simp [Builtin.firstCells]
  | some ad =>
   have hrd : ∀ j u, (news.take (min n dl * sz))[j]? = some u → w.cell? (ad.add j) = some u := by
    intro j u hj;rw [Wq] at hj;split at hj
    ·rcases WG n with h0 | h0
     ·subst h0;have : news = [] := Wk (by simpa using hnl);simp [this] at hj
     ·obtain ⟨ad', he, hr'⟩ := hsl.2 h0;injection he with he
      subst he;exact hr' j u hj
    ·cases hj
   have := run_loadCells_list (P := P) w ad _ hrd;rw [hvl] at this;simpa [Builtin.firstCells] using this
 generalize news.take (min n dl * sz) = vs at hvl h1' hcells kk;rw [← hvl] at ho
 rcases h2 with ⟨h2, _⟩ | ⟨g, cap, cur, hv, hg, hheap, hmc, hcm, hcur, htake⟩
 ·injection h2 with h2; cases h2
 ·injection hv with hA hn hcap
  injection hA with hA
  injection hA with hA
  subst hA; subst hcap;have hcl : cur.size = cur.toList.length := by simp
  have hle : m * sz ≤ c * sz := VG _ hmc;obtain ⟨w', hr, hb', hgr, hs⟩ := gM (P := P) (b := b) (t := e) (fz := (0, 0)) o vs 0 cur.toList w (by simpa using hheap) (.inr (UH _)) (by rw [← hcl]; omega) h1';refine aQ rfl rfl hN (w' := w') (v := .int .i64 ((min n dl : Nat) : Int)) ?_ (kk w' (hh.grown hi hgr (.inl rfl) ⟨by rw [fI Uz]; exact hlen, .inr ⟨b, c, (cm cur.toList o vs).toArray, rfl, hg, by simpa using hb', hmc, hcm, ?_, ?_⟩⟩))
  ·have hmm : Nat.min n dl = min n dl := rfl;simp only [execOp, resolve, invoke, hx, hy, List.map_toArray, U9, VD];simp [builtin, Builtin.copy_, run_underlying ht, Builtin.lenOf, sizeOf, typeInfo, hti, hsz, hmm, hcells, hr, goInt]
  ·simp only [Xm];rw [fI (by rw [← hcl]; omega), ← hcl, hcur]
  ·exact Rc
end
end
def bB (B : Nat) : List Nat → Nat
 | [] => 0
 | d :: l => d + B * bB B l
def bP (B : Nat) : Nat → Nat → List Nat
 | 0, _ => []
 | k + 1, n => n % B :: bP B k (n / B)
def dI : List Nat → List Nat
 | [] => []
 | d :: l => match dI l with
  | [] => if d = 0 then [] else [d]
  | e :: m => d :: e :: m
def aU (B n : Nat) : List Nat := dI (bP B (n.log2 + 1) n)
def Dg (B : Nat) (l : List Nat) : Prop := ∀ d ∈ l, d < B
section
variable {B : Nat}
theorem Dg.nil : Dg B [] := fun _ h => (nomatch h)
theorem Dg.cons {d : Nat} {l : List Nat} (h : d < B) (hl : Dg B l) : Dg B (d :: l) := fun x hx => by
 rcases UZ.1 hx with rfl | hx
 ·exact h
 ·exact hl x hx
theorem Dg.head {d : Nat} {l : List Nat} (h : Dg B (d :: l)) : d < B := h d UR
theorem Dg.tail {d : Nat} {l : List Nat} (h : Dg B (d :: l)) : Dg B l := fun x hx => h x (UT _ hx)
theorem Dg.append {l m : List Nat} (h : Dg B l) (h' : Dg B m) : Dg B (l ++ m) := fun x hx => by
 rcases Vk.1 hx with hx | hx
 ·exact h x hx
 ·exact h' x hx
theorem Dg.sub {l m : List Nat} (h : Dg B l) (h' : m.Sublist l) : Dg B m := fun x hx => h x (h'.subset hx)
theorem Dg.take {l : List Nat} (h : Dg B l) (n : Nat) : Dg B (l.take n) := h.sub (List.take_sublist n l)
theorem Dg.drop {l : List Nat} (h : Dg B l) (n : Nat) : Dg B (l.drop n) := h.sub (List.drop_sublist n l)
theorem Dg.at_ {l : List Nat} (h : Dg B l) {i d : Nat} (hi : l[i]? = some d) : d < B := h d (UJ hi)
theorem Dg.LY {l : List Nat} (h : Dg B l) (i : Nat) {d : Nat} (hd : d < B) : Dg B (l.set i d) := fun x hx => by
 rcases Yd hx with hx | rfl
 ·exact h x hx
 ·exact hd
theorem Dg.fU (hB : 0 < B) (n : Nat) : Dg B (List.replicate n 0) := fun x hx => by rw [List.eq_of_mem_replicate hx]; exact hB
theorem eH (l m : List Nat) : bB B (l ++ m) = bB B l + B ^ l.length * bB B m := by
 induction l with
 | nil => simp [bB]
 | cons d l ih => simp only [UP, bB, ih, U7, Vy]; rw [Vz, Xi]; congr 2; rw [← VB, Vg B]
theorem iy {l : List Nat} (h : Dg B l) : bB B l < B ^ l.length := by
 induction l with
 | nil => simp [bB]
 | cons d l ih =>
  have h1 := ih h.tail;have h2 := h.head;simp only [bB, U7, Vy]
  calc d + B * bB B l < B + B * bB B l := by omega
   _ = B * (bB B l + 1) := by rw [Vz, U3, Wx]
   _ ≤ B * B ^ l.length := Vm _ h1
   _ = B ^ l.length * B := Vg _ _
theorem qS (n : Nat) : bB B (List.replicate n 0) = 0 := by
 induction n with
 | zero => rfl
 | succ n ih => simp [WS, bB, ih]
theorem aO (k n : Nat) : (bP B k n).length = k := by
 induction k generalizing n with
 | zero => rfl
 | succ k ih => simp [bP, ih]
theorem gj (hB : 0 < B) (k n : Nat) : Dg B (bP B k n) := by
 induction k generalizing n with
 | zero => exact Dg.nil
 | succ k ih => exact Dg.cons (Va _ hB) (ih _)
theorem JM (k n : Nat) : bB B (bP B k n) = n % B ^ k := by
 induction k generalizing n with
 | zero => simp [bP, bB, Nat.mod_one]
 | succ k ih => rw [bP, bB, ih, Vy, Vg (B ^ k), Nat.mod_mul]
theorem dn (h : n < B ^ k) : bB B (bP B k n) = n := by rw [JM, Vh h]
theorem tj {l : List Nat} (h : Dg B l) : bP B l.length (bB B l) = l := by
 induction l with
 | nil => rfl
 | cons d l ih =>
  have hd := h.head;simp only [U7, bP, bB];rw [Wa, Vh hd, VS _ _ Uz, Vx hd, U5, ih h.tail]
theorem x8 {l m : List Nat} (hl : Dg B l) (hm : Dg B m) (hlen : l.length = m.length) (h : bB B l = bB B m) : l = m := by
 rw [← tj hl, ← tj hm, hlen, h]
theorem iH (k n i : Nat) (h : i < k) : (bP B k n)[i]? = some (n / B ^ i % B) := by
 induction k generalizing n i with
 | zero => omega
 | succ k ih =>
  cases i with
  | zero => simp [bP]
  | succ i => simp only [bP, Xn]; rw [ih _ _ Uz, Wo, Vy, Vg B]
theorem s8 {l : List Nat} (h : Dg B l) {i d : Nat} (hi : l[i]? = some d) : bB B l / B ^ i % B = d := by
 have h1 := iH (B := B) l.length (bB B l) i (UW.1 hi).1;rw [tj h, hi] at h1;injection h1 with h1
 exact h1.symm
theorem tD {l : List Nat} (h : Dg B l) {i : Nat} (hi : l.length ≤ i) (hB : 0 < B) : bB B l / B ^ i = 0 :=
 Vx (VN (iy h) (Vr hB hi))
theorem jl (l : List Nat) (i : Nat) (h : i ≤ l.length) : bB B l = bB B (l.take i) + B ^ i * bB B (l.drop i) := by
 have := eH (B := B) (l.take i) (l.drop i);rw [VA, List.length_take_of_le h] at this;exact this
theorem k4 (l : List Nat) : bB B (dI l) = bB B l := by
 induction l with
 | nil => rfl
 | cons d l ih =>
  simp only [dI, bB];split
  ·rename_i h;rw [h] at ih;simp only [bB] at ih;split
   ·rename_i h0; rw [h0, ← ih]; simp [bB]
   ·rw [← ih]; simp [bB]
  ·rename_i e m h;rw [h] at ih;rw [← ih]; rfl
theorem jY (l : List Nat) : dI l = l.take (dI l).length := by
 induction l with
 | nil => rfl
 | cons d l ih =>
  simp only [dI];split
  ·split
   ·rfl
   ·simp
  ·rename_i e m h;rw [h] at ih;simp only [U7, List.take_succ_cons] at ih ⊢;rw [← ih]
theorem fu (l : List Nat) : (dI l).length ≤ l.length := by
 have := VJ List.length (jY l);rw [U6] at this;omega
theorem wq (l : List Nat) : (dI l).getLast? ≠ some 0 := by
 induction l with
 | nil => simp [dI]
 | cons d l ih =>
  simp only [dI];split
  ·split
   ·simp
   ·simpa
  ·rename_i e m h;rw [h] at ih;rwa [List.getLast?_cons_cons]
theorem Dg.cut {l : List Nat} (h : Dg B l) : Dg B (dI l) := by rw [jY]; exact h.take _
theorem He {l : List Nat} (h : l.getLast? ≠ some 0) : dI l = l := by
 induction l with
 | nil => rfl
 | cons d l ih =>
  cases l with
  | nil => simp only [dI]; rw [UE]; intro h0; subst h0; simp at h
  | cons e m =>
   rw [List.getLast?_cons_cons] at h;rw [dI, ih h]
theorem vg (l : List Nat) : dI (l ++ [0]) = dI l := by
 induction l with
 | nil => simp [dI]
 | cons d l ih => simp only [UP, dI, ih]
theorem wA {l : List Nat} {d : Nat} (h : d ≠ 0) : dI (l ++ [d]) = l ++ [d] := He (by simpa using h)
def Can (B : Nat) (l : List Nat) : Prop := Dg B l ∧ l.getLast? ≠ some 0
theorem Can.cut {l : List Nat} (h : Dg B l) : Can B (dI l) := ⟨h.cut, wq l⟩
theorem JV {l : List Nat} (h : l.getLast? ≠ some 0) (hn : l ≠ []) : B ^ (l.length - 1) ≤ bB B l := by
 have h1 := List.dropLast_concat_getLast hn;have h2 : l.getLast hn ≠ 0 := by
  intro h0;apply h;rw [List.getLast?_eq_some_getLast hn, h0]
 rw [← h1, eH];simp only [UM, List.length_dropLast, U7, Xz];have : l.length - 1 + (0 + 1) - 1 = l.length - 1 := Uz;rw [this];simp only [bB, Nat.mul_zero, We];exact U1 (X8 _ (Nat.pos_of_ne_zero h2)) (Nat.le_add_left _ _)
theorem Can.tM {l m : List Nat} (hl : Can B l) (hm : Can B m) (hB : 1 < B) (h : bB B l ≤ bB B m) : l.length ≤ m.length := by
 rcases Vv m.length l.length with hlt | hge
 ·exfalso;have hn : l ≠ [] := by intro h0; simp [h0] at hlt
  have h1 := JV (B := B) hl.2 hn;have h2 := iy hm.1;have h3 : B ^ m.length ≤ B ^ (l.length - 1) := Vr Uz Uz;exact Nat.lt_irrefl _ (VN h2 (U1 h3 (U1 h1 h)))
 ·exact hge
theorem Can.inj {l m : List Nat} (hl : Can B l) (hm : Can B m) (hB : 1 < B) (h : bB B l = bB B m) : l = m :=
 x8 hl.1 hm.1 (Nat.le_antisymm (hl.tM hm hB (Nat.le_of_eq h)) (hm.tM hl hB (Nat.le_of_eq h.symm))) h
theorem dK (hB : 0 < B) (n : Nat) : Can B (aU B n) := Can.cut (gj hB _ _)
theorem zf (hB : 1 < B) (n : Nat) : n < B ^ (n.log2 + 1) := by
 have h1 : n < 2 ^ (n.log2 + 1) := Nat.lt_log2_self;exact VN h1 (Nat.pow_le_pow_left hB _)
theorem dJ (hB : 1 < B) (n : Nat) : bB B (aU B n) = n := by
 rw [aU, k4, dn (zf hB n)]
theorem Aq (hB : 1 < B) {l : List Nat} (h : Can B l) : aU B (bB B l) = l :=
 (dK Uz _).inj h hB (dJ hB _)
theorem g9 (hB : 1 < B) {l : List Nat} (h : Dg B l) : dI l = aU B (bB B l) := by
 rw [← k4, Aq hB (Can.cut h)]
theorem gk (hB : 1 < B) : aU B 0 = [] := (dK Uz 0).inj ⟨Dg.nil, by simp⟩ hB (by rw [dJ hB]; rfl)
theorem uo (hB : 1 < B) : aU B n = [] ↔ n = 0 := by
 constructor
 ·intro h; have := dJ hB n; rw [h] at this; exact this.symm
 ·intro h; rw [h, gk hB]
theorem ij (hB : 1 < B) (h : n < B ^ k) : (aU B n).length ≤ k := by
 have h1 : dI (bP B k n) = aU B n := by rw [g9 hB (gj Uz _ _), dn h]
 have := fu (bP B k n);rw [h1, aO] at this;exact this
theorem qg (hB : 1 < B) (n : Nat) : n < B ^ (aU B n).length := by
 have := iy (dK (B := B) Uz n).1;rwa [dJ hB] at this
theorem oa (hB : 1 < B) {a : Nat} (h : a ≤ b) : (aU B a).length ≤ (aU B b).length :=
 (dK Uz a).tM (dK Uz b) hB (by rw [dJ hB, dJ hB]; exact h)
theorem AG (hB : 1 < B) {i : Nat} (h : i < (aU B n).length) : (aU B n)[i]? = some (n / B ^ i % B) := by
 have h1 := VZ h;rw [h1];have h2 := s8 (dK (B := B) Uz n).1 h1;rw [dJ hB] at h2;rw [h2]
theorem GN (hB : 1 < B) (h : n ≠ 0) : aU B n = n % B :: aU B (n / B) := by
 refine (dK Uz n).inj ⟨Dg.cons (Va _ Uz) (dK Uz _).1, ?_⟩ hB ?_
 ·cases hd : aU B (n / B) with
  | nil =>
   rw [uo hB] at hd;have : n = n % B := by have := Wn n B; rw [hd] at this; simpa using this.symm
   simp only [List.getLast?_singleton];intro h0; injection h0 with h0; omega
  | cons e m =>
   rw [List.getLast?_cons_cons, ← hd];exact (dK Uz _).2
 ·rw [dJ hB, bB, dJ hB]; have := Wn n B; omega
theorem IX (hB : 1 < B) (h : n < B ^ k) : bP B k n = aU B n ++ List.replicate (k - (aU B n).length) 0 := by
 have hl := ij hB h;refine x8 (B := B) (gj Uz _ _) ((dK Uz _).1.append (Dg.fU Uz _)) ?_ ?_
 ·rw [aO, UM, V1]; omega
 ·rw [dn h, eH, dJ hB, qS]; simp
end
section
variable {B : Nat}
def vv : List Nat → Nat
 | [] => 0
 | d :: _ => d
theorem Jj (ys : List Nat) : bB B ys = vv ys + B * bB B ys.tail := by cases ys <;> simp [bB, vv]
theorem QO {ys : List Nat} (h : Dg B ys) (hB : 0 < B) : vv ys < B := by
 cases ys with
 | nil => exact hB
 | cons d l => exact h.head
theorem Dg.tl {ys : List Nat} (h : Dg B ys) : Dg B ys.tail := by
 cases ys with
 | nil => exact h
 | cons d l => exact h.tail
theorem uZ (ys : List Nat) (i : Nat) : vv (ys.drop i) = (ys[i]?).getD 0 := by
 induction ys generalizing i with
 | nil => simp [vv]
 | cons d l ih => cases i with
  | zero => rfl
  | succ i => simpa using ih i
theorem tail_drop (ys : List Nat) (i : Nat) : (ys.drop i).tail = ys.drop (i + 1) := by
 induction ys generalizing i with
 | nil => simp
 | cons d l ih => cases i with
  | zero => rfl
  | succ i => simp
theorem zZ {B a : Nat} (hB : 0 < B) (h : a + B * b < B * n) : b + a / B < n := by
 have h1 : (a + B * b) / B < n := by rw [V5 hB, Vg n]; exact h
 rw [VS _ _ hB] at h1;omega
def im (B : Nat) : List Nat → List Nat → Nat → Nat → List Nat
 | [], _, _, _ => []
 | x :: xs, ys, m, c => (x + vv ys * m + c) % B :: im B xs ys.tail m ((x + vv ys * m + c) / B)
theorem qk (xs ys : List Nat) (m c : Nat) : (im B xs ys m c).length = xs.length := by
 induction xs generalizing ys c with
 | nil => rfl
 | cons x xs ih => simp [im, ih]
theorem y6 (hB : 0 < B) (xs ys : List Nat) (m c : Nat) : Dg B (im B xs ys m c) := by
 exact Ro
theorem wF (hB : 0 < B) (xs ys : List Nat) (m c : Nat) (h : bB B xs + bB B ys * m + c < B ^ xs.length) : bB B (im B xs ys m c) = bB B xs + bB B ys * m + c := by
 induction xs generalizing ys c with
 | nil => simp only [Xz, Xs, bB] at h; simp only [im, bB]; omega
 | cons x xs ih =>
  have e : bB B (x :: xs) + bB B ys * m + c = (x + vv ys * m + c) + B * (bB B xs + bB B ys.tail * m) := by
   rw [bB, Jj ys, WJ, Vz, VB]; omega
  rw [U7, Vy, Vg _ B, e] at h;have h1 := zZ hB h;simp only [im, bB];rw [ih _ _ h1, ← bB, e, Vz];have := Xf (x + vv ys * m + c) B;omega
def sB (B : Nat) : List Nat → List Nat → Nat → List Nat
 | [], _, _ => []
 | x :: xs, ys, b => (x + B - vv ys - b) % B :: sB B xs ys.tail (if x < vv ys + b then 1 else 0)
def BC (B : Nat) : List Nat → List Nat → Nat → Nat
 | [], _, b => b
 | x :: xs, ys, b => BC B xs ys.tail (if x < vv ys + b then 1 else 0)
theorem M9 (hB : 0 < B) (xs ys : List Nat) (c : Nat) : Dg B (sB B xs ys c) := by
 exact Ro
theorem HI (hB : 0 < B) (xs ys : List Nat) (b : Nat) (hx : Dg B xs) (hy : Dg B ys) (hb : b ≤ 1) (h : bB B ys + b ≤ bB B xs) : bB B (sB B xs ys b) + bB B ys + b = bB B xs ∧ BC B xs ys b = 0 := by
 induction xs generalizing ys b with
 | nil => simp only [bB] at h; simp only [sB, BC, bB]; omega
 | cons x xs ih =>
  have hx0 := hx.head;have hy0 := QO hy hB;have e := Jj (B := B) ys;simp only [bB, sB, BC] at h ⊢;by_cases hlt : x < vv ys + b
  ·rw [UF hlt];have h1 : bB B ys.tail + 1 ≤ bB B xs := by
    refine XC fun hle => ?_;have := Vm B hle;omega
   obtain ⟨i1, i2⟩ := ih ys.tail 1 hx.tail hy.tl Uz h1;refine ⟨?_, i2⟩;have h2 := VJ (B * ·) i1;simp only [Vz] at h2;rw [Vh Uz];omega
  ·rw [UE hlt];have h1 : bB B ys.tail + 0 ≤ bB B xs := by
    refine Nat.le_of_not_lt fun hle => ?_;have := Vm B (Nat.succ_le_of_lt hle);simp only [Wf, We] at this;omega
   obtain ⟨i1, i2⟩ := ih ys.tail 0 hx.tail hy.tl Uz h1;refine ⟨?_, i2⟩;have h2 := VJ (B * ·) i1;simp only [Vz, We] at h2;have h3 : x + B - vv ys - b = (x - vv ys - b) + B := Uz;rw [h3, Nat.add_mod_right, Vh Uz];omega
theorem Mf (xs : List Nat) (i d : Nat) (hi : xs[i]? = some o) : bB B (xs.set i d) + B ^ i * o = bB B xs + B ^ i * d := by
 induction xs generalizing i with
 | nil => simp at hi
 | cons x xs ih =>
  cases i with
  | zero => simp only [XM, Wv] at hi; subst hi; simp only [UU, bB, Xs, Wr]; omega
  | succ i =>
   have := VJ (B * ·) (ih i hi);simp only [Vz, ← VB] at this;simp only [Vp, bB, Vy, Vg _ B];omega
theorem CR {l m : List Nat} {x y : Nat} (hl : Dg B l) (hlen : l.length = m.length) (h : x < y) : bB B (l ++ [x]) < bB B (m ++ [y]) := by
 rw [eH, eH, hlen];have h1 := iy hl;rw [hlen] at h1;have h2 : B ^ m.length * (x + 1) ≤ B ^ m.length * y := Vm _ h;simp only [bB, Nat.mul_zero, We, Wf] at h2 ⊢;omega
def k6 (a b : Nat) : Int := if a < b then -1 else if b < a then 1 else 0
theorem mh {a : Nat} (h : a < b) : k6 a b = -1 := by simp [k6, h]
theorem yL {a : Nat} (h : b < a) : k6 a b = 1 := by simp only [k6]; rw [UE Uz, UF h]
theorem EK {a : Nat} (h : a = b) : k6 a b = 0 := by simp only [k6]; rw [UE Uz, UE Uz]
theorem xo {xs ys : List Nat} {x y : Nat} (hx : Dg B xs) (hxk : xs[k]? = some x) (hyk : ys[k]? = some y) (hd : xs.drop (k + 1) = ys.drop (k + 1)) (hlt : x < y) : bB B xs < bB B ys := by
 have lx := (UW.1 hxk).1;have ly := (UW.1 hyk).1;rw [jl xs (k + 1) lx, jl ys (k + 1) ly, hd];have e1 : xs.take (k + 1) = xs.take k ++ [x] := by rw [List.take_add_one, hxk]; rfl
 have e2 : ys.take (k + 1) = ys.take k ++ [y] := by rw [List.take_add_one, hyk]; rfl
 have := CR (B := B) (m := ys.take k) (hx.take k) (by rw [U6, U6]; omega) hlt;rw [e1, e2];omega
theorem xE {xs ys : List Nat} {x y : Nat} (hxk : xs[k]? = some x) (hyk : ys[k]? = some y) (hd : xs.drop (k + 1) = ys.drop (k + 1)) (h : x = y) : xs.drop k = ys.drop k := by
 obtain ⟨lx, ex⟩ := UW.1 hxk;obtain ⟨ly, ey⟩ := UW.1 hyk;rw [V0 lx, V0 ly, hd, ex, ey, h]
end
section
variable {B : Nat}
theorem qd {v : Nat} (hB : 0 < B) (hj : j < k) (hn : n + B ^ j * v < B ^ k) (hv : n / B ^ j % B + v < B) : (bP B k n).set j (n / B ^ j % B + v) = bP B k (n + B ^ j * v) := by
 refine x8 (B := B) ((gj hB _ _).LY _ hv) (gj hB _ _) (by rw [WU, aO, aO]) ?_;have h1 := Mf (B := B) (bP B k n) j (n / B ^ j % B + v) (iH k n j hj);rw [dn Uz] at h1;rw [dn hn];rw [Vz] at h1;omega
theorem rB (k : Nat) : bP B k 0 = List.replicate k 0 := by
 induction k with
 | zero => rfl
 | succ k ih => simp [bP, ih, WS]
def AL (s : List UInt8) : List Nat := (s.map UInt8.toNat).reverse
def bn (s : List UInt8) : Nat := bB 256 (AL s)
def sb (n : Nat) : List UInt8 := ((aU 256 n).map UInt8.ofNat).reverse
theorem oL (s : List UInt8) : (AL s).length = s.length := by simp [AL]
theorem xH (s : List UInt8) : Dg 256 (AL s) := fun d hd => by
 obtain ⟨c, _, rfl⟩ := UY.1 (Xb.1 hd);exact c.toNat_lt
theorem Nt (s : List UInt8) : bn s < 256 ^ s.length := by have := iy (xH s); rwa [oL] at this
theorem IL {s : List UInt8} {i : Nat} {c : UInt8} (hi : i < s.length) (h : s[s.length - 1 - i]? = some c) : (AL s)[i]? = some c.toNat := by
 unfold AL;rw [Ww (by simpa using hi), US, UO, h]; rfl
theorem IQ (n : Nat) : AL (sb n) = aU 256 n := by
 unfold AL sb;rw [List.map_reverse, XG, VE];have : ∀ l : List Nat, Dg 256 l → l.map (UInt8.toNat ∘ UInt8.ofNat) = l := by
  intro l
  induction l with
  | nil => intro _; rfl
  | cons d l ih =>
   intro h;have hd := h.head;simp only [U9, ih h.tail, Function.comp];congr 1;simp only [X2];omega
 exact this _ (dK Uz n).1
theorem Sf (n : Nat) : bn (sb n) = n := by rw [bn, IQ, dJ Uz]
theorem F6 (n : Nat) : (sb n).length = (aU 256 n).length := by simp [sb]
theorem Mc {s t : List UInt8} (h : AL s = AL t) : s = t := by
 have h1 := List.reverse_inj.1 h;exact (List.map_inj_right fun a b h => XA.1 h).1 h1
theorem Sp {s : List UInt8} (h : AL s = aU 256 n) : s = sb n := Mc (by rw [h, IQ])
theorem Lr : sb 0 = [] := by rw [sb, gk Uz]; rfl
theorem J1 (s : List UInt8) : bn (0 :: s) = bn s := by
 unfold bn AL;rw [U9, Xg, eH]; simp [bB]
theorem Ss {s : List UInt8} (h : s.head? ≠ some 0) : sb (bn s) = s := by
 refine (Sp ?_).symm;rw [bn, Aq Uz ⟨xH s, ?_⟩];unfold AL;rw [List.getLast?_reverse, List.head?_map]
 cases s with
 | nil => simp
 | cons c s =>
  simp only [List.head?_cons, Wj];intro h0;injection h0 with h0
  apply h;simp only [List.head?_cons];congr 1;exact XA.1 (by simpa using h0)
end
def bF (n : Nat) : Nat := (aU 2 n).length
theorem lk : bF 0 = 0 := by rw [bF, gk Uz]; rfl
theorem dq (n : Nat) : n < 2 ^ bF n := qg Uz n
theorem dy (h : n < 2 ^ k) : bF n ≤ k := ij Uz h
theorem FA (h : n ≠ 0) : 2 ^ (bF n - 1) ≤ n := by
 have h1 := JV (B := 2) (dK (B := 2) Uz n).2 (fun h0 => h ((uo Uz).1 h0));rwa [dJ Uz] at h1
theorem pH (h : n ≠ 0) : 0 < bF n := by
 rw [bF];have : aU 2 n ≠ [] := fun h0 => h ((uo Uz).1 h0);exact List.length_pos_iff.2 this
theorem DW (h1 : n < 2 ^ k) (h2 : 2 ^ (k - 1) ≤ n) : bF n = k := by
 have h3 := dy h1
 rcases Vv (bF n) k with h | h
 ·have h4 := dq n;have h5 : 2 ^ bF n ≤ 2 ^ (k - 1) := Vr Uz Uz;omega
 ·omega
theorem JF {B : Nat} (hB : B = 2 ^ b) {l : List Nat} {d : Nat} (hl : Dg B l) (hlen : l.length = m) (hd : d ≠ 0) : bF (bB B (l ++ [d])) = b * m + bF d := by
 have hlt := iy hl;rw [hlen] at hlt;have hp : B ^ m = 2 ^ (b * m) := by rw [hB, ← Vu]
 rw [eH, hlen];simp only [bB, Nat.mul_zero, We];rw [hp] at hlt ⊢;apply DW
 ·have h1 := dq d;have h2 : 2 ^ (b * m) * (d + 1) ≤ 2 ^ (b * m) * 2 ^ bF d := Vm _ h1;rw [U8];rw [Wf] at h2;omega
 ·have h1 := FA hd;have h2 := pH hd;have e : b * m + bF d - 1 = b * m + (bF d - 1) := Uz;rw [e, U8];have h3 : 2 ^ (b * m) * 2 ^ (bF d - 1) ≤ 2 ^ (b * m) * d := Vm _ h1;omega
theorem Cx {a s : Nat} (h : a < 2 ^ s) : a ||| (c * 2 ^ s) = a + c * 2 ^ s := by
 have h1 := Nat.shiftLeft_add_eq_or_of_lt h c;rw [Nat.shiftLeft_eq] at h1;rw [Nat.or_comm, ← h1, Wx]
theorem Nr {i : Nat} (n : Nat) (hn : n < 256 ^ i) (hc : c < 256) (hi : i / 8 < k) :
  n / 18446744073709551616 ^ (i / 8) % 18446744073709551616 < 2 ^ (i % 8 * 8) ∧ c * 2 ^ (i % 8 * 8) < 18446744073709551616 ∧
  (bP 18446744073709551616 k n).set (i / 8) (n / 18446744073709551616 ^ (i / 8) % 18446744073709551616 + c * 2 ^ (i % 8 * 8)) = bP 18446744073709551616 k (n + 256 ^ i * c) := by
 have hW : (18446744073709551616 : Nat) = 2 ^ 64 := by decide
 have h256 : (256 : Nat) = 2 ^ 8 := by decide
 have hp : 256 ^ i = 18446744073709551616 ^ (i / 8) * 2 ^ (i % 8 * 8) := by
  rw [hW, h256, ← Vu, ← Vu, ← U8]; congr 1; omega
 have h1 : n / 18446744073709551616 ^ (i / 8) < 2 ^ (i % 8 * 8) := by
  rw [V5 (Vj UA), Vg, ← hp]; exact hn
 have hs : 2 ^ (i % 8 * 8) * 256 ≤ 18446744073709551616 := by
  rw [h256, hW, ← U8]; exact Vr Uz Uz
 have h2 : n / 18446744073709551616 ^ (i / 8) % 18446744073709551616 < 2 ^ (i % 8 * 8) := VK (Nat.mod_le _ _) h1;have h3 : (c + 1) * 2 ^ (i % 8 * 8) ≤ 256 * 2 ^ (i % 8 * 8) := VG _ hc;rw [VO] at h3;have hpos : 0 < 2 ^ (i % 8 * 8) := Vj Uz;refine ⟨h2, Uz, ?_⟩;have h4 : 256 ^ i * c = 18446744073709551616 ^ (i / 8) * (c * 2 ^ (i % 8 * 8)) := by rw [hp, VB, Vg c]
 rw [h4];refine qd UA hi ?_ Uz;rw [← h4];have h5 : 256 ^ i * (c + 1) ≤ 256 ^ i * 256 := Vm _ hc;have h6 : 256 ^ i * 256 ≤ 18446744073709551616 ^ k := by
  have : 256 ^ i * 256 = 2 ^ (8 * (i + 1)) := by rw [h256, ← Vu, ← U8]; congr 1
  rw [this, hW, ← Vu];exact Vr Uz Uz
 rw [Wf] at h5;omega
theorem GK (n i : Nat) : n / 18446744073709551616 ^ (i / 8) % 18446744073709551616 / 2 ^ (i % 8 * 8) % 256 = n / 256 ^ i % 256 := by
 have hW : (18446744073709551616 : Nat) = 2 ^ 64 := by decide
 have h256 : (256 : Nat) = 2 ^ 8 := by decide
 have hp : 256 ^ i = 18446744073709551616 ^ (i / 8) * 2 ^ (i % 8 * 8) := by
  rw [hW, h256, ← Vu, ← Vu, ← U8]; congr 1; omega
 rw [hp, ← Wo];generalize n / 18446744073709551616 ^ (i / 8) = m;have e : (18446744073709551616 : Nat) = 2 ^ (i % 8 * 8) * 2 ^ (64 - i % 8 * 8) := by rw [← U8, hW]; congr 1; omega
 rw [e, Nat.mod_mul_right_div_self];have e2 : 2 ^ (64 - i % 8 * 8) = 256 * 2 ^ (56 - i % 8 * 8) := by rw [h256, ← U8]; congr 1; omega
 rw [e2, Nat.mod_mul_right_mod]
theorem vS (n j s : Nat) (hs : s < 64) (h0 : 0 < s) :
  (n / 18446744073709551616 ^ j % 18446744073709551616 / 2 ^ s) < 2 ^ (64 - s) ∧
  n / 18446744073709551616 ^ j % 18446744073709551616 / 2 ^ s + n / 18446744073709551616 ^ (j + 1) % 2 ^ s * 2 ^ (64 - s) = n / 2 ^ (64 * j + s) % 18446744073709551616 := by
 have hW : (18446744073709551616 : Nat) = 2 ^ 64 := by decide
 have e : (18446744073709551616 : Nat) = 2 ^ s * 2 ^ (64 - s) := by rw [← U8, hW]; congr 1; omega
 have hp : (18446744073709551616 : Nat) ^ (j + 1) = 18446744073709551616 ^ j * 18446744073709551616 := Vy ..;rw [hp, ← Wo, U8, Vu, ← hW, ← Wo];generalize n / 18446744073709551616 ^ j = m;have e1 : m % 18446744073709551616 / 2 ^ s = m / 2 ^ s % 2 ^ (64 - s) := by rw [e, Nat.mod_mul_right_div_self]
 rw [e1];refine ⟨Va _ (Vj Uz), ?_⟩;have e2 : m / 18446744073709551616 = m / 2 ^ s / 2 ^ (64 - s) := by rw [e, ← Wo]
 rw [e2];generalize m / 2 ^ s = q;have e3 : (18446744073709551616 : Nat) = 2 ^ (64 - s) * 2 ^ s := by rw [Vg]; exact e
 rw [e3, Nat.mod_mul, Vg (2 ^ (64 - s))]
theorem Pv {d s : Nat} (hd : d < 18446744073709551616) (hs : s ≤ 64) : d * 2 ^ s % 18446744073709551616 + d / 2 ^ (64 - s) * 18446744073709551616 = d * 2 ^ s ∧ d / 2 ^ (64 - s) < 2 ^ s := by
 have hW : (18446744073709551616 : Nat) = 2 ^ 64 := by decide
 have e : (18446744073709551616 : Nat) = 2 ^ (64 - s) * 2 ^ s := by rw [← U8, hW]; congr 1; omega
 have h1 : d * 2 ^ s / 18446744073709551616 = d / 2 ^ (64 - s) := by rw [e, Nat.mul_div_mul_right _ _ (Vj Uz)]
 rw [← h1];constructor
 ·have := Xf (d * 2 ^ s) 18446744073709551616;omega
 ·rw [h1, V5 (Vj Uz), Vg, ← e]; exact hd
def str (l : List UInt8) : ByteArray := ⟨l.toArray⟩
theorem cP (l : List UInt8) : (str l).data.toList = l := by simp [str]
theorem uq {a b : ByteArray} (h : a.data.toList = b.data.toList) : a = b := by
 cases a; cases b; congr 1; exact Xj h
theorem P6 (s : ByteArray) : str s.data.toList = s := uq (cP _)
theorem jC (l : List UInt8) : (str l).size = l.length := by simp [str, ByteArray.size]
theorem di (s : ByteArray) : s.size = s.data.toList.length := (Array.length_toList).symm
def bL (l : List Int) : List Value := l.map (Value.int .i64)
theorem bO (l : List Int) : (bL l).length = l.length := by simp [bL]
theorem cu {l : List Int} {x : Int} (h : l[k]? = some x) : (bL l)[k]? = some (.int .i64 x) := by simp [bL, h]
theorem CA (a b : List UInt8) : jQ (a ++ b) = jQ a ++ jQ b := by simp [jQ]
theorem bT (l : List Int) : ((bL l).all Value.oneCell') = true := by simp [bL, Value.oneCell']
def lS (l : List ByteArray) : List Value := l.map Value.string
theorem rL (l : List ByteArray) : (lS l).length = l.length := by simp [lS]
theorem Fa {l : List ByteArray} {x : ByteArray} (h : l[k]? = some x) : (lS l)[k]? = some (.string x) := by simp [lS, h]
theorem ay {l : List α} {x : α} (h : l[k]? = some x) : l.take (k + 1) = l.take k ++ [x] := by rw [List.take_add_one, h]; rfl
theorem ak {l : List α} (h : k < l.length) : ∃ x, l[k]? = some x := ⟨_, VZ h⟩
def ek (l : List UInt8) : Bool := l.all fun c => decide (c.toNat < 128)
theorem G7 (l : List UInt8) (c : UInt8) : ek (l ++ [c]) = (ek l && decide (c.toNat < 128)) := by simp [ek]
theorem JP {l : List UInt8} {c : UInt8} (h : l[k]? = some c) (hc : ¬ c.toNat < 128) : ek l = false := by
 rw [← VA (k + 1) l, ay h];simp only [ek, List.all_append];simp; omega
theorem sX {l : List UInt8} (h : ek l = true) {c : UInt8} (hc : l[k]? = some c) : c.toNat < 128 := by
 have := Vb.1 h c (UJ hc);simpa using this
def cC (x : Int) : Bool := decide (0 ≤ x) && decide (x ≤ 127)
def xK (x : Int) : UInt8 := UInt8.ofNat x.toNat
def Ig (xs : List Int) : List UInt8 := if xs.all cC then xs.map xK else []
def LC (xs : List Int) : Int := if xs.all cC then 0 else 3
theorem Qd {xs : List Int} {x : Int} (hx : xs[k]? = some x) (h : cC x = false) : Ig xs = [] ∧ LC xs = 3 := by
 have : xs.all cC = false := by
  cases hc : xs.all cC with
  | false => rfl
  | true => rw [Vb.1 hc x (UJ hx)] at h; cases h
 simp [Ig, LC, this]
theorem qy {xs : List Int} (h : xs.all cC = true) : Ig xs = xs.map xK ∧ LC xs = 0 := by simp [Ig, LC, h]
theorem HB {p : α → Bool} {l : List α} {x : α} (h : l[k]? = some x) (h1 : (l.take k).all p = true) (h2 : p x = true) : (l.take (k + 1)).all p = true := by
 rw [ay h, List.all_append, h1]; simp [h2]
theorem LX {x : Int} (h : 0 ≤ x) (h2 : x ≤ 255) : IntKind.u8.wrap x = x := by
 have : IntKind.u8.wrap x = x % 256 := rfl;rw [this]; omega
theorem sH {x : Int} (h : cC x = true) : Value.int .u8 x = .int .u8 (xK x).toNat := by
 simp only [cC, UX, U2] at h;congr 1;simp only [xK, X2];omega
theorem HV {xs : List Int} {x : Int} (hx : xs[k]? = some x) (h : cC x = true) : jQ ((xs.take k).map xK) ++ [.int .u8 x] = jQ ((xs.take (k + 1)).map xK) := by
 rw [ay hx, VC, CA, sH h]; rfl
def ints (l : List UInt8) : List Int := l.map fun c => (c.toNat : Int)
def iz (l : List UInt8) : List Int := if ek l then ints l else []
def T7 (l : List UInt8) : Int := (iz l).sum
theorem da (l : List UInt8) : (ints l).length = l.length := by simp [ints]
theorem u6 {l : List UInt8} {c : UInt8} (h : l[k]? = some c) : bL (ints (l.take k)) ++ [.int .i64 c.toNat] = bL (ints (l.take (k + 1))) := by
 rw [ay h]; simp [bL, ints]
def lenOf : Value → Nat | .slice _ n _ => n | _ => 0
theorem jV {l : List UInt8} (h : ek l = true) : iz l = ints l := by simp [iz, h]
theorem Hy {l : List UInt8} (h : ek l = false) : iz l = [] := by simp [iz, h]
theorem M7 {l : List UInt8} {c : UInt8} (h : l[k]? = some c) : (ints l)[k]? = some (c.toNat : Int) := by simp [ints, h]
theorem Ew {l : List UInt8} {x : Int} (h : (iz l)[k]? = some x) : 0 ≤ x ∧ x ≤ 127 := by
 unfold iz at h;split at h
 ·rename_i hm;simp only [ints, UO, Wc] at h;obtain ⟨c, hc, rfl⟩ := h;have := sX hm hc;omega
 ·simp at h
def jm (f : Int → Int → Int) (a b : List UInt8) : Option (List Int) :=
 if ek a && (ek b && decide ((b.length : Int) = a.length)) then some (List.zipWith f (ints a) (ints b)) else none
def mulL (a b : List UInt8) : List UInt8 × Int :=
 match jm (· + ·) a b with | some l => (Ig l, LC l) | none => ([], 1)
def Uk (a b : List UInt8) : List UInt8 × Bool :=
 match jm (· - ·) a b with | some l => (Ig l, decide (LC l = 0)) | none => ([], false)
theorem IJ {f : Int → Int → Int} {a b : List Int} {x y : Int} (hx : a[k]? = some x) (hy : b[k]? = some y) : (List.zipWith f a b)[k]? = some (f x y) := by
 simp [List.getElem?_zipWith, hx, hy]
def m6 (f : Int → Int → Int) (a b : List Int) (k : Nat) : List Int := (List.zipWith f a b).take k ++ b.drop k
theorem Hz (f : Int → Int → Int) (a b : List Int) : m6 f a b 0 = b := by simp [m6]
theorem Le {f : Int → Int → Int} {a b : List Int} (h : a.length = b.length) (hk : k ≤ b.length) : (m6 f a b k).length = b.length := by
 simp [m6, h]; omega
theorem Pq {f : Int → Int → Int} {a b : List Int} (h : a.length = b.length) {y : Int} (hy : b[k]? = some y) : (m6 f a b k)[k]? = some y := by
 have hk : k < b.length := (UW.1 hy).1;unfold m6;rw [VW (by simp [h]; omega)];simp [h, VM (Nat.le_of_lt hk), hy]
theorem MP {f : Int → Int → Int} {a b : List Int} (h : a.length = b.length) {x y : Int} (hx : a[k]? = some x) (hy : b[k]? = some y) :
  cm (bL (m6 f a b k)) k [.int .i64 (f x y)] = bL (m6 f a b (k + 1)) := by
 have hk : k < b.length := (UW.1 hy).1;have hl : ((List.zipWith f a b).take k).length = k := by simp [h]; omega
 have e1 : (m6 f a b k).take k = (List.zipWith f a b).take k := by
  unfold m6; rw [X5 Uz, UQ Uz]
 have e2 : (m6 f a b k).drop (k + 1) = b.drop (k + 1) := by
  unfold m6;rw [List.drop_append, hl, Wu Uz, show k + 1 - k = 1 by omega, List.drop_drop];simp
 simp only [cm, bL, ← XB, ← Xr, U7, Xz, U5, e1, e2];unfold m6;rw [ay (IJ hx hy)];simp
theorem I2 {f : Int → Int → Int} {a b : List Int} (h : a.length = b.length) : m6 f a b b.length = List.zipWith f a b := by
 unfold m6;rw [UQ (by simp [h]), List.drop_length, Vo]
theorem rS {l : List Int} (y : Int) (h : k < l.length) : cm (bL l) (k * 1) [.int .i64 y] = bL (l.set k y) := by
 rw [U3, cJ (by rw [bO]; exact h)];unfold bL;rw [WT]
section
variable {P : Program} {N : Nat} {ops : Array Oper} {Q : Kq} {ρ : Rf} {w : World} {rest : List Oper} {d : Nat} {ty : TypeId} {pos : String} {af : Array Edge}
theorem kJ {f : FuncId} {ts : Array TypeId} {v : Value} (hc : (callFunc f vs.toArray).run P w = .ok (.value v) w) (ha : xf ρ args.toList = vs) (hN : d < N) (kk : WL .plain P N ops Q rest (cI ρ d v) w) :
  WL .plain P N ops Q (⟨some d, .call ⟨.value (.func f), args, ts⟩, ty, pos, af, none⟩ :: rest) ρ w := by
 have hr : (execOp (ev ρ) ⟨some d, .call ⟨.value (.func f), args, ts⟩, ty, pos, af, none⟩).run P w = .ok (.value v) w := by
  have hx : ev ρ (.func f) = .func (.func f) #[] #[] := rfl;simp only [execOp, resolve, Deferred.ofValue, hx, invoke, nB args ha];simpa using hc
 exact aQ rfl rfl hN hr kk
end
theorem jX (x y c : Nat) (hc : c ≤ 1) (w : World) :
  (callFunc 261 #[.int .u64 x, .int .u64 y, .int .u64 c]).run Tryz.prog w =
   .ok (.value (.tuple #[.int .u64 (((x + y + c) % 18446744073709551616 : Nat) : Int), .int .u64 (((x + y + c) / 18446744073709551616 : Nat) : Int)])) w := by
 rw [run_callFunc_extern Tryz.func261 UB UB UB (e := add64Entry) UB, run_add64 x y c Uz Uz Uz Uz];simp only [Result.andThen];congr 5 <;> omega
def Ky : Array Value → Sem Value := fun args => do
 let (x, y, b) ← Extern.MathBitsCarry.three "Sub64" args
 pure (Extern.MathBitsCarry.pair ((x + Extern.MathBitsCarry.m64 - y - b) % Extern.MathBitsCarry.m64) (if x < y + b then 1 else 0))
theorem Df (x y b : Nat) (hb : b ≤ 1) (w : World) :
  (Ky #[.int .u64 x, .int .u64 y, .int .u64 b]).run P w =
   .ok (.tuple #[.int .u64 (((x + 18446744073709551616 - y - b) % 18446744073709551616 : Nat) : Int), .int .u64 ((if x < y + b then 1 else 0 : Nat) : Int)]) w := by
 have : b = 0 ∨ b = 1 := Uz
 rcases this with rfl | rfl <;> rfl
theorem wm (x y b : Nat) (hb : b ≤ 1) (w : World) :
  (callFunc 262 #[.int .u64 x, .int .u64 y, .int .u64 b]).run Tryz.prog w =
   .ok (.value (.tuple #[.int .u64 (((x + 18446744073709551616 - y - b) % 18446744073709551616 : Nat) : Int), .int .u64 ((if x < y + b then 1 else 0 : Nat) : Int)])) w := by
 rw [run_callFunc_extern Tryz.func262 UB UB UB (e := Ky) UB, Df x y b hb]
 rfl
theorem rM (x y : Nat) (w : World) (hx : x < 18446744073709551616) (hy : y < 18446744073709551616) :
  Calls Tryz.prog 267 #[.int .u64 (x : Int), .int .u64 (y : Int)] w fun e w' => e = .returned (.tuple #[.int .u64 ((x * y / 18446744073709551616 : Nat) : Int), .int .u64 ((x * y % 18446744073709551616 : Nat) : Int)]) ∧ Below w.heap.size w w' := by
 refine aj (N := 51) (l := [.int .u64 (x : Int), .int .u64 (y : Int)]) Tryz.func267 rfl rfl (by simp) ?_;refine sr (aI (aI (aa (sr (mI ?_)))));refine IA ?_;refine aI (aa (sr (mI ?_)));refine xw ?_;refine aI (aa (sr (mI ?_)));refine IA ?_;refine aI (aa (sr (mI ?_)));refine xw ?_;refine aI (aa (sr (mI (mI ?_))));refine rl rfl rfl UA ?_;refine aI (aa (sr (mI (mI ?_))));refine rl rfl rfl UA ?_;refine mI ?_;refine xw ?_;refine iD rfl rfl UA ?_;refine aI (aa (sr (mI ?_)));refine IA ?_;refine aI (aa (sr (mI ?_)));refine xw ?_;refine aI (aa (sr (mI (mI (mI ?_)))));refine rl rfl rfl UA ?_;refine iD rfl rfl UA ?_;refine aI (aa (sr (mI (mI ?_))));refine rl rfl rfl UA ?_;refine mI ?_;refine iD rfl rfl UA ?_;refine mI ?_;refine xw ?_;refine iD rfl rfl UA ?_;refine aI (aa (sr (mI (mI ?_))));refine rl rfl rfl UA ?_;refine aI (aa (av ?_));refine KW ?_;obtain ⟨bd, bt, bw, hhi⟩ := Lib.mul64_hi x y hx hy;have ba := Lib.half_mul_le (a := x / 4294967296) (b := y / 4294967296) Uz Uz;have bb := Lib.half_mul_le (a := x / 4294967296) (b := y % 4294967296) Uz Uz;have bc := Lib.half_mul_le (a := x % 4294967296) (b := y / 4294967296) Uz Uz
 have em : ∀ z : Nat, z &&& 4294967295 = z % 4294967296 := fun z => Nat.and_two_pow_sub_one_eq_mod z 32;simp only [em];have hb : x * y / 18446744073709551616 < 18446744073709551616 := by
  rw [V5 Uz];exact Nat.mul_lt_mul'' hx hy
 refine ⟨?_, Below.refl _ _⟩;congr 5;rw [Vh bd, Vh (show x / 4294967296 * (y % 4294967296) < 18446744073709551616 by omega), Vh bt, Vh (show x % 4294967296 * (y / 4294967296) < 18446744073709551616 by omega), Vh bw, Vh (show x / 4294967296 * (y / 4294967296) < 18446744073709551616 by omega)];have key : ∀ A T V : Nat, A + T + V < 18446744073709551616 → ((A + T) % 18446744073709551616 + V) % 18446744073709551616 = A + T + V := by intro A T V h; omega
 rw [← hhi] at hb ⊢;exact VJ Nat.cast (key _ _ _ hb)
theorem g6 {x : Nat} (hm : 2 ^ k = m) (h : m ≤ x) : bF x = k + bF (x / m) := by
 subst hm;have h0 : x / 2 ^ k ≠ 0 := by
  have := (Nat.div_pos_iff (a := x) (b := 2 ^ k)).2 ⟨Vj Uz, h⟩;omega
 have h1 := dq (x / 2 ^ k);have h2 := FA h0;have h3 := pH h0;have h4 := Wn x (2 ^ k);have h5 := Va x (Vj (n := k) (show 0 < 2 by omega));apply DW
 ·rw [U8];have : 2 ^ k * (x / 2 ^ k + 1) ≤ 2 ^ k * 2 ^ bF (x / 2 ^ k) := Vm _ h1;rw [Wf] at this;omega
 ·have e : k + bF (x / 2 ^ k) - 1 = k + (bF (x / 2 ^ k) - 1) := Uz;rw [e, U8];have : 2 ^ k * 2 ^ (bF (x / 2 ^ k) - 1) ≤ 2 ^ k * (x / 2 ^ k) := Vm _ h2;omega
theorem kq {T : ByteArray} (hT : T.data.toList = (List.range 256).map fun n => UInt8.ofNat (bF n)) (h : n < 256) : ∃ c : UInt8, T.data.toList[n]? = some c ∧ c.toNat = bF n ∧ bF n ≤ 8 := by
 have hb : bF n ≤ 8 := dy Uz;refine ⟨UInt8.ofNat (bF n), ?_, ?_, hb⟩
 ·rw [hT, UO, Vq h]; rfl
 ·rw [X2]; omega
theorem Am (x : Nat) (w : World) (hx : x < 18446744073709551616) :
  Calls Tryz.prog 271 #[.int .u64 (x : Int)] w fun e w' => e = .returned (.int .i64 (bF x)) ∧ Below w.heap.size w w' := by
 refine aj (N := 25) (l := [.int .u64 (x : Int)]) Tryz.func271 rfl rfl (by simp) ?_;by_cases h32 : 4294967296 ≤ x
 ·have := g6 (x := x) (k := 32) (m := 4294967296) rfl h32;refine sr (aI (aa (ah (sr (mI ?_)))));refine dL (aa (cT (sr (mI ?_))));refine xw ?_;refine aI (aa (ao (aI (aa (ah (sr (mI ?_)))))));by_cases h16 : 65536 ≤ (x / 4294967296)
  ·have := g6 (x := (x / 4294967296)) (k := 16) (m := 65536) rfl h16;refine dL (aa (cT (sr (mI ?_))));refine mg (s := 16) (m := 65536) rfl rfl UA UA UA ?_;refine aI (aa (ao (mI ?_)));refine bo (aI (aa (ah (sr (mI ?_)))));by_cases h8 : 256 ≤ ((x / 4294967296) / 65536)
   ·have := g6 (x := ((x / 4294967296) / 65536)) (k := 8) (m := 256) rfl h8;refine dL (aa (cT (sr (mI ?_))));refine EL ?_;refine aI (aa (ao (mI ?_)));refine bo (aI (aa (sr (mI (mI ?_)))));refine mq ?_;obtain ⟨cc, hcc, hcv, hcb⟩ := kq (T := _) UB (n := (((x / 4294967296) / 65536) / 256)) Uz;exact Oa
   ·refine DQ ?_;refine mq ?_;obtain ⟨cc, hcc, hcv, hcb⟩ := kq (T := _) UB (n := (((x / 4294967296) / 65536))) Uz;exact Oa
  ·refine dL (aa (cF (ar (ai (ah (sr (mI ?_)))))));by_cases h8 : 256 ≤ ((x / 4294967296))
   ·have := g6 (x := ((x / 4294967296))) (k := 8) (m := 256) rfl h8;refine dL (aa (cT (sr (mI ?_))));refine EL ?_;refine aI (aa (ao (mI ?_)));refine bo (aI (aa (sr (mI (mI ?_)))));refine mq ?_;obtain ⟨cc, hcc, hcv, hcb⟩ := kq (T := _) UB (n := (((x / 4294967296)) / 256)) Uz;exact Oa
   ·refine DQ ?_;refine mq ?_;obtain ⟨cc, hcc, hcv, hcb⟩ := kq (T := _) UB (n := (((x / 4294967296)))) Uz;exact Oa
 ·refine sr (aI (aa (ah (sr (mI ?_)))));refine dL (aa (cF (ar (ai (ah (sr (mI ?_)))))));by_cases h16 : 65536 ≤ (x)
  ·have := g6 (x := (x)) (k := 16) (m := 65536) rfl h16;refine dL (aa (cT (sr (mI ?_))));refine mg (s := 16) (m := 65536) rfl rfl UA UA UA ?_;refine aI (aa (ao (mI ?_)));refine bo (aI (aa (ah (sr (mI ?_)))));by_cases h8 : 256 ≤ ((x) / 65536)
   ·have := g6 (x := ((x) / 65536)) (k := 8) (m := 256) rfl h8;refine dL (aa (cT (sr (mI ?_))));refine EL ?_;refine aI (aa (ao (mI ?_)));refine bo (aI (aa (sr (mI (mI ?_)))));refine mq ?_;obtain ⟨cc, hcc, hcv, hcb⟩ := kq (T := _) UB (n := (((x) / 65536) / 256)) Uz;exact Oa
   ·refine DQ ?_;refine mq ?_;obtain ⟨cc, hcc, hcv, hcb⟩ := kq (T := _) UB (n := (((x) / 65536))) Uz;exact Oa
  ·refine dL (aa (cF (ar (ai (ah (sr (mI ?_)))))));by_cases h8 : 256 ≤ ((x))
   ·have := g6 (x := ((x))) (k := 8) (m := 256) rfl h8;refine dL (aa (cT (sr (mI ?_))));refine EL ?_;refine aI (aa (ao (mI ?_)));refine bo (aI (aa (sr (mI (mI ?_)))));refine mq ?_;obtain ⟨cc, hcc, hcv, hcb⟩ := kq (T := _) UB (n := (((x)) / 256)) Uz;exact Oa
   ·refine DQ ?_;refine mq ?_;obtain ⟨cc, hcc, hcv, hcb⟩ := kq (T := _) UB (n := (((x)))) Uz;exact Oa
theorem CM (x : Nat) (w : World) (hx : x < 18446744073709551616) :
  Calls Tryz.prog 260 #[.int .u64 (x : Int)] w fun e w' => e = .returned (.int .i64 (64 - (bF x : Int))) ∧ Below w.heap.size w w' := by
 have hh := Hp.start w;have hb : bF x ≤ 64 := dy (by simpa using hx);refine aj (N := 6) (l := [.int .u64 (x : Int)]) Tryz.func260 rfl rfl (by simp) ?_;refine sr (aI (aa (sr (mI ?_))));refine bD hh (Am _ _ hx) rfl ?_;intro w4 hh;refine dW (aI (aa (av ?_)));refine de ?_;exact ⟨rfl, hh.below⟩
def tz (n : Nat) : Nat := Int.trailingZeros (n : Int)
theorem Fm (k m : Nat) : tz (2 ^ k * (2 * m + 1)) = k := by
 have h := Int.trailingZeros_shiftLeft (x := 2 * (m : Int) + 1) Uz k;rw [Int.trailingZeros_two_mul_add_one, Int.shiftLeft_eq] at h;unfold tz;have e : ((2 ^ k * (2 * m + 1) : Nat) : Int) = (2 * (m : Int) + 1) * 2 ^ k := by
  rw [V2, Int.natCast_pow, Int.mul_comm]; rfl
 rw [e];have e2 : (((2 ^ k : Nat)) : Int) = 2 ^ k := by simp
 rw [← e2] at h ⊢;simpa using h
theorem sQ (h : n ≠ 0) : ∃ m, n = 2 ^ tz n * (2 * m + 1) := by
 have : ∀ b n : Nat, n ≤ b → n ≠ 0 → ∃ k m, n = 2 ^ k * (2 * m + 1) := by
  intro b
  induction b with
  | zero => intro n h1 h2; omega
  | succ b ih =>
   intro n h1 h2
   rcases Nat.mod_two_eq_zero_or_one n with h | h
   ·obtain ⟨k, m, hk⟩ := ih (n / 2) Uz Uz;exact ⟨k + 1, m, by rw [Vy, Vg (2 ^ k), VB, ← hk]; omega⟩
   ·exact ⟨0, n / 2, Uz⟩
 obtain ⟨k, m, hk⟩ := this n n (UH _) h;exact ⟨m, by rw [hk, Fm]⟩
theorem wi (h : n ≠ 0) (hn : n < 2 ^ k) : tz n < k := by
 obtain ⟨m, hm⟩ := sQ h
 rcases Vv (tz n) k with h1 | h1
 ·exact h1
 ·have h2 : 2 ^ k ≤ 2 ^ tz n := Vr Uz h1;have h3 : 2 ^ tz n * 1 ≤ 2 ^ tz n * (2 * m + 1) := Vm _ Uz;omega
theorem Ap (m m' j : Nat) (h : m + m' + 1 = 2 ^ j) : (2 * m + 1) &&& (2 * m' + 1) = 1 := by
 apply Nat.eq_of_testBit_eq;intro i;rw [Nat.testBit_and]
 cases i with
 | zero => simp
 | succ i =>
  rw [Nat.testBit_succ, Nat.testBit_succ, Nat.testBit_succ];have e1 : (2 * m + 1) / 2 = m := Uz;have e2 : (2 * m' + 1) / 2 = m' := Uz;have e3 : m' = 2 ^ j - (m + 1) := Uz;rw [e1, e2, e3, Nat.testBit_two_pow_sub_succ Uz]
  cases hi : m.testBit i <;> simp
theorem Mq {x : Nat} (hx : x = 2 ^ k * (2 * m + 1)) (hlt : x < 18446744073709551616) : x &&& (18446744073709551616 - x) % 18446744073709551616 = 2 ^ k := by
 have hW : (18446744073709551616 : Nat) = 2 ^ 64 := by decide
 have hk : k < 64 := by
  have := wi (n := x) (k := 64) (by rw [hx]; exact Nat.mul_ne_zero (Nat.pos_iff_ne_zero.1 (Vj Uz)) Uz) (by rw [← hW]; exact hlt);rwa [hx, Fm] at this
 have hp : (18446744073709551616 : Nat) = 2 ^ k * (2 * 2 ^ (63 - k)) := by rw [hW, ← Nat.pow_succ', ← U8]; congr 1; omega
 have hm : m < 2 ^ (63 - k) := by
  rw [hx, hp] at hlt;have := Nat.lt_of_mul_lt_mul_left hlt;omega
 have e : (18446744073709551616 - x) % 18446744073709551616 = 2 ^ k * (2 * (2 ^ (63 - k) - (m + 1)) + 1) := by
  have h1 : 2 * (2 ^ (63 - k) - (m + 1)) + 1 = 2 * 2 ^ (63 - k) - (2 * m + 1) := Uz;rw [h1, Nat.mul_sub, ← hp, ← hx, Vh];have : 0 < 2 ^ k * (2 * m + 1) := Nat.mul_pos (Vj Uz) Uz;omega
 rw [e, hx];have h2 := Ap m (2 ^ (63 - k) - (m + 1)) (63 - k) Uz;have h3 := VJ (· <<< k) h2;rw [Nat.shiftLeft_and_distrib] at h3;simp only [Nat.shiftLeft_eq, Wr] at h3;rw [Vg (2 ^ k), Vg (2 ^ k)];exact h3
def CU : List Nat := [0, 1, 56, 2, 57, 49, 28, 3, 61, 58, 42, 50, 38, 29, 17, 4, 62, 47, 59, 36, 45, 43, 51, 22, 53, 39, 33, 30, 24, 18, 12, 5, 63, 55, 48, 27, 60, 41, 37, 16, 46, 35, 44, 21, 52, 32, 23, 11, 54, 26, 40, 15, 34, 20, 31, 10, 25, 14, 19, 9, 13, 8, 7, 6]
def eb (w : World) : Prop := Rd w ⟨0, 0, none⟩ (gJ CU)
theorem eb.ext (h : eb w) (hb : Below w.heap.size w w') : eb w' := Rd.ext h hb
theorem eb.hp {H : List HE} (h : eb w) (hh : Hp w H w') : eb w' := Rd.ext h hh.below
theorem PM : ∀ k : Fin 64, CU[2 ^ k.val * 285870213051353865 % 18446744073709551616 / 288230376151711744]? = some k.val ∧ 2 ^ k.val * 285870213051353865 % 18446744073709551616 / 288230376151711744 < 64 := by decide +kernel
theorem Dn (x : Nat) (w : World) (hx : x < 18446744073709551616) (h0 : x ≠ 0) (hT : eb w) :
  Calls Tryz.prog 225 #[.int .u64 (x : Int)] w fun e w' => e = .returned (.int .i64 (tz x)) ∧ Below w.heap.size w w' := by
 have hh := Hp.start w;obtain ⟨m, hm⟩ := sQ h0;have hk : tz x < 64 := wi h0 (by simpa using hx);have ha := Mq hm hx;obtain ⟨t1, t2⟩ := PM ⟨tz x, hk⟩;simp only at t1 t2;have hc := (show Rd w _ _ from hT).ya (rh t1);refine aj (N := 14) (l := [.int .u64 (x : Int)]) Tryz.func225 rfl rfl (by simp) ?_;refine sr (aI (aa (ah (sr (mI ?_)))));refine cW (aa (cF (ar (ai (sr (mI (mI ?_)))))));refine Ix rfl (by first | assumption | omega) UA ?_;refine C7 rfl rfl hx (Va _ UA) UA ?_;rw [ha];skip;refine rl (b := 285870213051353865) rfl rfl UA ?_;refine mg (s := 58) (m := 288230376151711744) rfl rfl UA UA UA ?_;refine CX bk.out aM.size rfl rfl rfl Uz UA ?_;refine bV aM.out rfl (hc) UA ?_;refine xu ?_;exact Bw
end Go.Proofs.YteeckcbbnegmcaaGreatDoor
