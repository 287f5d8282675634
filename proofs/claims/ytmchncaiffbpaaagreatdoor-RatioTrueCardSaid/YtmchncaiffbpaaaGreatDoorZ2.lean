/- Lemmas for ratioTrue, part 2. -/
import Derived.Test.YtmchncaiffbpaaaGreatDoorProg
import Derived.KernelRfl
import Derived.Deep.AppendSrc
import Derived.Deep.Upon
import Init
import Derived.Test.YtmchncaiffbpaaaGreatDoorZ1
set_option maxHeartbeats 0
namespace Go.Proofs.YtmchncaiffbpaaaGreatDoor
set_option maxRecDepth 100000
class bq (P:Program) (t:TypeId) (d:outParam TypeDesc):Prop where out:P.underlying t=some d:=by kernel_rfl
class az (P:Program) (t:TypeId) (n:outParam Nat) (ag:outParam Bool) (b:outParam Nat) (zc:outParam (List Value)):Prop where out:dy P t=some (n,ag,b,zc):=by kernel_rfl
class eG (P:Program) (s:TypeId) (f:Nat) (off:outParam Nat) (ft:outParam TypeId):Prop where out:iL P s f=some (off,ft):=by kernel_rfl
class kg (P:Program) (s:TypeId) (pl:outParam (List (Nat×Nat))):Prop where out:ru P s=some pl:=by kernel_rfl
class ak (P:Program) (f:FuncId):Prop where out:G2 P f=true:=by kernel_rfl
theorem az.size {P:Program}{t:TypeId}{n b:Nat}{ag:Bool}{zc:List Value} [h:az P t n ag b zc]:(P.info? t).map (·.size)=some n:=by
 obtain ⟨i,z,d,hi,hd,hz,hs,_⟩:=gg h.out;rw [hi,adr,hs]
instance:bq Tryz.prog 2 (.int .i64):={}
instance:az Tryz.prog 2 1 false 8 [.int .i64 0]:={}
instance:bq Tryz.prog 3 (.int .i64):={}
instance:az Tryz.prog 3 1 false 8 [.int .i64 0]:={}
instance:bq Tryz.prog 4 (.bool):={}
instance:az Tryz.prog 4 1 false 1 [.bool false]:={}
instance:bq Tryz.prog 5 (.int .u8):={}
instance:az Tryz.prog 5 1 false 1 [.int .u8 0]:={}
instance:bq Tryz.prog 6 (.int .u8):={}
instance:az Tryz.prog 6 1 false 1 [.int .u8 0]:={}
instance:az Tryz.prog 7 4 true 24 [.int .i64 0,.int .i64 0,.bool false,.int .u8 0]:={}
instance:eG Tryz.prog 7 0 0 2:={}
instance:eG Tryz.prog 7 1 1 3:={}
instance:eG Tryz.prog 7 2 2 4:={}
instance:eG Tryz.prog 7 3 3 6:={}
instance:kg Tryz.prog 7 [(0,1),(1,1),(2,1),(3,1)]:={}
instance:az Tryz.prog 8 4 true 24 [.int .i64 0,.int .i64 0,.bool false,.int .u8 0]:={}
instance:eG Tryz.prog 8 0 0 2:={}
instance:eG Tryz.prog 8 1 1 3:={}
instance:eG Tryz.prog 8 2 2 4:={}
instance:eG Tryz.prog 8 3 3 6:={}
instance:kg Tryz.prog 8 [(0,1),(1,1),(2,1),(3,1)]:={}
instance:bq Tryz.prog 9 (.string):={}
instance:az Tryz.prog 9 1 false 16 [.string { data:= #[] }]:={}
instance:bq Tryz.prog 10 (.string):={}
instance:az Tryz.prog 10 1 false 16 [.string { data:= #[] }]:={}
instance:bq Tryz.prog 11 (.string):={}
instance:az Tryz.prog 11 1 false 16 [.string { data:= #[] }]:={}
instance:bq Tryz.prog 12 (.int .u64):={}
instance:az Tryz.prog 12 1 false 8 [.int .u64 0]:={}
instance:az Tryz.prog 13 2 true 24 [.string { data:= #[] },.int .u64 0]:={}
instance:eG Tryz.prog 13 0 0 9:={}
instance:eG Tryz.prog 13 1 1 12:={}
instance:kg Tryz.prog 13 [(0,1),(1,1)]:={}
instance:az Tryz.prog 14 2 true 24 [.string { data:= #[] },.int .u64 0]:={}
instance:eG Tryz.prog 14 0 0 9:={}
instance:eG Tryz.prog 14 1 1 12:={}
instance:kg Tryz.prog 14 [(0,1),(1,1)]:={}
instance:bq Tryz.prog 15 (.pointer 293):={}
instance:az Tryz.prog 15 1 false 8 [.pointer none]:={}
instance:bq Tryz.prog 16 (.pointer 296):={}
instance:az Tryz.prog 16 1 false 8 [.pointer none]:={}
instance:bq Tryz.prog 17 (.pointer 305):={}
instance:az Tryz.prog 17 1 false 8 [.pointer none]:={}
instance:az Tryz.prog 18 1 true 8 [.pointer none]:={}
instance:eG Tryz.prog 18 0 0 17:={}
instance:kg Tryz.prog 18 [(0,1)]:={}
instance:az Tryz.prog 19 1 true 8 [.pointer none]:={}
instance:eG Tryz.prog 19 0 0 17:={}
instance:kg Tryz.prog 19 [(0,1)]:={}
instance:bq Tryz.prog 21 (.int .i32):={}
instance:az Tryz.prog 21 1 false 4 [.int .i32 0]:={}
instance:bq Tryz.prog 22 (.slice 3):={}
instance:az Tryz.prog 22 1 false 24 [.slice none 0 0]:={}
instance:bq Tryz.prog 23 (.slice 33):={}
instance:az Tryz.prog 23 1 false 24 [.slice none 0 0]:={}
instance:az Tryz.prog 24 2 true 48 [.slice none 0 0,.slice none 0 0]:={}
instance:eG Tryz.prog 24 0 0 22:={}
instance:eG Tryz.prog 24 1 1 23:={}
instance:kg Tryz.prog 24 [(0,1),(1,1)]:={}
instance:az Tryz.prog 25 2 true 48 [.slice none 0 0,.slice none 0 0]:={}
instance:eG Tryz.prog 25 0 0 22:={}
instance:eG Tryz.prog 25 1 1 23:={}
instance:kg Tryz.prog 25 [(0,1),(1,1)]:={}
instance:bq Tryz.prog 26 (.slice 5):={}
instance:az Tryz.prog 26 1 false 24 [.slice none 0 0]:={}
instance:az Tryz.prog 30 2 true 24 [.bool false,.string { data:= #[] }]:={}
instance:eG Tryz.prog 30 0 0 4:={}
instance:eG Tryz.prog 30 1 1 9:={}
instance:kg Tryz.prog 30 [(0,1),(1,1)]:={}
instance:az Tryz.prog 31 2 true 24 [.bool false,.string { data:= #[] }]:={}
instance:eG Tryz.prog 31 0 0 4:={}
instance:eG Tryz.prog 31 1 1 9:={}
instance:kg Tryz.prog 31 [(0,1),(1,1)]:={}
instance:az Tryz.prog 32 3 true 32 [.bool false,.string { data:= #[] },.int .i64 0]:={}
instance:eG Tryz.prog 32 0 0 31:={}
instance:eG Tryz.prog 32 1 2 3:={}
instance:kg Tryz.prog 32 [(0,2),(2,1)]:={}
instance:az Tryz.prog 33 3 true 32 [.bool false,.string { data:= #[] },.int .i64 0]:={}
instance:eG Tryz.prog 33 0 0 31:={}
instance:eG Tryz.prog 33 1 2 3:={}
instance:kg Tryz.prog 33 [(0,2),(2,1)]:={}
instance:az Tryz.prog 34 6 true 64 [.bool false,.string { data:= #[] },.int .i64 0,.bool false,.string { data:= #[] },.int .i64 0]:={}
instance:eG Tryz.prog 34 0 0 33:={}
instance:eG Tryz.prog 34 1 3 33:={}
instance:kg Tryz.prog 34 [(0,3),(3,3)]:={}
instance:az Tryz.prog 35 6 true 64 [.bool false,.string { data:= #[] },.int .i64 0,.bool false,.string { data:= #[] },.int .i64 0]:={}
instance:eG Tryz.prog 35 0 0 33:={}
instance:eG Tryz.prog 35 1 3 33:={}
instance:kg Tryz.prog 35 [(0,3),(3,3)]:={}
instance:bq Tryz.prog 36 (.int .i64):={}
instance:az Tryz.prog 36 1 false 8 [.int .i64 0]:={}
instance:bq Tryz.prog 39 (.slice 33):={}
instance:az Tryz.prog 39 1 false 24 [.slice none 0 0]:={}
instance:bq Tryz.prog 50 (.slice 95):={}
instance:az Tryz.prog 50 1 false 24 [.slice none 0 0]:={}
instance:az Tryz.prog 51 2 true 32 [.int .i64 0,.slice none 0 0]:={}
instance:eG Tryz.prog 51 0 0 3:={}
instance:eG Tryz.prog 51 1 1 50:={}
instance:kg Tryz.prog 51 [(0,1),(1,1)]:={}
instance:az Tryz.prog 52 2 true 32 [.int .i64 0,.slice none 0 0]:={}
instance:eG Tryz.prog 52 0 0 3:={}
instance:eG Tryz.prog 52 1 1 50:={}
instance:kg Tryz.prog 52 [(0,1),(1,1)]:={}
instance:bq Tryz.prog 53 (.slice 35):={}
instance:az Tryz.prog 53 1 false 24 [.slice none 0 0]:={}
instance:bq Tryz.prog 54 (.slice 35):={}
instance:az Tryz.prog 54 1 false 24 [.slice none 0 0]:={}
instance:az Tryz.prog 57 8 true 96 [.int .i64 0,.bool false,.string { data:= #[] },.int .i64 0,.bool false,.string { data:= #[] },.int .i64 0,.slice none 0 0]:={}
instance:eG Tryz.prog 57 0 0 3:={}
instance:eG Tryz.prog 57 1 1 35:={}
instance:eG Tryz.prog 57 2 7 39:={}
instance:kg Tryz.prog 57 [(0,1),(1,6),(7,1)]:={}
instance:az Tryz.prog 58 8 true 96 [.int .i64 0,.bool false,.string { data:= #[] },.int .i64 0,.bool false,.string { data:= #[] },.int .i64 0,.slice none 0 0]:={}
instance:eG Tryz.prog 58 0 0 3:={}
instance:eG Tryz.prog 58 1 1 35:={}
instance:eG Tryz.prog 58 2 7 39:={}
instance:kg Tryz.prog 58 [(0,1),(1,6),(7,1)]:={}
instance:bq Tryz.prog 85 (.slice 25):={}
instance:az Tryz.prog 85 1 false 24 [.slice none 0 0]:={}
instance:az Tryz.prog 94 4 true 48 [.string { data:= #[] },.bool false,.string { data:= #[] },.int .i64 0]:={}
instance:eG Tryz.prog 94 0 0 9:={}
instance:eG Tryz.prog 94 1 1 33:={}
instance:kg Tryz.prog 94 [(0,1),(1,3)]:={}
instance:az Tryz.prog 95 4 true 48 [.string { data:= #[] },.bool false,.string { data:= #[] },.int .i64 0]:={}
instance:eG Tryz.prog 95 0 0 9:={}
instance:eG Tryz.prog 95 1 1 33:={}
instance:kg Tryz.prog 95 [(0,1),(1,3)]:={}
instance:az Tryz.prog 96 5 true 120 [.slice none 0 0,.slice none 0 0,.slice none 0 0,.slice none 0 0,.slice none 0 0]:={}
instance:eG Tryz.prog 96 0 0 54:={}
instance:eG Tryz.prog 96 1 1 25:={}
instance:eG Tryz.prog 96 2 3 25:={}
instance:kg Tryz.prog 96 [(0,1),(1,2),(3,2)]:={}
instance:az Tryz.prog 97 5 true 120 [.slice none 0 0,.slice none 0 0,.slice none 0 0,.slice none 0 0,.slice none 0 0]:={}
instance:eG Tryz.prog 97 0 0 54:={}
instance:eG Tryz.prog 97 1 1 25:={}
instance:eG Tryz.prog 97 2 3 25:={}
instance:kg Tryz.prog 97 [(0,1),(1,2),(3,2)]:={}
instance:bq Tryz.prog 100 (.slice 97):={}
instance:az Tryz.prog 100 1 false 24 [.slice none 0 0]:={}
instance:bq Tryz.prog 109 (.slice 111):={}
instance:az Tryz.prog 109 1 false 24 [.slice none 0 0]:={}
instance:az Tryz.prog 110 1 true 24 [.slice none 0 0]:={}
instance:eG Tryz.prog 110 0 0 23:={}
instance:kg Tryz.prog 110 [(0,1)]:={}
instance:az Tryz.prog 111 1 true 24 [.slice none 0 0]:={}
instance:eG Tryz.prog 111 0 0 23:={}
instance:kg Tryz.prog 111 [(0,1)]:={}
instance:bq Tryz.prog 113 (.int .i64):={}
instance:az Tryz.prog 113 1 false 8 [.int .i64 0]:={}
instance:az Tryz.prog 114 5 true 56 [.int .i64 0,.bool false,.string { data:= #[] },.bool false,.string { data:= #[] }]:={}
instance:eG Tryz.prog 114 0 0 113:={}
instance:eG Tryz.prog 114 1 1 31:={}
instance:eG Tryz.prog 114 2 3 31:={}
instance:kg Tryz.prog 114 [(0,1),(1,2),(3,2)]:={}
instance:az Tryz.prog 115 5 true 56 [.int .i64 0,.bool false,.string { data:= #[] },.bool false,.string { data:= #[] }]:={}
instance:eG Tryz.prog 115 0 0 113:={}
instance:eG Tryz.prog 115 1 1 31:={}
instance:eG Tryz.prog 115 2 3 31:={}
instance:kg Tryz.prog 115 [(0,1),(1,2),(3,2)]:={}
instance:az Tryz.prog 149 6 true 64 [.bool false,.string { data:= #[] },.int .i64 0,.bool false,.string { data:= #[] },.int .i64 0]:={}
instance:eG Tryz.prog 149 0 0 35:={}
instance:kg Tryz.prog 149 [(0,6)]:={}
instance:az Tryz.prog 150 6 true 64 [.bool false,.string { data:= #[] },.int .i64 0,.bool false,.string { data:= #[] },.int .i64 0]:={}
instance:eG Tryz.prog 150 0 0 35:={}
instance:kg Tryz.prog 150 [(0,6)]:={}
instance:bq Tryz.prog 153 (.pointer 111):={}
instance:az Tryz.prog 153 1 false 8 [.pointer none]:={}
instance:bq Tryz.prog 158 (.string):={}
instance:az Tryz.prog 158 1 false 16 [.string { data:= #[] }]:={}
instance:bq Tryz.prog 160 (.int .u64):={}
instance:az Tryz.prog 160 1 false 8 [.int .u64 0]:={}
instance:az Tryz.prog 161 2 true 24 [.string { data:= #[] },.bool false]:={}
instance:eG Tryz.prog 161 0 0 158:={}
instance:eG Tryz.prog 161 1 1 4:={}
instance:kg Tryz.prog 161 [(0,1),(1,1)]:={}
instance:az Tryz.prog 162 2 true 24 [.string { data:= #[] },.bool false]:={}
instance:eG Tryz.prog 162 0 0 158:={}
instance:eG Tryz.prog 162 1 1 4:={}
instance:kg Tryz.prog 162 [(0,1),(1,1)]:={}
instance:bq Tryz.prog 166 (.slice 31):={}
instance:az Tryz.prog 166 1 false 24 [.slice none 0 0]:={}
instance:bq Tryz.prog 176 (.slice 9):={}
instance:az Tryz.prog 176 1 false 24 [.slice none 0 0]:={}
instance:az Tryz.prog 183 2 true 16 [.int .i64 0,.int .i64 0]:={}
instance:eG Tryz.prog 183 0 0 3:={}
instance:eG Tryz.prog 183 1 1 3:={}
instance:kg Tryz.prog 183 [(0,1),(1,1)]:={}
instance:az Tryz.prog 184 2 true 16 [.int .i64 0,.int .i64 0]:={}
instance:eG Tryz.prog 184 0 0 3:={}
instance:eG Tryz.prog 184 1 1 3:={}
instance:kg Tryz.prog 184 [(0,1),(1,1)]:={}
instance:az Tryz.prog 189 9 true 96 [.bool false,.string { data:= #[] },.int .i64 0,.bool false,.string { data:= #[] },.int .i64 0,.bool false,.string { data:= #[] },.int .i64 0]:={}
instance:eG Tryz.prog 189 0 0 35:={}
instance:eG Tryz.prog 189 1 6 33:={}
instance:kg Tryz.prog 189 [(0,6),(6,3)]:={}
instance:az Tryz.prog 190 9 true 96 [.bool false,.string { data:= #[] },.int .i64 0,.bool false,.string { data:= #[] },.int .i64 0,.bool false,.string { data:= #[] },.int .i64 0]:={}
instance:eG Tryz.prog 190 0 0 35:={}
instance:eG Tryz.prog 190 1 6 33:={}
instance:kg Tryz.prog 190 [(0,6),(6,3)]:={}
instance:bq Tryz.prog 201 (.slice 160):={}
instance:az Tryz.prog 201 1 false 24 [.slice none 0 0]:={}
instance:bq Tryz.prog 202 (.slice 160):={}
instance:az Tryz.prog 202 1 false 24 [.slice none 0 0]:={}
instance:bq Tryz.prog 215 (.slice 52):={}
instance:az Tryz.prog 215 1 false 24 [.slice none 0 0]:={}
instance:az Tryz.prog 222 6 true 64 [.bool false,.string { data:= #[] },.int .i64 0,.bool false,.string { data:= #[] },.int .i64 0]:={}
instance:eG Tryz.prog 222 0 0 33:={}
instance:eG Tryz.prog 222 1 3 33:={}
instance:kg Tryz.prog 222 [(0,3),(3,3)]:={}
instance:az Tryz.prog 223 6 true 64 [.bool false,.string { data:= #[] },.int .i64 0,.bool false,.string { data:= #[] },.int .i64 0]:={}
instance:eG Tryz.prog 223 0 0 33:={}
instance:eG Tryz.prog 223 1 3 33:={}
instance:kg Tryz.prog 223 [(0,3),(3,3)]:={}
instance:az Tryz.prog 233 2 true 48 [.slice none 0 0,.slice none 0 0]:={}
instance:eG Tryz.prog 233 0 0 202:={}
instance:eG Tryz.prog 233 1 1 202:={}
instance:kg Tryz.prog 233 [(0,1),(1,1)]:={}
instance:az Tryz.prog 234 2 true 48 [.slice none 0 0,.slice none 0 0]:={}
instance:eG Tryz.prog 234 0 0 202:={}
instance:eG Tryz.prog 234 1 1 202:={}
instance:kg Tryz.prog 234 [(0,1),(1,1)]:={}
instance:bq Tryz.prog 237 (.array 64 5):={}
instance:az Tryz.prog 237 64 true 64 [.int .u8 0,.int .u8 0,.int .u8 0,.int .u8 0,.int .u8 0,.int .u8 0,.int .u8 0,.int .u8 0,.int .u8 0,.int .u8 0,.int .u8 0,.int .u8 0,.int .u8 0,.int .u8 0,.int .u8 0,.int .u8 0,.int .u8 0,.int .u8 0,.int .u8 0,.int .u8 0,.int .u8 0,.int .u8 0,.int .u8 0,.int .u8 0,.int .u8 0,.int .u8 0,.int .u8 0,.int .u8 0,.int .u8 0,.int .u8 0,.int .u8 0,.int .u8 0,.int .u8 0,.int .u8 0,.int .u8 0,.int .u8 0,.int .u8 0,.int .u8 0,.int .u8 0,.int .u8 0,.int .u8 0,.int .u8 0,.int .u8 0,.int .u8 0,.int .u8 0,.int .u8 0,.int .u8 0,.int .u8 0,.int .u8 0,.int .u8 0,.int .u8 0,.int .u8 0,.int .u8 0,.int .u8 0,.int .u8 0,.int .u8 0,.int .u8 0,.int .u8 0,.int .u8 0,.int .u8 0,.int .u8 0,.int .u8 0,.int .u8 0,.int .u8 0]:={}
instance:bq Tryz.prog 238 (.int .u64):={}
instance:az Tryz.prog 238 1 false 8 [.int .u64 0]:={}
instance:bq Tryz.prog 257 (.array 256 4):={}
instance:bq Tryz.prog 258 (.array 256 4):={}
instance:bq Tryz.prog 262 (.pointer 258):={}
instance:az Tryz.prog 262 1 false 8 [.pointer none]:={}
instance:bq Tryz.prog 280 (.array 256 5):={}
instance:az Tryz.prog 281 2 true 2 [.int .u8 0,.int .u8 0]:={}
instance:eG Tryz.prog 281 0 0 5:={}
instance:eG Tryz.prog 281 1 1 5:={}
instance:kg Tryz.prog 281 [(0,1),(1,1)]:={}
instance:az Tryz.prog 282 2 true 2 [.int .u8 0,.int .u8 0]:={}
instance:eG Tryz.prog 282 0 0 5:={}
instance:eG Tryz.prog 282 1 1 5:={}
instance:kg Tryz.prog 282 [(0,1),(1,1)]:={}
instance:bq Tryz.prog 283 (.array 16 282):={}
instance:az Tryz.prog 283 32 true 32 [.int .u8 0,.int .u8 0,.int .u8 0,.int .u8 0,.int .u8 0,.int .u8 0,.int .u8 0,.int .u8 0,.int .u8 0,.int .u8 0,.int .u8 0,.int .u8 0,.int .u8 0,.int .u8 0,.int .u8 0,.int .u8 0,.int .u8 0,.int .u8 0,.int .u8 0,.int .u8 0,.int .u8 0,.int .u8 0,.int .u8 0,.int .u8 0,.int .u8 0,.int .u8 0,.int .u8 0,.int .u8 0,.int .u8 0,.int .u8 0,.int .u8 0,.int .u8 0]:={}
instance:bq Tryz.prog 291 (.pointer 308):={}
instance:az Tryz.prog 291 1 false 8 [.pointer none]:={}
instance:az Tryz.prog 292 4 true 40 [.pointer none,.pointer none,.pointer none,.string { data:= #[] }]:={}
instance:eG Tryz.prog 292 0 0 17:={}
instance:eG Tryz.prog 292 1 1 17:={}
instance:eG Tryz.prog 292 2 2 17:={}
instance:eG Tryz.prog 292 3 3 9:={}
instance:kg Tryz.prog 292 [(0,1),(1,1),(2,1),(3,1)]:={}
instance:az Tryz.prog 293 4 true 40 [.pointer none,.pointer none,.pointer none,.string { data:= #[] }]:={}
instance:eG Tryz.prog 293 0 0 17:={}
instance:eG Tryz.prog 293 1 1 17:={}
instance:eG Tryz.prog 293 2 2 17:={}
instance:eG Tryz.prog 293 3 3 9:={}
instance:kg Tryz.prog 293 [(0,1),(1,1),(2,1),(3,1)]:={}
instance:bq Tryz.prog 294 (.array 0 16):={}
instance:az Tryz.prog 294 0 true 0 []:={}
instance:az Tryz.prog 295 0 true 0 []:={}
instance:kg Tryz.prog 295 [(0,0)]:={}
instance:az Tryz.prog 296 0 true 0 []:={}
instance:kg Tryz.prog 296 [(0,0)]:={}
instance:bq Tryz.prog 297 (.int .u32):={}
instance:az Tryz.prog 297 1 false 4 [.int .u32 0]:={}
instance:bq Tryz.prog 298 (.int .u8):={}
instance:az Tryz.prog 298 1 false 1 [.int .u8 0]:={}
instance:bq Tryz.prog 299 (.int .u8):={}
instance:az Tryz.prog 299 1 false 1 [.int .u8 0]:={}
instance:bq Tryz.prog 301 (.pointer 5):={}
instance:az Tryz.prog 301 1 false 8 [.pointer none]:={}
instance:bq Tryz.prog 302 (.int .i32):={}
instance:az Tryz.prog 302 1 false 4 [.int .i32 0]:={}
instance:bq Tryz.prog 303 (.int .i32):={}
instance:az Tryz.prog 303 1 false 4 [.int .i32 0]:={}
instance:az Tryz.prog 304 11 true 48 [.int .u64 0,.int .u64 0,.int .u32 0,.int .u8 0,.int .u8 0,.int .u8 0,.int .u8 0,.nilFunc,.pointer none,.int .i32 0,.int .i32 0]:={}
instance:az Tryz.prog 305 11 true 48 [.int .u64 0,.int .u64 0,.int .u32 0,.int .u8 0,.int .u8 0,.int .u8 0,.int .u8 0,.nilFunc,.pointer none,.int .i32 0,.int .i32 0]:={}
instance:az Tryz.prog 307 1 true 16 [.string { data:= #[] }]:={}
instance:eG Tryz.prog 307 0 0 9:={}
instance:kg Tryz.prog 307 [(0,1)]:={}
instance:az Tryz.prog 308 1 true 16 [.string { data:= #[] }]:={}
instance:eG Tryz.prog 308 0 0 9:={}
instance:kg Tryz.prog 308 [(0,1)]:={}
theorem mixed:Tryz.prog.follows .mixedOrders=true:=by kernel_rfl
instance:ak Tryz.prog 3:={}
instance:ak Tryz.prog 4:={}
instance:ak Tryz.prog 5:={}
instance:ak Tryz.prog 6:={}
instance:ak Tryz.prog 7:={}
instance:ak Tryz.prog 8:={}
instance:ak Tryz.prog 9:={}
instance:ak Tryz.prog 10:={}
instance:ak Tryz.prog 11:={}
instance:ak Tryz.prog 12:={}
instance:ak Tryz.prog 13:={}
instance:ak Tryz.prog 14:={}
instance:ak Tryz.prog 15:={}
instance:ak Tryz.prog 16:={}
instance:ak Tryz.prog 17:={}
instance:ak Tryz.prog 18:={}
instance:ak Tryz.prog 19:={}
instance:ak Tryz.prog 20:={}
instance:ak Tryz.prog 21:={}
instance:ak Tryz.prog 22:={}
instance:ak Tryz.prog 23:={}
instance:ak Tryz.prog 24:={}
instance:ak Tryz.prog 25:={}
instance:ak Tryz.prog 26:={}
instance:ak Tryz.prog 27:={}
instance:ak Tryz.prog 28:={}
instance:ak Tryz.prog 29:={}
instance:ak Tryz.prog 30:={}
instance:ak Tryz.prog 31:={}
instance:ak Tryz.prog 32:={}
instance:ak Tryz.prog 33:={}
instance:ak Tryz.prog 34:={}
instance:ak Tryz.prog 35:={}
instance:ak Tryz.prog 36:={}
instance:ak Tryz.prog 37:={}
instance:ak Tryz.prog 38:={}
instance:ak Tryz.prog 39:={}
instance:ak Tryz.prog 40:={}
instance:ak Tryz.prog 41:={}
instance:ak Tryz.prog 42:={}
instance:ak Tryz.prog 43:={}
instance:ak Tryz.prog 44:={}
instance:ak Tryz.prog 45:={}
instance:ak Tryz.prog 46:={}
instance:ak Tryz.prog 47:={}
instance:ak Tryz.prog 48:={}
instance:ak Tryz.prog 49:={}
instance:ak Tryz.prog 50:={}
instance:ak Tryz.prog 51:={}
instance:ak Tryz.prog 52:={}
instance:ak Tryz.prog 53:={}
instance:ak Tryz.prog 54:={}
instance:ak Tryz.prog 55:={}
instance:ak Tryz.prog 56:={}
instance:ak Tryz.prog 57:={}
instance:ak Tryz.prog 58:={}
instance:ak Tryz.prog 59:={}
instance:ak Tryz.prog 60:={}
instance:ak Tryz.prog 61:={}
instance:ak Tryz.prog 62:={}
instance:ak Tryz.prog 63:={}
instance:ak Tryz.prog 64:={}
instance:ak Tryz.prog 65:={}
instance:ak Tryz.prog 66:={}
instance:ak Tryz.prog 67:={}
instance:ak Tryz.prog 68:={}
instance:ak Tryz.prog 69:={}
instance:ak Tryz.prog 70:={}
instance:ak Tryz.prog 71:={}
instance:ak Tryz.prog 72:={}
instance:ak Tryz.prog 73:={}
instance:ak Tryz.prog 74:={}
instance:ak Tryz.prog 75:={}
instance:ak Tryz.prog 76:={}
instance:ak Tryz.prog 77:={}
instance:ak Tryz.prog 78:={}
instance:ak Tryz.prog 79:={}
instance:ak Tryz.prog 80:={}
instance:ak Tryz.prog 81:={}
instance:ak Tryz.prog 82:={}
instance:ak Tryz.prog 83:={}
instance:ak Tryz.prog 84:={}
instance:ak Tryz.prog 85:={}
instance:ak Tryz.prog 86:={}
instance:ak Tryz.prog 87:={}
instance:ak Tryz.prog 88:={}
instance:ak Tryz.prog 89:={}
instance:ak Tryz.prog 90:={}
instance:ak Tryz.prog 91:={}
instance:ak Tryz.prog 92:={}
instance:ak Tryz.prog 93:={}
instance:ak Tryz.prog 94:={}
instance:ak Tryz.prog 95:={}
instance:ak Tryz.prog 96:={}
instance:ak Tryz.prog 97:={}
instance:ak Tryz.prog 98:={}
instance:ak Tryz.prog 99:={}
instance:ak Tryz.prog 100:={}
instance:ak Tryz.prog 101:={}
instance:ak Tryz.prog 102:={}
instance:ak Tryz.prog 103:={}
instance:ak Tryz.prog 104:={}
instance:ak Tryz.prog 105:={}
instance:ak Tryz.prog 106:={}
instance:ak Tryz.prog 107:={}
instance:ak Tryz.prog 108:={}
instance:ak Tryz.prog 109:={}
instance:ak Tryz.prog 110:={}
instance:ak Tryz.prog 111:={}
instance:ak Tryz.prog 112:={}
instance:ak Tryz.prog 113:={}
instance:ak Tryz.prog 114:={}
instance:ak Tryz.prog 115:={}
instance:ak Tryz.prog 116:={}
instance:ak Tryz.prog 117:={}
instance:ak Tryz.prog 118:={}
instance:ak Tryz.prog 119:={}
instance:ak Tryz.prog 120:={}
instance:ak Tryz.prog 121:={}
instance:ak Tryz.prog 122:={}
instance:ak Tryz.prog 123:={}
instance:ak Tryz.prog 124:={}
instance:ak Tryz.prog 125:={}
instance:ak Tryz.prog 126:={}
instance:ak Tryz.prog 127:={}
instance:ak Tryz.prog 128:={}
instance:ak Tryz.prog 129:={}
instance:ak Tryz.prog 130:={}
instance:ak Tryz.prog 131:={}
instance:ak Tryz.prog 132:={}
instance:ak Tryz.prog 133:={}
instance:ak Tryz.prog 134:={}
instance:ak Tryz.prog 135:={}
instance:ak Tryz.prog 136:={}
instance:ak Tryz.prog 137:={}
instance:ak Tryz.prog 138:={}
instance:ak Tryz.prog 139:={}
instance:ak Tryz.prog 140:={}
instance:ak Tryz.prog 141:={}
instance:ak Tryz.prog 142:={}
instance:ak Tryz.prog 143:={}
instance:ak Tryz.prog 144:={}
instance:ak Tryz.prog 145:={}
instance:ak Tryz.prog 146:={}
instance:ak Tryz.prog 147:={}
instance:ak Tryz.prog 148:={}
instance:ak Tryz.prog 149:={}
instance:ak Tryz.prog 150:={}
instance:ak Tryz.prog 151:={}
instance:ak Tryz.prog 152:={}
instance:ak Tryz.prog 153:={}
instance:ak Tryz.prog 154:={}
instance:ak Tryz.prog 155:={}
instance:ak Tryz.prog 156:={}
instance:ak Tryz.prog 157:={}
instance:ak Tryz.prog 158:={}
instance:ak Tryz.prog 159:={}
instance:ak Tryz.prog 160:={}
instance:ak Tryz.prog 161:={}
instance:ak Tryz.prog 162:={}
instance:ak Tryz.prog 163:={}
instance:ak Tryz.prog 164:={}
instance:ak Tryz.prog 165:={}
instance:ak Tryz.prog 166:={}
instance:ak Tryz.prog 167:={}
instance:ak Tryz.prog 168:={}
instance:ak Tryz.prog 169:={}
instance:ak Tryz.prog 170:={}
instance:ak Tryz.prog 171:={}
instance:ak Tryz.prog 172:={}
instance:ak Tryz.prog 173:={}
instance:ak Tryz.prog 174:={}
instance:ak Tryz.prog 175:={}
instance:ak Tryz.prog 176:={}
instance:ak Tryz.prog 177:={}
instance:ak Tryz.prog 178:={}
instance:ak Tryz.prog 179:={}
instance:ak Tryz.prog 180:={}
instance:ak Tryz.prog 181:={}
instance:ak Tryz.prog 182:={}
instance:ak Tryz.prog 183:={}
instance:ak Tryz.prog 184:={}
instance:ak Tryz.prog 185:={}
instance:ak Tryz.prog 186:={}
instance:ak Tryz.prog 187:={}
instance:ak Tryz.prog 188:={}
instance:ak Tryz.prog 189:={}
instance:ak Tryz.prog 190:={}
instance:ak Tryz.prog 191:={}
instance:ak Tryz.prog 192:={}
instance:ak Tryz.prog 193:={}
instance:ak Tryz.prog 194:={}
instance:ak Tryz.prog 195:={}
instance:ak Tryz.prog 196:={}
instance:ak Tryz.prog 197:={}
instance:ak Tryz.prog 198:={}
instance:ak Tryz.prog 199:={}
instance:ak Tryz.prog 200:={}
instance:ak Tryz.prog 201:={}
instance:ak Tryz.prog 202:={}
instance:ak Tryz.prog 203:={}
instance:ak Tryz.prog 204:={}
instance:ak Tryz.prog 205:={}
instance:ak Tryz.prog 206:={}
instance:ak Tryz.prog 207:={}
instance:ak Tryz.prog 208:={}
instance:ak Tryz.prog 209:={}
instance:ak Tryz.prog 210:={}
instance:ak Tryz.prog 211:={}
instance:ak Tryz.prog 212:={}
instance:ak Tryz.prog 213:={}
instance:ak Tryz.prog 214:={}
instance:ak Tryz.prog 215:={}
instance:ak Tryz.prog 216:={}
instance:ak Tryz.prog 217:={}
instance:ak Tryz.prog 218:={}
instance:ak Tryz.prog 219:={}
instance:ak Tryz.prog 220:={}
instance:ak Tryz.prog 221:={}
instance:ak Tryz.prog 222:={}
instance:ak Tryz.prog 223:={}
instance:ak Tryz.prog 224:={}
instance:ak Tryz.prog 225:={}
instance:ak Tryz.prog 226:={}
instance:ak Tryz.prog 227:={}
instance:ak Tryz.prog 228:={}
instance:ak Tryz.prog 229:={}
instance:ak Tryz.prog 230:={}
instance:ak Tryz.prog 231:={}
instance:ak Tryz.prog 232:={}
instance:ak Tryz.prog 233:={}
instance:ak Tryz.prog 234:={}
instance:ak Tryz.prog 235:={}
instance:ak Tryz.prog 236:={}
instance:ak Tryz.prog 237:={}
instance:ak Tryz.prog 238:={}
instance:ak Tryz.prog 239:={}
instance:ak Tryz.prog 241:={}
instance:ak Tryz.prog 242:={}
instance:ak Tryz.prog 243:={}
instance:ak Tryz.prog 244:={}
instance:ak Tryz.prog 245:={}
instance:ak Tryz.prog 246:={}
instance:ak Tryz.prog 247:={}
instance:ak Tryz.prog 248:={}
instance:ak Tryz.prog 251:={}
instance:ak Tryz.prog 252:={}
instance:ak Tryz.prog 253:={}
instance:ak Tryz.prog 254:={}
instance:ak Tryz.prog 255:={}
instance:ak Tryz.prog 256:={}
instance:ak Tryz.prog 257:={}
instance:ak Tryz.prog 258:={}
instance:ak Tryz.prog 259:={}
instance:ak Tryz.prog 262:={}
instance:ak Tryz.prog 263:={}
instance:ak Tryz.prog 264:={}
variable {P:Program}{R:Ending→World→Prop}{ag r:Bool}{args:Array Operand}{b by' dj j n o off:Nat}{cs vs zc:List Value}{ft t':TypeId}{fz:Nat×Nat}{parts:Array (Nat×Operand)}{ps:List (Nat×Value)}{v1:Value}{w:World}{ρ:Rf}
open Go.RowKit
section
variable {ro:Mode}{P:Program}{N d:Nat}{ops:Array Oper}{Q:Kq}{ρ:Rf}{w w0:World}{rest:List Oper}{H:List HE}{ty:TypeId}{pos:String}{af:Array Edge}{x y:Operand}{t u:TypeId}
theorem mI {k:IntKind}{a:Int} (kk:WL ro P N ops Q rest (cg ρ d (.int k a)) w) (hx:ev ρ x=.int k a:=by exact cH rfl) (hN:d<N:=by decide):WL ro P N ops Q (⟨some d,.move x,ty,pos,af,none⟩::rest) ρ w:=mX hx hN kk
theorem aI {k:IntKind}{a:Int} (kk:WL ro P N ops Q rest (cg ρ d (.int k a)) w) (hx:ev ρ x=.int k a:=by exact cH rfl) (hN:d<N:=by decide):WL ro P N ops Q (⟨some d,.assign x,ty,pos,af,none⟩::rest) ρ w:=jN hx hN kk
theorem mB {a:Bool} (kk:WL ro P N ops Q rest (cg ρ d (.bool a)) w) (hx:ev ρ x=.bool a:=by exact pT rfl) (hN:d<N:=by decide):WL ro P N ops Q (⟨some d,.move x,ty,pos,af,none⟩::rest) ρ w:=mX hx hN kk
theorem aB {a:Bool} (kk:WL ro P N ops Q rest (cg ρ d (.bool a)) w) (hx:ev ρ x=.bool a:=by exact pT rfl) (hN:d<N:=by decide):WL ro P N ops Q (⟨some d,.assign x,ty,pos,af,none⟩::rest) ρ w:=jN hx hN kk
theorem mS {a:ByteArray} (kk:WL ro P N ops Q rest (cg ρ d (.string a)) w) (hx:ev ρ x=.string a:=by exact Be rfl) (hN:d<N:=by decide):WL ro P N ops Q (⟨some d,.move x,ty,pos,af,none⟩::rest) ρ w:=mX hx hN kk
theorem aS {a:ByteArray} (kk:WL ro P N ops Q rest (cg ρ d (.string a)) w) (hx:ev ρ x=.string a:=by exact Be rfl) (hN:d<N:=by decide):WL ro P N ops Q (⟨some d,.assign x,ty,pos,af,none⟩::rest) ρ w:=jN hx hN kk
theorem mL {A:Option Addr}{c:Nat} (kk:WL ro P N ops Q rest (cg ρ d (.slice A n c)) w) (hx:ev ρ x=.slice A n c:=by exact Aj rfl) (hN:d<N:=by decide):WL ro P N ops Q (⟨some d,.move x,ty,pos,af,none⟩::rest) ρ w:=mX hx hN kk
theorem aL {A:Option Addr}{c:Nat} (kk:WL ro P N ops Q rest (cg ρ d (.slice A n c)) w) (hx:ev ρ x=.slice A n c:=by exact Aj rfl) (hN:d<N:=by decide):WL ro P N ops Q (⟨some d,.assign x,ty,pos,af,none⟩::rest) ρ w:=jN hx hN kk
theorem mG {l:List Value} (kk:WL ro P N ops Q rest (cg ρ d (.agg l.toArray)) w) (hx:ev ρ x=.agg l.toArray:=by exact eR rfl) (hN:d<N:=by decide):WL ro P N ops Q (⟨some d,.move x,ty,pos,af,none⟩::rest) ρ w:=mX hx hN kk
theorem aG {l:List Value} (kk:WL ro P N ops Q rest (cg ρ d (.agg l.toArray)) w) (hx:ev ρ x=.agg l.toArray:=by exact eR rfl) (hN:d<N:=by decide):WL ro P N ops Q (⟨some d,.assign x,ty,pos,af,none⟩::rest) ρ w:=jN hx hN kk
theorem mT {l:List Value} (kk:WL ro P N ops Q rest (cg ρ d (.tuple l.toArray)) w) (hx:ev ρ x=.tuple l.toArray:=by exact Px rfl) (hN:d<N:=by decide):WL ro P N ops Q (⟨some d,.move x,ty,pos,af,none⟩::rest) ρ w:=mX hx hN kk
theorem aT {l:List Value} (kk:WL ro P N ops Q rest (cg ρ d (.tuple l.toArray)) w) (hx:ev ρ x=.tuple l.toArray:=by exact Px rfl) (hN:d<N:=by decide):WL ro P N ops Q (⟨some d,.assign x,ty,pos,af,none⟩::rest) ρ w:=jN hx hN kk
theorem mF {f:Fn}{l r:List Value} (kk:WL ro P N ops Q rest (cg ρ d (.func f l.toArray r.toArray)) w) (hx:ev ρ x=.func f l.toArray r.toArray:=by exact pz rfl) (hN:d<N:=by decide):WL ro P N ops Q (⟨some d,.move x,ty,pos,af,none⟩::rest) ρ w:=mX hx hN kk
theorem aF {f:Fn}{l r:List Value} (kk:WL ro P N ops Q rest (cg ρ d (.func f l.toArray r.toArray)) w) (hx:ev ρ x=.func f l.toArray r.toArray:=by exact pz rfl) (hN:d<N:=by decide):WL ro P N ops Q (⟨some d,.assign x,ty,pos,af,none⟩::rest) ρ w:=jN hx hN kk
theorem mP {a:Option Addr} (kk:WL ro P N ops Q rest (cg ρ d (.pointer a)) w) (hx:ev ρ x=.pointer a:=by exact rfl) (hN:d<N:=by decide):WL ro P N ops Q (⟨some d,.move x,ty,pos,af,none⟩::rest) ρ w:=mX hx hN kk
theorem aP {a:Option Addr} (kk:WL ro P N ops Q rest (cg ρ d (.pointer a)) w) (hx:ev ρ x=.pointer a:=by exact rfl) (hN:d<N:=by decide):WL ro P N ops Q (⟨some d,.assign x,ty,pos,af,none⟩::rest) ρ w:=jN hx hN kk
theorem nP {k:IntKind}{a b:Int} (kk:WL ro P N ops Q rest (cg ρ d (.bool r)) w) (hx:ev ρ x=.int k a:=by exact rfl) (hy:ev ρ y=.int k b:=by exact rfl) (hr:decide (a<b)=r:=by first|exact abQ abq|exact abR abq|exact rfl) (hN:d<N:=by decide):WL ro P N ops Q (⟨some d,.binOp .lss t x y u,ty,pos,af,none⟩::rest) ρ w:=SH hx hy hN (by rw [hr];exact kk)
theorem Y3 {k:IntKind}{a b:Int} (kk:WL ro P N ops Q rest (cg ρ d (.bool r)) w) (hx:ev ρ x=.int k a:=by exact rfl) (hy:ev ρ y=.int k b:=by exact rfl) (hr:decide (a≤b)=r:=by first|exact abQ abq|exact abR abq|exact rfl) (hN:d<N:=by decide):WL ro P N ops Q (⟨some d,.binOp .leq t x y u,ty,pos,af,none⟩::rest) ρ w:=SC hx hy hN (by rw [hr];exact kk)
theorem B8 {k:IntKind}{a b:Int} (kk:WL ro P N ops Q rest (cg ρ d (.bool r)) w) (hx:ev ρ x=.int k a:=by exact rfl) (hy:ev ρ y=.int k b:=by exact rfl) (hr:decide (b<a)=r:=by first|exact abQ abq|exact abR abq|exact rfl) (hN:d<N:=by decide):WL ro P N ops Q (⟨some d,.binOp .gtr t x y u,ty,pos,af,none⟩::rest) ρ w:=Sq hx hy hN (by rw [hr];exact kk)
theorem sZ {k:IntKind}{a b:Int} (kk:WL ro P N ops Q rest (cg ρ d (.bool r)) w) (hx:ev ρ x=.int k a:=by exact rfl) (hy:ev ρ y=.int k b:=by exact rfl) (hr:decide (b≤a)=r:=by first|exact abQ abq|exact abR abq|exact rfl) (hN:d<N:=by decide):WL ro P N ops Q (⟨some d,.binOp .geq t x y u,ty,pos,af,none⟩::rest) ρ w:=Ss hx hy hN (by rw [hr];exact kk)
theorem SJ {k:IntKind}{a b:Int} (kk:WL ro P N ops Q rest (cg ρ d (.bool r)) w) (hx:ev ρ x=.int k a:=by exact rfl) (hy:ev ρ y=.int k b:=by exact rfl) (hr:decide (a=b)=r:=by first|exact abQ abq|exact abR abq|exact rfl) (hN:d<N:=by decide):WL ro P N ops Q (⟨some d,.binOp .eql t x y u,ty,pos,af,none⟩::rest) ρ w:=JR hx hy hN (by rw [hr];exact kk)
theorem ZF {k:IntKind}{a b:Int} (kk:WL ro P N ops Q rest (cg ρ d (.bool r)) w) (hx:ev ρ x=.int k a:=by exact rfl) (hy:ev ρ y=.int k b:=by exact rfl) (hr:decide (a≠b)=r:=by first|exact abQ abq|exact abR abq|exact rfl) (hN:d<N:=by decide):WL ro P N ops Q (⟨some d,.binOp .neq t x y u,ty,pos,af,none⟩::rest) ρ w:=RJ hx hy hN (by rw [hr];exact kk)
theorem nC {a b:Int} (kk:WL ro P N ops Q rest (cg ρ d (.int .i64 (a+b))) w) (hx:ev ρ x=.int .i64 a:=by exact rfl) (hy:ev ρ y=.int .i64 b:=by exact rfl) (h1: -9223372036854775808≤a+b:=by omega) (h2:a+b≤9223372036854775807:=by omega) (hN:d<N:=by decide):WL ro P N ops Q (⟨some d,.binOp .add t x y u,ty,pos,af,none⟩::rest) ρ w:=Wl hx hy h1 h2 hN kk
theorem qy {a b:Int} (kk:WL ro P N ops Q rest (cg ρ d (.int .i64 (a-b))) w) (hx:ev ρ x=.int .i64 a:=by exact rfl) (hy:ev ρ y=.int .i64 b:=by exact rfl) (h1: -9223372036854775808≤a-b:=by omega) (h2:a-b≤9223372036854775807:=by omega) (hN:d<N:=by decide):WL ro P N ops Q (⟨some d,.binOp .sub t x y u,ty,pos,af,none⟩::rest) ρ w:=Vh hx hy h1 h2 hN kk
theorem mulC {a b:Int} (kk:WL ro P N ops Q rest (cg ρ d (.int .i64 (a*b))) w) (hx:ev ρ x=.int .i64 a:=by exact rfl) (hy:ev ρ y=.int .i64 b:=by exact rfl) (h1: -9223372036854775808≤a*b:=by omega) (h2:a*b≤9223372036854775807:=by omega) (hN:d<N:=by decide):WL ro P N ops Q (⟨some d,.binOp .mul t x y u,ty,pos,af,none⟩::rest) ρ w:=UT hx hy h1 h2 hN kk
theorem vk {i:Nat}{v:Value} (kk:WL ro P N ops Q rest (cg ρ d (v)) w) (hx:ev ρ x=.tuple vs.toArray:=by exact rfl) (hv:vs[i]?=some v:=by exact rfl) (hN:d<N:=by decide):WL ro P N ops Q (⟨some d,.extract x i,ty,pos,af,none⟩::rest) ρ w:=KZ hx hv hN kk
theorem Q8 {b:Bool} (kk:WL ro P N ops Q rest (cg ρ d (.bool !b)) w) (hx:ev ρ x=.bool b:=by exact rfl) (hN:d<N:=by decide):WL ro P N ops Q (⟨some d,.unOp .not t x,ty,pos,af,none⟩::rest) ρ w:=Yn hx hN kk
theorem te {e:TypeId}{A:Option Addr}{c:Nat} [ht:bq P t (.slice e)] (kk:WL ro P N ops Q rest (cg ρ d (.int .i64 n)) w) (hx:ev ρ x=.slice A n c:=by exact rfl) (hN:d<N:=by decide):WL ro P N ops Q (⟨some d,.call ⟨.builtin .len, #[x], #[t]⟩,ty,pos,af,none⟩::rest) ρ w:=Pf ht.out hx hN kk
theorem tq {s:TypeId}{f:Nat} [hf:eG P s f off ft] (kk:WL ro P N ops Q rest (cg ρ d (.pointer (some ⟨b,o+off,none⟩))) w) (hx:ev ρ x=.pointer (some ⟨b,o,none⟩):=by exact rfl) (hN:d<N:=by decide):WL ro P N ops Q (⟨some d,.fieldAddr s x f,ty,pos,af,none⟩::rest) ρ w:=CO hf.out hx hN kk
theorem p8 {v:Value} (hh:Hp w0 H w) (i:Nat) [ht:az P t n false by' zc] (kk:WL ro P N ops Q rest (cg ρ d (v)) w) (hx:ev ρ x=.pointer (some ⟨b,o,none⟩):=by exact rfl) (hi:H[i]?=some (.blk b t' cs fz):=by exact rfl) (hv:cs[o]?=some v:=by exact rfl) (hN:d<N:=by decide):WL ro P N ops Q (⟨some d,.load t x,ty,pos,af,none⟩::rest) ρ w:=bG ht.out hx (hh.ej hi hv) hN kk
theorem m9 (hh:Hp w0 H w) (i:Nat) (vs:List Value) [ht:az P t n true by' zc] (kk:WL ro P N ops Q rest (cg ρ d (.agg vs.toArray)) w) (hx:ev ρ x=.pointer (some ⟨b,o,none⟩):=by exact rfl) (hi:H[i]?=some (.blk b t' cs fz):=by exact rfl) (hv:(cs.drop o).take n=vs:=by exact rfl) (hl:vs.length=n:=by exact rfl) (hN:d<N:=by decide):WL ro P N ops Q (⟨some d,.load t x,ty,pos,af,none⟩::rest) ρ w:=bF ht.out hx (hh.aE hi hv) hl hN kk
theorem yU (hh:Hp w0 H w) [ht:az P t n ag by' zc] (kk:∀b w',Hp w0 (.blk b t zc (0,0)::H) w'→WL ro P N ops Q rest (cg ρ d (.pointer (some ⟨b,0,none⟩))) w') (hN:d<N:=by decide):WL ro P N ops Q (⟨some d,.alloc t,ty,pos,af,none⟩::rest) ρ w:=Ph hh ht.out hN kk
theorem yD {v:Value} (hh:Hp w0 H w) (cs:List Value) (kk:∀b w',Hp w0 (.blk b t cs (0,0)::H) w'→WL ro P N ops Q rest (cg ρ d (.pointer (some ⟨b,0,none⟩))) w') (hx:ev ρ x=v:=by exact rfl) (hc:v.cells=cs.toArray:=by exact rfl) (hN:d<N:=by decide):WL ro P N ops Q (⟨some d,.box t x,ty,pos,af,none⟩::rest) ρ w:=Mp hh hx hc hN kk
theorem gE {v:Value} (hh:Hp w0 H w) (i:Nat) (vs:List Value) [ht:az P t n ag by' zc] (kk:∀w',Hp w0 (H.set i (.blk b t' (bK cs o vs) fz)) w'→WL ro P N ops Q rest ρ w') (hx:ev ρ x=.pointer (some ⟨b,o,none⟩):=by exact rfl) (hi:H[i]?=some (.blk b t' cs fz):=by exact rfl) (hy:ev ρ y=v:=by exact rfl) (hc:v.cells=vs.toArray:=by exact rfl) (hl:vs.length=n:=by exact rfl) (ho:o+n≤cs.length:=by simp) (h1:(vs.all Value.oneCell')=true:=by exact rfl):WL ro P N ops Q (⟨none,.store t x y,ty,pos,af,none⟩::rest) ρ w:=Cw hh hx hi hy hc ht.out hl ho h1 kk
theorem BU {pl:List (Nat×Nat)} (cs:List Value) [hte:az P t n true by' zc] [hpl:kg P t pl] (kk:WL ro P N ops Q rest (cg ρ d (.agg cs.toArray)) w) (hp:Cm ρ parts.toList=ps:=by exact rfl) (hf:lR (pl[·]?) zc ps=some cs:=by exact rfl) (hN:d<N:=by decide):WL ro P N ops Q (⟨some d,.build t parts,ty,pos,af,none⟩::rest) ρ w:=Q0 hte.out hpl.out hp hf hN kk
theorem Yv {c a b:Operand}{v:Bool} (kk:WL ro P N ops Q rest (cg ρ d (.bool v)) w) (hc:ev ρ c=.bool true:=by exact rfl) (hx:ev ρ a=.bool v:=by exact pT rfl) (hN:d<N:=by decide):WL ro P N ops Q (⟨some d,.pick c a b,ty,pos,af,none⟩::rest) ρ w:=N3 hc hx hN kk
theorem YG {c a b:Operand}{v:Bool} (kk:WL ro P N ops Q rest (cg ρ d (.bool v)) w) (hc:ev ρ c=.bool false:=by exact rfl) (hx:ev ρ b=.bool v:=by exact pT rfl) (hN:d<N:=by decide):WL ro P N ops Q (⟨some d,.pick c a b,ty,pos,af,none⟩::rest) ρ w:=M6 hc hx hN kk
theorem gS {op:Op}{b c:Bool} (kk:WL ro P N ops Q rest (cg ρ d undef) w) (hN:d<N:=by decide) (hj:(ops[j]?).bind (·.dst)=some dj:=by exact rfl) (hv:ρ dj=.bool c:=by exact rfl) (hb:c≠b:=by decide):WL ro P N ops Q (⟨some d,op,ty,pos,af,some (j,b)⟩::rest) ρ w:=qk hN hj hv hb kk
theorem gV {op:Op}{b:Bool} (kk:WL ro P N ops Q rest (cg ρ d undef) w) (hN:d<N:=by decide) (hj:(ops[j]?).bind (·.dst)=some dj:=by exact rfl) (hb:nb (ρ dj) b=true:=by exact rfl):WL ro P N ops Q (⟨some d,op,ty,pos,af,some (j,b)⟩::rest) ρ w:=xk hN hj hb kk
theorem gT {dd:Option Nat}{op:Op}{b:Bool} (kk:WL ro P N ops Q (⟨dd,op,ty,pos,af,none⟩::rest) ρ w) (hj:(ops[j]?).bind (·.dst)=some dj:=by exact rfl) (hv:ρ dj=.bool b:=by exact rfl):WL ro P N ops Q (⟨dd,op,ty,pos,af,some (j,b)⟩::rest) ρ w:=mg hj hv kk
theorem aZ {f:FuncId}{ts:Array TypeId}{v:Value} (hh:Hp w0 H w) (hc:Calls P f vs.toArray w fun e w'=>e=.returned v∧Below w.heap.size w w') [hf:ak P f] (ha:xI ρ args.toList=vs) (kk:∀w',Hp w0 H w'→WL ro P N ops Q rest (cg ρ d v) w') (hN:d<N:=by decide):WL ro P N ops Q (⟨some d,.call ⟨.value (.func f),args,ts⟩,ty,pos,af,none⟩::rest) ρ w:=au hc hf.out ha hN fun _ _ hq=>⟨_,hq.1,kk _ (hh.ext hq.2)⟩
theorem sr {id:Nat}{y:Code}{l:List Oper} (h:WL ro P N l.toArray (dV (fun ρ w=>WC ro P N y Q ρ w) Q) l ρ w):WC ro P N (.seq (.region id l.toArray false) y) Q ρ w:=bO (bR h)
theorem cT {c:Operand}{x y:Code} (h:WC ro P N x Q ρ w) (hc:ev ρ c=.bool true:=by exact rfl):WC ro P N (.cond c x y) Q ρ w:=Kv hc h
theorem cF {c:Operand}{x y:Code} (h:WC ro P N y Q ρ w) (hc:ev ρ c=.bool false:=by exact rfl):WC ro P N (.cond c x y) Q ρ w:=K4 hc h
theorem Z1 {fn:Func}{e:Exit}{t0:Tmp}{v0:Value} (h:R (.returned v0) w) (hr:fn.results= #[.tmp t0]:=by exact rfl) (h0:ρ t0=v0:=by first|exact eL rfl|exact mi rfl|exact zK rfl|exact KS rfl|exact v_agg rfl|exact rfl) (he:e=.normal∨e=.ret:=by first|exact .inr rfl|exact .inl rfl):oC P fn R e ρ w:=Zs he hr h0 h
theorem qa2 {fn:Func}{e:Exit}{t0 t1:Tmp}{v0:Value} (h:R (.returned (.tuple #[v0,v1])) w) (hr:fn.results= #[.tmp t0,.tmp t1]:=by exact rfl) (h0:ρ t0=v0:=by first|exact eL rfl|exact mi rfl|exact zK rfl|exact KS rfl|exact v_agg rfl|exact rfl) (h1:ρ t1=v1:=by first|exact eL rfl|exact mi rfl|exact zK rfl|exact KS rfl|exact v_agg rfl|exact rfl) (he:e=.normal∨e=.ret:=by first|exact .inr rfl|exact .inl rfl):oC P fn R e ρ w:=YV he hr h0 h1 h
theorem ZL {fn:Func}{e:Exit}{t0 t1 t2:Tmp}{v0 v2:Value} (h:R (.returned (.tuple #[v0,v1,v2])) w) (hr:fn.results= #[.tmp t0,.tmp t1,.tmp t2]:=by exact rfl) (h0:ρ t0=v0:=by first|exact eL rfl|exact mi rfl|exact zK rfl|exact KS rfl|exact v_agg rfl|exact rfl) (h1:ρ t1=v1:=by first|exact eL rfl|exact mi rfl|exact zK rfl|exact KS rfl|exact v_agg rfl|exact rfl) (h2:ρ t2=v2:=by first|exact eL rfl|exact mi rfl|exact zK rfl|exact KS rfl|exact v_agg rfl|exact rfl) (he:e=.normal∨e=.ret:=by first|exact .inr rfl|exact .inl rfl):oC P fn R e ρ w:=Y5 he hr h0 h1 h2 h
theorem Kt {fn:Func}{e:Exit}{r0:ResultVar}{v0:Value} (h1:ja P ρ w [r0] [v0]) (h:R (.returned v0) w) (hr:fn.results= #[r0]:=by exact rfl) (he:e=.normal∨e=.ret:=by first|exact .inr rfl|exact .inl rfl):oC P fn R e ρ w:=Xc he hr h1 h
theorem GD {fn:Func}{e:Exit}{r0 r1:ResultVar}{v0:Value} (h1:ja P ρ w [r0,r1] [v0,v1]) (h:R (.returned (.tuple #[v0,v1])) w) (hr:fn.results= #[r0,r1]:=by exact rfl) (he:e=.normal∨e=.ret:=by first|exact .inr rfl|exact .inl rfl):oC P fn R e ρ w:=XQ he hr h1 h
theorem JV {fn:Func}{e:Exit}{r0 r1 r2:ResultVar}{v0 v2:Value} (h1:ja P ρ w [r0,r1,r2] [v0,v1,v2]) (h:R (.returned (.tuple #[v0,v1,v2])) w) (hr:fn.results= #[r0,r1,r2]:=by exact rfl) (he:e=.normal∨e=.ret:=by first|exact .inr rfl|exact .inl rfl):oC P fn R e ρ w:=XG he hr h1 h
end
class TS (P:Program) (t:TypeId) (n:outParam Nat):Prop where out:(P.info? t).map (·.size)=some n
instance {P:Program}{t n b:Nat}{ag:Bool}{zc:List Value} [az P t n ag b zc]:TS P t n:=⟨az.size⟩
variable {K K':Value→World→Prop}{N b' base fuel k m:Nat}{W w' w0 w1:World}{ad:Addr}{lo:Operand}{next:Rf→World→Prop}{ops:Array Oper}{pos:String}{α:Type}
section
variable {D:List Deferred}
section
variable {P:Program}{N:Nat}{Q:Kq}{ρ:Rf}{w:World}
def TW (ops:Array Oper):Nat→Nat→Nat→Bool
 |0,_,_=>false
 |n+1,k,i=>match ops[k]? with
  |none=>false
  |some o=>(o.after.any fun e=>Region.binds .any e && e.on==i)||o.after.any fun e=>Region.binds .any e && TW ops n e.on i
def tL (ops:Array Oper) (L:Array Bool):Prop:=∀k o,ops[k]?=some o→L.getD k false=true→∀e∈o.after,Region.binds .any e=true→L.getD e.on false=true
theorem oL {ops:Array Oper}{L:Array Bool} (hc:tL ops L):∀(n k i:Nat),(∀o,ops[k]?=some o→∀e∈o.after,Region.binds .any e=true→L.getD e.on false=true)→TW ops n k i=true→L.getD i false=true
 |0,_,_,_,h=>by simp [TW] at h
 |n+1,k,i,hk,h=>by
  unfold TW at h;split at h
  ·cases h
  ·rename_i o ho;rw [aea] at h
   rcases h with h|h
   ·obtain ⟨e,he,h⟩:=Array.any_eq_true'.1 h;simp only [abS,ac3] at h;rw [←h.2];exact hk o ho e he h.1
   ·obtain ⟨e,he,h⟩:=Array.any_eq_true'.1 h;simp only [abS] at h;have h1:=hk o ho e he h.1;exact oL hc n e.on i (fun o' ho'=>hc e.on o' ho' h1) h.2
structure OG (P:Program) (ops:Array Oper) (o:Oper) (ρ:Rf) (w:World) (K:Value→World→Prop):Prop where
 out:∀(a:Act) (next:Act→World→Prop) (Q:Exit→Act→World→Prop),(∀i,a.tmps.getD i undef=ρ i)→(∀v w',K v w'→next (a.put o.dst v) w')→
  if Region.wanted o (yielded ops a.tmps) then o.wp P a w next Q∨(o.asks P a w∧LetsOut Q) else next (a.put o.dst undef) w
theorem BJ {a:Act} (h:∀i,a.tmps.getD i undef=ρ i):a.eval=ev ρ:=by
 funext x
 cases x with
 |tmp t=>exact h t
 |_=>rfl
theorem cY {o:Oper}{v:Value} (hg:o.guard=none) (hr:(execOp (ev ρ) o).run P w=.ok (.value v) w') (hk:K v w'):OG P ops o ρ w K:=
 ⟨fun a next Q ha hn=>by
  rw [abx (by simp [Region.wanted,hg])];refine .inl ?_;unfold Oper.wp;rw [BJ ha,hr];exact hn _ _ hk⟩
theorem bp {o:Oper}{f:FuncId}{args:Array Value} (hg:o.guard=none) (hr:(execOp (ev ρ) o).run P w=.ok (.enter f args) w1) (hc:Calls P f args w1 R)
  (hk:∀e w',R e w'→∃v,e=.returned v∧K v w'):OG P ops o ρ w K:=
 ⟨fun a next Q ha hn=>by
  rw [abx (by simp [Region.wanted,hg])];refine .inl ?_;unfold Oper.wp;rw [BJ ha,hr];show Calls P f args w1 _;refine hc.mono fun e w' hR=> ?_;obtain ⟨v,rfl,hkv⟩:=hk e w' hR;exact hn _ _ hkv⟩
theorem dW {d:Option Nat}{op:Op}{ty:TypeId}{af:Array Edge}{b:Bool}
  (hj:(ops[j]?).bind (·.dst)=some dj) (hv:ρ dj=.bool b) (h:OG P ops ⟨d,op,ty,pos,af,none⟩ ρ w K):OG P ops ⟨d,op,ty,pos,af,some (j,b)⟩ ρ w K:=
 ⟨fun a next Q ha hn=>by
  have h1:Region.wanted ⟨d,op,ty,pos,af,some (j,b)⟩ (yielded ops a.tmps)=true:=by
   have h2:=ha dj;rw [hv,acC] at h2
   cases h3:a.tmps[dj]? with
   |none=>rw [h3] at h2;cases h2
   |some x=>
    rw [h3] at h2;simp only [acW] at h2;subst h2;simp [Region.wanted,yielded,hj,h3]
  have h2:=h.out a next Q ha hn;rw [abx (by simp [Region.wanted])] at h2;rw [abx h1];exact h2⟩
theorem yN {d:Option Nat}{op:Op}{ty:TypeId}{af:Array Edge}{b c:Bool}
  (hj:(ops[j]?).bind (·.dst)=some dj) (hv:ρ dj=.bool c) (hb:c≠b) (h:K undef w):OG P ops ⟨d,op,ty,pos,af,some (j,b)⟩ ρ w K:=
 ⟨fun a next Q ha hn=>by
  have h1:Region.wanted ⟨d,op,ty,pos,af,some (j,b)⟩ (yielded ops a.tmps)=false:=by
   have h2:=ha dj;rw [hv,acC] at h2
   cases h3:a.tmps[dj]? with
   |none=>rw [h3] at h2;cases h2
   |some x=>
    rw [h3] at h2;simp only [acW] at h2;subst h2;simp [Region.wanted,yielded,hj,h3,hb]
  rw [h1];exact hn _ _ h⟩
def cN (V:Nat→Value→World→Prop) (ρ ρ1:Rf) (w1:World):List (Nat×Option Nat)→Prop
 |[]=>True
 |(t,some j)::r=>V j (ρ1 t) w1∧cN V ρ ρ1 w1 r
 |(t,none)::r=>ρ1 t=ρ t∧cN V ρ ρ1 w1 r
def DO (P:Program) (ops:Array Oper) (J:World→Prop) (V:Nat→Value→World→Prop) (ρ:Rf):Nat→List Oper→List (List (Nat×Option Nat))→Prop
 |i,o::os,s::ss=>((∀v w w',V i v w→Below w.heap.size w w'→V i v w')∧∀ρ1 w1,J w1→cN V ρ ρ1 w1 s→OG P ops o ρ1 w1 fun v w2=>Below w1.heap.size w1 w2∧V i v w2)∧DO P ops J V ρ (i+1) os ss
 |_,[],[]=>True
 |_,_,_=>False
theorem zU {ops:Array Oper}{J:World→Prop}{V:Nat→Value→World→Prop}:∀(l:List Oper) (ss:List (List (Nat×Option Nat))) (i:Nat),DO P ops J V ρ i l ss→l.length=ss.length∧∀k o,l[k]?=some o→∃s,ss[k]?=some s∧
  (∀v w w',V (i+k) v w→Below w.heap.size w w'→V (i+k) v w')∧∀ρ1 w1,J w1→cN V ρ ρ1 w1 s→OG P ops o ρ1 w1 fun v w2=>Below w1.heap.size w1 w2∧V (i+k) v w2
 |[],[],_,_=>⟨rfl,fun k o h=>by simp at h⟩
 |[],_::_,_,h=>h.elim
 |_::_,[],_,h=>h.elim
 |o::l,s::ss,i,h=>by
  obtain ⟨h1,h2⟩:=zU l ss (i+1) h.2;refine ⟨by simp [h1],fun k o' hk=> ?_⟩
  cases k with
  |zero=>
   simp only [aem,adv] at hk;subst hk;exact ⟨s,rfl,h.1⟩
  |succ k=>
   obtain ⟨s',hs,h3⟩:=h2 k o' (by simpa using hk);refine ⟨s',by simpa using hs, ?_⟩;have e:i+1+k=i+(k+1):=abq;rw [e] at h3;exact h3
def gD (ρ:Rf) (f:Nat→Value):List (Nat×Nat)→Rf
 |[]=>ρ
 |(i,d)::r=>cg (gD ρ f r) d (f i)
def uV (V:Nat→Value→World→Prop) (f:Nat→Value) (w:World):List (Nat×Nat)→Prop
 |[]=>True
 |(i,_)::r=>V i (f i) w∧uV V f w r
def iY (n k:Nat):Array Bool:=(List.replicate k true++List.replicate (n-k) false).toArray
def Fu (l:List Oper) (m N:Nat) (src:List (List (Nat×Option Nat))) (ds:List (Nat×Nat)):Bool:=
 let ops:=l.toArray
 let pre:=(List.range m).map fun i=>((ops[i]?).bind (·.dst))
 (m≤l.length) && (src.length==m) &&
 (ds==(pre.zipIdx.filterMap fun (d,i)=>d.map fun d=>(i,d)).reverse) && (decide (ds.map (·.2)).Nodup) && (ds.all fun p=>p.2<N) &&
 ((List.range m).all fun i=>match ops[i]?,src[i]? with
  |some o,some s=>((o.looksAt ops).all fun t=>s.any fun p=>p.1==t) &&
    s.all fun p=>match p.2 with
     |some j=>(j<m) && ((ops[j]?).bind (·.dst)==some p.1) && TW ops 16 i j
     |none=>(List.range m).all fun j=> !((ops[j]?).bind (·.dst)==some p.1)||(j !=i && TW ops 16 j i)
  |_,_=>false) &&
 (l.length==m||((List.range m).all fun i=>TW ops 16 m i)) &&
 ((List.range (l.length-m)).all fun k=>Region.ready .any ops (iY l.length (m+k))==[m+k]) && (Region.ready .any ops (iY l.length l.length)==[]) &&
 ((List.range (l.length-m)).all fun k=>k==0||TW ops 16 (m+k) m) &&
 ((List.range l.length).all fun i=>match ops[i]? with|some o=>o.after.all fun e=> !Region.binds .any e||e.on<i|none=>false)
theorem KH (n k i:Nat):(iY n k).getD i false=decide (i<k):=by
 unfold iY;rw [acC,adG]
 rcases acj i k with h|h
 ·rw [adE (by simpa using h)];simp [h]
 ·rw [acP (by simpa using h),afc];have:¬i<k:=abq;split<;>simp [this]
theorem Nf (n k:Nat) (hk:k<n):(iY n k).setIfInBounds k true=iY n (k+1):=by
 unfold iY;rw [List.setIfInBounds_toArray];congr 1;apply acp;intro i;rw [acV];simp only [List.getElem?_append,acL,afc,abJ];by_cases h1:k=i
 ·subst h1;rw [abx rfl,abx abq,abx (show k<k+1 by omega),abx (show k<k+1 by omega)]
 ·rw [abw h1];by_cases h2:i<k
  ·rw [abx h2,abx h2,abx (show i<k+1 by omega),abx (show i<k+1 by omega)]
  ·rw [abw h2,abw (show ¬i<k+1 by omega)];by_cases h3:i-k<n-k
   ·rw [abx h3,abx (show i-(k+1)<n-(k+1) by omega)]
   ·rw [abw h3,abw (show ¬i-(k+1)<n-(k+1) by omega)]
theorem Kn (n k:Nat) (hk:k≤n):(iY n k).size=n:=by simp [iY];omega
theorem Hq (n k:Nat):(iY n k).toList.countP (fun b=>b)=k:=by
 simp [iY,ae8]
theorem sj {L:Array Bool} (hs:L.size=n) (hk:k≤n) (h1:∀i,i<k→L.getD i false=true) (h2:∀i,k≤i→L.getD i false=false):L=iY n k:=by
 apply Array.ext
 ·rw [hs,Kn n k hk]
 ·intro i hi hi2;have e1:L[i]=L.getD i false:=by simp [hi]
  have e2:(iY n k)[i]=(iY n k).getD i false:=by simp [hi2]
  rw [e1,e2,KH n k i]
  rcases acj i k with h|h
  ·rw [h1 i h];simp [h]
  ·rw [h2 i h];have:¬i<k:=abq;simp [this]
theorem oQ {l:List Oper}{Q':Exit→Act→World→Prop} (m:Nat)
  (hr:∀k,m≤k→k<l.length→Region.ready .any l.toArray (iY l.length k)=[k]) (hend:Region.ready .any l.toArray (iY l.length l.length)=[]):
  ∀(fuel k:Nat) (a:Act) (w:World),m≤k→k≤l.length→l.length≤fuel+k→wpList P l.toArray Q' (l.drop k) a w→wpAny P .any l.toArray Q' fuel (iY l.length k) a w
 |fuel,k,a,w,hmk,hk,hf,h=>by
  rcases acj k l.length with hlt|hge
  ·cases fuel with
   |zero=>omega
   |succ fuel=>
    refine wpAny_all (hr k hmk hlt) (by simp) fun i hi=> ?_;obtain rfl:i=k:=by simpa using hi
    rw [ady hlt] at h;unfold wpList at h;have ho:l.toArray[i]?=some l[i]:=by simp [hlt]
    have hset:=Nf l.length i hlt;have hgo:∀a w,wpList P l.toArray Q' (l.drop (i+1)) a w→wpAny P .any l.toArray Q' fuel ((iY l.length i).setIfInBounds i true) a w:=fun a w h=>by
     rw [hset];exact oQ m hr hend fuel (i+1) a w abq abq abq h
    unfold wpOp;rw [ho];simp only [];split at h
    ·rename_i hw;rw [abx hw];exact h.imp (Oper.wp_mono hgo) id
    ·rename_i hw;rw [abw hw];exact hgo _ _ h
  ·obtain rfl:k=l.length:=abq;rw [List.drop_length] at h;exact wpAny_done hend h fuel
structure DI (D:List Deferred) (N:Nat) (ops:Array Oper) (m:Nat) (ρ:Rf) (J:World→Prop) (V:Nat→Value→World→Prop) (L:Array Bool) (a:Act) (w:World):Prop where
 nd:a.defers=D
 sz:a.tmps.size=N
 j:J w
 ls:L.size=ops.size
 cl:tL ops L
 tl:∀k,m≤k→L.getD k false=false
 vs:∀i d,i<m→L.getD i false=true→(ops[i]?).bind (·.dst)=some d→V i (a.tmps.getD d undef) w
 tQ:∀s,(∀i,i<m→L.getD i false=true→(ops[i]?).bind (·.dst)≠some s)→a.tmps.getD s undef=ρ s
theorem cx {L:Array Bool}{i:Nat} (hi:i<L.size):(L.setIfInBounds i true).getD j false=(decide (j=i)||L.getD j false):=by
 rw [acC,Array.getElem?_setIfInBounds];by_cases h:i=j
 ·subst h;simp [hi]
 ·have:¬j=i:=fun e=>h e.symm;simp [h,this]
theorem dP {a:Act}{d s:Nat}{v:Value} (hd:d<a.tmps.size):(a.put (some d) v).tmps.getD s undef=if s=d then v else a.tmps.getD s undef:=by
 by_cases h:s=d
 ·subst h;simp [Act.put,hd]
 ·have:d≠s:=fun e=>h e.symm;simp [Act.put,Array.getElem?_setIfInBounds_ne this,h]
theorem l0 (f:Nat→Value):∀(ds:List (Nat×Nat)) (s:Nat),(ds.map (·.2)).Nodup→(∀i,(i,s)∈ds→gD ρ f ds s=f i)∧((∀i,(i,s)∉ds)→gD ρ f ds s=ρ s)
 |[],s,_=>⟨fun i h=>by simp at h,fun _=>rfl⟩
 |(j,d)::r,s,h=>by
  rw [ab8,adI] at h;obtain ⟨h1,h2⟩:=l0 f r s h.2;constructor
  ·intro i hi
   rcases abO.1 hi with hi'|hi'
   ·injection hi' with e1 e2
    subst e1;subst e2;exact sv _ _ _
   ·have hne:s≠d:=fun e=>h.1 (e ▸ abL.2 ⟨_,hi',rfl⟩);exact (gR _ hne _).trans (h1 i hi')
  ·intro hn;have hne:s≠d:=by
    rintro rfl;exact hn j abF
   exact (gR _ hne _).trans (h2 fun i hi=>hn i (abN _ hi))
theorem rn {V:Nat→Value→World→Prop}{f:Nat→Value}{w:World}:∀(ds:List (Nat×Nat)),(∀p∈ds,V p.1 (f p.1) w)→uV V f w ds
 |[],_=>trivial
 |(i,d)::r,h=>⟨h (i,d) abF,rn r fun p hp=>h p (abN _ hp)⟩
theorem pq {V:Nat→Value→World→Prop}{ρ1:Rf}{w1:World}:∀(s:List (Nat×Option Nat)),(∀p∈s,match p.2 with|some j=>V j (ρ1 p.1) w1|none=>ρ1 p.1=ρ p.1)→cN V ρ ρ1 w1 s
 |[],_=>trivial
 |(t,some j)::r,h=>⟨h (t,some j) abF,pq r fun p hp=>h p (abN _ hp)⟩
 |(t,none)::r,h=>⟨h (t,none) abF,pq r fun p hp=>h p (abN _ hp)⟩
theorem QC {id:Nat}{l:List Oper} (m:Nat) (src:List (List (Nat×Option Nat))) (ds:List (Nat×Nat)) (J:World→Prop) (V:Nat→Value→World→Prop) (hm:P.follows .mixedOrders=true) (hok:Fu l m N src ds=true)
  (hJ:∀w w',J w→Below w.heap.size w w'→J w') (h0:J w) (hops:DO P l.toArray J V ρ 0 (l.take m) src)
  (tail:∀f w',J w'→uV V f w' ds→WL ⟨none,D,false⟩ P N l.toArray Q (l.drop m) (gD ρ f ds) w'):WC ⟨none,D,false⟩ P N (.region id l.toArray true) Q ρ w:=by
 refine WC.oV fun a hf=>wp_region_any hm ?_;simp only [Fu,abS,ab1,ac3,ab6,ab3] at hok;obtain ⟨⟨⟨⟨⟨⟨⟨⟨⟨⟨hml,_⟩,hds⟩,hnd⟩,hdN⟩,hrd⟩,htail⟩,hready⟩,hend⟩,hdep⟩,hedge⟩:=hok;have hdo:=(zU _ _ _ hops).2;have hpre:∀i d,i<m→((l.toArray[i]?).bind (·.dst))=some d→(i,d)∈ds:=fun i d hi hd=>by
  exact So
 have hdsm:∀i d,(i,d)∈ds→i<m∧((l.toArray[i]?).bind (·.dst))=some d:=fun i d hp=>by
  exact RU
 have hone:∀i j d,i<m→j<m→((l.toArray[i]?).bind (·.dst))=some d→((l.toArray[j]?).bind (·.dst))=some d→i=j:=fun i j d hi hj h1 h2=>by
  exact RQ
 have hnn:l.toArray.size=l.length:=by simp
 have full:∀(L:Array Bool) (a:Act) (w:World) (fuel:Nat),DI D N l.toArray m ρ J V L a w→(∀i,i<m→L.getD i false=true)→l.length≤fuel+m→wpAny P .any l.toArray (eV N D Q) fuel L a w:=by
  intro L a w fuel hI hall hfu;have hL:L=iY l.length m:=sj (by rw [hI.ls,hnn]) hml hall hI.tl;rw [hL];refine oQ m (fun k h1 h2=> ?_) hend fuel m a w (abD _) hml hfu ?_
  ·exact VG
  ·have hfits:eY N D a (gD ρ (fun i=>match (l.toArray[i]?).bind (·.dst) with|some d=>a.tmps.getD d undef|none=>undef) ds):=by
    exact VE
   refine (tail _ w hI.j (rn ds fun p hp=> ?_)).out a hfits;obtain ⟨h1,h2⟩:=hdsm p.1 p.2 hp;exact PF
 have key:∀(fuel:Nat) (L:Array Bool) (a:Act) (w:World),DI D N l.toArray m ρ J V L a w→fuel+L.toList.countP (fun b=>b)=l.length→wpAny P .any l.toArray (eV N D Q) fuel L a w:=by
  intro fuel
  induction fuel with
  |zero=>
   exact VB
  |succ fuel ih=>
   intro L a w hI hc;by_cases hall:∀i,i<m→L.getD i false=true
   ·exact UP
   ·have hsome:∃i,i<m∧L.getD i false=false:=by
     exact Vx
    have hready_spec:∀i,i∈Region.ready .any l.toArray L↔i<l.length∧L.getD i true=false∧∃o,l.toArray[i]?=some o∧∀e∈o.after,Region.binds .any e=true→L.getD e.on false=true:=fun i=>by
     exact YC
    refine ⟨fun hnil=> ?_,fun i hi=> ?_⟩
    ·exact Zd
    ·obtain ⟨hil,hun,o,ho,hed⟩:=(hready_spec i).1 hi;have hiL:i<L.size:=by rw [hI.ls,hnn];exact hil
     have hun':L.getD i false=false:=by
      exact QO
     have hed':∀o',l.toArray[i]?=some o'→∀e∈o'.after,Region.binds .any e=true→L.getD e.on false=true:=fun o' ho'=>by
      exact Qk
     have him:i<m:=by
      rcases acj i m with h|h
      ·exact h
      ·exfalso
       rcases acj m i with h2|h2
       ·have h3:=hdep (i-m) abq;rw [show m+(i-m)=i by omega] at h3;have h4:(i-m==0)=false:=by simp;omega
        rw [h4,ace] at h3;have:=oL hI.cl 16 i m hed' h3;rw [hI.tl m (abD _)] at this
        cases this
       ·obtain rfl:i=m:=abq;have h4:(l.length==i)=false:=by simp;omega
        rw [h4,ace] at htail;have h5:=ab6.1 htail;obtain ⟨j,hj,hju⟩:=hsome;have:=oL hI.cl 16 i j hed' (h5 j (by simpa using hj));rw [hju] at this
        cases this
     have hok':(l.take m)[i]?=some o:=by
      rw [ado,abx him];simpa using ho
     obtain ⟨s,hs,hstab,hog⟩:=hdo i o hok';rw [ab2] at hstab hog;have hrdi:=hrd i him;rw [ho,hs] at hrdi;simp only [abS,ab6] at hrdi;have hro:cN V ρ (fun t=>a.tmps.getD t undef) w s:=pq s fun p hp=>by
      have hp2:=hrdi.2 p hp
      cases hp3:p.2 with
      |some j=>
       rw [hp3] at hp2;simp only [abS,ab1,ac3] at hp2;exact hI.vs j p.1 hp2.1.1 (oL hI.cl 16 i j hed' hp2.2) hp2.1.2
      |none=>
       rw [hp3] at hp2;refine hI.tQ p.1 fun j hj hjl hjd=> ?_;have h6:=ab6.1 hp2 j (by simpa using hj);rw [hjd] at h6;simp only [beq_self_eq_true,aeo,ace,abS] at h6;have:=oL hI.cl 16 j i (fun o' ho' e he hb=>hI.cl j o' ho' hjl e he hb) h6.2;rw [hun'] at this
       cases this
     have hgo:=(hog _ w hI.j hro).out a (wpAny P .any l.toArray (eV N D Q) fuel (L.setIfInBounds i true)) (eV N D Q) (fun _=>rfl) (fun v w2 hv=>by
      refine ih _ _ _ ?_ ?_
      ·refine ⟨?_, ?_,hJ _ _ hI.j hv.1,by simpa using hI.ls, ?_, ?_, ?_, ?_⟩
       ·cases o.dst<;>exact hI.nd
       ·cases hod:o.dst with
        |none=>exact hI.sz
        |some d=>simpa [Act.put] using hI.sz
       ·intro k ok hk hkl e he hb;rw [cx hiL] at hkl ⊢;by_cases hki:k=i
        ·subst hki;simp [hed' ok hk e he hb]
        ·simp only [hki,decide_false,ace] at hkl;simp [hI.cl k ok hk hkl e he hb]
       ·intro k hk;rw [cx hiL,hI.tl k hk];have:¬k=i:=abq;simp [this]
       ·intro j d hj hjl hjd;rw [cx hiL] at hjl;have hd1:∀d',o.dst=some d'→d'<a.tmps.size:=fun d' hd'=>by
         rw [hI.sz];exact hdN (i,d') (hpre i d' him (by rw [ho];exact hd'))
        by_cases hji:j=i
        ·subst hji;rw [ho] at hjd;simp only [adP] at hjd;rw [hjd,dP (hd1 d hjd),abx rfl];exact hv.2
        ·simp only [hji,decide_false,ace] at hjl;have hold:=hI.vs j d hj hjl hjd;have hdj:(j,d)∈ds:=hpre j d hj hjd;have hst:=(hdo j (l.toArray[j]?.getD default) (by
          have:j<l.length:=abq;rw [ado,abx hj];simp [this])).choose_spec.2.1
         rw [ab2] at hst;have hne:∀d',o.dst=some d'→d≠d':=fun d' hd' e=>by
          subst e;exact hji (hone j i d hj him hjd (by rw [ho];exact hd'))
         cases hod:o.dst with
         |none=>exact hst _ _ _ hold hv.1
         |some d'=>
          rw [dP (hd1 d' hod),abw (hne d' hod)];exact hst _ _ _ hold hv.1
       ·intro s' hs';have hni:((l.toArray[i]?).bind (·.dst))≠some s':=hs' i him (by rw [cx hiL];simp);have hold:=hI.tQ s' fun j hj hjl=>hs' j hj (by rw [cx hiL];simp [hjl]);rw [ho] at hni;simp only [adP] at hni
        cases hod:o.dst with
        |none=>exact hold
        |some d'=>
         rw [dP (by rw [hI.sz];exact hdN (i,d') (hpre i d' him (by rw [ho];exact hod))),abw (fun e=>hni (by rw [hod,e]))];exact hold
      ·have hLi:L.toList[i]?=some false:=by
        have h3:i<L.toList.length:=by simpa using hiL
        rw [ac1 h3];have:L.getD i false=L.toList[i]:=by simp [hiL]
        rw [←this,hun']
       rw [ae9,List.countP_set (by simpa using hiL)];have h4:L.toList[i]'(by simpa using hiL)=false:=(abM.1 hLi).2;rw [h4];simp only [aey,if_false,if_true];omega)
     unfold wpOp;rw [ho];exact hgo
 have hJ0:J ({ w with drawn:=w.drawn+1 }:World):=hJ w _ h0 ⟨rfl,rfl,rfl,abD _,fun _ _=>rfl⟩;have hr0:∀i,(Array.replicate l.toArray.size false).getD i false=false:=fun i=>by
  exact NX
 refine key _ _ _ _ ⟨hf.nd,hf.sz,hJ0,by simp,fun k o _ hk=> ?_,fun k _=>hr0 k,fun i d _ hi=> ?_,fun s _=>hf.at_ s⟩ ?_
 ·rw [hr0] at hk;cases hk
 ·rw [hr0] at hi;cases hi
 ·simp [ae8]
def Is (c:Value):Value→World→Prop:=fun v _=>v=c
theorem Is.ext {c:Value} (v:Value) (w w':World) (h:Is c v w) (_:Below w.heap.size w w'):Is c v w':=h
structure JJ (w0:World) (H:List HE) (w W:World):Prop where
 hp:Hp w0 H W
 bl:Below w.heap.size w W
theorem JJ.ext {H:List HE}{W':World} (h:JJ w0 H w W) (hb:Below W.heap.size W W'):JJ w0 H w W':=⟨h.hp.ext hb,h.bl.trans (hb.mono h.bl.size)⟩
theorem JJ.start {H:List HE} (h:Hp w0 H w):JJ w0 H w w:=⟨h,Below.refl _ _⟩
def XL (n k:Nat) (cs:List Value):Value→World→Prop:=fun v W=>∃b,v=.slice (some ⟨b,0,none⟩) n n∧Sl W (some ⟨b,0,none⟩) n k cs
def cd (w:World) (t:TypeId) (cs:List Value):Value→World→Prop:=fun v W=>∃b,v=.pointer (some ⟨b,0,none⟩)∧w.heap.size≤b∧W.heap[b]?=some (.cells cs.toArray t (0,0))
theorem cd.ext {t:TypeId} (v:Value) (w1 w2:World) (h:cd w t cs v w1) (hb:Below w1.heap.size w1 w2):cd w t cs v w2:=by
 obtain ⟨b,h1,h2,h3⟩:=h;have hlt:b<w1.heap.size:=by
  rcases acj b w1.heap.size with hlt|hge
  ·exact hlt
  ·rw [aeR hge] at h3;cases h3
 exact ⟨b,h1,h2,(hb.block b hlt).trans h3⟩
theorem mj {d:Option Nat}{ty:TypeId}{af:Array Edge}{t e:TypeId}{len sz:Nat} (ht:P.underlying t=some (.slice e)) (hte:dy P e=some (sz,ag,by',zc))
  (hp:Cm ρ parts.toList=ps) (hzl:zc.length=sz) (hf:lR (fun i=>some (i*sz,sz)) (hZ len zc) ps=some cs) (h0:¬len*sz=0) (hsl:len*sz≤16777216) (hl:cs.length=len*sz)
  (hk:∀v w2,XL len sz cs v w2→Below w.heap.size w w2→K v w2):OG P ops ⟨d,.buildSlice t len parts,ty,pos,af,none⟩ ρ w K:=by
 obtain ⟨z,hz,hzc⟩:=eh (w:=w) hte;have hbl:Below w.heap.size w (w.alloc (.cells cs.toArray e)):=(Below.refl _ _).alloc (abD _) _;refine cY rfl (w':=w.alloc (.cells cs.toArray e)) (v:=.slice (some ⟨w.heap.size,0,none⟩) len len) ?_ (hk _ _ ⟨w.heap.size,rfl,hl,fun _=>⟨_,rfl,fun j u hu=> ?_⟩⟩ hbl)
 ·exact Vt
 ·rw [eN,ab2,cell_of_row _ w.heap.size j cs.toArray e (0,0) (heap_alloc_new w _)];simpa using hu
theorem iP {d:Option Nat}{ty:TypeId}{af:Array Edge}{t:TypeId}{wr:World} (ht:dy P t=some (n,ag,by',zc)) (hb:Below wr.heap.size wr w)
  (hk:∀v w2,cd wr t zc v w2→Below w.heap.size w w2→K v w2):OG P ops ⟨d,.alloc t,ty,pos,af,none⟩ ρ w K:=by
 obtain ⟨z,hz,hzc⟩:=eh (w:=w) ht;exact cY rfl (w':=w.alloc (.cells zc.toArray t)) (v:=.pointer (some ⟨w.heap.size,0,none⟩)) (by simp [execOp,Instr.alloc,newVar,newRow,hz,hzc]) (hk _ _ ⟨w.heap.size,rfl,hb.size,heap_alloc_new w _⟩ ((Below.refl _ _).alloc (abD _) _))
theorem JJ.newVar {H:List HE}{t:TypeId} (h:JJ w0 H w W) (hs:Hp w0 H w) (h2:w.heap.size≤b) (h3:W.heap[b]?=some (.cells cs.toArray t (0,0))):Hp w0 (.blk b t cs (0,0)::H) W:=by
 refine ⟨h.hp.below, ?_, ?_⟩
 ·intro y hy
  rcases abO.1 hy with rfl|hy
  ·exact ⟨abW hs.size h2,h3,.inr (abD _)⟩
  ·exact h.hp.own y hy
 ·rw [adL];show (b::H.filterMap HE.id).Nodup;refine adI.2 ⟨fun hm=> ?_,h.hp.nd⟩;exact Vj
end
section
abbrev VP:=Value→World→Prop
def ez (pv:Nat→VP) (i:Nat) (V:VP):Nat→VP:=fun j=>cond (Nat.beq j i) V (pv j)
def Wu:Nat→VP:=fun _ _ _=>True
def DX (P:Program) (ops:Array Oper) (J:World→Prop) (ρ:Rf) (T:(Nat→VP)→Prop):Nat→(Nat→VP)→List Oper→List (List (Nat×Option Nat))→Prop
 |i,pv,o::os,s::ss=>∃V:VP,(∀v w w',V v w→Below w.heap.size w w'→V v w')∧(∀ρ1 w1,J w1→cN pv ρ ρ1 w1 s→OG P ops o ρ1 w1 fun v w2=>Below w1.heap.size w1 w2∧V v w2)∧DX P ops J ρ T (i+1) (ez pv i V) os ss
 |_,pv,[],[]=>T pv
 |_,_,_,_=>False
theorem AX (pv:Nat→VP) (i:Nat) (V:VP):ez pv i V i=V:=by simp [ez]
theorem lT (pv:Nat→VP) {i:Nat} (V:VP) (h:j≠i):ez pv i V j=pv j:=by
 have:Nat.beq j i=false:=by rw [aeP];intro h2;exact h (Nat.eq_of_beq_eq_true h2)
 simp only [ez,this,cond_false]
theorem kW {V V':Nat→VP}{ρ ρ1:Rf}{w1:World} (h:∀j v w,V j v w→V' j v w):∀s,cN V ρ ρ1 w1 s→cN V' ρ ρ1 w1 s
 |[],_=>trivial
 |(_,some _)::r,hh=>⟨h _ _ _ hh.1,kW h r hh.2⟩
 |(_,none)::r,hh=>⟨hh.1,kW h r hh.2⟩
theorem E9 {P:Program}{ops:Array Oper}{J:World→Prop}{ρ:Rf}{T:(Nat→VP)→Prop}:∀(os:List Oper) (ss:List (List (Nat×Option Nat))) (i:Nat) (pv:Nat→VP),(∀j,i≤j→∀v w,pv j v w)→DX P ops J ρ T i pv os ss→
  ∃V,(∀j,j<i→V j=pv j)∧DO P ops J V ρ i os ss∧T V
 |[],[],_,pv,_,h=>⟨pv,fun _ _=>rfl,trivial,h⟩
 |[],_::_,_,_,_,h=>h.elim
 |_::_,[],_,_,_,h=>h.elim
 |o::os,s::ss,i,pv,hpv,⟨V,h1,h2,h3⟩=>by
  obtain ⟨V',h4,h5,h6⟩:=E9 os ss (i+1) (ez pv i V) (fun j hj v w=>by rw [lT _ _ abq];exact hpv j abq v w) h3;have e:V' i=V:=by rw [h4 i abq,AX]
  refine ⟨V',fun j hj=>by rw [h4 j abq,lT _ _ abq],⟨⟨?_, ?_⟩,h5⟩,h6⟩
  ·rw [e];exact h1
  ·intro ρ1 w1 hj hr;rw [e];refine h2 ρ1 w1 hj (kW (fun j v w hh=> ?_) s hr)
   rcases acj j i with hlt|hge
   ·rw [h4 j abq,lT _ _ abq] at hh;exact hh
   ·exact hpv j hge v w
theorem aC {Q:Kq}{id:Nat}{l:List Oper} (m:Nat) (src:List (List (Nat×Option Nat))) (ds:List (Nat×Nat)) {H:List HE} (hh:Hp w0 H w) (hm:P.follows .mixedOrders=true) (hok:Fu l m N src ds=true)
  (h:DX P l.toArray (JJ w0 H w) ρ (fun V=>∀f w',JJ w0 H w w'→uV V f w' ds→WL ⟨none,D,false⟩ P N l.toArray Q (l.drop m) (gD ρ f ds) w') 0 Wu (l.take m) src):WC ⟨none,D,false⟩ P N (.region id l.toArray true) Q ρ w:=by
 obtain ⟨V,_,h1,h2⟩:=E9 _ _ _ _ (fun _ _ _ _=>trivial) h;exact QC m src ds (JJ w0 H w) V hm hok (fun _ _ h hb=>h.ext hb) (JJ.start hh) h1 h2
variable {P:Program}{ops:Array Oper}{J:World→Prop}{ρ:Rf}{T:(Nat→VP)→Prop}{i:Nat}{pv:Nat→VP}{os:List Oper}{s:List (Nat×Option Nat)}{ss:List (List (Nat×Option Nat))}{d:Option Nat}{op:Op}{ty:TypeId}{pos:String}{af:Array Edge}
theorem av (h:T pv):DX P ops J ρ T i pv [] []:=h
theorem aW {o:Oper} (V:VP) (h1:∀v w w',V v w→Below w.heap.size w w'→V v w') (h2:∀ρ1 w1,J w1→cN (pv) ρ ρ1 w1 s→OG P ops o ρ1 w1 fun v w2=>Below w1.heap.size w1 w2∧V v w2)
  (k:DX P ops J ρ T (i+1) (ez pv i (V)) os ss):DX P ops J ρ T i pv (o::os) (s::ss):=⟨V,h1,h2,k⟩
theorem a8 {v:Value} (hr:∀ρ1 w1,J w1→cN (pv) ρ ρ1 w1 s→(execOp (ev ρ1) ⟨d,op,ty,pos,af,none⟩).run P w1=.ok (.value v) w1)
  (k:DX P ops J ρ T (i+1) (ez pv i (Is v)) os ss):DX P ops J ρ T i pv (⟨d,op,ty,pos,af,none⟩::os) (s::ss):=
 aW (Is v) Is.ext (fun ρ1 w1 hj h=>cY rfl (hr ρ1 w1 hj h) ⟨Below.refl _ _,rfl⟩) k
theorem RR {v:Value}{f:FuncId}{args:Array Value} (hr:∀ρ1 w1,J w1→cN (pv) ρ ρ1 w1 s→(execOp (ev ρ1) ⟨d,op,ty,pos,af,none⟩).run P w1=.ok (.enter f args) w1)
  (hc:∀w1,J w1→Calls P f args w1 fun e w'=>e=.returned v∧Below w1.heap.size w1 w')
  (k:DX P ops J ρ T (i+1) (ez pv i (Is v)) os ss):DX P ops J ρ T i pv (⟨d,op,ty,pos,af,none⟩::os) (s::ss):=
 aW (Is v) Is.ext (fun ρ1 w1 hj h=>bp rfl (hr ρ1 w1 hj h) (hc w1 hj) fun _ _ hq=>⟨v,hq.1,hq.2,rfl⟩) k
def Rows (n k:Nat) (cs:List Value):VP:=fun v W=>∃A c,v=.slice A n c∧Sl W A n k cs
theorem Rows.ext (v:Value) (w w':World) (h:Rows n k cs v w) (hb:Below w.heap.size w w'):Rows n k cs v w':=let ⟨A,c,h1,h2⟩:=h;⟨A,c,h1,h2.ext hb⟩
theorem yI {t e:TypeId}{len sz:Nat} (ht:P.underlying t=some (.slice e)) (hte:dy P e=some (sz,ag,by',zc))
  (hp:∀ρ1 w1,J w1→cN (pv) ρ ρ1 w1 s→Cm ρ1 parts.toList=ps) (hzl:zc.length=sz) (hf:lR (fun i=>some (i*sz,sz)) (hZ len zc) ps=some cs) (h0:¬len*sz=0) (hsl:len*sz≤16777216) (hl:cs.length=len*sz)
  (k:DX P ops J ρ T (i+1) (ez pv i (Rows len sz cs)) os ss):DX P ops J ρ T i pv (⟨d,.buildSlice t len parts,ty,pos,af,none⟩::os) (s::ss):=
 aW (Rows len sz cs) Rows.ext (fun ρ1 w1 hj h=>mj ht hte (hp ρ1 w1 hj h) hzl hf h0 hsl hl fun _ _ ⟨_,hv,hs⟩ hb=>⟨hb,_,_,hv,hs⟩) k
theorem Bf {b:Bool}{v:Value} (hj:(ops[j]?).bind (·.dst)=some dj) (hv:∀ρ1 w1,J w1→cN (pv) ρ ρ1 w1 s→ρ1 dj=.bool b)
  (hr:∀ρ1 w1,J w1→cN (pv) ρ ρ1 w1 s→(execOp (ev ρ1) ⟨d,op,ty,pos,af,none⟩).run P w1=.ok (.value v) w1)
  (k:DX P ops J ρ T (i+1) (ez pv i (Is v)) os ss):DX P ops J ρ T i pv (⟨d,op,ty,pos,af,some (j,b)⟩::os) (s::ss):=
 aW (Is v) Is.ext (fun ρ1 w1 hj' h=>dW hj (hv ρ1 w1 hj' h) (cY rfl (hr ρ1 w1 hj' h) ⟨Below.refl _ _,rfl⟩)) k
theorem di {b:Bool}{v:Value}{f:FuncId}{args:Array Value} (hj:(ops[j]?).bind (·.dst)=some dj) (hv:∀ρ1 w1,J w1→cN (pv) ρ ρ1 w1 s→ρ1 dj=.bool b)
  (hr:∀ρ1 w1,J w1→cN (pv) ρ ρ1 w1 s→(execOp (ev ρ1) ⟨d,op,ty,pos,af,none⟩).run P w1=.ok (.enter f args) w1)
  (hc:∀w1,J w1→Calls P f args w1 fun e w'=>e=.returned v∧Below w1.heap.size w1 w')
  (k:DX P ops J ρ T (i+1) (ez pv i (Is v)) os ss):DX P ops J ρ T i pv (⟨d,op,ty,pos,af,some (j,b)⟩::os) (s::ss):=
 aW (Is v) Is.ext (fun ρ1 w1 hj' h=>dW hj (hv ρ1 w1 hj' h) (bp rfl (hr ρ1 w1 hj' h) (hc w1 hj') fun _ _ hq=>⟨v,hq.1,hq.2,rfl⟩)) k
theorem pO {b c:Bool} (hj:(ops[j]?).bind (·.dst)=some dj) (hv:∀ρ1 w1,J w1→cN (pv) ρ ρ1 w1 s→ρ1 dj=.bool c) (hb:c≠b)
  (k:DX P ops J ρ T (i+1) (ez pv i (Is undef)) os ss):DX P ops J ρ T i pv (⟨d,op,ty,pos,af,some (j,b)⟩::os) (s::ss):=
 aW (Is undef) Is.ext (fun ρ1 w1 hj' h=>yN hj (hv ρ1 w1 hj' h) hb ⟨Below.refl _ _,rfl⟩) k
end
end
def ar {α:Type} (f:α→List Value) (l:List α):List Value:=l.flatMap f
section
variable {α:Type}{f:α→List Value}{sz:Nat}
theorem eH (hf:∀x,(f x).length=sz) (l:List α):(ar f l).length=l.length*sz:=by
 induction l with
 |nil=>simp [ar]
 |cons x l ih=>
  have:ar f (x::l)=f x++ar f l:=by simp [ar]
  rw [this,abJ,hf,ih,ab0,acD];omega
theorem jo (x:α) (l:List α):ar f (x::l)=f x++ar f l:=by simp [ar]
theorem bo (l m:List α):ar f (l++m)=ar f l++ar f m:=by simp [ar]
theorem mD (x:α):ar f [x]=f x:=by simp [ar]
theorem jj (hf:∀x,(f x).length=sz) (l:List α) (k:Nat):(ar f l).drop (k*sz)=ar f (l.drop k):=by
 induction l generalizing k with
 |nil=>simp [ar]
 |cons x l ih=>
  cases k with
  |zero=>simp
  |succ k=>rw [jo,acD,adD,←hf x,List.drop_append,List.drop_succ_cons,←ih k,hf x];simp [hf x]
theorem j6 (hf:∀x,(f x).length=sz) (l:List α) (k:Nat):(ar f l).take (k*sz)=ar f (l.take k):=by
 induction l generalizing k with
 |nil=>simp [ar]
 |cons x l ih=>
  cases k with
  |zero=>simp [ar]
  |succ k=>rw [jo,acD,adD,aee,jo,←ih k,←hf x,List.take_append];simp;exact abG (Nat.le_add_right _ _)
theorem xF (hf:∀x,(f x).length=sz) {l:List α}{x:α} (h:l[k]?=some x):((ar f l).drop (k*sz)).take sz=f x:=by
 obtain ⟨h1,h2⟩:=abM.1 h;rw [jj hf,ady h1,h2,jo,List.take_append_of_le_length (by rw [hf];omega),abG (by rw [hf];omega)]
theorem Rd.recAt {l:List α} (h:Rd w ad (ar f l)) (hf:∀x,(f x).length=sz) {x:α} (hx:l[k]?=some x):Rd w (ad.add (k*sz)) (f x):=by
 have:=h.elem k sz;rwa [xF hf hx] at this
theorem Sl.aX {A:Option Addr}{l:List α} (h:Sl w A n sz (ar f l)) (hf:∀x,(f x).length=sz) (h0:0<sz):l.length=n:=by
 have:=h.1;rw [eH hf] at this;exact Nat.eq_of_mul_eq_mul_right h0 this
theorem ew (hf:∀x,(f x).length=sz) {l:List α}{y:α} (h:k<l.length):bK (ar f l) (k*sz) (f y)=ar f (l.set k y):=by
 unfold bK;rw [j6 hf,hf,←acD,jj hf,aeY,abx h,bo,jo,acb]
theorem bj (h:∀x,(f x).all Value.oneCell'=true) (l:List α):((ar f l).all Value.oneCell')=true:=by
 rw [ab6];intro v hv;obtain ⟨x,_,hx⟩:=ade.1 hv;exact ab6.1 (h x) v hx
end
theorem gk {l:List α}{x:α} (h:l[k]?=some x):l.drop k=x::l.drop (k+1):=by
 obtain ⟨h1,rfl⟩:=abM.1 h;exact ady h1
theorem j8 {p:α→Bool}{l:List α} (h:l.any p=false):l.find? p=none:=by
 rw [List.find?_eq_none];intro x hx;have:=ac9.1 h x hx;simpa using this
theorem sX {p:α→Bool}{l:List α}{i:Nat}{x:α} (h:(l.take i).any p=false) (hx:l[i]?=some x) (hp:p x=true):l.find? p=some x:=by
 have:l=l.take i++x::l.drop (i+1):=by rw [←gk hx,acH]
 rw [this,List.find?_append,j8 h,List.find?_cons_of_pos hp]
 rfl
section
variable {D:List Deferred}
section
variable {P:Program}{N:Nat}{Q:Kq}{ρ:Rf}{w:World}
def qo (acc:List Nat):List Edge→Nat
 |[]=>0
 |e::r=>bif Region.binds .any e then 1<<<e.on|||acc.getD e.on 0|||qo acc r else qo acc r
def wR:List Oper→List Nat→List Nat
 |[],acc=>acc
 |o::r,acc=>wR r (acc++[qo acc o.after.toList])
theorem qQ {acc:List Nat}{i:Nat}:∀{es:List Edge},(qo acc es).testBit i=true→∃e∈es,Region.binds .any e=true∧(e.on=i∨(acc.getD e.on 0).testBit i=true)
 |[],h=>by simp [qo] at h
 |e::r,h=>by
  unfold qo at h
  cases hb:Region.binds .any e with
  |false=>
   rw [hb,cond_false] at h;obtain ⟨e',h1,h2⟩:=qQ h;exact ⟨e',abN _ h1,h2⟩
  |true=>
   rw [hb,cond_true,Nat.testBit_or,Nat.testBit_or,aea,aea] at h
   rcases h with (h|h)|h
   ·refine ⟨e,abF,hb,.inl ?_⟩;rw [Nat.one_shiftLeft,Nat.testBit_two_pow] at h;simpa using h
   ·exact ⟨e,abF,hb,.inr h⟩
   ·obtain ⟨e',h1,h2⟩:=qQ h;exact ⟨e',abN _ h1,h2⟩
theorem CW:∀(l:List Oper) (acc:List Nat),∃t,wR l acc=acc++t
 |[],acc=>⟨[],by simp [wR]⟩
 |o::r,acc=>by
  obtain ⟨t,h⟩:=CW r (acc++[qo acc o.after.toList]);exact ⟨_,by rw [wR,h,acb]⟩
theorem Jf:∀(l:List Oper) (acc:List Nat) (k i:Nat),acc.length≤k→((wR l acc).getD k 0).testBit i=true→∃o,l[k-acc.length]?=some o∧∃e∈o.after,Region.binds .any e=true∧(e.on=i∨e.on<k∧((wR l acc).getD e.on 0).testBit i=true)
 |[],acc,k,i,hk,h=>by
  rw [wR,adm,abT hk] at h;simp at h
 |o::r,acc,k,i,hk,h=>by
  rcases acj acc.length k with hlt|hge
  ·have hl:(acc++[qo acc o.after.toList]).length=acc.length+1:=by simp
   obtain ⟨o',h1,h2⟩:=Jf r (acc++[qo acc o.after.toList]) k i abq h;refine ⟨o', ?_,h2⟩;rw [hl] at h1;rw [show k-acc.length=(k-(acc.length+1))+1 by omega,aen];exact h1
  ·obtain rfl:k=acc.length:=abq;obtain ⟨t,ht⟩:=CW r (acc++[qo acc o.after.toList]);refine ⟨o,by rw [acs];rfl, ?_⟩;rw [wR,ht] at h ⊢;rw [adm,acb,acP (abD _),acs] at h;simp only [abE,aem,acW,abC] at h;obtain ⟨e,h1,h2,h3⟩:=qQ h;refine ⟨e,by simpa using h1,h2, ?_⟩
   rcases h3 with h3|h3
   ·exact .inl h3
   ·have h4:e.on<acc.length:=by
     rcases acj e.on acc.length with h5|h5
     ·exact h5
     ·rw [adm,abT h5] at h3;simp at h3
    refine .inr ⟨h4, ?_⟩;rw [adm,acb,adE h4,←adm];exact h3
theorem iK {l:List Oper}{M:List Nat}{L:Array Bool} (hM:wR l []=M) (hc:tL l.toArray L):∀(k i:Nat),(∀o,l.toArray[k]?=some o→∀e∈o.after,Region.binds .any e=true→L.getD e.on false=true)→(M.getD k 0).testBit i=true→L.getD i false=true:=by
 intro k
 induction k using Nat.strongRecOn with
 |_ k ih=>
  intro i hk h;rw [←hM] at h;obtain ⟨o,ho,e,he,hb,h3⟩:=Jf l [] k i (abB _) h;have ho':l.toArray[k]?=some o:=by rw [adG];exact ho
  have h1:=hk o ho' e he hb
  rcases h3 with h3|⟨h3,h4⟩
  ·rw [←h3];exact h1
  ·rw [hM] at h4;exact ih e.on h3 i (fun o' ho2=>hc e.on o' ho2 h1) h4
def Yz (n m:Nat) (fl:List Nat):Array Bool:=((List.range n).map fun i=>decide (i<m∧i∉fl)).toArray
theorem Pj {i:Nat}{fl:List Nat} (hi:i<n):(Yz n m fl).getD i true=decide (i<m∧i∉fl):=by
 unfold Yz;rw [acC,adG,abI,acy hi]
 rfl
def NP (Q:Kq):Prop:=∀c ρ w,¬Q (.panic c) ρ w
theorem bV {fn:Func}:NP (oC P fn R):=fun _ _ _ h=>h.1.elim nofun nofun
theorem bD (h:NP Q):NP (dV next Q):=fun c ρ w hq=>h c ρ w hq
theorem bU {id:Nat} (h:NP Q):NP (qV id Q):=fun c ρ w hq=>h c ρ w hq
def x9:Op→Bool
 |.extract _ _=>true
 |.move _=>true
 |_=>false
def VJ (l:List Oper) (m:Nat) (fl:List Nat) (i:Nat):Bool:=
 Region.free .any l.toArray (Yz l.length m fl) i && match l[i]? with
  |some ⟨some _,op,_,_,af,none⟩=>x9 op && af.all fun e=> !Region.binds .any e||(decide (e.on<m) && !fl.contains e.on)
  |_=>false
theorem LA {l:List Oper}{fl:List Nat}{i:Nat} (h:VJ l m fl i=true):Region.free .any l.toArray (Yz l.length m fl) i=true∧(∀o,l[i]?=some o→∀e∈o.after,Region.binds .any e=true→e.on<m∧e.on∉fl)∧
  ∃d op ty pos af,l[i]?=some ⟨some d,op,ty,pos,af,none⟩∧x9 op=true:=by
 unfold VJ at h;rw [abS] at h;obtain ⟨h1,h2⟩:=h;split at h2
 ·rename_i d op ty pos af ho;rw [abS] at h2;obtain ⟨hpu,h2⟩:=h2;refine ⟨h1,fun o ho' e he hb=> ?_,d,op,ty,pos,af,ho,hpu⟩;rw [ho] at ho';injection ho' with ho'
  subst ho';have:=aeO.1 h2 e he;simp only [hb,aeo,ace,abS,ab1,aep,List.contains_eq_mem,aeT] at this;exact this
 ·cases h2
def l5 (l:List Oper) (m N:Nat) (src:List (List (Nat×Option Nat))) (ds:List (Nat×Nat)) (fl M:List Nat):Bool:=
 let ops:=l.toArray
 let pre:=(List.range m).map fun i=>((ops[i]?).bind (·.dst))
 (m≤l.length) && (src.length==m) &&
 (ds==(pre.zipIdx.filterMap fun (d,i)=>d.map fun d=>(i,d)).reverse) && (decide (ds.map (·.2)).Nodup) && (ds.all fun p=>p.2<N) &&
 ((List.range m).all fun i=>match ops[i]?,src[i]? with
  |some o,some s=>((o.looksAt ops).all fun t=>s.any fun p=>p.1==t) &&
    s.all fun p=>match p.2 with
     |some j=>(j<m) && ((ops[j]?).bind (·.dst)==some p.1) && (M.getD i 0).testBit j
     |none=>(List.range m).all fun j=> !((ops[j]?).bind (·.dst)==some p.1)||(j !=i && (M.getD j 0).testBit i)
  |_,_=>false) &&
 (l.length==m||((List.range m).all fun i=>fl.contains i||(M.getD m 0).testBit i)) &&
 ((List.range (l.length-m)).all fun k=>Region.ready .any ops (iY l.length (m+k))==[m+k]) && (Region.ready .any ops (iY l.length l.length)==[]) &&
 ((List.range (l.length-m)).all fun k=>k==0||(M.getD (m+k) 0).testBit m) &&
 ((List.range l.length).all fun i=>match ops[i]? with|some o=>o.after.all fun e=> !Region.binds .any e||e.on<i|none=>false) &&
 Region.noSelect ops && (fl.all fun i=>VJ l m fl i) && (wR l []==M)
def xW (P:Program) (l:List Oper):List Nat→Prop
 |[]=>True
 |i::r=>(∃d t ty pos af n ag by' zc,l[i]?=some ⟨some d,.alloc t,ty,pos,af,none⟩∧dy P t=some (n,ag,by',zc))∧xW P l r
theorem xW.at {l:List Oper}:∀{fr:List Nat},xW P l fr→∀i∈fr,∃d t ty pos af n ag by' zc,l[i]?=some ⟨some d,.alloc t,ty,pos,af,none⟩∧dy P t=some (n,ag,by',zc)
 |[],_,_,hi=>by simp at hi
 |j::r,h,i,hi=>by
  rcases abO.1 hi with rfl|hi
  ·exact h.1
  ·exact xW.at h.2 i hi
theorem dx {l:List Oper}:xW P l []:=trivial
theorem jQ {l:List Oper}{i d t ty:Nat}{af:Array Edge}{r:List Nat} (h:l[i]?=some ⟨some d,.alloc t,ty,pos,af,none⟩) (ht:dy P t=some (n,ag,by',zc)) (hr:xW P l r):xW P l (i::r):=⟨⟨d,t,ty,pos,af,n,ag,by',zc,h,ht⟩,hr⟩
theorem P6 {d:Nat}{t ty:Nat}{af:Array Edge} (ht:dy P t=some (n,ag,by',zc)) (h:OG P ops ⟨some d,.alloc t,ty,pos,af,none⟩ ρ w K)
  (a:Act) (hd:d<a.tmps.size) (next:Act→World→Prop) (Q:Exit→Act→World→Prop) (ha:∀i,a.tmps.getD i undef=ρ i) (hn:∀v w',K v w'→(∃b,v=.pointer (some ⟨b,0,none⟩)∧w.heap.size≤b∧b<w'.heap.size)→next (a.put (some d) v) w'):
  if Region.wanted ⟨some d,.alloc t,ty,pos,af,none⟩ (yielded ops a.tmps) then (Oper.wp P ⟨some d,.alloc t,ty,pos,af,none⟩ a w next Q)∨((Oper.asks P ⟨some d,.alloc t,ty,pos,af,none⟩ a w)∧LetsOut Q) else next (a.put (some d) undef) w:=by
 have h1:=h.out a (fun a' w'=>∃v,a'=a.put (some d) v∧K v w') Q ha fun v w' hk=>⟨v,rfl,hk⟩;have hw:Region.wanted ⟨some d,.alloc t,ty,pos,af,none⟩ (yielded ops a.tmps)=true:=by simp [Region.wanted]
 rw [abx hw] at h1 ⊢;refine h1.imp (fun h2=> ?_) id;obtain ⟨z,hz,hzc⟩:=eh (w:=w) ht;have hr:(execOp a.eval ⟨some d,.alloc t,ty,pos,af,none⟩).run P w=.ok (.value (.pointer (some ⟨w.heap.size,0,none⟩))) (w.alloc (.cells zc.toArray t)):=by simp [execOp,Instr.alloc,newVar,newRow,hz,hzc]
 unfold Oper.wp at h2 ⊢;rw [hr] at h2 ⊢;obtain ⟨v,hv,hk⟩:∃v,a.put (some d) (.pointer (some ⟨w.heap.size,0,none⟩))=a.put (some d) v∧K v (w.alloc (.cells zc.toArray t)):=h2;have h3:=acm (fun a':Act=>a'.tmps.getD d undef) hv;simp only [dP hd,abx] at h3;subst h3;exact hn _ _ hk ⟨_,rfl,abD _,(afg.1 (heap_alloc_new w _)).1⟩
theorem DK {x:Operand}{ty d:Nat}{af:Array Edge} (f:Operand→Value) (w:World):(∃v,∀w',(execOp f ⟨some d,.extract x k,ty,pos,af,none⟩).run P w'=.ok (.value v) w')∨∀a K,Oper.upon P ⟨some d,.extract x k,ty,pos,af,none⟩ a K (fun _ _ _=>False) ((execOp f ⟨some d,.extract x k,ty,pos,af,none⟩).run P w)→False:=by
 cases hx:f x with
 |tuple xs=>
  cases hk:xs[k]? with
  |some v=>exact .inl ⟨v,fun w'=>by simp [execOp,hx,Instr.extract,hk]⟩
  |none=>exact .inr fun a K h=>by simp [execOp,hx,Instr.extract,hk,Oper.upon] at h
 |_=>exact .inr fun a K h=>by simp [execOp,hx,Instr.extract,Oper.upon] at h
theorem pure_run {op:Op} (hp:x9 op=true) {ty d:Nat}{af:Array Edge} (f:Operand→Value) (w:World):(∃v,∀w',(execOp f ⟨some d,op,ty,pos,af,none⟩).run P w'=.ok (.value v) w')∨∀a K,Oper.upon P ⟨some d,op,ty,pos,af,none⟩ a K (fun _ _ _=>False) ((execOp f ⟨some d,op,ty,pos,af,none⟩).run P w)→False:=by
 unfold x9 at hp;split at hp
 ·exact DK f w
 ·exact .inl ⟨_,fun w'=>by simp [execOp];rfl⟩
 ·cases hp
theorem C7 {d:Nat}{op:Op} (hp:x9 op=true) {ty:Nat}{af:Array Edge} (h:OG P ops ⟨some d,op,ty,pos,af,none⟩ ρ w K) (a:Act) (hd:d<a.tmps.size) (ha:∀i,a.tmps.getD i undef=ρ i):
  ∃v,(∀w',(execOp a.eval ⟨some d,op,ty,pos,af,none⟩).run P w'=.ok (.value v) w')∧K v w:=by
 have h1:=h.out a (fun a' w'=>∃v,a'=a.put (some d) v∧K v w') (fun _ _ _=>False) ha fun v w' hk=>⟨v,rfl,hk⟩;rw [abx (by simp [Region.wanted])] at h1
 rcases h1 with h1|⟨_,_,_,h1⟩
 ·unfold Oper.wp at h1
  rcases pure_run (P:=P) hp (d:=d) (ty:=ty) (pos:=pos) (af:=af) a.eval w with ⟨v,hv⟩|hn
  ·rw [hv w] at h1;obtain ⟨v',h2,hk⟩:∃v',a.put (some d) v=a.put (some d) v'∧K v' w:=h1;have h3:=acm (fun a':Act=>a'.tmps.getD d undef) h2;simp only [dP hd,abx] at h3;subst h3;exact ⟨v,hv,hk⟩
  ·exact (hn _ _ h1).elim
 ·exact h1.elim
structure YD (D:List Deferred) (fr:List Nat) (N:Nat) (ops:Array Oper) (m:Nat) (ρ:Rf) (J:World→Prop) (V:Nat→Value→World→Prop) (L:Array Bool) (a:Act) (w:World):Prop where
 nd:a.defers=D
 sz:a.tmps.size=N
 j:J w
 ls:L.size=ops.size
 cl:tL ops L
 tl:∀k,m≤k→L.getD k false=false
 vs:∀i d,i<m→L.getD i false=true→(ops[i]?).bind (·.dst)=some d→V i (a.tmps.getD d undef) w
 tQ:∀s,(∀i,i<m→L.getD i false=true→(ops[i]?).bind (·.dst)≠some s)→a.tmps.getD s undef=ρ s
 fb:∀i∈fr,L.getD i false=true→∀d,(ops[i]?).bind (·.dst)=some d→∃b,a.tmps.getD d undef=.pointer (some ⟨b,0,none⟩)∧b<w.heap.size
 fd:∀i∈fr,∀j∈fr,i≠j→L.getD i false=true→L.getD j false=true→∀d e,(ops[i]?).bind (·.dst)=some d→(ops[j]?).bind (·.dst)=some e→a.tmps.getD d undef≠a.tmps.getD e undef
theorem MC {id:Nat}{l:List Oper} (fr fl M:List Nat) (m:Nat) (src:List (List (Nat×Option Nat))) (ds:List (Nat×Nat)) (J:World→Prop) (V:Nat→Value→World→Prop) (hm:P.follows .mixedOrders=true) (hok:l5 l m N src ds fl M=true) (hfr:xW P l fr) (hfm:fr.all (fun i=>i<m)=true) (hQp:NP Q)
  (hJ:∀w w',J w→Below w.heap.size w w'→J w') (h0:J w) (hops:DO P l.toArray J V ρ 0 (l.take m) src)
  (tail:∀f w',J w'→uV V f w' ds→(∀i∈fr,∀j∈fr,i≠j→f i≠f j)→WL ⟨none,D,false⟩ P N l.toArray Q (l.drop m) (gD ρ f ds) w'):WC ⟨none,D,false⟩ P N (.region id l.toArray true) Q ρ w:=by
 refine WC.oV fun a hf=>wp_region_any hm ?_;simp only [l5,abS,ab1,ac3,ab6,ab3] at hok;obtain ⟨⟨⟨⟨⟨⟨⟨⟨⟨⟨⟨⟨⟨hml,_⟩,hds⟩,hnd⟩,hdN⟩,hrd⟩,htail⟩,hready⟩,hend⟩,hdep⟩,hedge⟩,hns⟩,hflo⟩,hM⟩:=hok;have hfl:=fun i hi=>LA (hflo i hi);have hdo:=(zU _ _ _ hops).2;have hpre:∀i d,i<m→((l.toArray[i]?).bind (·.dst))=some d→(i,d)∈ds:=fun i d hi hd=>by
  exact So
 have hdsm:∀i d,(i,d)∈ds→i<m∧((l.toArray[i]?).bind (·.dst))=some d:=fun i d hp=>by
  exact RU
 have hone:∀i j d,i<m→j<m→((l.toArray[i]?).bind (·.dst))=some d→((l.toArray[j]?).bind (·.dst))=some d→i=j:=fun i j d hi hj h1 h2=>by
  exact RQ
 have hnn:l.toArray.size=l.length:=by simp
 have hfm':∀i∈fr,i<m:=fun i hi=>by simpa using ab6.1 hfm i hi
 have full:∀(L:Array Bool) (a:Act) (w:World) (fuel:Nat),YD D fr N l.toArray m ρ J V L a w→(∀i,i<m→L.getD i false=true)→l.length≤fuel+m→wpAny P .any l.toArray (eV N D Q) fuel L a w:=by
  intro L a w fuel hI hall hfu;have hL:L=iY l.length m:=sj (by rw [hI.ls,hnn]) hml hall hI.tl;rw [hL];refine oQ m (fun k h1 h2=> ?_) hend fuel m a w (abD _) hml hfu ?_
  ·exact VG
  ·have hfits:eY N D a (gD ρ (fun i=>match (l.toArray[i]?).bind (·.dst) with|some d=>a.tmps.getD d undef|none=>undef) ds):=by
    exact VE
   refine (tail _ w hI.j (rn ds fun p hp=> ?_) fun i hi j hj hij=> ?_).out a hfits
   rotate_left
   ·obtain ⟨d,t,ty,pos,af,n,ag,by',zc,hi1,_⟩:=hfr.at i hi;obtain ⟨e,t',ty',pos',af',n',ag',by'',zc',hj1,_⟩:=hfr.at j hj;have hi2:(l.toArray[i]?).bind (·.dst)=some d:=by rw [adG,hi1];rfl
    have hj2:(l.toArray[j]?).bind (·.dst)=some e:=by rw [adG,hj1];rfl
    rw [hi2,hj2];exact hI.fd i hi j hj hij (hall i (hfm' i hi)) (hall j (hfm' j hj)) d e hi2 hj2
   obtain ⟨h1,h2⟩:=hdsm p.1 p.2 hp;exact PF
 have key:∀(fuel:Nat) (L:Array Bool) (a:Act) (w:World),YD D fr N l.toArray m ρ J V L a w→fuel+L.toList.countP (fun b=>b)=l.length→wpAny P .any l.toArray (eV N D Q) fuel L a w:=by
  intro fuel
  induction fuel with
  |zero=>
   exact VB
  |succ fuel ih=>
   intro L a w hI hc;by_cases hall:∀i,i<m→L.getD i false=true
   ·exact UP
   ·have hsome:∃i,i<m∧L.getD i false=false:=by
     exact Vx
    have hready_spec:∀i,i∈Region.ready .any l.toArray L↔i<l.length∧L.getD i true=false∧∃o,l.toArray[i]?=some o∧∀e∈o.after,Region.binds .any e=true→L.getD e.on false=true:=fun i=>by
     exact YC
    have both:∀(i:Nat) (_:i<m) (o:Oper) (_:l.toArray[i]?=some o) (_:L.getD i false=false) (_:∀e∈o.after,Region.binds .any e=true→L.getD e.on false=true),
      OG P l.toArray o (fun t=>a.tmps.getD t undef) w (fun v w2=>Below w.heap.size w w2∧V i v w2)∧
      ∀v w2,(Below w.heap.size w w2∧V i v w2)→(i∈fr→∃b,v=.pointer (some ⟨b,0,none⟩)∧w.heap.size≤b∧b<w2.heap.size)→wpAny P .any l.toArray (eV N D Q) fuel (L.setIfInBounds i true) (a.put o.dst v) w2:=fun i him o ho hun' hed=>by
     have hiL:i<L.size:=by rw [hI.ls,hnn];omega
     have hed':∀o',l.toArray[i]?=some o'→∀e∈o'.after,Region.binds .any e=true→L.getD e.on false=true:=fun o' ho'=>by
      rw [ho] at ho';injection ho' with ho';subst ho';exact hed
     have hok':(l.take m)[i]?=some o:=by
      rw [ado,abx him];simpa using ho
     obtain ⟨s,hs,hstab,hog⟩:=hdo i o hok';rw [ab2] at hstab hog;have hrdi:=hrd i him;rw [ho,hs] at hrdi;simp only [abS,ab6] at hrdi;have hro:cN V ρ (fun t=>a.tmps.getD t undef) w s:=pq s fun p hp=>by
      have hp2:=hrdi.2 p hp
      cases hp3:p.2 with
      |some j=>
       rw [hp3] at hp2;simp only [abS,ab1,ac3] at hp2;exact hI.vs j p.1 hp2.1.1 (iK hM hI.cl i j hed' hp2.2) hp2.1.2
      |none=>
       rw [hp3] at hp2;refine hI.tQ p.1 fun j hj hjl hjd=> ?_;have h6:=ab6.1 hp2 j (by simpa using hj);rw [hjd] at h6;simp only [beq_self_eq_true,aeo,ace,abS] at h6;have:=iK hM hI.cl j i (fun o' ho' e he hb=>hI.cl j o' ho' hjl e he hb) h6.2;rw [hun'] at this
       cases this
     have hnext:∀v w2,(Below w.heap.size w w2∧V i v w2)→(i∈fr→∃b,v=.pointer (some ⟨b,0,none⟩)∧w.heap.size≤b∧b<w2.heap.size)→wpAny P .any l.toArray (eV N D Q) fuel (L.setIfInBounds i true) (a.put o.dst v) w2:=fun v w2 hv hfv=>by
      have hd1:∀d',o.dst=some d'→d'<a.tmps.size:=fun d' hd'=>by
       rw [hI.sz];exact hdN (i,d') (hpre i d' him (by rw [ho];exact hd'))
      have hput:∀j d,j<m→j≠i→(l.toArray[j]?).bind (·.dst)=some d→(a.put o.dst v).tmps.getD d undef=a.tmps.getD d undef:=fun j d hj hji hjd=>by
       cases hod:o.dst with
       |none=>rfl
       |some d'=>rw [dP (hd1 d' hod),abw fun e=>hji (hone j i d hj him hjd (by rw [ho,e];exact hod))]
      have hputi:∀d,(l.toArray[i]?).bind (·.dst)=some d→(a.put o.dst v).tmps.getD d undef=v:=fun d hd=>by
       rw [ho] at hd;simp only [adP] at hd;rw [hd,dP (hd1 d hd),abx rfl]
      have hfd:∀j∈fr,j≠i→L.getD j false=true→i∈fr→∀e,(l.toArray[j]?).bind (·.dst)=some e→a.tmps.getD e undef≠v:=fun j hj hji hjl hif e hje heq=>by
       obtain ⟨b,hb1,hb2⟩:=hI.fb j hj hjl e hje;obtain ⟨b',hv1,hb3,_⟩:=hfv hif;rw [hb1,hv1] at heq;injection heq with heq
       injection heq with heq
       injection heq with heq
       omega
      refine ih _ _ _ ?_ ?_
      ·refine ⟨?_, ?_,hJ _ _ hI.j hv.1,by simpa using hI.ls, ?_, ?_, ?_, ?_, ?_, ?_⟩
       ·cases o.dst<;>exact hI.nd
       ·cases hod:o.dst with
        |none=>exact hI.sz
        |some d=>simpa [Act.put] using hI.sz
       ·intro k ok hk hkl e he hb;rw [cx hiL] at hkl ⊢;by_cases hki:k=i
        ·subst hki;simp [hed' ok hk e he hb]
        ·simp only [hki,decide_false,ace] at hkl;simp [hI.cl k ok hk hkl e he hb]
       ·intro k hk;rw [cx hiL,hI.tl k hk];have:¬k=i:=abq;simp [this]
       ·intro j d hj hjl hjd;rw [cx hiL] at hjl;have hd1:∀d',o.dst=some d'→d'<a.tmps.size:=fun d' hd'=>by
         rw [hI.sz];exact hdN (i,d') (hpre i d' him (by rw [ho];exact hd'))
        by_cases hji:j=i
        ·subst hji;rw [ho] at hjd;simp only [adP] at hjd;rw [hjd,dP (hd1 d hjd),abx rfl];exact hv.2
        ·simp only [hji,decide_false,ace] at hjl;have hold:=hI.vs j d hj hjl hjd;have hdj:(j,d)∈ds:=hpre j d hj hjd;have hst:=(hdo j (l.toArray[j]?.getD default) (by
          have:j<l.length:=abq;rw [ado,abx hj];simp [this])).choose_spec.2.1
         rw [ab2] at hst;have hne:∀d',o.dst=some d'→d≠d':=fun d' hd' e=>by
          subst e;exact hji (hone j i d hj him hjd (by rw [ho];exact hd'))
         cases hod:o.dst with
         |none=>exact hst _ _ _ hold hv.1
         |some d'=>
          rw [dP (hd1 d' hod),abw (hne d' hod)];exact hst _ _ _ hold hv.1
       ·intro s' hs';have hni:((l.toArray[i]?).bind (·.dst))≠some s':=hs' i him (by rw [cx hiL];simp);have hold:=hI.tQ s' fun j hj hjl=>hs' j hj (by rw [cx hiL];simp [hjl]);rw [ho] at hni;simp only [adP] at hni
        cases hod:o.dst with
        |none=>exact hold
        |some d'=>
         rw [dP (by rw [hI.sz];exact hdN (i,d') (hpre i d' him (by rw [ho];exact hod))),abw (fun e=>hni (by rw [hod,e]))];exact hold
       ·intro j hj hjl d hjd;rw [cx hiL] at hjl;by_cases hji:j=i
        ·subst hji;obtain ⟨b,hb1,_,hb3⟩:=hfv hj;exact ⟨b,(hputi d hjd).trans hb1,hb3⟩
        ·simp only [hji,decide_false,ace] at hjl;obtain ⟨b,hb1,hb2⟩:=hI.fb j hj hjl d hjd;exact ⟨b,(hput j d (hfm' j hj) hji hjd).trans hb1,acu hb2 hv.1.size⟩
       ·intro j hj k hk hjk hjl hkl d e hjd hke;rw [cx hiL] at hjl hkl;by_cases hji:j=i
        ·subst hji;have hkj:k≠j:=fun e=>hjk e.symm;simp only [hkj,decide_false,ace] at hkl;rw [hputi d hjd,hput k e (hfm' k hk) hkj hke];exact fun he=>hfd k hk hkj hkl hj e hke he.symm
        ·simp only [hji,decide_false,ace] at hjl;by_cases hki:k=i
         ·subst hki;rw [hputi e hke,hput j d (hfm' j hj) hji hjd];exact hfd j hj hji hjl hk d hjd
         ·simp only [hki,decide_false,ace] at hkl;rw [hput j d (hfm' j hj) hji hjd,hput k e (hfm' k hk) hki hke];exact hI.fd j hj k hk hjk hjl hkl d e hjd hke
      ·have hLi:L.toList[i]?=some false:=by
        have h3:i<L.toList.length:=by simpa using hiL
        rw [ac1 h3];have:L.getD i false=L.toList[i]:=by simp [hiL]
        rw [←this,hun']
       rw [ae9,List.countP_set (by simpa using hiL)];have h4:L.toList[i]'(by simpa using hiL)=false:=(abM.1 hLi).2;rw [h4];simp only [aey,if_false,if_true];omega
     exact ⟨hog _ w hI.j hro,hnext⟩
    by_cases hnf:∀i,i<m→i∉fl→L.getD i false=true
    ·obtain ⟨i,him,hun'⟩:=hsome;have hif:i∈fl:=adN fun h=>by
      have h2:=hnf i him h;rw [hun'] at h2
      cases h2
     obtain ⟨hfree,hedf,d,op,ty,pos,af,hlo,hpu⟩:=hfl i hif;have ho:l.toArray[i]?=some ⟨some d,op,ty,pos,af,none⟩:=by rw [adG];exact hlo
     have hed:∀e∈af,Region.binds .any e=true→L.getD e.on false=true:=fun e he hb=>by
      obtain ⟨h1,h2⟩:=hedf _ hlo e he hb;exact hnf e.on h1 h2
     have hil:i<l.length:=abq;have hiL:i<L.size:=by rw [hI.ls,hnn];exact hil
     have hunt:L.getD i true=false:=by
      rw [acC] at hun' ⊢;rw [adW hiL] at hun' ⊢;simpa using hun'
     obtain ⟨hog,hnext⟩:=both i him _ ho hun' hed;obtain ⟨v,hv,hk⟩:=C7 hpu hog a (by rw [hI.sz];exact hdN (i,d) (hpre i d him (by rw [ho];rfl))) fun _=>rfl;refine wpAny_first (v:=v) ho (Region.noSelect_spec hns) (fun c a w ⟨ρ',_,hq⟩=>(hQp c ρ' w hq).elim) fuel L a w (fun j oj hj hji hjl hno=> ?_) ((hready_spec i).2 ⟨hil,hunt,_,ho,hed⟩) (.inl ⟨by simp [Region.wanted],hv⟩) (hnext v w hk fun hfr'=> ?_)
     ·refine Region.free_spec ho hfree j oj hj hji ?_ hno;have hjlen:j<l.length:=by have:=(afg.1 hj).1;omega
      rw [Pj hjlen];rw [aeT];rintro ⟨h1,h2⟩;have h3:=hnf j h1 h2;have hjL:j<L.size:=by rw [hI.ls,hnn];exact hjlen
      rw [acC] at h3 hjl;rw [adW hjL] at h3 hjl;simp only [acW] at h3 hjl;rw [h3] at hjl
      cases hjl
     ·obtain ⟨d',t,ty',pos',af',n,ag,by',zc,hi1,_⟩:=hfr.at i hfr';rw [hlo] at hi1;injection hi1 with hi1
      injection hi1 with _ hi1
      subst hi1
      cases hpu
    have hsome2:∃i,i<m∧i∉fl∧L.getD i false=false:=by
     refine adN fun hn=>hnf fun i hi hif=> ?_
     cases hc2:L.getD i false with
     |true=>rfl
     |false=>exact absurd ⟨i,hi,hif,hc2⟩ hn
    refine ⟨fun hnil=> ?_,fun i hi=> ?_⟩
    ·exact Zd
    ·obtain ⟨hil,hun,o,ho,hed⟩:=(hready_spec i).1 hi;have hiL:i<L.size:=by rw [hI.ls,hnn];exact hil
     have hun':L.getD i false=false:=by
      exact QO
     have hed':∀o',l.toArray[i]?=some o'→∀e∈o'.after,Region.binds .any e=true→L.getD e.on false=true:=fun o' ho'=>by
      exact Qk
     have him:i<m:=by
      rcases acj i m with h|h
      ·exact h
      ·exfalso
       rcases acj m i with h2|h2
       ·exact Vb
       ·obtain rfl:i=m:=abq;have h4:(l.length==i)=false:=by simp;omega
        rw [h4,ace] at htail;have h5:=ab6.1 htail;obtain ⟨j,hj,hjf,hju⟩:=hsome2;have h6:=h5 j (by simpa using hj);have h7:fl.contains j=false:=by simpa using hjf
        rw [h7,ace] at h6;have:=iK hM hI.cl i j hed' h6;rw [hju] at this
        cases this
     obtain ⟨hog,hnext⟩:=both i him o ho hun' hed;have hgo:if Region.wanted o (yielded l.toArray a.tmps) then (o.wp P a w (wpAny P .any l.toArray (eV N D Q) fuel (L.setIfInBounds i true)) (eV N D Q))∨((o.asks P a w)∧LetsOut (eV N D Q)) else wpAny P .any l.toArray (eV N D Q) fuel (L.setIfInBounds i true) (a.put o.dst undef) w:=by
      exact W5
     unfold wpOp;rw [ho];exact hgo
 exact WV
theorem JJ.AY {H:List HE}{t:TypeId}{cs':List Value} (h:JJ w0 H w W) (hs:Hp w0 H w) (h2:w.heap.size≤b) (h3:W.heap[b]?=some (.cells cs.toArray t (0,0)))
  (h2':w.heap.size≤b') (h3':W.heap[b']?=some (.cells cs'.toArray t' (0,0))) (hbb:b≠b'):Hp w0 (.blk b' t' cs' (0,0)::.blk b t cs (0,0)::H) W:=by
 have h1:=h.newVar hs h2 h3;refine ⟨h.hp.below, ?_, ?_⟩
 ·intro y hy
  rcases abO.1 hy with rfl|hy
  ·exact ⟨abW hs.size h2',h3',.inr (abD _)⟩
  ·exact h1.own y hy
 ·rw [adL,adL];show (b'::b::H.filterMap HE.id).Nodup;have hn:∀c,w.heap.size≤c→c∉H.filterMap HE.id:=fun c hc hm=>by
   exact Vj
  refine adI.2 ⟨fun hm=> ?_,adI.2 ⟨hn b h2,h.hp.nd⟩⟩
  rcases abO.1 hm with e|hm
  ·exact hbb e.symm
  ·exact hn b' h2' hm
end
theorem db {Q:Kq}{id:Nat}{l:List Oper} (fr fl M:List Nat) (m:Nat) (src:List (List (Nat×Option Nat))) (ds:List (Nat×Nat)) {H:List HE} (hh:Hp w0 H w) (hm:P.follows .mixedOrders=true) (hok:l5 l m N src ds fl M=true)
  (hfr:xW P l fr) (hfm:fr.all (fun i=>i<m)=true) (hQp:NP Q)
  (h:DX P l.toArray (JJ w0 H w) ρ (fun V=>∀f w',JJ w0 H w w'→uV V f w' ds→(∀i∈fr,∀j∈fr,i≠j→f i≠f j)→WL ⟨none,D,false⟩ P N l.toArray Q (l.drop m) (gD ρ f ds) w') 0 Wu (l.take m) src):WC ⟨none,D,false⟩ P N (.region id l.toArray true) Q ρ w:=by
 obtain ⟨V,_,h1,h2⟩:=E9 _ _ _ _ (fun _ _ _ _=>trivial) h;exact MC fr fl M m src ds (JJ w0 H w) V hm hok hfr hfm hQp (fun _ _ h hb=>h.ext hb) (JJ.start hh) h1 h2
end
section
variable {ro:Mode}
def bA (ρ:Rf):List (Nat×Value)→Rf
 |[]=>ρ
 |(d,v)::r=>cg (bA ρ r) d v
def Yr (f:Nat→Value):List (Nat×Nat)→List (Nat×Value)→Prop
 |[],[]=>True
 |(i,d)::r,(d',v)::s=>(d=d'∧f i=v)∧Yr f r s
 |_,_=>False
theorem aQ {ρ:Rf}{f:Nat→Value}:∀{ds:List (Nat×Nat)}{vs:List (Nat×Value)},Yr f ds vs→gD ρ f ds=bA ρ vs
 |[],[],_=>rfl
 |[],_::_,h=>h.elim
 |_::_,[],h=>h.elim
 |(i,d)::r,(d',v)::s,h=>by
  obtain ⟨⟨rfl,rfl⟩,h2⟩:=h;rw [gD,bA,aQ h2]
theorem aw {f:Nat→Value}:Yr f [] []:=trivial
theorem aa {f:Nat→Value}{i d:Nat}{v:Value}{r:List (Nat×Nat)}{s:List (Nat×Value)} (h:f i=v) (hr:Yr f r s):Yr f ((i,d)::r) ((d,v)::s):=⟨⟨rfl,h⟩,hr⟩
theorem ay {Q:Kq}{l:List Oper}{ρ':Rf} (h:ρ=ρ') (k:WL ro P N ops Q l ρ' w):WL ro P N ops Q l ρ w:=h ▸ k
section
variable {P:Program}{ops:Array Oper}{J:World→Prop}{ρ:Rf}{T:(Nat→VP)→Prop}{i:Nat}{pv:Nat→VP}{os:List Oper}{s:List (Nat×Option Nat)}{ss:List (List (Nat×Option Nat))}{d:Option Nat}{ty:TypeId}{pos:String}{af:Array Edge}
theorem yr {op:Op}{b:Bool} (hj:(ops[j]?).bind (·.dst)=some dj) (hv:ρ dj=undef) (h:K undef w):OG P ops ⟨d,op,ty,pos,af,some (j,b)⟩ ρ w K:=
 ⟨fun a next Q ha hn=>by
  have h1:Region.wanted ⟨d,op,ty,pos,af,some (j,b)⟩ (yielded ops a.tmps)=false:=by
   have h2:=ha dj;rw [hv,acC] at h2
   cases h3:a.tmps[dj]? with
   |none=>simp [Region.wanted,yielded,hj,h3]
   |some x=>
    rw [h3] at h2;simp only [acW] at h2;subst h2;simp [Region.wanted,yielded,hj,h3,undef]
  rw [h1];exact hn _ _ h⟩
theorem CZ {b:Bool}{op:Op} (hj:(ops[j]?).bind (·.dst)=some dj) (hv:∀ρ1 w1,J w1→cN (pv) ρ ρ1 w1 s→ρ1 dj=undef)
  (k:DX P ops J ρ T (i+1) (ez pv i (Is undef)) os ss):DX P ops J ρ T i pv (⟨d,op,ty,pos,af,some (j,b)⟩::os) (s::ss):=
 aW (Is undef) Is.ext (fun ρ1 w1 hj' h=>yr hj (hv ρ1 w1 hj' h) ⟨Below.refl _ _,rfl⟩) k
theorem gC {b:Bool}{t e:TypeId}{len sz:Nat} (hj:(ops[j]?).bind (·.dst)=some dj) (hg:∀ρ1 w1,J w1→cN (pv) ρ ρ1 w1 s→ρ1 dj=.bool b)
  (ht:P.underlying t=some (.slice e)) (hte:dy P e=some (sz,ag,by',zc))
  (hp:∀ρ1 w1,J w1→cN (pv) ρ ρ1 w1 s→Cm ρ1 parts.toList=ps) (hzl:zc.length=sz) (hf:lR (fun i=>some (i*sz,sz)) (hZ len zc) ps=some cs) (h0:¬len*sz=0) (hsl:len*sz≤16777216) (hl:cs.length=len*sz)
  (k:DX P ops J ρ T (i+1) (ez pv i (Rows len sz cs)) os ss):DX P ops J ρ T i pv (⟨d,.buildSlice t len parts,ty,pos,af,some (j,b)⟩::os) (s::ss):=
 aW (Rows len sz cs) Rows.ext (fun ρ1 w1 hj' h=>dW hj (hg ρ1 w1 hj' h) (mj ht hte (hp ρ1 w1 hj' h) hzl hf h0 hsl hl fun _ _ ⟨_,hv,hs⟩ hb=>⟨hb,_,_,hv,hs⟩)) k
end
theorem Hp.df {f:α→List Value}{sz:Nat}{H:List HE}{i c e g:Nat}{l:List α}{x:α} (hh:Hp w0 H w) (hi:H[i]?=some (.row (some ⟨g,0,none⟩) n c e sz (ar f l))) (hf:∀x,(f x).length=sz) (h0:0<sz) (hx:l[k]?=some x):Rd w ⟨g,k*sz,none⟩ (f x):=by
 have hs:=hh.ao hi;have hl:=hs.aX hf h0;obtain ⟨ad,h1,h2⟩:=hs.2 (by have:=(abM.1 hx).1;omega);injection h1 with h1
 subst h1;have h3:=h2.recAt hf hx;rwa [eN,ab2] at h3
end
section
variable {ro:Mode}
section
variable {P:Program}{ρ:Rf}{w:World}
end
end
section
variable {ro:Mode}
section
variable {P:Program}{ρ:Rf}{w:World}
theorem vI {d:Option Nat}{ty:Nat}{af:Array Edge}{g:Option (Nat×Bool)}{x:Operand}{a:Addr} (hx:ev ρ x=.pointer (some a)):
  (execOp (ev ρ) ⟨d,.nilCheck x,ty,pos,af,g⟩).run P w=.ok (.value (.pointer (some a))) w:=by simp [execOp,hx]
end
section
variable {P:Program}{N:Nat}{ops:Array Oper}{Q:Kq}{ρ:Rf}{w:World}{rest:List Oper}{d ty:Nat}{pos:String}{af:Array Edge}
theorem F4 {x:Operand}{a:Addr} (hx:ev ρ x=.pointer (some a)) (hN:d<N) (kk:WL ro P N ops Q rest (cg ρ d (.pointer (some a))) w):WL ro P N ops Q (⟨some d,.nilCheck x,ty,pos,af,none⟩::rest) ρ w:=aM rfl rfl hN (vI hx) kk
end
end
section
variable {P:Program}{N:Nat}{Q:Kq}{ρ:Rf}{w:World}
structure WA (P:Program) (N:Nat) (ops:Array Oper) (Q:Kq) (fuel:Nat) (L:Array Bool) (ρ:Rf) (w:World):Prop where
 out:∀a,Fits N a ρ→wpAny P .any ops (lift N Q) fuel L a w
theorem wz {o:Oper}{a:Act}{K:Act→World→Prop}{r:Result Next} (h:o.upon P a K (lift N (dV next Q)) r):o.upon P a K (lift N Q) r:=by
 have hp:∀c a w,lift N (dV next Q) (.panic c) a w→lift N Q (.panic c) a w:=fun _ _ _ h=>h;have ho:LetsOut (lift N (dV next Q))→LetsOut (lift N Q):=fun ⟨a,w,h⟩=>⟨a,w,h⟩
 cases r with
 |ok n w'=>
  cases n<;>simp only [Oper.upon] at h ⊢ <;>first
   |exact h
   |exact Calls.mono h (fun e w'' he=>by cases e<;>first|exact he|exact hp _ _ _ he|exact ho he)
 |halt x w'=>cases x<;>simp only [Oper.upon] at h ⊢ <;>first|exact h|exact hp _ _ _ h|exact ho h
theorem HN {L:Array Bool}{rs:List Nat} (hr:Region.ready .any ops L=rs) (hne:rs≠[])
  (h:∀i∈rs,∃o,ops[i]?=some o∧WL .plain P N ops (dV (fun ρ w=>WA P N ops Q fuel (L.setIfInBounds i true) ρ w) Q) [o] ρ w):WA P N ops Q (fuel+1) L ρ w:=by
 refine ⟨fun a hf=>wpAny_all hr hne fun i hi=> ?_⟩;obtain ⟨o,ho,hw⟩:=h i hi;have h1:=hw.out a hf;have hK:∀a w,wpList P ops (lift N (dV (fun ρ w=>WA P N ops Q fuel (L.setIfInBounds i true) ρ w) Q)) [] a w→wpAny P .any ops (lift N Q) fuel (L.setIfInBounds i true) a w:=fun a w ⟨ρ',hf',hq⟩=>by
  have hq':WA P N ops Q fuel (L.setIfInBounds i true) ρ' w:=hq;exact hq'.out a hf'
 unfold wpOp;rw [ho];simp only [];unfold wpList at h1;split at h1
 ·rename_i hwt;rw [abx hwt];refine h1.imp (fun h2=>Oper.wp_mono hK ?_) (fun h2=>⟨h2.1, ?_⟩)
  ·unfold Oper.wp at h2 ⊢;exact wz h2
  ·obtain ⟨a',w',h3⟩:=h2.2;exact ⟨a',w',h3⟩
 ·rename_i hwt;rw [abw hwt];exact hK _ _ h1
theorem eO {L:Array Bool}{i:Nat}{o:Oper} (hr:Region.ready .any ops L=[i]) (ho:ops[i]?=some o)
  (h:WL .plain P N ops (dV (fun ρ w=>WA P N ops Q fuel (L.setIfInBounds i true) ρ w) Q) [o] ρ w):WA P N ops Q (fuel+1) L ρ w:=
 HN hr (by simp) fun j hj=>by
  obtain rfl:j=i:=by simpa using hj
  exact ⟨o,ho,h⟩
theorem vU {L:Array Bool}{i i2:Nat}{o o2:Oper} (hr:Region.ready .any ops L=[i,i2]) (ho:ops[i]?=some o) (ho2:ops[i2]?=some o2)
  (h:WL .plain P N ops (dV (fun ρ w=>WA P N ops Q fuel (L.setIfInBounds i true) ρ w) Q) [o] ρ w)
  (h2:WL .plain P N ops (dV (fun ρ w=>WA P N ops Q fuel (L.setIfInBounds i2 true) ρ w) Q) [o2] ρ w):WA P N ops Q (fuel+1) L ρ w:=
 HN hr (by simp) fun j hj=>by
  rcases abO.1 hj with rfl|hj
  ·exact ⟨o,ho,h⟩
  ·obtain rfl:j=i2:=by simpa using hj
   exact ⟨o2,ho2,h2⟩
theorem dO {L:Array Bool} (h:WA P N ops Q fuel L ρ w):WL .plain P N ops (dV (fun ρ w=>WA P N ops Q fuel L ρ w) Q) [] ρ w:=aJ h
theorem iQ {l:List Oper}{L:Array Bool} (m:Nat) (hm:m≤l.length) (hL:L=iY l.length m) (hf:l.length≤fuel+m)
  (hr:((List.range (l.length-m)).all fun k=>Region.ready .any l.toArray (iY l.length (m+k))==[m+k])=true) (hend:Region.ready .any l.toArray (iY l.length l.length)=[])
  (h:WL .plain P N l.toArray Q (l.drop m) ρ w):WA P N l.toArray Q fuel L ρ w:=
 ⟨fun a hfits=>by
  rw [hL];refine oQ m (fun k h1 h2=> ?_) hend fuel m a w (abD _) hm hf (h.out a hfits);have h3:=ab6.1 hr (k-m) (by simp;omega);rw [show m+(k-m)=k by omega] at h3;exact eq_of_beq h3⟩
theorem pw {id:Nat}{l:List Oper}{H:List HE} (hh:Hp w0 H w) (hm:P.follows .mixedOrders=true) (h:∀w',JJ w0 H w w'→WA P N l.toArray Q l.length (Array.replicate l.length false) ρ w'):WC .plain P N (.region id l.toArray true) Q ρ w:=by
 refine WC.oV fun a hf=>wp_region_any hm ?_;have hb:Below w.heap.size w ({ w with drawn:=w.drawn+1 }:World):=⟨rfl,rfl,rfl,abD _,fun _ _=>rfl⟩;have:=(h _ ((JJ.start hh).ext hb)).out a hf;simpa using this
end
section
variable {P:Program}{N:Nat}{Q:Kq}{ρ:Rf}{w:World}
def Lh:List Nat→List (List Nat)
 |[]=>[[]]
 |x::r=>Lh r++(Lh r).map (x:: ·)
theorem uM (p:Nat→Bool):∀l:List Nat,l.filter p∈Lh l
 |[]=>by simp [Lh]
 |x::r=>by
  have ih:=uM p r;rw [List.filter_cons,Lh];split
  ·exact acI _ (abL.2 ⟨_,ih,rfl⟩)
  ·exact adf _ ih
def lD (n m:Nat) (fl D:List Nat):Array Bool:=((List.range n).map fun i=>decide (i<m∧(i∉fl∨i∈D))).toArray
def IM (l:List Oper) (fl D:List Nat):Bool:=D.all fun i=>match l[i]? with
 |some o=>o.after.all fun e=> !Region.binds .any e|| !fl.contains e.on||D.contains e.on
 |none=>true
def Wx (ds:List (Nat×Nat)) (fl D:List Nat):List (Nat×Nat):=ds.filter fun p=> !fl.contains p.1||D.contains p.1
def AU (l:List Oper) (m:Nat) (fl:List Nat) (ds:List (Nat×Nat)):List (List Nat×Nat×List (Nat×Nat)):=
 ((Lh fl).filter (IM l fl)).map fun D=>(D,l.length-(lD l.length m fl D).toList.countP (fun b=>b)-1,Wx ds fl D)
def u3 (l:List Oper) (m N:Nat) (src:List (List (Nat×Option Nat))) (ds:List (Nat×Nat)) (fl M:List Nat):Bool:=
 let ops:=l.toArray
 let pre:=(List.range m).map fun i=>((ops[i]?).bind (·.dst))
 (m≤l.length) && (src.length==m) &&
 (ds==(pre.zipIdx.filterMap fun (d,i)=>d.map fun d=>(i,d)).reverse) && (decide (ds.map (·.2)).Nodup) && (ds.all fun p=>p.2<N) &&
 ((List.range m).all fun i=>match ops[i]?,src[i]? with
  |some o,some s=>((o.looksAt ops).all fun t=>s.any fun p=>p.1==t) &&
    s.all fun p=>match p.2 with
     |some j=>(j<m) && ((ops[j]?).bind (·.dst)==some p.1) && (M.getD i 0).testBit j
     |none=>(List.range m).all fun j=> !((ops[j]?).bind (·.dst)==some p.1)||(j !=i && (M.getD j 0).testBit i)
  |_,_=>false) &&
 (l.length==m||((List.range m).all fun i=>fl.contains i||(M.getD m 0).testBit i)) &&
 ((List.range (l.length-m)).all fun k=>k==0||(M.getD (m+k) 0).testBit m) &&
 ((List.range l.length).all fun i=>match ops[i]? with|some o=>o.after.all fun e=> !Region.binds .any e||e.on<i|none=>false) && (wR l []==M)
theorem Ey {id:Nat}{l:List Oper} (fr fl M:List Nat) (m:Nat) (src:List (List (Nat×Option Nat))) (ds:List (Nat×Nat)) (Ds:List (List Nat×Nat×List (Nat×Nat))) (J:World→Prop) (V:Nat→Value→World→Prop) (hm:P.follows .mixedOrders=true) (hok:u3 l m N src ds fl M=true) (hDs:AU l m fl ds=Ds) (hmn:m<l.length) (hfr:xW P l fr) (hfm:fr.all (fun i=>i<m)=true)
  (hJ:∀w w',J w→Below w.heap.size w w'→J w') (h0:J w) (hops:DO P l.toArray J V ρ 0 (l.take m) src)
  (tail:∀p∈Ds,∀f w',J w'→uV V f w' p.2.2→(∀i∈fr,∀j∈fr,i≠j→(!fl.contains i||p.1.contains i)=true→(!fl.contains j||p.1.contains j)=true→f i≠f j)→WL .plain P N l.toArray (dV (fun ρ w=>WA P N l.toArray Q p.2.1 ((lD l.length m fl p.1).setIfInBounds m true) ρ w) Q) ((l.drop m).take 1) (gD ρ f p.2.2) w'):WC .plain P N (.region id l.toArray true) Q ρ w:=by
 refine WC.oV fun a hf=>wp_region_any hm ?_;simp only [u3,abS,ab1,ac3,ab6,ab3] at hok;obtain ⟨⟨⟨⟨⟨⟨⟨⟨⟨hml,_⟩,hds⟩,hnd⟩,hdN⟩,hrd⟩,htail⟩,hdep⟩,hedge⟩,hM⟩:=hok;have hdo:=(zU _ _ _ hops).2;have hpre:∀i d,i<m→((l.toArray[i]?).bind (·.dst))=some d→(i,d)∈ds:=fun i d hi hd=>by
  exact So
 have hdsm:∀i d,(i,d)∈ds→i<m∧((l.toArray[i]?).bind (·.dst))=some d:=fun i d hp=>by
  exact RU
 have hone:∀i j d,i<m→j<m→((l.toArray[i]?).bind (·.dst))=some d→((l.toArray[j]?).bind (·.dst))=some d→i=j:=fun i j d hi hj h1 h2=>by
  exact RQ
 have hnn:l.toArray.size=l.length:=by simp
 have hfm':∀i∈fr,i<m:=fun i hi=>by simpa using ab6.1 hfm i hi
 have part:∀(L:Array Bool) (a:Act) (w:World) (fuel:Nat),YD [] fr N l.toArray m ρ J V L a w→(∀i,i<m→i∉fl→L.getD i false=true)→fuel+1+L.toList.countP (fun b=>b)=l.length→∀o,l.toArray[m]?=some o→
   wpOp P l.toArray (lift N Q) m (wpAny P .any l.toArray (lift N Q) fuel (L.setIfInBounds m true)) a w:=by
  intro L a w fuel hI hall hfu o ho;have hflt:∀i,i∈fl.filter (fun i=>L.getD i false)↔i∈fl∧L.getD i false=true:=fun i=>by rw [acX]
  have hL:L=lD l.length m fl (fl.filter fun i=>L.getD i false):=by
   apply Array.ext (by simp [lD,hI.ls]);intro i h1 h2;have e1:L.getD i false=L[i]:=by simp [h1]
   rw [←e1];simp only [lD,List.getElem_toArray,List.getElem_map,List.getElem_range]
   rcases acj i m with h|h
   ·by_cases hif:i∈fl
    ·cases hc:L.getD i false with
     |true=>exact (abQ ⟨h,.inr ((hflt i).2 ⟨hif,hc⟩)⟩).symm
     |false=>exact (abR fun hh=>hh.2.elim (fun hn=>hn hif) fun hd=>by rw [((hflt i).1 hd).2] at hc;cases hc).symm
    ·rw [hall i h hif];exact (abQ ⟨h,.inl hif⟩).symm
   ·rw [hI.tl i h];exact (abR fun hh=>by omega).symm
  have hcl:IM l fl (fl.filter fun i=>L.getD i false)=true:=ab6.2 fun i hi=>by
   obtain ⟨h1,h2⟩:=(hflt i).1 hi
   cases hli:l[i]? with
   |none=>rfl
   |some oi=>
    refine aeO.2 fun e he=> ?_
    cases hb:Region.binds .any e with
    |false=>rfl
    |true=>
     have h3:=hI.cl i oi (by rw [adG];exact hli) h2 e he hb;by_cases hef:e.on∈fl
     ·rw [aea];exact .inr (ae5.2 ((hflt _).2 ⟨hef,h3⟩))
     ·simp [hef]
  have hmem:(fl.filter (fun i=>L.getD i false),l.length-(lD l.length m fl (fl.filter fun i=>L.getD i false)).toList.countP (fun b=>b)-1,Wx ds fl (fl.filter fun i=>L.getD i false))∈Ds:=by
   rw [←hDs];exact abL.2 ⟨_,acX.2 ⟨uM _ _,hcl⟩,rfl⟩
  have hfu':l.length-L.toList.countP (fun b=>b)-1=fuel:=abq;have htl:=tail _ hmem;simp only [←hL,hfu'] at htl;have hsub:∀p∈Wx ds fl (fl.filter fun i=>L.getD i false),p∈ds∧L.getD p.1 false=true:=fun p hp=>by
   obtain ⟨h1,h2⟩:=acX.1 hp;refine ⟨h1, ?_⟩;simp only [aea,aep,List.contains_eq_mem,aeT,ab1] at h2
   rcases h2 with h2|h2
   ·exact hall _ (hdsm _ _ h1).1 h2
   ·exact ((hflt _).1 h2).2
  have hnd':((Wx ds fl (fl.filter fun i=>L.getD i false)).map (·.2)).Nodup:=(List.filter_sublist.map _).nodup hnd;have hfits:Fits N a (gD ρ (fun i=>match (l.toArray[i]?).bind (·.dst) with|some d=>a.tmps.getD d undef|none=>undef) (Wx ds fl (fl.filter fun i=>L.getD i false))):=by
   refine ⟨hI.nd,hI.sz,fun s=> ?_⟩;by_cases hs:∃i,(i,s)∈Wx ds fl (fl.filter fun i=>L.getD i false)
   ·obtain ⟨i,hi⟩:=hs;rw [(l0 _ _ s hnd').1 i hi,(hdsm i s (hsub _ hi).1).2]
   ·rw [(l0 _ _ s hnd').2 fun i hi=>hs ⟨i,hi⟩];refine hI.tQ s fun i hi hil hd=>hs ⟨i,acX.2 ⟨hpre i s hi hd, ?_⟩⟩;by_cases hif:i∈fl
    ·rw [aea];exact .inr (ae5.2 ((hflt i).2 ⟨hif,hil⟩))
    ·simp [hif]
  have h1:=(htl (fun i=>match (l.toArray[i]?).bind (·.dst) with|some d=>a.tmps.getD d undef|none=>undef) w hI.j (rn _ fun p hp=>by
   obtain ⟨h1,h2⟩:=hsub p hp;obtain ⟨h3,h4⟩:=hdsm p.1 p.2 h1;have:=hI.vs p.1 p.2 h3 h2 h4;rw [h4];exact this) fun i hi j hj hij hpi hpj=>by
    obtain ⟨d,t,ty,pos,af,n,ag,by',zc,hi1,_⟩:=hfr.at i hi;obtain ⟨e,t',ty',pos',af',n',ag',by'',zc',hj1,_⟩:=hfr.at j hj;have hi2:(l.toArray[i]?).bind (·.dst)=some d:=by rw [adG,hi1];rfl
    have hj2:(l.toArray[j]?).bind (·.dst)=some e:=by rw [adG,hj1];rfl
    have hup:∀i∈fr,(!fl.contains i||(fl.filter fun i=>L.getD i false).contains i)=true→L.getD i false=true:=fun i hi hp=>by
     by_cases hf:i∈fl
     ·rw [ae5.2 hf,aeo,ace] at hp;exact ((hflt i).1 (ae5.1 hp)).2
     ·exact hall i (hfm' i hi) hf
    rw [hi2,hj2];exact hI.fd i hi j hj hij (hup i hi hpi) (hup j hj hpj) d e hi2 hj2).out a hfits
  have hone':(l.drop m).take 1=[o]:=by
   rw [adG] at ho;obtain ⟨h2,h3⟩:=abM.1 ho;rw [ady h2,h3]
   rfl
  rw [hone'] at h1;have hK:∀a w,wpList P l.toArray (lift N (dV (fun ρ w=>WA P N l.toArray Q fuel (L.setIfInBounds m true) ρ w) Q)) [] a w→wpAny P .any l.toArray (lift N Q) fuel (L.setIfInBounds m true) a w:=fun a w ⟨ρ',hf',hq⟩=>by
   have hq':WA P N l.toArray Q fuel (L.setIfInBounds m true) ρ' w:=hq;exact hq'.out a hf'
  unfold wpOp;rw [ho];simp only [];unfold wpList at h1;split at h1
  ·rename_i hwt;rw [abx hwt];refine h1.imp (fun h2=>Oper.wp_mono hK ?_) (fun h2=>⟨h2.1, ?_⟩)
   ·unfold Oper.wp at h2 ⊢;exact wz h2
   ·obtain ⟨a',w',h3⟩:=h2.2;exact ⟨a',w',h3⟩
  ·rename_i hwt;rw [abw hwt];exact hK _ _ h1
 have key:∀(fuel:Nat) (L:Array Bool) (a:Act) (w:World),YD [] fr N l.toArray m ρ J V L a w→fuel+L.toList.countP (fun b=>b)=l.length→wpAny P .any l.toArray (lift N Q) fuel L a w:=by
  intro fuel
  induction fuel with
  |zero=>
   intro L a w hI hc;have hall:∀i,i<l.length→L.getD i false=true:=fun i hi=>by
    exact UD
   have h1:=hall m hmn;rw [hI.tl m (abD _)] at h1
   cases h1
  |succ fuel ih=>
   intro L a w hI hc
   ·have hready_spec:∀i,i∈Region.ready .any l.toArray L↔i<l.length∧L.getD i true=false∧∃o,l.toArray[i]?=some o∧∀e∈o.after,Region.binds .any e=true→L.getD e.on false=true:=fun i=>by
     exact YC
    have both:∀(i:Nat) (_:i<m) (o:Oper) (_:l.toArray[i]?=some o) (_:L.getD i false=false) (_:∀e∈o.after,Region.binds .any e=true→L.getD e.on false=true),
      OG P l.toArray o (fun t=>a.tmps.getD t undef) w (fun v w2=>Below w.heap.size w w2∧V i v w2)∧
      ∀v w2,(Below w.heap.size w w2∧V i v w2)→(i∈fr→∃b,v=.pointer (some ⟨b,0,none⟩)∧w.heap.size≤b∧b<w2.heap.size)→wpAny P .any l.toArray (lift N Q) fuel (L.setIfInBounds i true) (a.put o.dst v) w2:=fun i him o ho hun' hed=>by
     have hiL:i<L.size:=by rw [hI.ls,hnn];omega
     have hed':∀o',l.toArray[i]?=some o'→∀e∈o'.after,Region.binds .any e=true→L.getD e.on false=true:=fun o' ho'=>by
      rw [ho] at ho';injection ho' with ho';subst ho';exact hed
     have hok':(l.take m)[i]?=some o:=by
      rw [ado,abx him];simpa using ho
     obtain ⟨s,hs,hstab,hog⟩:=hdo i o hok';rw [ab2] at hstab hog;have hrdi:=hrd i him;rw [ho,hs] at hrdi;simp only [abS,ab6] at hrdi;have hro:cN V ρ (fun t=>a.tmps.getD t undef) w s:=pq s fun p hp=>by
      have hp2:=hrdi.2 p hp
      cases hp3:p.2 with
      |some j=>
       rw [hp3] at hp2;simp only [abS,ab1,ac3] at hp2;exact hI.vs j p.1 hp2.1.1 (iK hM hI.cl i j hed' hp2.2) hp2.1.2
      |none=>
       rw [hp3] at hp2;refine hI.tQ p.1 fun j hj hjl hjd=> ?_;have h6:=ab6.1 hp2 j (by simpa using hj);rw [hjd] at h6;simp only [beq_self_eq_true,aeo,ace,abS] at h6;have:=iK hM hI.cl j i (fun o' ho' e he hb=>hI.cl j o' ho' hjl e he hb) h6.2;rw [hun'] at this
       cases this
     have hnext:∀v w2,(Below w.heap.size w w2∧V i v w2)→(i∈fr→∃b,v=.pointer (some ⟨b,0,none⟩)∧w.heap.size≤b∧b<w2.heap.size)→wpAny P .any l.toArray (lift N Q) fuel (L.setIfInBounds i true) (a.put o.dst v) w2:=fun v w2 hv hfv=>by
      have hd1:∀d',o.dst=some d'→d'<a.tmps.size:=fun d' hd'=>by
       rw [hI.sz];exact hdN (i,d') (hpre i d' him (by rw [ho];exact hd'))
      have hput:∀j d,j<m→j≠i→(l.toArray[j]?).bind (·.dst)=some d→(a.put o.dst v).tmps.getD d undef=a.tmps.getD d undef:=fun j d hj hji hjd=>by
       cases hod:o.dst with
       |none=>rfl
       |some d'=>rw [dP (hd1 d' hod),abw fun e=>hji (hone j i d hj him hjd (by rw [ho,e];exact hod))]
      have hputi:∀d,(l.toArray[i]?).bind (·.dst)=some d→(a.put o.dst v).tmps.getD d undef=v:=fun d hd=>by
       rw [ho] at hd;simp only [adP] at hd;rw [hd,dP (hd1 d hd),abx rfl]
      have hfd:∀j∈fr,j≠i→L.getD j false=true→i∈fr→∀e,(l.toArray[j]?).bind (·.dst)=some e→a.tmps.getD e undef≠v:=fun j hj hji hjl hif e hje heq=>by
       obtain ⟨b,hb1,hb2⟩:=hI.fb j hj hjl e hje;obtain ⟨b',hv1,hb3,_⟩:=hfv hif;rw [hb1,hv1] at heq;injection heq with heq
       injection heq with heq
       injection heq with heq
       omega
      refine ih _ _ _ ?_ ?_
      ·refine ⟨?_, ?_,hJ _ _ hI.j hv.1,by simpa using hI.ls, ?_, ?_, ?_, ?_, ?_, ?_⟩
       ·cases o.dst<;>exact hI.nd
       ·cases hod:o.dst with
        |none=>exact hI.sz
        |some d=>simpa [Act.put] using hI.sz
       ·intro k ok hk hkl e he hb;rw [cx hiL] at hkl ⊢;by_cases hki:k=i
        ·subst hki;simp [hed' ok hk e he hb]
        ·simp only [hki,decide_false,ace] at hkl;simp [hI.cl k ok hk hkl e he hb]
       ·intro k hk;rw [cx hiL,hI.tl k hk];have:¬k=i:=abq;simp [this]
       ·intro j d hj hjl hjd;rw [cx hiL] at hjl;have hd1:∀d',o.dst=some d'→d'<a.tmps.size:=fun d' hd'=>by
         rw [hI.sz];exact hdN (i,d') (hpre i d' him (by rw [ho];exact hd'))
        by_cases hji:j=i
        ·subst hji;rw [ho] at hjd;simp only [adP] at hjd;rw [hjd,dP (hd1 d hjd),abx rfl];exact hv.2
        ·simp only [hji,decide_false,ace] at hjl;have hold:=hI.vs j d hj hjl hjd;have hdj:(j,d)∈ds:=hpre j d hj hjd;have hst:=(hdo j (l.toArray[j]?.getD default) (by
          have:j<l.length:=abq;rw [ado,abx hj];simp [this])).choose_spec.2.1
         rw [ab2] at hst;have hne:∀d',o.dst=some d'→d≠d':=fun d' hd' e=>by
          subst e;exact hji (hone j i d hj him hjd (by rw [ho];exact hd'))
         cases hod:o.dst with
         |none=>exact hst _ _ _ hold hv.1
         |some d'=>
          rw [dP (hd1 d' hod),abw (hne d' hod)];exact hst _ _ _ hold hv.1
       ·intro s' hs';have hni:((l.toArray[i]?).bind (·.dst))≠some s':=hs' i him (by rw [cx hiL];simp);have hold:=hI.tQ s' fun j hj hjl=>hs' j hj (by rw [cx hiL];simp [hjl]);rw [ho] at hni;simp only [adP] at hni
        cases hod:o.dst with
        |none=>exact hold
        |some d'=>
         rw [dP (by rw [hI.sz];exact hdN (i,d') (hpre i d' him (by rw [ho];exact hod))),abw (fun e=>hni (by rw [hod,e]))];exact hold
       ·intro j hj hjl d hjd;rw [cx hiL] at hjl;by_cases hji:j=i
        ·subst hji;obtain ⟨b,hb1,_,hb3⟩:=hfv hj;exact ⟨b,(hputi d hjd).trans hb1,hb3⟩
        ·simp only [hji,decide_false,ace] at hjl;obtain ⟨b,hb1,hb2⟩:=hI.fb j hj hjl d hjd;exact ⟨b,(hput j d (hfm' j hj) hji hjd).trans hb1,acu hb2 hv.1.size⟩
       ·intro j hj k hk hjk hjl hkl d e hjd hke;rw [cx hiL] at hjl hkl;by_cases hji:j=i
        ·subst hji;have hkj:k≠j:=fun e=>hjk e.symm;simp only [hkj,decide_false,ace] at hkl;rw [hputi d hjd,hput k e (hfm' k hk) hkj hke];exact fun he=>hfd k hk hkj hkl hj e hke he.symm
        ·simp only [hji,decide_false,ace] at hjl;by_cases hki:k=i
         ·subst hki;rw [hputi e hke,hput j d (hfm' j hj) hji hjd];exact hfd j hj hji hjl hk d hjd
         ·simp only [hki,decide_false,ace] at hkl;rw [hput j d (hfm' j hj) hji hjd,hput k e (hfm' k hk) hki hke];exact hI.fd j hj k hk hjk hjl hkl d e hjd hke
      ·have hLi:L.toList[i]?=some false:=by
        have h3:i<L.toList.length:=by simpa using hiL
        rw [ac1 h3];have:L.getD i false=L.toList[i]:=by simp [hiL]
        rw [←this,hun']
       rw [ae9,List.countP_set (by simpa using hiL)];have h4:L.toList[i]'(by simpa using hiL)=false:=(abM.1 hLi).2;rw [h4];simp only [aey,if_false,if_true];omega
     exact ⟨hog _ w hI.j hro,hnext⟩
    refine ⟨fun hnil=> ?_,fun i hi=> ?_⟩
    ·exfalso;have hmin:∀k,(∃i,i<k∧i<m+1∧L.getD i false=false)→∃i,i<m+1∧L.getD i false=false∧∀j,j<i→L.getD j false=true:=by
      intro k
      induction k with
      |zero=>rintro ⟨i,h,_⟩;omega
      |succ k ihk=>
       rintro ⟨i,h1,h2,h3⟩;by_cases hex:∃i,i<k∧i<m+1∧L.getD i false=false
       ·exact ihk hex
       ·exact UG
     obtain ⟨i,hi,hu,hlow⟩:=hmin (m+1) ⟨m,abq,abq,hI.tl m (abD _)⟩;exact Tb
    ·obtain ⟨hil,hun,o,ho,hed⟩:=(hready_spec i).1 hi;have hiL:i<L.size:=by rw [hI.ls,hnn];exact hil
     have hun':L.getD i false=false:=by
      exact QO
     have hed':∀o',l.toArray[i]?=some o'→∀e∈o'.after,Region.binds .any e=true→L.getD e.on false=true:=fun o' ho'=>by
      exact Qk
     rcases acj i m with him|him
     ·obtain ⟨hog,hnext⟩:=both i him o ho hun' hed;have hgo:if Region.wanted o (yielded l.toArray a.tmps) then (o.wp P a w (wpAny P .any l.toArray (lift N Q) fuel (L.setIfInBounds i true)) (lift N Q))∨((o.asks P a w)∧LetsOut (lift N Q)) else wpAny P .any l.toArray (lift N Q) fuel (L.setIfInBounds i true) (a.put o.dst undef) w:=by
       exact W5
      unfold wpOp;rw [ho];exact hgo
     ·rcases acj m i with h2|h2
      ·exfalso;exact Vb
      ·obtain rfl:i=m:=abq;refine part L a w fuel hI (fun j hj hjf=> ?_) hc o ho;have h4:(l.length==i)=false:=by simp;omega
       rw [h4,ace] at htail;have h6:=ab6.1 htail j (by simpa using hj);have h7:fl.contains j=false:=by simpa using hjf
       rw [h7,ace] at h6;exact iK hM hI.cl i j hed' h6
 exact WV
end
theorem BH {x y:Value} (h:x≠y) (h1:x=.pointer (some ⟨b,0,none⟩)) (h2:y=.pointer (some ⟨b',0,none⟩)):b≠b':=fun e=>h (by rw [h1,h2,e])
theorem Gy {Q:Kq}{id:Nat}{l:List Oper} (fr fl M:List Nat) (m:Nat) (src:List (List (Nat×Option Nat))) (ds:List (Nat×Nat)) (Ds:List (List Nat×Nat×List (Nat×Nat))) {H:List HE} (hh:Hp w0 H w) (hm:P.follows .mixedOrders=true) (hok:u3 l m N src ds fl M=true) (hDs:AU l m fl ds=Ds) (hmn:m<l.length) (hfr:xW P l fr) (hfm:fr.all (fun i=>i<m)=true)
  (h:DX P l.toArray (JJ w0 H w) ρ (fun V=>∀p∈Ds,∀f w',JJ w0 H w w'→uV V f w' p.2.2→(∀i∈fr,∀j∈fr,i≠j→(!fl.contains i||p.1.contains i)=true→(!fl.contains j||p.1.contains j)=true→f i≠f j)→WL .plain P N l.toArray (dV (fun ρ w=>WA P N l.toArray Q p.2.1 ((lD l.length m fl p.1).setIfInBounds m true) ρ w) Q) ((l.drop m).take 1) (gD ρ f p.2.2) w') 0 Wu (l.take m) src):WC .plain P N (.region id l.toArray true) Q ρ w:=by
 obtain ⟨V,_,h1,h2⟩:=E9 _ _ _ _ (fun _ _ _ _=>trivial) h;exact Ey fr fl M m src ds Ds (JJ w0 H w) V hm hok hDs hmn hfr hfm (fun _ _ h hb=>h.ext hb) (JJ.start hh) h1 h2
theorem kY {Q:Kq}{id:Nat}{l:List Oper} (fl M:List Nat) (m:Nat) (src:List (List (Nat×Option Nat))) (ds:List (Nat×Nat)) (Ds:List (List Nat×Nat×List (Nat×Nat))) {H:List HE} (hh:Hp w0 H w) (hm:P.follows .mixedOrders=true) (hok:u3 l m N src ds fl M=true) (hDs:AU l m fl ds=Ds) (hmn:m<l.length)
  (h:DX P l.toArray (JJ w0 H w) ρ (fun V=>∀p∈Ds,∀f w',JJ w0 H w w'→uV V f w' p.2.2→WL .plain P N l.toArray (dV (fun ρ w=>WA P N l.toArray Q p.2.1 ((lD l.length m fl p.1).setIfInBounds m true) ρ w) Q) ((l.drop m).take 1) (gD ρ f p.2.2) w') 0 Wu (l.take m) src):WC .plain P N (.region id l.toArray true) Q ρ w:=by
 obtain ⟨V,_,h1,h2⟩:=E9 _ _ _ _ (fun _ _ _ _=>trivial) h;exact Ey [] fl M m src ds Ds (JJ w0 H w) V hm hok hDs hmn dx rfl (fun _ _ h hb=>h.ext hb) (JJ.start hh) h1 fun p hp f w' hj hv _=>h2 p hp f w' hj hv
theorem gJ {d:Option Nat}{ty:TypeId}{af:Array Edge}{g:Option (Nat×Bool)}{t e:TypeId}{x:Operand}{A:Option Addr}{c l sz:Nat}{k:IntKind}{m:Int} (ht:P.underlying t=some (.slice e)) (hsz:(P.info? e).map (·.size)=some sz) (hx:ev ρ x=.slice A n c) (hlo:ev ρ lo=.int k m)
  (hm:m=(l:Int)) (h1:l≤n) (h2:n≤c):(execOp (ev ρ) ⟨d,.slice t x (some lo) none none,ty,pos,af,g⟩).run P w=.ok (.value (.slice (if c=l then A else A.map (·.add (l*sz))) (n-l) (c-l))) w:=
 jf (lo:=some lo) (hi:=none) (l:=l) (h:=n) ht hsz hx ⟨k,m,hlo,hm⟩ rfl h1 h2
theorem Sl.front {A:Option Addr}{xs:List Value} (h:Sl w A n k xs) (hm:m≤n):Sl w A m k (xs.take (m*k)):=by
 have hle:m*k≤n*k:=acx _ hm;refine ⟨by rw [abP,h.1];omega,fun h0=> ?_⟩;obtain ⟨ad,h1,h2⟩:=h.2 abq;exact ⟨ad,h1,h2.take _⟩
theorem Sl.back {A:Option Addr}{l c:Nat}{xs:List Value} (h:Sl w A n k xs) (hl:l≤n) (hc:n≤c):Sl w (if c=l then A else A.map (·.add (l*k))) (n-l) k (xs.drop (l*k)):=by
 have h1:=h.cut hl (abD n) hc;have h2:((xs.drop (l*k)).take ((n-l)*k))=xs.drop (l*k):=abG (by rw [acJ,h.1,Nat.sub_mul];exact abD _);rwa [h2] at h1
def aaQ (base:Nat) (t:TypeId) (sz:Nat):VP:=fun v W=>∃g,v=.slice (some ⟨g,0,none⟩) 0 0∧W.ownsRow base t sz (.slice (some ⟨g,0,none⟩) 0 0) 0 []
def wg (base:Nat) (t:TypeId) (n sz:Nat) (cs:List Value):VP:=fun v W=>∃A c,v=.slice A n c∧W.ownsRow base t sz (.slice A n c) n cs
theorem lI {t:TypeId}{sz c:Nat}{A:Option Addr}{xs:List Value} (h:w.ownsRow base t sz (.slice A n c) n xs) (hb:Below w.heap.size w w'):w'.ownsRow base t sz (.slice A n c) n xs:=by
 refine ⟨h.1,h.2.imp id ?_⟩;rintro ⟨g,cap,cur,h1,h2,h3,h4⟩;have hlt:g<w.heap.size:=by
  rcases acj g w.heap.size with h|h
  ·exact h
  ·rw [aeR h] at h3;cases h3
 exact ⟨g,cap,cur,h1,h2,(hb.block g hlt).trans h3,h4⟩
theorem wg.ext {t:TypeId}{sz:Nat} (v:Value) (w w':World) (h:wg base t n sz cs v w) (hb:Below w.heap.size w w'):wg base t n sz cs v w':=let ⟨A,c,h1,h2⟩:=h;⟨A,c,h1,lI h2 hb⟩
theorem JJ.FB {H:List HE}{t:TypeId}{c sz:Nat}{A:Option Addr} (hs:Hp w0 H w) (h:Hp w0 H W) (ho:W.ownsRow w.heap.size t sz (.slice A n c) n cs):Hp w0 (.row A n c t sz cs::H) W:=by
 refine ⟨h.below,fun x hx=> ?_, ?_⟩
 ·rcases abO.1 hx with rfl|hx
  ·refine ⟨ho.1,ho.2.imp id ?_⟩;rintro ⟨g,cap,cur,h1,h2,h3⟩;exact ⟨g,cap,cur,h1,abW hs.size h2,h3⟩
  ·exact h.own x hx
 ·rw [adL]
  rcases ho.2 with ⟨h1,_⟩|⟨g,cap,cur,h1,h2,_⟩
  ·injection h1 with e1
   subst e1;exact h.nd
  ·injection h1 with e1
   subst e1;show (g::H.filterMap HE.id).Nodup;refine adI.2 ⟨fun hm=> ?_,h.nd⟩;exact Vj
section
variable {P:Program}{ops:Array Oper}{J:World→Prop}{ρ:Rf}{T:(Nat→VP)→Prop}{i:Nat}{pv:Nat→VP}{os:List Oper}{s:List (Nat×Option Nat)}{ss:List (List (Nat×Option Nat))}{d:Option Nat}{ty:TypeId}{pos:String}{af:Array Edge}
end
section
variable {D:List Deferred}
section
variable {P:Program}{N:Nat}{Q:Kq}{ρ:Rf}{w:World}
theorem OG.mono {o:Oper} (h:OG P ops o ρ w K) (hk:∀v w',K v w'→K' v w'):OG P ops o ρ w K':=
 ⟨fun a next Q ha hn=>h.out a next Q ha fun v w' hv=>hn v w' (hk v w' hv)⟩
structure DI6 (D:List Deferred) (N:Nat) (ops:Array Oper) (m μ:Nat) (ρ:Rf) (J:Bool→World→Prop) (V:Nat→Value→World→Prop) (L:Array Bool) (a:Act) (w:World):Prop where
 nd:a.defers=D
 sz:a.tmps.size=N
 j:J (L.getD μ false) w
 ls:L.size=ops.size
 cl:tL ops L
 tl:∀k,m≤k→L.getD k false=false
 vs:∀i d,i<m→L.getD i false=true→(ops[i]?).bind (·.dst)=some d→V i (a.tmps.getD d undef) w
 tQ:∀s,(∀i,i<m→L.getD i false=true→(ops[i]?).bind (·.dst)≠some s)→a.tmps.getD s undef=ρ s
theorem Mh {id:Nat}{l:List Oper} (M:List Nat) (m μ:Nat) (src:List (List (Nat×Option Nat))) (ds:List (Nat×Nat)) (J:Bool→World→Prop) (V:Nat→Value→World→Prop) (hm:P.follows .mixedOrders=true) (hok:l5 l m N src ds [] M=true) (hμ:μ<m)
  (h0:J false ({ w with drawn:=w.drawn+1 }:World)) (hops:∀i o,i<m→l[i]?=some o→∃s,src[i]?=some s∧∀ρ1 w1 (f:Bool),J f w1→(i=μ→f=false)→cN V ρ ρ1 w1 s→OG P l.toArray o ρ1 w1 fun v w2=>J (decide (μ=i)||f) w2∧(∀j u,j≠i→V j u w1→V j u w2)∧V i v w2)
  (tail:∀f w',J true w'→uV V f w' ds→WL ⟨none,D,false⟩ P N l.toArray Q (l.drop m) (gD ρ f ds) w'):WC ⟨none,D,false⟩ P N (.region id l.toArray true) Q ρ w:=by
 refine WC.oV fun a hf=>wp_region_any hm ?_;simp only [l5,abS,ab1,ac3,ab6,ab3] at hok;obtain ⟨⟨⟨⟨⟨⟨⟨⟨⟨⟨⟨⟨⟨hml,_⟩,hds⟩,hnd⟩,hdN⟩,hrd⟩,htail⟩,hready⟩,hend⟩,hdep⟩,hedge⟩,hns⟩,_⟩,hM⟩:=hok;have hpre:∀i d,i<m→((l.toArray[i]?).bind (·.dst))=some d→(i,d)∈ds:=fun i d hi hd=>by
  exact So
 have hdsm:∀i d,(i,d)∈ds→i<m∧((l.toArray[i]?).bind (·.dst))=some d:=fun i d hp=>by
  exact RU
 have hone:∀i j d,i<m→j<m→((l.toArray[i]?).bind (·.dst))=some d→((l.toArray[j]?).bind (·.dst))=some d→i=j:=fun i j d hi hj h1 h2=>by
  exact RQ
 have hnn:l.toArray.size=l.length:=by simp
 have full:∀(L:Array Bool) (a:Act) (w:World) (fuel:Nat),DI6 D N l.toArray m μ ρ J V L a w→(∀i,i<m→L.getD i false=true)→l.length≤fuel+m→wpAny P .any l.toArray (eV N D Q) fuel L a w:=by
  intro L a w fuel hI hall hfu;have hL:L=iY l.length m:=sj (by rw [hI.ls,hnn]) hml hall hI.tl;rw [hL];refine oQ m (fun k h1 h2=> ?_) hend fuel m a w (abD _) hml hfu ?_
  ·exact VG
  ·have hfits:eY N D a (gD ρ (fun i=>match (l.toArray[i]?).bind (·.dst) with|some d=>a.tmps.getD d undef|none=>undef) ds):=by
    exact VE
   refine (tail _ w (by have:=hI.j;rwa [hall μ hμ] at this) (rn ds fun p hp=> ?_)).out a hfits;obtain ⟨h1,h2⟩:=hdsm p.1 p.2 hp;exact PF
 have key:∀(fuel:Nat) (L:Array Bool) (a:Act) (w:World),DI6 D N l.toArray m μ ρ J V L a w→fuel+L.toList.countP (fun b=>b)=l.length→wpAny P .any l.toArray (eV N D Q) fuel L a w:=by
  intro fuel
  induction fuel with
  |zero=>
   exact VB
  |succ fuel ih=>
   intro L a w hI hc;by_cases hall:∀i,i<m→L.getD i false=true
   ·exact UP
   ·have hsome:∃i,i<m∧L.getD i false=false:=by
     exact Vx
    have hready_spec:∀i,i∈Region.ready .any l.toArray L↔i<l.length∧L.getD i true=false∧∃o,l.toArray[i]?=some o∧∀e∈o.after,Region.binds .any e=true→L.getD e.on false=true:=fun i=>by
     exact YC
    have both:∀(i:Nat) (_:i<m) (o:Oper) (_:l.toArray[i]?=some o) (_:L.getD i false=false) (_:∀e∈o.after,Region.binds .any e=true→L.getD e.on false=true),
      OG P l.toArray o (fun t=>a.tmps.getD t undef) w (fun v w2=>J (decide (μ=i)||L.getD μ false) w2∧(∀j u,j≠i→V j u w→V j u w2)∧V i v w2)∧
      ∀v w2,(J (decide (μ=i)||L.getD μ false) w2∧(∀j u,j≠i→V j u w→V j u w2)∧V i v w2)→wpAny P .any l.toArray (eV N D Q) fuel (L.setIfInBounds i true) (a.put o.dst v) w2:=fun i him o ho hun' hed=>by
     have hiL:i<L.size:=by rw [hI.ls,hnn];omega
     have hed':∀o',l.toArray[i]?=some o'→∀e∈o'.after,Region.binds .any e=true→L.getD e.on false=true:=fun o' ho'=>by
      rw [ho] at ho';injection ho' with ho';subst ho';exact hed
     obtain ⟨s,hs,hog⟩:=hops i o him (by rw [←adG];exact ho);have hrdi:=hrd i him;rw [ho,hs] at hrdi;simp only [abS,ab6] at hrdi;have hro:cN V ρ (fun t=>a.tmps.getD t undef) w s:=pq s fun p hp=>by
      have hp2:=hrdi.2 p hp
      cases hp3:p.2 with
      |some j=>
       rw [hp3] at hp2;simp only [abS,ab1,ac3] at hp2;exact hI.vs j p.1 hp2.1.1 (iK hM hI.cl i j hed' hp2.2) hp2.1.2
      |none=>
       rw [hp3] at hp2;refine hI.tQ p.1 fun j hj hjl hjd=> ?_;have h6:=ab6.1 hp2 j (by simpa using hj);rw [hjd] at h6;simp only [beq_self_eq_true,aeo,ace,abS] at h6;have:=iK hM hI.cl j i (fun o' ho' e he hb=>hI.cl j o' ho' hjl e he hb) h6.2;rw [hun'] at this
       cases this
     have hnext:∀v w2,(J (decide (μ=i)||L.getD μ false) w2∧(∀j u,j≠i→V j u w→V j u w2)∧V i v w2)→wpAny P .any l.toArray (eV N D Q) fuel (L.setIfInBounds i true) (a.put o.dst v) w2:=fun v w2 hv=>by
      refine ih _ _ _ ?_ ?_
      ·refine ⟨?_, ?_,by rw [cx hiL];exact hv.1,by simpa using hI.ls, ?_, ?_, ?_, ?_⟩
       ·cases o.dst<;>exact hI.nd
       ·cases hod:o.dst with
        |none=>exact hI.sz
        |some d=>simpa [Act.put] using hI.sz
       ·intro k ok hk hkl e he hb;rw [cx hiL] at hkl ⊢;by_cases hki:k=i
        ·subst hki;simp [hed' ok hk e he hb]
        ·simp only [hki,decide_false,ace] at hkl;simp [hI.cl k ok hk hkl e he hb]
       ·intro k hk;rw [cx hiL,hI.tl k hk];have:¬k=i:=abq;simp [this]
       ·intro j d hj hjl hjd;rw [cx hiL] at hjl;have hd1:∀d',o.dst=some d'→d'<a.tmps.size:=fun d' hd'=>by
         rw [hI.sz];exact hdN (i,d') (hpre i d' him (by rw [ho];exact hd'))
        by_cases hji:j=i
        ·subst hji;rw [ho] at hjd;simp only [adP] at hjd;rw [hjd,dP (hd1 d hjd),abx rfl];exact hv.2.2
        ·simp only [hji,decide_false,ace] at hjl;have hold:=hI.vs j d hj hjl hjd;have hdj:(j,d)∈ds:=hpre j d hj hjd;have hne:∀d',o.dst=some d'→d≠d':=fun d' hd' e=>by
          subst e;exact hji (hone j i d hj him hjd (by rw [ho];exact hd'))
         cases hod:o.dst with
         |none=>exact hv.2.1 j _ hji hold
         |some d'=>
          rw [dP (hd1 d' hod),abw (hne d' hod)];exact hv.2.1 j _ hji hold
       ·intro s' hs';have hni:((l.toArray[i]?).bind (·.dst))≠some s':=hs' i him (by rw [cx hiL];simp);have hold:=hI.tQ s' fun j hj hjl=>hs' j hj (by rw [cx hiL];simp [hjl]);rw [ho] at hni;simp only [adP] at hni
        cases hod:o.dst with
        |none=>exact hold
        |some d'=>
         rw [dP (by rw [hI.sz];exact hdN (i,d') (hpre i d' him (by rw [ho];exact hod))),abw (fun e=>hni (by rw [hod,e]))];exact hold
      ·have hLi:L.toList[i]?=some false:=by
        have h3:i<L.toList.length:=by simpa using hiL
        rw [ac1 h3];have:L.getD i false=L.toList[i]:=by simp [hiL]
        rw [←this,hun']
       rw [ae9,List.countP_set (by simpa using hiL)];have h4:L.toList[i]'(by simpa using hiL)=false:=(abM.1 hLi).2;rw [h4];simp only [aey,if_false,if_true];omega
     exact ⟨hog _ w _ hI.j (fun e=>by subst e;exact hun') hro,hnext⟩
    refine ⟨fun hnil=> ?_,fun i hi=> ?_⟩
    ·exact Zd
    ·obtain ⟨hil,hun,o,ho,hed⟩:=(hready_spec i).1 hi;have hiL:i<L.size:=by rw [hI.ls,hnn];exact hil
     have hun':L.getD i false=false:=by
      exact QO
     have hed':∀o',l.toArray[i]?=some o'→∀e∈o'.after,Region.binds .any e=true→L.getD e.on false=true:=fun o' ho'=>by
      exact Qk
     have him:i<m:=by
      rcases acj i m with h|h
      ·exact h
      ·exfalso
       rcases acj m i with h2|h2
       ·exact Vb
       ·obtain rfl:i=m:=abq;have h4:(l.length==i)=false:=by simp;omega
        rw [h4,ace] at htail;have h5:=ab6.1 htail;obtain ⟨j,hj,hju⟩:=hsome;have h6:=h5 j (by simpa using hj);simp only [List.contains_nil,ace] at h6;have:=iK hM hI.cl i j hed' h6;rw [hju] at this
        cases this
     obtain ⟨hog,hnext⟩:=both i him o ho hun' hed;have hgo:=hog.out a (wpAny P .any l.toArray (eV N D Q) fuel (L.setIfInBounds i true)) (eV N D Q) (fun _=>rfl) fun v w2 hv=>hnext v w2 hv;unfold wpOp;rw [ho];exact hgo
 have hr0:∀i,(Array.replicate l.toArray.size false).getD i false=false:=fun i=>by
  exact NX
 refine key _ _ _ _ ⟨hf.nd,hf.sz,by rw [hr0];exact h0,by simp,fun k o _ hk=> ?_,fun k _=>hr0 k,fun i d _ hi=> ?_,fun s _=>hf.at_ s⟩ ?_
 ·rw [hr0] at hk;cases hk
 ·rw [hr0] at hi;cases hi
 ·simp [ae8]
end
def Yu (V:Nat→VP):List Nat→Prop
 |[]=>True
 |i::r=>(∀v w w',V i v w→V i v w')∧Yu V r
theorem NF {V:Nat→VP}:∀{l:List Nat},Yu V l→∀i∈l,∀v w w',V i v w→V i v w'
 |_::_,h,i,hi=>by
  rcases abO.1 hi with rfl|hi
  ·exact h.1
  ·exact NF h.2 i hi
structure JC (w0:World) (H:List HE) (W:World):Prop where
 hp:Hp w0 H W
theorem Gw {P:Program}{ops:Array Oper}{J:World→Prop}{ρ:Rf}{T:(Nat→VP)→Prop}:∀(os:List Oper) (ss:List (List (Nat×Option Nat))) (i:Nat) (pv:Nat→VP),(∀j,i≤j→∀v w,pv j v w)→DX P ops J ρ T i pv os ss→
  ∃V,(∀j,j<i→V j=pv j)∧(∀j,i+os.length≤j→∀v w,V j v w)∧DO P ops J V ρ i os ss∧T V
 |[],[],_,pv,hpv,h=>⟨pv,fun _ _=>rfl,fun j hj=>hpv j (by simpa using hj),trivial,h⟩
 |[],_::_,_,_,_,h=>h.elim
 |_::_,[],_,_,_,h=>h.elim
 |o::os,s::ss,i,pv,hpv,⟨V,h1,h2,h3⟩=>by
  obtain ⟨V',h4,h4',h5,h6⟩:=Gw os ss (i+1) (ez pv i V) (fun j hj v w=>by rw [lT _ _ abq];exact hpv j abq v w) h3;have e:V' i=V:=by rw [h4 i abq,AX]
  refine ⟨V',fun j hj=>by rw [h4 j abq,lT _ _ abq],fun j hj=>h4' j (by simp only [ab0] at hj;omega),⟨⟨?_, ?_⟩,h5⟩,h6⟩
  ·rw [e];exact h1
  ·intro ρ1 w1 hj hr;rw [e];refine h2 ρ1 w1 hj (kW (fun j v w hh=> ?_) s hr)
   rcases acj j i with hlt|hge
   ·rw [h4 j abq,lT _ _ abq] at hh;exact hh
   ·exact hpv j hge v w
theorem Lt {Q:Kq}{id:Nat}{l:List Oper} (M:List Nat) (m μ:Nat) (src:List (List (Nat×Option Nat))) (ds:List (Nat×Nat)) {H Hc:List HE} (hh:Hp w0 H w) (F:World→Prop) (hc:Hc.Sublist H) (hm:P.follows .mixedOrders=true) (hok:l5 l m N src ds [] M=true) (hμ:μ<m)
  (hF:∀w w',F w→Below w.heap.size w w'→F w') (hFc:∀w,F w→Hp w0 Hc w)
  (h:DX P l.toArray (JC w0 Hc) ρ (fun V1=>∃o s Vm,l[μ]?=some o∧src[μ]?=some s∧(∀v w w',Vm v w→Below w.heap.size w w'→Vm v w')∧(∀ρ1 w1,Hp w0 H w1→cN V1 ρ ρ1 w1 s→OG P l.toArray o ρ1 w1 fun v w2=>F w2∧Vm v w2)∧
   DX P l.toArray (JC w0 Hc) ρ (fun V=>Yu V ((List.range m).filter (· !=μ))∧∀f w',F w'→uV V f w' ds→WL ⟨none,D,false⟩ P N l.toArray Q (l.drop m) (gD ρ f ds) w') (μ+1) (ez V1 μ Vm) ((l.take m).drop (μ+1)) (src.drop (μ+1))) 0 Wu (l.take μ) (src.take μ)):WC ⟨none,D,false⟩ P N (.region id l.toArray true) Q ρ w:=by
 obtain ⟨V1,_,a1,d1,o,s,Vm,ho,hs,hst,hog,h2⟩:=Gw _ _ _ _ (fun _ _ _ _=>trivial) h;have hml:m≤l.length:=by
  simp only [l5,abS,ab1] at hok;exact hok.1.1.1.1.1.1.1.1.1.1.1.1.1
 have hlt:(l.take μ).length=μ:=by rw [abP];omega
 rw [hlt,ab2] at a1;obtain ⟨V,b1,b2,d2,hsts,htail⟩:=Gw _ _ _ _ (fun j hj v w=>by rw [lT _ _ abq];exact a1 j abq v w) h2;have hlt2:((l.take m).drop (μ+1)).length=m-(μ+1):=by rw [acJ,abP];omega
 rw [hlt2] at b2;have eμ:V μ=Vm:=by rw [b1 μ abq,AX]
 have elt:∀j,j<μ→V j=V1 j:=fun j hj=>by rw [b1 j abq,lT _ _ abq]
 have hsw:∀j,j≠μ→∀u w w',V j u w→V j u w':=fun j hj u w w' hu=>by
  rcases acj j m with h3|h3
  ·exact NF hsts j (acX.2 ⟨ab3.2 h3,by simpa using hj⟩) u w w' hu
  ·exact b2 j abq u w'
 have hV1:∀j v w,V j v w→V1 j v w:=fun j v w hv=>by
  rcases acj j μ with h3|h3
  ·rw [←elt j h3];exact hv
  ·exact a1 j h3 v w
 have hJc:∀(f:Bool) w1,(if f then F w1 else Hp w0 H w1)→JC w0 Hc w1:=fun f w1 hj=>by
  cases f with
  |true=>exact ⟨hFc w1 hj⟩
  |false=>exact ⟨Hp.sub hj hc⟩
 have hJe:∀(f:Bool) w1 w2,(if f then F w1 else Hp w0 H w1)→Below w1.heap.size w1 w2→(if f then F w2 else Hp w0 H w2):=fun f w1 w2 hj hb=>by
  cases f with
  |true=>exact hF w1 w2 hj hb
  |false=>exact Hp.ext hj hb
 refine Mh M m μ src ds (fun f w=>if f then F w else Hp w0 H w) V hm hok hμ ?_ ?_ (fun f w' hj hv=>htail f w' hj hv)
 ·exact hh.ext ⟨rfl,rfl,rfl,abD _,fun _ _=>rfl⟩
 ·intro i oi him hoi
  rcases Nat.lt_trichotomy i μ with h3|h3|h3
  ·obtain ⟨s',hs',hst',hog'⟩:=(zU _ _ _ d1).2 i oi (by rw [ado,abx h3];exact hoi);rw [ado,abx h3] at hs';rw [ab2] at hst' hog';refine ⟨s',hs',fun ρ1 w1 f hj _ hr=>(hog' ρ1 w1 (hJc f w1 hj) (kW hV1 s' hr)).mono fun v w2 hv=>⟨?_,fun j u hji hu=> ?_, ?_⟩⟩
   ·rw [abR abq,ace];exact hJe f w1 w2 hj hv.1
   ·exact Th
   ·rw [elt i h3];exact hv.2
  ·subst h3;rw [ho] at hoi
   cases hoi
   refine ⟨s,hs,fun ρ1 w1 f hj hf hr=> ?_⟩;have hf0:=hf rfl;subst hf0;refine (hog ρ1 w1 hj (kW hV1 s hr)).mono fun v w2 hv=>⟨?_,fun j u hji hu=>hsw j hji u w1 w2 hu, ?_⟩
   ·rw [abQ rfl,Bool.true_or];exact hv.1
   ·rw [eμ];exact hv.2
  ·obtain ⟨s',hs',hst',hog'⟩:=(zU _ _ _ d2).2 (i-(μ+1)) oi (by rw [adt,show μ+1+(i-(μ+1))=i by omega,ado,abx him];exact hoi);rw [adt,show μ+1+(i-(μ+1))=i by omega] at hs';rw [show μ+1+(i-(μ+1))=i by omega] at hst' hog';refine ⟨s',hs',fun ρ1 w1 f hj _ hr=>(hog' ρ1 w1 (hJc f w1 hj) hr).mono fun v w2 hv=>⟨?_,fun j u hji hu=> ?_,hv.2⟩⟩
   ·rw [abR abq,ace];exact hJe f w1 w2 hj hv.1
   ·exact Th
end
section
variable {P:Program}{ops:Array Oper}{J:World→Prop}{ρ:Rf}{T:(Nat→VP)→Prop}{i:Nat}{pv:Nat→VP}{os:List Oper}{s:List (Nat×Option Nat)}{ss:List (List (Nat×Option Nat))}{d:Option Nat}{ty:TypeId}{pos:String}{af:Array Edge}{x y:Operand}{t u:TypeId}
theorem dp {k:IntKind}{a:Int} (kk:DX P ops J ρ T (i+1) (ez pv i (Is (.int k a))) os ss) (hx:∀ρ1 w1,J w1→cN pv ρ ρ1 w1 s→ev ρ1 x=.int k a:=by intro ρ1 w1 hj hR;first|exact hR.1|exact hR.2.1|exact hR.2.2.1|exact rfl):DX P ops J ρ T i pv (⟨d,.move x,ty,pos,af,none⟩::os) (s::ss):=a8 (fun ρ1 w1 hj h=>ek (hx ρ1 w1 hj h)) kk
theorem daI {k:IntKind}{a:Int} (kk:DX P ops J ρ T (i+1) (ez pv i (Is (.int k a))) os ss) (hx:∀ρ1 w1,J w1→cN pv ρ ρ1 w1 s→ev ρ1 x=.int k a:=by intro ρ1 w1 hj hR;first|exact hR.1|exact hR.2.1|exact hR.2.2.1|exact rfl):DX P ops J ρ T i pv (⟨d,.assign x,ty,pos,af,none⟩::os) (s::ss):=a8 (fun ρ1 w1 hj h=>EY (hx ρ1 w1 hj h)) kk
theorem ml {a:Bool} (kk:DX P ops J ρ T (i+1) (ez pv i (Is (.bool a))) os ss) (hx:∀ρ1 w1,J w1→cN pv ρ ρ1 w1 s→ev ρ1 x=.bool a:=by intro ρ1 w1 hj hR;first|exact hR.1|exact hR.2.1|exact hR.2.2.1|exact rfl):DX P ops J ρ T i pv (⟨d,.move x,ty,pos,af,none⟩::os) (s::ss):=a8 (fun ρ1 w1 hj h=>ek (hx ρ1 w1 hj h)) kk
theorem dmS {a:ByteArray} (kk:DX P ops J ρ T (i+1) (ez pv i (Is (.string a))) os ss) (hx:∀ρ1 w1,J w1→cN pv ρ ρ1 w1 s→ev ρ1 x=.string a:=by intro ρ1 w1 hj hR;first|exact hR.1|exact hR.2.1|exact hR.2.2.1|exact rfl):DX P ops J ρ T i pv (⟨d,.move x,ty,pos,af,none⟩::os) (s::ss):=a8 (fun ρ1 w1 hj h=>ek (hx ρ1 w1 hj h)) kk
theorem fO {A:Option Addr}{c:Nat} (kk:DX P ops J ρ T (i+1) (ez pv i (Is (.slice A n c))) os ss) (hx:∀ρ1 w1,J w1→cN pv ρ ρ1 w1 s→ev ρ1 x=.slice A n c:=by intro ρ1 w1 hj hR;first|exact hR.1|exact hR.2.1|exact hR.2.2.1|exact rfl):DX P ops J ρ T i pv (⟨d,.move x,ty,pos,af,none⟩::os) (s::ss):=a8 (fun ρ1 w1 hj h=>ek (hx ρ1 w1 hj h)) kk
theorem Y7 {l:List Value} (kk:DX P ops J ρ T (i+1) (ez pv i (Is (.tuple l.toArray))) os ss) (hx:∀ρ1 w1,J w1→cN pv ρ ρ1 w1 s→ev ρ1 x=.tuple l.toArray:=by intro ρ1 w1 hj hR;first|exact hR.1|exact hR.2.1|exact hR.2.2.1|exact rfl):DX P ops J ρ T i pv (⟨d,.move x,ty,pos,af,none⟩::os) (s::ss):=a8 (fun ρ1 w1 hj h=>ek (hx ρ1 w1 hj h)) kk
theorem SO {f:Fn}{l r:List Value} (kk:DX P ops J ρ T (i+1) (ez pv i (Is (.func f l.toArray r.toArray))) os ss) (hx:∀ρ1 w1,J w1→cN pv ρ ρ1 w1 s→ev ρ1 x=.func f l.toArray r.toArray:=by intro ρ1 w1 hj hR;first|exact hR.1|exact hR.2.1|exact hR.2.2.1|exact rfl):DX P ops J ρ T i pv (⟨d,.move x,ty,pos,af,none⟩::os) (s::ss):=a8 (fun ρ1 w1 hj h=>ek (hx ρ1 w1 hj h)) kk
theorem Wt {a:Option Addr} (kk:DX P ops J ρ T (i+1) (ez pv i (Is (.pointer a))) os ss) (hx:∀ρ1 w1,J w1→cN pv ρ ρ1 w1 s→ev ρ1 x=.pointer a:=by intro ρ1 w1 hj hR;first|exact hR.1|exact hR.2.1|exact hR.2.2.1|exact rfl):DX P ops J ρ T i pv (⟨d,.move x,ty,pos,af,none⟩::os) (s::ss):=a8 (fun ρ1 w1 hj h=>ek (hx ρ1 w1 hj h)) kk
theorem Yx {a:Addr} (kk:DX P ops J ρ T (i+1) (ez pv i (Is (.pointer (some a)))) os ss) (hx:∀ρ1 w1,J w1→cN pv ρ ρ1 w1 s→ev ρ1 x=.pointer (some a):=by intro ρ1 w1 hj hR;first|exact hR.1|exact hR.2.1|exact hR.2.2.1|exact rfl):DX P ops J ρ T i pv (⟨d,.nilCheck x,ty,pos,af,none⟩::os) (s::ss):=a8 (fun ρ1 w1 hj h=>vI (hx ρ1 w1 hj h)) kk
theorem dw {c:TypeId}{f:Nat} [hf:eG P c f off ft] (kk:DX P ops J ρ T (i+1) (ez pv i (Is (.pointer (some ⟨b,o+off,none⟩)))) os ss) (hx:∀ρ1 w1,J w1→cN pv ρ ρ1 w1 s→ev ρ1 x=.pointer (some ⟨b,o,none⟩):=by intro ρ1 w1 hj hR;first|exact hR.1|exact hR.2.1|exact hR.2.2.1|exact rfl):DX P ops J ρ T i pv (⟨d,.fieldAddr c x f,ty,pos,af,none⟩::os) (s::ss):=a8 (fun ρ1 w1 hj h=>ue hf.out (hx ρ1 w1 hj h)) kk
theorem CB {c:TypeId}{f:Nat} [hf:eG P c f off ft] (kk:DX P ops J ρ T (i+1) (ez pv i (Is (.pointer (some (ad.add off))))) os ss) (hx:∀ρ1 w1,J w1→cN pv ρ ρ1 w1 s→ev ρ1 x=.pointer (some ad):=by intro ρ1 w1 hj hR;first|exact hR.1|exact hR.2.1|exact hR.2.2.1|exact rfl):DX P ops J ρ T i pv (⟨d,.fieldAddr c x f,ty,pos,af,none⟩::os) (s::ss):=a8 (fun ρ1 w1 hj h=>rD hf.out (hx ρ1 w1 hj h)) kk
theorem yY {v:Value} (hc:∀w1,J w1→w1.cell? ad=some v) [ht:az P t n false by' zc] (kk:DX P ops J ρ T (i+1) (ez pv i (Is (v))) os ss) (hx:∀ρ1 w1,J w1→cN pv ρ ρ1 w1 s→ev ρ1 x=.pointer (some ad):=by intro ρ1 w1 hj hR;first|exact hR.1|exact hR.2.1|exact hR.2.2.1|exact rfl):DX P ops J ρ T i pv (⟨d,.load t x,ty,pos,af,none⟩::os) (s::ss):=a8 (fun ρ1 w1 hj h=>iF ht.out (hx ρ1 w1 hj h) (hc w1 hj)) kk
theorem p9 (vs:List Value) (hc:∀w1,J w1→Rd w1 ad vs) [ht:az P t n true by' zc] (kk:DX P ops J ρ T (i+1) (ez pv i (Is (.agg vs.toArray))) os ss) (hx:∀ρ1 w1,J w1→cN pv ρ ρ1 w1 s→ev ρ1 x=.pointer (some ad):=by intro ρ1 w1 hj hR;first|exact hR.1|exact hR.2.1|exact hR.2.2.1|exact rfl) (hl:vs.length=n:=by exact rfl):DX P ops J ρ T i pv (⟨d,.load t x,ty,pos,af,none⟩::os) (s::ss):=a8 (fun ρ1 w1 hj h=>xz ht.out (hx ρ1 w1 hj h) (hc w1 hj) hl) kk
theorem fF {H:List HE}{v:Value} (j:Nat) [ht:az P t n false by' zc] (kk:DX P ops (JJ w0 H w) ρ T (i+1) (ez pv i (Is (v))) os ss) (hx:∀ρ1 w1,JJ w0 H w w1→cN pv ρ ρ1 w1 s→ev ρ1 x=.pointer (some ⟨b,o,none⟩):=by intro ρ1 w1 hj hR;first|exact hR.1|exact hR.2.1|exact hR.2.2.1|exact rfl) (hi:H[j]?=some (.blk b t' cs fz):=by exact rfl) (hv:cs[o]?=some v:=by exact rfl):DX P ops (JJ w0 H w) ρ T i pv (⟨d,.load t x,ty,pos,af,none⟩::os) (s::ss):=a8 (fun ρ1 w1 hj h=>iF ht.out (hx ρ1 w1 hj h) (hj.hp.ej hi hv)) kk
theorem da {H:List HE} (j:Nat) (vs:List Value) [ht:az P t n true by' zc] (kk:DX P ops (JJ w0 H w) ρ T (i+1) (ez pv i (Is (.agg vs.toArray))) os ss) (hx:∀ρ1 w1,JJ w0 H w w1→cN pv ρ ρ1 w1 s→ev ρ1 x=.pointer (some ⟨b,o,none⟩):=by intro ρ1 w1 hj hR;first|exact hR.1|exact hR.2.1|exact hR.2.2.1|exact rfl) (hi:H[j]?=some (.blk b t' cs fz):=by exact rfl) (hv:(cs.drop o).take n=vs:=by exact rfl) (hl:vs.length=n:=by exact rfl):DX P ops (JJ w0 H w) ρ T i pv (⟨d,.load t x,ty,pos,af,none⟩::os) (s::ss):=a8 (fun ρ1 w1 hj h=>xz ht.out (hx ρ1 w1 hj h) (hj.hp.aE hi hv) hl) kk
theorem pY {e:TypeId}{B:Option Addr}{c:Nat} [ht:bq P t (.slice e)] (kk:DX P ops J ρ T (i+1) (ez pv i (Is (.int .i64 n))) os ss) (hx:∀ρ1 w1,J w1→cN pv ρ ρ1 w1 s→ev ρ1 x=.slice B n c:=by intro ρ1 w1 hj hR;first|exact hR.1|exact hR.2.1|exact hR.2.2.1|exact rfl):DX P ops J ρ T i pv (⟨d,.call ⟨.builtin .len, #[x], #[t]⟩,ty,pos,af,none⟩::os) (s::ss):=a8 (fun ρ1 w1 hj h=>Cx ht.out (hx ρ1 w1 hj h)) kk
theorem AG {k:IntKind}{a b:Int} (kk:DX P ops J ρ T (i+1) (ez pv i (Is (.bool r))) os ss) (hx:∀ρ1 w1,J w1→cN pv ρ ρ1 w1 s→ev ρ1 x=.int k a:=by intro ρ1 w1 hj hR;first|exact hR.1|exact hR.2.1|exact hR.2.2.1|exact rfl) (hy:∀ρ1 w1,J w1→cN pv ρ ρ1 w1 s→ev ρ1 y=.int k b:=by intro ρ1 w1 hj hR;first|exact hR.1|exact hR.2.1|exact hR.2.2.1|exact rfl) (hr:decide (a<b)=r:=by first|exact abQ abq|exact abR abq|exact rfl):DX P ops J ρ T i pv (⟨d,.binOp .lss t x y u,ty,pos,af,none⟩::os) (s::ss):=a8 (fun ρ1 w1 hj h=>by rw [←hr];exact IP (hx ρ1 w1 hj h) (hy ρ1 w1 hj h)) kk
theorem ZE {k:IntKind}{a b:Int} (kk:DX P ops J ρ T (i+1) (ez pv i (Is (.bool r))) os ss) (hx:∀ρ1 w1,J w1→cN pv ρ ρ1 w1 s→ev ρ1 x=.int k a:=by intro ρ1 w1 hj hR;first|exact hR.1|exact hR.2.1|exact hR.2.2.1|exact rfl) (hy:∀ρ1 w1,J w1→cN pv ρ ρ1 w1 s→ev ρ1 y=.int k b:=by intro ρ1 w1 hj hR;first|exact hR.1|exact hR.2.1|exact hR.2.2.1|exact rfl) (hr:decide (a≤b)=r:=by first|exact abQ abq|exact abR abq|exact rfl):DX P ops J ρ T i pv (⟨d,.binOp .leq t x y u,ty,pos,af,none⟩::os) (s::ss):=a8 (fun ρ1 w1 hj h=>by rw [←hr];exact Im (hx ρ1 w1 hj h) (hy ρ1 w1 hj h)) kk
theorem RT {k:IntKind}{a b:Int} (kk:DX P ops J ρ T (i+1) (ez pv i (Is (.bool r))) os ss) (hx:∀ρ1 w1,J w1→cN pv ρ ρ1 w1 s→ev ρ1 x=.int k a:=by intro ρ1 w1 hj hR;first|exact hR.1|exact hR.2.1|exact hR.2.2.1|exact rfl) (hy:∀ρ1 w1,J w1→cN pv ρ ρ1 w1 s→ev ρ1 y=.int k b:=by intro ρ1 w1 hj hR;first|exact hR.1|exact hR.2.1|exact hR.2.2.1|exact rfl) (hr:decide (b<a)=r:=by first|exact abQ abq|exact abR abq|exact rfl):DX P ops J ρ T i pv (⟨d,.binOp .gtr t x y u,ty,pos,af,none⟩::os) (s::ss):=a8 (fun ρ1 w1 hj h=>by rw [←hr];exact H0 (hx ρ1 w1 hj h) (hy ρ1 w1 hj h)) kk
theorem tm {k:IntKind}{a b:Int} (kk:DX P ops J ρ T (i+1) (ez pv i (Is (.bool r))) os ss) (hx:∀ρ1 w1,J w1→cN pv ρ ρ1 w1 s→ev ρ1 x=.int k a:=by intro ρ1 w1 hj hR;first|exact hR.1|exact hR.2.1|exact hR.2.2.1|exact rfl) (hy:∀ρ1 w1,J w1→cN pv ρ ρ1 w1 s→ev ρ1 y=.int k b:=by intro ρ1 w1 hj hR;first|exact hR.1|exact hR.2.1|exact hR.2.2.1|exact rfl) (hr:decide (a=b)=r:=by first|exact abQ abq|exact abR abq|exact rfl):DX P ops J ρ T i pv (⟨d,.binOp .eql t x y u,ty,pos,af,none⟩::os) (s::ss):=a8 (fun ρ1 w1 hj h=>by rw [←hr];exact JM (hx ρ1 w1 hj h) (hy ρ1 w1 hj h)) kk
theorem tk {a b:Int} (kk:DX P ops J ρ T (i+1) (ez pv i (Is (.int .i64 (a+b)))) os ss) (hx:∀ρ1 w1,J w1→cN pv ρ ρ1 w1 s→ev ρ1 x=.int .i64 a:=by intro ρ1 w1 hj hR;first|exact hR.1|exact hR.2.1|exact hR.2.2.1|exact rfl) (hy:∀ρ1 w1,J w1→cN pv ρ ρ1 w1 s→ev ρ1 y=.int .i64 b:=by intro ρ1 w1 hj hR;first|exact hR.1|exact hR.2.1|exact hR.2.2.1|exact rfl) (h1: -9223372036854775808≤a+b:=by omega) (h2:a+b≤9223372036854775807:=by omega):DX P ops J ρ T i pv (⟨d,.binOp .add t x y u,ty,pos,af,none⟩::os) (s::ss):=a8 (fun ρ1 w1 hj h=>M3 (hx ρ1 w1 hj h) (hy ρ1 w1 hj h) h1 h2) kk
theorem uS {a b:Int} (kk:DX P ops J ρ T (i+1) (ez pv i (Is (.int .i64 (a-b)))) os ss) (hx:∀ρ1 w1,J w1→cN pv ρ ρ1 w1 s→ev ρ1 x=.int .i64 a:=by intro ρ1 w1 hj hR;first|exact hR.1|exact hR.2.1|exact hR.2.2.1|exact rfl) (hy:∀ρ1 w1,J w1→cN pv ρ ρ1 w1 s→ev ρ1 y=.int .i64 b:=by intro ρ1 w1 hj hR;first|exact hR.1|exact hR.2.1|exact hR.2.2.1|exact rfl) (h1: -9223372036854775808≤a-b:=by omega) (h2:a-b≤9223372036854775807:=by omega):DX P ops J ρ T i pv (⟨d,.binOp .sub t x y u,ty,pos,af,none⟩::os) (s::ss):=a8 (fun ρ1 w1 hj h=>P0 (hx ρ1 w1 hj h) (hy ρ1 w1 hj h) h1 h2) kk
theorem WO {a b:Int} (kk:DX P ops J ρ T (i+1) (ez pv i (Is (.int .i64 (a*b)))) os ss) (hx:∀ρ1 w1,J w1→cN pv ρ ρ1 w1 s→ev ρ1 x=.int .i64 a:=by intro ρ1 w1 hj hR;first|exact hR.1|exact hR.2.1|exact hR.2.2.1|exact rfl) (hy:∀ρ1 w1,J w1→cN pv ρ ρ1 w1 s→ev ρ1 y=.int .i64 b:=by intro ρ1 w1 hj hR;first|exact hR.1|exact hR.2.1|exact hR.2.2.1|exact rfl) (h1: -9223372036854775808≤a*b:=by omega) (h2:a*b≤9223372036854775807:=by omega):DX P ops J ρ T i pv (⟨d,.binOp .mul t x y u,ty,pos,af,none⟩::os) (s::ss):=a8 (fun ρ1 w1 hj h=>Ok (hx ρ1 w1 hj h) (hy ρ1 w1 hj h) h1 h2) kk
theorem LH {b:Bool} (kk:DX P ops J ρ T (i+1) (ez pv i (Is (.bool !b))) os ss) (hx:∀ρ1 w1,J w1→cN pv ρ ρ1 w1 s→ev ρ1 x=.bool b:=by intro ρ1 w1 hj hR;first|exact hR.1|exact hR.2.1|exact hR.2.2.1|exact rfl):DX P ops J ρ T i pv (⟨d,.unOp .not t x,ty,pos,af,none⟩::os) (s::ss):=a8 (fun ρ1 w1 hj h=>UA (hx ρ1 w1 hj h)) kk
theorem V0 {v:Value} (kk:DX P ops J ρ T (i+1) (ez pv i (Is (v))) os ss) (hx:∀ρ1 w1,J w1→cN pv ρ ρ1 w1 s→ev ρ1 x=.tuple vs.toArray:=by intro ρ1 w1 hj hR;first|exact hR.1|exact hR.2.1|exact hR.2.2.1|exact rfl) (hv:vs[j]?=some v:=by exact rfl):DX P ops J ρ T i pv (⟨d,.extract x j,ty,pos,af,none⟩::os) (s::ss):=a8 (fun ρ1 w1 hj h=>dT (hx ρ1 w1 hj h) hv) kk
theorem Iz {c a b:Operand}{v:Bool} (kk:DX P ops J ρ T (i+1) (ez pv i (Is (.bool v))) os ss) (hc:∀ρ1 w1,J w1→cN pv ρ ρ1 w1 s→ev ρ1 c=.bool true:=by intro ρ1 w1 hj hR;first|exact hR.1|exact hR.2.1|exact hR.2.2.1|exact rfl) (hx:∀ρ1 w1,J w1→cN pv ρ ρ1 w1 s→ev ρ1 a=.bool v:=by intro ρ1 w1 hj hR;first|exact hR.1|exact hR.2.1|exact hR.2.2.1|exact rfl):DX P ops J ρ T i pv (⟨d,.pick c a b,ty,pos,af,none⟩::os) (s::ss):=a8 (fun ρ1 w1 hj h=>ES (hc ρ1 w1 hj h) (hx ρ1 w1 hj h)) kk
theorem Sb {c a b:Operand}{v:Bool} (kk:DX P ops J ρ T (i+1) (ez pv i (Is (.bool v))) os ss) (hc:∀ρ1 w1,J w1→cN pv ρ ρ1 w1 s→ev ρ1 c=.bool false:=by intro ρ1 w1 hj hR;first|exact hR.1|exact hR.2.1|exact hR.2.2.1|exact rfl) (hx:∀ρ1 w1,J w1→cN pv ρ ρ1 w1 s→ev ρ1 b=.bool v:=by intro ρ1 w1 hj hR;first|exact hR.1|exact hR.2.1|exact hR.2.2.1|exact rfl):DX P ops J ρ T i pv (⟨d,.pick c a b,ty,pos,af,none⟩::os) (s::ss):=a8 (fun ρ1 w1 hj h=>Fj (hc ρ1 w1 hj h) (hx ρ1 w1 hj h)) kk
theorem CN {e:TypeId}{c sz:Nat}{q:IntKind}{m:Int} (k:Nat) [ht:bq P t (.slice e)] [hs:TS P e sz] (kk:DX P ops J ρ T (i+1) (ez pv i (Is (.pointer (some ⟨b,k*sz,none⟩)))) os ss) (hx:∀ρ1 w1,J w1→cN pv ρ ρ1 w1 s→ev ρ1 x=.slice (some ⟨b,0,none⟩) n c:=by intro ρ1 w1 hj hR;first|exact hR.1|exact hR.2.1|exact hR.2.2.1|exact rfl) (hy:∀ρ1 w1,J w1→cN pv ρ ρ1 w1 s→ev ρ1 y=.int q m:=by intro ρ1 w1 hj hR;first|exact hR.1|exact hR.2.1|exact hR.2.2.1|exact rfl) (hm:m=(k:Int):=by omega) (h1:k<n:=by omega):DX P ops J ρ T i pv (⟨d,.indexAddr t x y,ty,pos,af,none⟩::os) (s::ss):=a8 (fun ρ1 w1 hj h=>rb ht.out hs.out (hx ρ1 w1 hj h) (hy ρ1 w1 hj h) hm h1) kk
theorem mU {e:TypeId}{c sz:Nat}{q:IntKind}{m:Int} (k:Nat) [ht:bq P t (.slice e)] [hs:TS P e sz] (kk:DX P ops J ρ T (i+1) (ez pv i (Is (.pointer (some (ad.add (k*sz)))))) os ss) (hx:∀ρ1 w1,J w1→cN pv ρ ρ1 w1 s→ev ρ1 x=.slice (some ad) n c:=by intro ρ1 w1 hj hR;first|exact hR.1|exact hR.2.1|exact hR.2.2.1|exact rfl) (hy:∀ρ1 w1,J w1→cN pv ρ ρ1 w1 s→ev ρ1 y=.int q m:=by intro ρ1 w1 hj hR;first|exact hR.1|exact hR.2.1|exact hR.2.2.1|exact rfl) (hm:m=(k:Int):=by omega) (h1:k<n:=by omega):DX P ops J ρ T i pv (⟨d,.indexAddr t x y,ty,pos,af,none⟩::os) (s::ss):=a8 (fun ρ1 w1 hj h=>iC ht.out hs.out (hx ρ1 w1 hj h) (hy ρ1 w1 hj h) hm h1) kk
theorem dC {f:FuncId}{ts:Array TypeId}{v:Value} (hc:∀w1,J w1→Calls P f vs.toArray w1 fun e w'=>e=.returned v∧Below w1.heap.size w1 w') [hf:ak P f] (kk:DX P ops J ρ T (i+1) (ez pv i (Is (v))) os ss) (ha:∀ρ1 w1,J w1→cN pv ρ ρ1 w1 s→xI ρ1 args.toList=vs:=by intro ρ1 w1 hj hR;repeat (first|exact aY|(apply aq;first|exact hR.1|exact hR.2.1|exact hR.2.2.1|exact hR.2.2.2.1|exact rfl))):DX P ops J ρ T i pv (⟨d,.call ⟨.value (.func f),args,ts⟩,ty,pos,af,none⟩::os) (s::ss):=RR (fun ρ1 w1 hj h=>aR hf.out (ha ρ1 w1 hj h)) hc kk
theorem dB {pl:List (Nat×Nat)} (cs:List Value) [hte:az P t n true by' zc] [hpl:kg P t pl] (kk:DX P ops J ρ T (i+1) (ez pv i (Is (.agg cs.toArray))) os ss) (hp:∀ρ1 w1,J w1→cN pv ρ ρ1 w1 s→Cm ρ1 parts.toList=ps:=by intro ρ1 w1 hj hR;repeat (first|exact dk|(apply bC;first|exact hR.1|exact hR.2.1|exact hR.2.2.1|exact hR.2.2.2.1|exact rfl))) (hf:lR (pl[·]?) zc ps=some cs:=by exact rfl):DX P ops J ρ T i pv (⟨d,.build t parts,ty,pos,af,none⟩::os) (s::ss):=a8 (fun ρ1 w1 hj h=>ng hte.out hpl.out (hp ρ1 w1 hj h) hf) kk
theorem uW {e:TypeId}{len sz:Nat} (cs:List Value) [ht:bq P t (.slice e)] [hte:az P e sz ag by' zc] (kk:DX P ops J ρ T (i+1) (ez pv i (Rows len sz cs)) os ss) (hp:∀ρ1 w1,J w1→cN pv ρ ρ1 w1 s→Cm ρ1 parts.toList=ps:=by intro ρ1 w1 hj hR;repeat (first|exact dk|(apply bC;first|exact hR.1|exact hR.2.1|exact hR.2.2.1|exact hR.2.2.2.1|exact rfl))) (hzl:zc.length=sz:=by exact rfl) (hf:lR (fun i=>some (i*sz,sz)) (hZ len zc) ps=some cs:=by exact rfl) (h0:¬len*sz=0:=by decide) (hsl:len*sz≤16777216:=by decide) (hl:cs.length=len*sz:=by exact rfl):DX P ops J ρ T i pv (⟨d,.buildSlice t len parts,ty,pos,af,none⟩::os) (s::ss):=yI ht.out hte.out hp hzl hf h0 hsl hl kk
theorem dS {b c:Bool}{op:Op} (kk:DX P ops J ρ T (i+1) (ez pv i (Is (undef))) os ss) (hj:(ops[j]?).bind (·.dst)=some dj:=by exact rfl) (hv:∀ρ1 w1,J w1→cN pv ρ ρ1 w1 s→ρ1 dj=.bool c:=by intro ρ1 w1 hj hR;first|exact hR.1|exact hR.2.1|exact hR.2.2.1|exact hR.2.2.2.1) (hb:c≠b:=by decide):DX P ops J ρ T i pv (⟨d,op,ty,pos,af,some (j,b)⟩::os) (s::ss):=pO hj hv hb kk
theorem dU {b:Bool}{op:Op} (kk:DX P ops J ρ T (i+1) (ez pv i (Is (undef))) os ss) (hj:(ops[j]?).bind (·.dst)=some dj:=by exact rfl) (hv:∀ρ1 w1,J w1→cN pv ρ ρ1 w1 s→ρ1 dj=undef:=by intro ρ1 w1 hj hR;first|exact hR.1|exact hR.2.1|exact hR.2.2.1|exact hR.2.2.2.1):DX P ops J ρ T i pv (⟨d,op,ty,pos,af,some (j,b)⟩::os) (s::ss):=CZ hj hv kk
theorem dG {b:Bool}{op:Op} (kk:DX P ops J ρ T i pv (⟨d,op,ty,pos,af,none⟩::os) (s::ss)) (hj:(ops[j]?).bind (·.dst)=some dj:=by exact rfl) (hv:∀ρ1 w1,J w1→cN pv ρ ρ1 w1 s→ρ1 dj=.bool b:=by intro ρ1 w1 hj hR;first|exact hR.1|exact hR.2.1|exact hR.2.2.1|exact hR.2.2.2.1):DX P ops J ρ T i pv (⟨d,op,ty,pos,af,some (j,b)⟩::os) (s::ss):=let ⟨V,h1,h2,h3⟩:=kk;⟨V,h1,fun ρ1 w1 hj1 h=>dW hj (hv ρ1 w1 hj1 h) (h2 ρ1 w1 hj1 h),h3⟩
end
variable {cy:Nat}{ys:List Nat}
section
variable {ro:Mode}
section
variable {P:Program}{N:Nat}{ops:Array Oper}{Q:Kq}{ρ:Rf}{w w0:World}{rest:List Oper}{H:List HE}{d:Nat}{ty:TypeId}{pos:String}{af:Array Edge}
theorem JF (hh:Hp w0 H w) {t s e:TypeId}{x y:Operand}{i c dl dc sz:Nat}{B:Option Addr}{xs news:List Value} (hi:H[i]?=some (.row (some ⟨b,0,none⟩) m c e sz xs)) (hx:ev ρ x=.slice (some ⟨b,o,none⟩) dl dc) (hy:ev ρ y=.slice B n cy)
  (hsl:Sl w B n sz news) (ht:P.underlying t=some (.slice e)) (hte:dy P e=some (sz,ag,by',zc)) (ho:o+min n dl*sz≤xs.length) (h1:(news.all Value.oneCell')=true) (hN:d<N)
  (kk:∀w',Hp w0 (H.set i (.row (some ⟨b,0,none⟩) m c e sz (bK xs o (news.take (min n dl*sz))))) w'→WL ro P N ops Q rest (cg ρ d (.int .i64 ((min n dl:Nat):Int))) w'):
  WL ro P N ops Q (⟨some d,.call ⟨.builtin .copy, #[x,y], #[t,s]⟩,ty,pos,af,none⟩::rest) ρ w:=by
 obtain ⟨inf,z,dd,hti,hd,hz,hsz,hby,hzc,_⟩:=gg hte;have hrow:=hh.at_ hi;obtain ⟨hlen,h2⟩:=hrow;have hnl:=hsl.1;have hmin:min n dl*sz≤n*sz:=acx _ (Nat.min_le_left _ _);have hvl:(news.take (min n dl*sz)).length=min n dl*sz:=by rw [abP];omega
 have h1':∀v∈news.take (min n dl*sz),v.oneCell'=true:=fun v hv=>ab6.1 h1 v (adx hv);have hcells:(Builtin.firstCells sz (min n dl) (.slice B n cy)).run P w=.ok (news.take (min n dl*sz)).toArray w:=by
  cases B with
  |none=>
   have h0:n=0:=by
    rcases adw n with h0|h0
    ·exact h0
    ·obtain ⟨ad,h1,_⟩:=hsl.2 h0;cases h1
   subst h0;simp [Builtin.firstCells]
  |some ad=>
   have hrd:∀j u,(news.take (min n dl*sz))[j]?=some u→w.cell? (ad.add j)=some u:=by
    intro j u hj;rw [ado] at hj;split at hj
    ·rcases adw n with h0|h0
     ·subst h0;have:news=[]:=adB (by simpa using hnl);simp [this] at hj
     ·obtain ⟨ad',he,hr'⟩:=hsl.2 h0;injection he with he
      subst he;exact hr' j u hj
    ·cases hj
   have:=run_loadCells_list (P:=P) w ad _ hrd;rw [hvl] at this;simpa [Builtin.firstCells] using this
 generalize news.take (min n dl*sz)=vs at hvl h1' hcells kk;rw [←hvl] at ho
 rcases h2 with ⟨h2,_⟩|⟨g,cap,cur,hv,hg,hheap,hmc,hcm,hcur,htake⟩
 ·injection h2 with h2;cases h2
 ·injection hv with hA hn hcap
  injection hA with hA
  injection hA with hA
  subst hA;subst hcap;have hcl:cur.size=cur.toList.length:=by simp
  have hle:m*sz≤c*sz:=acx _ hmc;obtain ⟨w',hr,hb',hgr,hs⟩:=gW (P:=P) (b:=b) (t:=e) (fz:=(0,0)) o vs 0 cur.toList w (by simpa using hheap) (.inr (abD _)) (by rw [←hcl];omega) h1';refine aM rfl rfl hN (w':=w') (v:=.int .i64 ((min n dl:Nat):Int)) ?_ (kk w' (hh.grown hi hgr (.inl rfl) ⟨by rw [fD abq];exact hlen,.inr ⟨b,c,(bK cur.toList o vs).toArray,rfl,hg,by simpa using hb',hmc,hcm, ?_, ?_⟩⟩))
  ·have hmm:Nat.min n dl=min n dl:=rfl;simp only [execOp,resolve,invoke,hx,hy,List.map_toArray,ab8,acF];simp [builtin,Builtin.copy_,run_underlying ht,Builtin.lenOf,sizeOf,typeInfo,hti,hsz,hmm,hcells,hr,goInt]
  ·simp only [aei];rw [fD (by rw [←hcl];omega),←hcl,hcur]
  ·exact Ya
end
end
def aU (B:Nat):List Nat→Nat
 |[]=>0
 |d::l=>d+B*aU B l
def bH (B:Nat):Nat→Nat→List Nat
 |0,_=>[]
 |k+1,n=>n % B::bH B k (n/B)
def dR:List Nat→List Nat
 |[]=>[]
 |d::l=>match dR l with
  |[]=>if d=0 then [] else [d]
  |e::m=>d::e::m
def aK (B n:Nat):List Nat:=dR (bH B (n.log2+1) n)
def Dg (B:Nat) (l:List Nat):Prop:=∀d∈l,d<B
section
variable {B:Nat}
theorem Dg.nil:Dg B []:=fun _ h=>(nomatch h)
theorem Dg.cons {d:Nat}{l:List Nat} (h:d<B) (hl:Dg B l):Dg B (d::l):=fun x hx=>by
 rcases abO.1 hx with rfl|hx
 ·exact h
 ·exact hl x hx
theorem Dg.head {d:Nat}{l:List Nat} (h:Dg B (d::l)):d<B:=h d abF
theorem Dg.tail {d:Nat}{l:List Nat} (h:Dg B (d::l)):Dg B l:=fun x hx=>h x (abN _ hx)
theorem Dg.append {l m:List Nat} (h:Dg B l) (h':Dg B m):Dg B (l++m):=fun x hx=>by
 rcases acq.1 hx with hx|hx
 ·exact h x hx
 ·exact h' x hx
theorem Dg.sub {l m:List Nat} (h:Dg B l) (h':m.Sublist l):Dg B m:=fun x hx=>h x (h'.subset hx)
theorem Dg.take {l:List Nat} (h:Dg B l) (n:Nat):Dg B (l.take n):=h.sub (List.take_sublist n l)
theorem Dg.drop {l:List Nat} (h:Dg B l) (n:Nat):Dg B (l.drop n):=h.sub (List.drop_sublist n l)
theorem Dg.at_ {l:List Nat} (h:Dg B l) {i d:Nat} (hi:l[i]?=some d):d<B:=h d (abz hi)
theorem Dg.PC {l:List Nat} (h:Dg B l) (i:Nat) {d:Nat} (hd:d<B):Dg B (l.set i d):=fun x hx=>by
 rcases aeN hx with hx|rfl
 ·exact h x hx
 ·exact hd
theorem Dg.eI (hB:0<B) (n:Nat):Dg B (List.replicate n 0):=fun x hx=>by rw [List.eq_of_mem_replicate hx];exact hB
theorem cI (l m:List Nat):aU B (l++m)=aU B l+B^l.length*aU B m:=by
 induction l with
 |nil=>simp [aU]
 |cons d l ih=>simp only [abE,aU,ih,ab0,acr];rw [acw,aet];congr 2;rw [←acE,abU B]
theorem gi {l:List Nat} (h:Dg B l):aU B l<B^l.length:=by
 induction l with
 |nil=>simp [aU]
 |cons d l ih=>
  have h1:=ih h.tail;have h2:=h.head;simp only [aU,ab0,acr]
  calc d+B*aU B l<B+B*aU B l:=by omega
   _=B*(aU B l+1):=by rw [acw,abZ,adD]
   _≤B*B^l.length:=acd _ h1
   _=B^l.length*B:=abU _ _
theorem j0 (n:Nat):aU B (List.replicate n 0)=0:=by
 induction n with
 |zero=>rfl
 |succ n ih=>simp [ad5,aU,ih]
theorem aN (k n:Nat):(bH B k n).length=k:=by
 induction k generalizing n with
 |zero=>rfl
 |succ k ih=>simp [bH,ih]
theorem gu (hB:0<B) (k n:Nat):Dg B (bH B k n):=by
 induction k generalizing n with
 |zero=>exact Dg.nil
 |succ k ih=>exact Dg.cons (ab4 _ hB) (ih _)
theorem N5 (k n:Nat):aU B (bH B k n)=n % B^k:=by
 induction k generalizing n with
 |zero=>simp [bH,aU,Nat.mod_one]
 |succ k ih=>rw [bH,aU,ih,acr,abU (B^k),Nat.mod_mul]
theorem cG (h:n<B^k):aU B (bH B k n)=n:=by rw [N5,aci h]
theorem ri {l:List Nat} (h:Dg B l):bH B l.length (aU B l)=l:=by
 induction l with
 |nil=>rfl
 |cons d l ih=>
  have hd:=h.head;simp only [ab0,bH,aU];rw [adF,aci hd,ac2 _ _ abq,acz hd,ab2,ih h.tail]
theorem Bu {l m:List Nat} (hl:Dg B l) (hm:Dg B m) (hlen:l.length=m.length) (h:aU B l=aU B m):l=m:=by
 rw [←ri hl,←ri hm,hlen,h]
theorem jJ (k n i:Nat) (h:i<k):(bH B k n)[i]?=some (n/B^i % B):=by
 induction k generalizing n i with
 |zero=>omega
 |succ k ih=>
  cases i with
  |zero=>simp [bH]
  |succ i=>simp only [bH,aen];rw [ih _ _ abq,ac4,acr,abU B]
theorem u2 {l:List Nat} (h:Dg B l) {i d:Nat} (hi:l[i]?=some d):aU B l/B^i % B=d:=by
 have h1:=jJ (B:=B) l.length (aU B l) i (abM.1 hi).1;rw [ri h,hi] at h1;injection h1 with h1
 exact h1.symm
theorem sf {l:List Nat} (h:Dg B l) {i:Nat} (hi:l.length≤i) (hB:0<B):aU B l/B^i=0:=
 acz (acu (gi h) (ach hB hi))
theorem gU (l:List Nat) (i:Nat) (h:i≤l.length):aU B l=aU B (l.take i)+B^i*aU B (l.drop i):=by
 have:=cI (B:=B) (l.take i) (l.drop i);rw [acH,List.length_take_of_le h] at this;exact this
theorem Es {l:List Nat} (h:Dg B l) (i:Nat) (hB:0<B):aU B (l.drop i)=aU B l/B^i:=by
 by_cases hi:i≤l.length
 ·rw [gU l i hi];have h1:=gi (h.take i);rw [List.length_take_of_le hi] at h1;rw [ac2 _ _ (ab7 hB),acz h1,ab2]
 ·rw [ae4 abq,sf h abq hB];rfl
theorem OD {l:List Nat} (h:Dg B l) (i:Nat) (hi:i≤l.length):aU B (l.take i)=aU B l % B^i:=by
 rw [gU l i hi,adF,aci];have h1:=gi (h.take i);rwa [List.length_take_of_le hi] at h1
theorem jK (l:List Nat):aU B (dR l)=aU B l:=by
 induction l with
 |nil=>rfl
 |cons d l ih=>
  simp only [dR,aU];split
  ·rename_i h;rw [h] at ih;simp only [aU] at ih;split
   ·rename_i h0;rw [h0,←ih];simp [aU]
   ·rw [←ih];simp [aU]
  ·rename_i e m h;rw [h] at ih;rw [←ih];rfl
theorem kS (l:List Nat):dR l=l.take (dR l).length:=by
 induction l with
 |nil=>rfl
 |cons d l ih=>
  simp only [dR];split
  ·split
   ·rfl
   ·simp
  ·rename_i e m h;rw [h] at ih;simp only [ab0,aee] at ih ⊢;rw [←ih]
theorem eJ (l:List Nat):(dR l).length≤l.length:=by
 have:=acm List.length (kS l);rw [abP] at this;omega
theorem AA (l:List Nat):(dR l).getLast?≠some 0:=by
 induction l with
 |nil=>simp [dR]
 |cons d l ih=>
  simp only [dR];split
  ·split
   ·simp
   ·simpa
  ·rename_i e m h;rw [h] at ih;rwa [List.getLast?_cons_cons]
theorem Dg.cut {l:List Nat} (h:Dg B l):Dg B (dR l):=by rw [kS];exact h.take _
theorem Lj {l:List Nat} (h:l.getLast?≠some 0):dR l=l:=by
 induction l with
 |nil=>rfl
 |cons d l ih=>
  cases l with
  |nil=>simp only [dR];rw [abw];intro h0;subst h0;simp at h
  |cons e m=>
   rw [List.getLast?_cons_cons] at h;rw [dR,ih h]
theorem vY (l:List Nat):dR (l++[0])=dR l:=by
 induction l with
 |nil=>simp [dR]
 |cons d l ih=>simp only [abE,dR,ih]
theorem zV {l:List Nat}{d:Nat} (h:d≠0):dR (l++[d])=l++[d]:=Lj (by simpa using h)
def Can (B:Nat) (l:List Nat):Prop:=Dg B l∧l.getLast?≠some 0
theorem Can.cut {l:List Nat} (h:Dg B l):Can B (dR l):=⟨h.cut,AA l⟩
theorem NZ {l:List Nat} (h:l.getLast?≠some 0) (hn:l≠[]):B^(l.length-1)≤aU B l:=by
 have h1:=List.dropLast_concat_getLast hn;have h2:l.getLast hn≠0:=by
  intro h0;apply h;rw [List.getLast?_eq_some_getLast hn,h0]
 rw [←h1,cI];simp only [abJ,List.length_dropLast,ab0,aer];have:l.length-1+(0+1)-1=l.length-1:=abq;rw [this];simp only [aU,adT,acY];exact abW (aff _ (Nat.pos_of_ne_zero h2)) (Nat.le_add_left _ _)
theorem Can.vO {l m:List Nat} (hl:Can B l) (hm:Can B m) (hB:1<B) (h:aU B l≤aU B m):l.length≤m.length:=by
 rcases acj m.length l.length with hlt|hge
 ·exfalso;have hn:l≠[]:=by intro h0;simp [h0] at hlt
  have h1:=NZ (B:=B) hl.2 hn;have h2:=gi hm.1;have h3:B^m.length≤B^(l.length-1):=ach abq abq;exact Nat.lt_irrefl _ (acu h2 (abW h3 (abW h1 h)))
 ·exact hge
theorem Can.inj {l m:List Nat} (hl:Can B l) (hm:Can B m) (hB:1<B) (h:aU B l=aU B m):l=m:=
 Bu hl.1 hm.1 (Nat.le_antisymm (hl.vO hm hB (Nat.le_of_eq h)) (hm.vO hl hB (Nat.le_of_eq h.symm))) h
theorem ea (hB:0<B) (n:Nat):Can B (aK B n):=Can.cut (gu hB _ _)
theorem CY (hB:1<B) (n:Nat):n<B^(n.log2+1):=by
 have h1:n<2^(n.log2+1):=Nat.lt_log2_self;exact acu h1 (Nat.pow_le_pow_left hB _)
theorem eM (hB:1<B) (n:Nat):aU B (aK B n)=n:=by
 rw [aK,jK,cG (CY hB n)]
theorem EM (hB:1<B) {l:List Nat} (h:Can B l):aK B (aU B l)=l:=
 (ea abq _).inj h hB (eM hB _)
theorem jn (hB:1<B) {l:List Nat} (h:Dg B l):dR l=aK B (aU B l):=by
 rw [←jK,EM hB (Can.cut h)]
theorem iz (hB:1<B):aK B 0=[]:=(ea abq 0).inj ⟨Dg.nil,by simp⟩ hB (by rw [eM hB];rfl)
theorem rZ (hB:1<B):aK B n=[]↔n=0:=by
 constructor
 ·intro h;have:=eM hB n;rw [h] at this;exact this.symm
 ·intro h;rw [h,iz hB]
theorem fQ (hB:1<B) (h:n<B^k):(aK B n).length≤k:=by
 have h1:dR (bH B k n)=aK B n:=by rw [jn hB (gu abq _ _),cG h]
 have:=eJ (bH B k n);rw [h1,aN] at this;exact this
theorem m0 (hB:1<B) (n:Nat):n<B^(aK B n).length:=by
 have:=gi (ea (B:=B) abq n).1;rwa [eM hB] at this
theorem kd (hB:1<B) {a:Nat} (h:a≤b):(aK B a).length≤(aK B b).length:=
 (ea abq a).vO (ea abq b) hB (by rw [eM hB,eM hB];exact h)
theorem we (hB:1<B) {i:Nat} (h:i<(aK B n).length):(aK B n)[i]?=some (n/B^i % B):=by
 have h1:=ac1 h;rw [h1];have h2:=u2 (ea (B:=B) abq n).1 h1;rw [eM hB] at h2;rw [h2]
theorem J5 (hB:1<B) (h:n≠0):aK B n=n % B::aK B (n/B):=by
 refine (ea abq n).inj ⟨Dg.cons (ab4 _ abq) (ea abq _).1, ?_⟩ hB ?_
 ·cases hd:aK B (n/B) with
  |nil=>
   rw [rZ hB] at hd;have:n=n % B:=by have:=acO n B;rw [hd] at this;simpa using this.symm
   simp only [List.getLast?_singleton];intro h0;injection h0 with h0;omega
  |cons e m=>
   rw [List.getLast?_cons_cons,←hd];exact (ea abq _).2
 ·rw [eM hB,aU,eM hB];have:=acO n B;omega
theorem MJ (hB:1<B) (h:n<B^k):bH B k n=aK B n++List.replicate (k-(aK B n).length) 0:=by
 have hl:=fQ hB h;refine Bu (B:=B) (gu abq _ _) ((ea abq _).1.append (Dg.eI abq _)) ?_ ?_
 ·rw [aN,abJ,acL];omega
 ·rw [cG h,cI,eM hB,j0];simp
end
section
variable {B:Nat}
def AJ:List Nat→Nat
 |[]=>0
 |d::_=>d
theorem N6 (ys:List Nat):aU B ys=AJ ys+B*aU B ys.tail:=by cases ys<;>simp [aU,AJ]
theorem UN (h:Dg B ys) (hB:0<B):AJ ys<B:=by
 cases ys with
 |nil=>exact hB
 |cons d l=>exact h.head
theorem Dg.tl (h:Dg B ys):Dg B ys.tail:=by
 cases ys with
 |nil=>exact h
 |cons d l=>exact h.tail
theorem ym (ys:List Nat) (i:Nat):AJ (ys.drop i)=(ys[i]?).getD 0:=by
 induction ys generalizing i with
 |nil=>simp [AJ]
 |cons d l ih=>cases i with
  |zero=>rfl
  |succ i=>simpa using ih i
theorem tail_drop (ys:List Nat) (i:Nat):(ys.drop i).tail=ys.drop (i+1):=by
 induction ys generalizing i with
 |nil=>simp
 |cons d l ih=>cases i with
  |zero=>rfl
  |succ i=>simp
theorem CC {B a:Nat} (hB:0<B) (h:a+B*b<B*n):b+a/B<n:=by
 have h1:(a+B*b)/B<n:=by rw [acN hB,abU n];exact h
 rw [ac2 _ _ hB] at h1;omega
def il (B:Nat):List Nat→List Nat→Nat→Nat→List Nat
 |[],_,_,_=>[]
 |x::xs,ys,m,c=>(x+AJ ys*m+c) % B::il B xs ys.tail m ((x+AJ ys*m+c)/B)
theorem nw (xs ys:List Nat) (m c:Nat):(il B xs ys m c).length=xs.length:=by
 induction xs generalizing ys c with
 |nil=>rfl
 |cons x xs ih=>simp [il,ih]
theorem wE (hB:0<B) (xs ys:List Nat) (m c:Nat):Dg B (il B xs ys m c):=by
 exact T2
theorem tU (hB:0<B) (xs ys:List Nat) (m c:Nat) (h:aU B xs+aU B ys*m+c<B^xs.length):aU B (il B xs ys m c)=aU B xs+aU B ys*m+c:=by
 induction xs generalizing ys c with
 |nil=>simp only [aer,aej,aU] at h;simp only [il,aU];omega
 |cons x xs ih=>
  have e:aU B (x::xs)+aU B ys*m+c=(x+AJ ys*m+c)+B*(aU B xs+aU B ys.tail*m):=by
   rw [aU,N6 ys,adJ,acw,acE];omega
  rw [ab0,acr,abU _ B,e] at h;have h1:=CC hB h;simp only [il,aU];rw [ih _ _ h1,←aU,e,acw];have:=aes (x+AJ ys*m+c) B;omega
def qG (B:Nat):List Nat→List Nat→Nat→List Nat
 |[],_,_=>[]
 |x::xs,ys,b=>(x+B-AJ ys-b) % B::qG B xs ys.tail (if x<AJ ys+b then 1 else 0)
def CJ (B:Nat):List Nat→List Nat→Nat→Nat
 |[],_,b=>b
 |x::xs,ys,b=>CJ B xs ys.tail (if x<AJ ys+b then 1 else 0)
theorem E0 (xs ys:List Nat) (c:Nat):(qG B xs ys c).length=xs.length:=by
 induction xs generalizing ys c with
 |nil=>rfl
 |cons x xs ih=>simp [qG,ih]
theorem H3 (hB:0<B) (xs ys:List Nat) (c:Nat):Dg B (qG B xs ys c):=by
 exact T2
theorem Ez (hB:0<B) (xs ys:List Nat) (b:Nat) (hx:Dg B xs) (hy:Dg B ys) (hb:b≤1) (h:aU B ys+b≤aU B xs):aU B (qG B xs ys b)+aU B ys+b=aU B xs∧CJ B xs ys b=0:=by
 induction xs generalizing ys b with
 |nil=>simp only [aU] at h;simp only [qG,CJ,aU];omega
 |cons x xs ih=>
  have hx0:=hx.head;have hy0:=UN hy hB;have e:=N6 (B:=B) ys;simp only [aU,qG,CJ] at h ⊢;by_cases hlt:x<AJ ys+b
  ·rw [abx hlt];have h1:aU B ys.tail+1≤aU B xs:=by
    refine aeQ fun hle=> ?_;have:=acd B hle;omega
   obtain ⟨i1,i2⟩:=ih ys.tail 1 hx.tail hy.tl abq h1;refine ⟨?_,i2⟩;have h2:=acm (B* ·) i1;simp only [acw] at h2;rw [aci abq];omega
  ·rw [abw hlt];have h1:aU B ys.tail+0≤aU B xs:=by
    refine aeS fun hle=> ?_;have:=acd B (Nat.succ_le_of_lt hle);simp only [ac5,acY] at this;omega
   obtain ⟨i1,i2⟩:=ih ys.tail 0 hx.tail hy.tl abq h1;refine ⟨?_,i2⟩;have h2:=acm (B* ·) i1;simp only [acw,acY] at h2;have h3:x+B-AJ ys-b=(x-AJ ys-b)+B:=abq;rw [h3,Nat.add_mod_right,aci abq];omega
theorem IJ (xs:List Nat) (i d:Nat) (hi:xs[i]?=some o):aU B (xs.set i d)+B^i*o=aU B xs+B^i*d:=by
 induction xs generalizing i with
 |nil=>simp at hi
 |cons x xs ih=>
  cases i with
  |zero=>simp only [aem,adv] at hi;subst hi;simp only [abK,aU,aej,adZ];omega
  |succ i=>
   have:=acm (B* ·) (ih i hi);simp only [acw,←acE] at this;simp only [ab9,aU,acr,abU _ B];omega
theorem F3 {l m:List Nat}{x y:Nat} (hl:Dg B l) (hlen:l.length=m.length) (h:x<y):aU B (l++[x])<aU B (m++[y]):=by
 rw [cI,cI,hlen];have h1:=gi hl;rw [hlen] at h1;have h2:B^m.length*(x+1)≤B^m.length*y:=acd _ h;simp only [aU,adT,acY,ac5] at h2 ⊢;omega
def jA (a b:Nat):Int:=if a<b then -1 else if b<a then 1 else 0
theorem lN {a:Nat} (h:a<b):jA a b= -1:=by simp [jA,h]
theorem sA {a:Nat} (h:b<a):jA a b=1:=by simp only [jA];rw [abw abq,abx h]
theorem JE {a:Nat} (h:a=b):jA a b=0:=by simp only [jA];rw [abw abq,abw abq]
theorem zm {xs:List Nat}{x y:Nat} (hx:Dg B xs) (hxk:xs[k]?=some x) (hyk:ys[k]?=some y) (hd:xs.drop (k+1)=ys.drop (k+1)) (hlt:x<y):aU B xs<aU B ys:=by
 have lx:=(abM.1 hxk).1;have ly:=(abM.1 hyk).1;rw [gU xs (k+1) lx,gU ys (k+1) ly,hd];have e1:xs.take (k+1)=xs.take k++[x]:=by rw [List.take_add_one,hxk];rfl
 have e2:ys.take (k+1)=ys.take k++[y]:=by rw [List.take_add_one,hyk];rfl
 have:=F3 (B:=B) (m:=ys.take k) (hx.take k) (by rw [abP,abP];omega) hlt;rw [e1,e2];omega
theorem Bn {xs:List Nat}{x y:Nat} (hxk:xs[k]?=some x) (hyk:ys[k]?=some y) (hd:xs.drop (k+1)=ys.drop (k+1)) (h:x=y):xs.drop k=ys.drop k:=by
 obtain ⟨lx,ex⟩:=abM.1 hxk;obtain ⟨ly,ey⟩:=abM.1 hyk;rw [ady lx,ady ly,hd,ex,ey,h]
end
section
variable {B:Nat}
theorem rH {v:Nat} (hB:0<B) (hj:j<k) (hn:n+B^j*v<B^k) (hv:n/B^j % B+v<B):(bH B k n).set j (n/B^j % B+v)=bH B k (n+B^j*v):=by
 refine Bu (B:=B) ((gu hB _ _).PC _ hv) (gu hB _ _) (by rw [acU,aN,aN]) ?_;have h1:=IJ (B:=B) (bH B k n) j (n/B^j % B+v) (jJ k n j hj);rw [cG abq] at h1;rw [cG hn];rw [acw] at h1;omega
theorem tf (k:Nat):bH B k 0=List.replicate k 0:=by
 induction k with
 |zero=>rfl
 |succ k ih=>simp [bH,ih,ad5]
def Cz (s:List UInt8):List Nat:=(s.map UInt8.toNat).reverse
def bn (s:List UInt8):Nat:=aU 256 (Cz s)
def sb (n:Nat):List UInt8:=((aK 256 n).map UInt8.ofNat).reverse
theorem qz (s:List UInt8):(Cz s).length=s.length:=by simp [Cz]
theorem Ch (s:List UInt8):Dg 256 (Cz s):=fun d hd=>by
 obtain ⟨c,_,rfl⟩:=abL.1 (adp.1 hd);exact c.toNat_lt
theorem SS (s:List UInt8):bn s<256^s.length:=by have:=gi (Ch s);rwa [qz] at this
theorem Mx {s:List UInt8}{i:Nat}{c:UInt8} (hi:i<s.length) (h:s[s.length-1-i]?=some c):(Cz s)[i]?=some c.toNat:=by
 unfold Cz;rw [ac6 (by simpa using hi),abH,abI,h];rfl
theorem M0 (n:Nat):Cz (sb n)=aK 256 n:=by
 unfold Cz sb;rw [List.map_reverse,ad0,ack];have:∀l:List Nat,Dg 256 l→l.map (UInt8.toNat ∘ UInt8.ofNat)=l:=by
  intro l
  induction l with
  |nil=>intro _;rfl
  |cons d l ih=>
   intro h;have hd:=h.head;simp only [ab8,ih h.tail,Function.comp];congr 1;simp only [ae3];omega
 exact this _ (ea abq n).1
theorem WJ (n:Nat):bn (sb n)=n:=by rw [bn,M0,eM abq]
theorem Ka (n:Nat):(sb n).length=(aK 256 n).length:=by simp [sb]
theorem Q6 {s t:List UInt8} (h:Cz s=Cz t):s=t:=by
 have h1:=List.reverse_inj.1 h;exact (List.map_inj_right fun a b h=>aeE.1 h).1 h1
theorem Xw {s:List UInt8} (h:Cz s=aK 256 n):s=sb n:=Q6 (by rw [h,M0])
theorem Rz:sb 0=[]:=by rw [sb,iz abq];rfl
theorem OI (s:List UInt8):bn (0::s)=bn s:=by
 unfold bn Cz;rw [ab8,adQ,cI];simp [aU]
theorem Yl {s:List UInt8} (h:s.head?≠some 0):sb (bn s)=s:=by
 refine (Xw ?_).symm;rw [bn,EM abq ⟨Ch s, ?_⟩];unfold Cz;rw [List.getLast?_reverse,List.head?_map]
 cases s with
 |nil=>simp
 |cons c s=>
  simp only [List.head?_cons,adr];intro h0;injection h0 with h0
  apply h;simp only [List.head?_cons];congr 1;exact aeE.1 (by simpa using h0)
end
def bf (n:Nat):Nat:=(aK 2 n).length
theorem mJ:bf 0=0:=by rw [bf,iz abq];rfl
theorem cw (n:Nat):n<2^bf n:=m0 abq n
theorem cW (h:n<2^k):bf n≤k:=fQ abq h
theorem AM (h:n≠0):2^(bf n-1)≤n:=by
 have h1:=NZ (B:=2) (ea (B:=2) abq n).2 (fun h0=>h ((rZ abq).1 h0));rwa [eM abq] at h1
theorem oS (h:n≠0):0<bf n:=by
 rw [bf];have:aK 2 n≠[]:=fun h0=>h ((rZ abq).1 h0);exact List.length_pos_iff.2 this
theorem BK (h1:n<2^k) (h2:2^(k-1)≤n):bf n=k:=by
 have h3:=cW h1
 rcases acj (bf n) k with h|h
 ·have h4:=cw n;have h5:2^bf n≤2^(k-1):=ach abq abq;omega
 ·omega
theorem EC {B:Nat} (hB:B=2^b) {l:List Nat}{d:Nat} (hl:Dg B l) (hlen:l.length=m) (hd:d≠0):bf (aU B (l++[d]))=b*m+bf d:=by
 have hlt:=gi hl;rw [hlen] at hlt;have hp:B^m=2^(b*m):=by rw [hB,←acv]
 rw [cI,hlen];simp only [aU,adT,acY];rw [hp] at hlt ⊢;apply BK
 ·have h1:=cw d;have h2:2^(b*m)*(d+1)≤2^(b*m)*2^bf d:=acd _ h1;rw [ab5];rw [ac5] at h2;omega
 ·have h1:=AM hd;have h2:=oS hd;have e:b*m+bf d-1=b*m+(bf d-1):=abq;rw [e,ab5];have h3:2^(b*m)*2^(bf d-1)≤2^(b*m)*d:=acd _ h1;omega
theorem Gn {a c s:Nat} (h:a<2^s):a|||(c*2^s)=a+c*2^s:=by
 have h1:=Nat.shiftLeft_add_eq_or_of_lt h c;rw [Nat.shiftLeft_eq] at h1;rw [Nat.or_comm,←h1,adD]
theorem Rx {i c:Nat} (n:Nat) (hn:n<256^i) (hc:c<256) (hi:i/8<k):
  n/18446744073709551616^(i/8) % 18446744073709551616<2^(i % 8*8)∧c*2^(i % 8*8)<18446744073709551616∧
  (bH 18446744073709551616 k n).set (i/8) (n/18446744073709551616^(i/8) % 18446744073709551616+c*2^(i % 8*8))=bH 18446744073709551616 k (n+256^i*c):=by
 have hW:(18446744073709551616:Nat)=2^64:=by decide
 have h256:(256:Nat)=2^8:=by decide
 have hp:256^i=18446744073709551616^(i/8)*2^(i % 8*8):=by
  rw [hW,h256,←acv,←acv,←ab5];congr 1;omega
 have h1:n/18446744073709551616^(i/8)<2^(i % 8*8):=by
  rw [acN (ab7 abr),abU,←hp];exact hn
 have hs:2^(i % 8*8)*256≤18446744073709551616:=by
  rw [h256,hW,←ab5];exact ach abq abq
 have h2:n/18446744073709551616^(i/8) % 18446744073709551616<2^(i % 8*8):=acB (Nat.mod_le _ _) h1;have h3:(c+1)*2^(i % 8*8)≤256*2^(i % 8*8):=acx _ hc;rw [acD] at h3;have hpos:0<2^(i % 8*8):=ab7 abq;refine ⟨h2,abq, ?_⟩;have h4:256^i*c=18446744073709551616^(i/8)*(c*2^(i % 8*8)):=by rw [hp,acE,abU c]
 rw [h4];refine rH abr hi ?_ abq;rw [←h4];have h5:256^i*(c+1)≤256^i*256:=acd _ hc;have h6:256^i*256≤18446744073709551616^k:=by
  have:256^i*256=2^(8*(i+1)):=by rw [h256,←acv,←ab5];congr 1
  rw [this,hW,←acv];exact ach abq abq
 rw [ac5] at h5;omega
theorem KU (n i:Nat):n/18446744073709551616^(i/8) % 18446744073709551616/2^(i % 8*8) % 256=n/256^i % 256:=by
 have hW:(18446744073709551616:Nat)=2^64:=by decide
 have h256:(256:Nat)=2^8:=by decide
 have hp:256^i=18446744073709551616^(i/8)*2^(i % 8*8):=by
  rw [hW,h256,←acv,←acv,←ab5];congr 1;omega
 rw [hp,←ac4];generalize n/18446744073709551616^(i/8)=m;have e:(18446744073709551616:Nat)=2^(i % 8*8)*2^(64-i % 8*8):=by rw [←ab5,hW];congr 1;omega
 rw [e,Nat.mod_mul_right_div_self];have e2:2^(64-i % 8*8)=256*2^(56-i % 8*8):=by rw [h256,←ab5];congr 1;omega
 rw [e2,Nat.mod_mul_right_mod]
theorem At (n j s:Nat) (hs:s<64) (h0:0<s):
  (n/18446744073709551616^j % 18446744073709551616/2^s)<2^(64-s)∧
  n/18446744073709551616^j % 18446744073709551616/2^s+n/18446744073709551616^(j+1) % 2^s*2^(64-s)=n/2^(64*j+s) % 18446744073709551616:=by
 have hW:(18446744073709551616:Nat)=2^64:=by decide
 have e:(18446744073709551616:Nat)=2^s*2^(64-s):=by rw [←ab5,hW];congr 1;omega
 have hp:(18446744073709551616:Nat)^(j+1)=18446744073709551616^j*18446744073709551616:=acr ..;rw [hp,←ac4,ab5,acv,←hW,←ac4];generalize n/18446744073709551616^j=m;have e1:m % 18446744073709551616/2^s=m/2^s % 2^(64-s):=by rw [e,Nat.mod_mul_right_div_self]
 rw [e1];refine ⟨ab4 _ (ab7 abq), ?_⟩;have e2:m/18446744073709551616=m/2^s/2^(64-s):=by rw [e,←ac4]
 rw [e2];generalize m/2^s=q;have e3:(18446744073709551616:Nat)=2^(64-s)*2^s:=by rw [abU];exact e
 rw [e3,Nat.mod_mul,abU (2^(64-s))]
theorem U2 {d s:Nat} (hd:d<18446744073709551616) (hs:s≤64):d*2^s % 18446744073709551616+d/2^(64-s)*18446744073709551616=d*2^s∧d/2^(64-s)<2^s:=by
 have hW:(18446744073709551616:Nat)=2^64:=by decide
 have e:(18446744073709551616:Nat)=2^(64-s)*2^s:=by rw [←ab5,hW];congr 1;omega
 have h1:d*2^s/18446744073709551616=d/2^(64-s):=by rw [e,Nat.mul_div_mul_right _ _ (ab7 abq)]
 rw [←h1];constructor
 ·have:=aes (d*2^s) 18446744073709551616;omega
 ·rw [h1,acN (ab7 abq),abU,←e];exact hd
def str (l:List UInt8):ByteArray:=⟨l.toArray⟩
theorem dH (l:List UInt8):(str l).data.toList=l:=by simp [str]
theorem wj {a b:ByteArray} (h:a.data.toList=b.data.toList):a=b:=by
 cases a;cases b;congr 1;exact Array.ext' h
theorem Ma (s:ByteArray):str s.data.toList=s:=wj (dH _)
theorem ki (l:List UInt8):(str l).size=l.length:=by simp [str,ByteArray.size]
theorem dY (s:ByteArray):s.size=s.data.toList.length:=(Array.length_toList).symm
def bh (l:List Int):List Value:=l.map (Value.int .i64)
theorem cq (l:List Int):(bh l).length=l.length:=by simp [bh]
theorem Ej (a b:List Int):bh (a++b)=bh a++bh b:=by simp [bh]
theorem cM {l:List Int}{x:Int} (h:l[k]?=some x):(bh l)[k]?=some (.int .i64 x):=by simp [bh,h]
theorem F7 (a b:List UInt8):n5 (a++b)=n5 a++n5 b:=by simp [n5]
theorem bg (l:List Int):((bh l).all Value.oneCell')=true:=by simp [bh,Value.oneCell']
def Ew (l:List ByteArray):List Value:=l.map Value.string
theorem uk (l:List ByteArray):(Ew l).length=l.length:=by simp [Ew]
theorem IQ {l:List ByteArray}{x:ByteArray} (h:l[k]?=some x):(Ew l)[k]?=some (.string x):=by simp [Ew,h]
theorem al {l:List α}{x:α} (h:l[k]?=some x):l.take (k+1)=l.take k++[x]:=by rw [List.take_add_one,h];rfl
theorem ai {l:List α} (h:k<l.length):∃x,l[k]?=some x:=⟨_,ac1 h⟩
def eX (l:List UInt8):Bool:=l.all fun c=>decide (c.toNat<128)
theorem JZ (l:List UInt8) (c:UInt8):eX (l++[c])=(eX l && decide (c.toNat<128)):=by simp [eX]
theorem L8 {l:List UInt8}{c:UInt8} (h:l[k]?=some c) (hc:¬c.toNat<128):eX l=false:=by
 rw [←acH (k+1) l,al h];simp only [eX,aeZ];simp;omega
theorem pH {l:List UInt8} (h:eX l=true) {c:UInt8} (hc:l[k]?=some c):c.toNat<128:=by
 have:=ab6.1 h c (abz hc);simpa using this
def dN (x:Int):Bool:=decide (0≤x) && decide (x≤127)
def BG (x:Int):UInt8:=UInt8.ofNat x.toNat
def Qf (xs:List Int):List UInt8:=if xs.all dN then xs.map BG else []
def RF (xs:List Int):Int:=if xs.all dN then 0 else 3
theorem U9 {xs:List Int}{x:Int} (hx:xs[k]?=some x) (h:dN x=false):Qf xs=[]∧RF xs=3:=by
 have:xs.all dN=false:=by
  cases hc:xs.all dN with
  |false=>rfl
  |true=>rw [ab6.1 hc x (abz hx)] at h;cases h
 simp [Qf,RF,this]
theorem u4 {xs:List Int} (h:xs.all dN=true):Qf xs=xs.map BG∧RF xs=0:=by simp [Qf,RF,h]
theorem OV {p:α→Bool}{l:List α}{x:α} (h:l[k]?=some x) (h1:(l.take k).all p=true) (h2:p x=true):(l.take (k+1)).all p=true:=by
 rw [al h,aeZ,h1];simp [h2]
theorem RW {x:Int} (h:0≤x) (h2:x≤255):IntKind.u8.wrap x=x:=by
 have:IntKind.u8.wrap x=x % 256:=rfl;rw [this];omega
theorem vg {x:Int} (h:dN x=true):Value.int .u8 x=.int .u8 (BG x).toNat:=by
 simp only [dN,abS,ab1] at h;congr 1;simp only [BG,ae3];omega
theorem ME {xs:List Int}{x:Int} (hx:xs[k]?=some x) (h:dN x=true):n5 ((xs.take k).map BG)++[.int .u8 x]=n5 ((xs.take (k+1)).map BG):=by
 rw [al hx,acM,F7,vg h];rfl
def ints (l:List UInt8):List Int:=l.map fun c=>(c.toNat:Int)
def kj (l:List UInt8):List Int:=if eX l then ints l else []
def aaZ (l:List UInt8):Int:=(kj l).sum
theorem cZ (l:List UInt8):(ints l).length=l.length:=by simp [ints]
theorem wh {l:List UInt8}{c:UInt8} (h:l[k]?=some c):bh (ints (l.take k))++[.int .i64 c.toNat]=bh (ints (l.take (k+1))):=by
 rw [al h];simp [bh,ints]
def lenOf:Value→Nat|.slice _ n _=>n|_=>0
theorem mn {l:List UInt8} (h:eX l=true):kj l=ints l:=by simp [kj,h]
theorem M4 {l:List UInt8} (h:eX l=false):kj l=[]:=by simp [kj,h]
theorem Qn {l:List UInt8}{c:UInt8} (h:l[k]?=some c):(ints l)[k]?=some (c.toNat:Int):=by simp [ints,h]
theorem I8 {l:List UInt8}{x:Int} (h:(kj l)[k]?=some x):0≤x∧x≤127:=by
 unfold kj at h;split at h
 ·rename_i hm;simp only [ints,abI,adA] at h;obtain ⟨c,hc,rfl⟩:=h;have:=pH hm hc;omega
 ·simp at h
def kt (f:Int→Int→Int) (a b:List UInt8):Option (List Int):=
 if eX a && (eX b && decide ((b.length:Int)=a.length)) then some (List.zipWith f (ints a) (ints b)) else none
def mulL (a b:List UInt8):List UInt8×Int:=
 match kt (· + ·) a b with|some l=>(Qf l,RF l)|none=>([],1)
def aa4 (a b:List UInt8):List UInt8×Bool:=
 match kt (· - ·) a b with|some l=>(Qf l,decide (RF l=0))|none=>([],false)
theorem Pa {f:Int→Int→Int}{a b:List Int}{x y:Int} (hx:a[k]?=some x) (hy:b[k]?=some y):(List.zipWith f a b)[k]?=some (f x y):=by
 simp [adO,hx,hy]
def n8 (f:Int→Int→Int) (a b:List Int) (k:Nat):List Int:=(List.zipWith f a b).take k++b.drop k
theorem OU (f:Int→Int→Int) (a b:List Int):n8 f a b 0=b:=by simp [n8]
theorem Rb {f:Int→Int→Int}{a b:List Int} (h:a.length=b.length) (hk:k≤b.length):(n8 f a b k).length=b.length:=by
 simp [n8,h];omega
theorem Vg {f:Int→Int→Int}{a b:List Int} (h:a.length=b.length) {y:Int} (hy:b[k]?=some y):(n8 f a b k)[k]?=some y:=by
 have hk:k<b.length:=(abM.1 hy).1;unfold n8;rw [acP (by simp [h];omega)];simp [h,acQ (Nat.le_of_lt hk),hy]
theorem Re {f:Int→Int→Int}{a b:List Int} (h:a.length=b.length) {x y:Int} (hx:a[k]?=some x) (hy:b[k]?=some y):
  bK (bh (n8 f a b k)) k [.int .i64 (f x y)]=bh (n8 f a b (k+1)):=by
 have hk:k<b.length:=(abM.1 hy).1;have hl:((List.zipWith f a b).take k).length=k:=by simp [h];omega
 have e1:(n8 f a b k).take k=(List.zipWith f a b).take k:=by
  unfold n8;rw [List.take_append_of_le_length abq,abG abq]
 have e2:(n8 f a b k).drop (k+1)=b.drop (k+1):=by
  unfold n8;rw [List.drop_append,hl,adH abq,show k+1-k=1 by omega,ad7];simp
 simp only [bK,bh,←List.map_take,←aeq,ab0,aer,ab2,e1,e2];unfold n8;rw [al (Pa hx hy)];simp
theorem OY {f:Int→Int→Int}{a b:List Int} (h:a.length=b.length):n8 f a b b.length=List.zipWith f a b:=by
 unfold n8;rw [abG (by simp [h]),List.drop_length,acg]
theorem lQ {l:List Int} (y:Int) (h:k<l.length):bK (bh l) (k*1) [.int .i64 y]=bh (l.set k y):=by
 rw [abZ,cu (by rw [cq];exact h)];unfold bh;rw [adz]
variable {H':List HE}
structure KQ (q:Prop):Prop where o:q
section
variable {ro:Mode}{P:Program}{N d:Nat}{ops:Array Oper}{Q:Kq}{ρ:Rf}{w w0:World}{rest:List Oper}{H:List HE}{ty:TypeId}{pos:String}{af:Array Edge}{x y:Operand}{t u:TypeId}{dd:Option Nat}{op:Op}{g:Nat×Bool}{l:List Oper}{c:Code}
theorem giW  (h:WL ro P N ops Q (l) ρ w):WL ro P N ops Q (l) ρ w:=h
theorem giC  (h:WC ro P N c Q ρ w):WC ro P N c Q ρ w:=h
theorem giN  (h:WL ro P N ops Q ([]) ρ w):WL ro P N ops Q ([]) ρ w:=h
theorem giM  (h:WL ro P N ops Q (⟨dd,.move x,ty,pos,af,none⟩::rest) ρ w):WL ro P N ops Q (⟨dd,.move x,ty,pos,af,none⟩::rest) ρ w:=h
theorem giA  (h:WL ro P N ops Q (⟨dd,.assign x,ty,pos,af,none⟩::rest) ρ w):WL ro P N ops Q (⟨dd,.assign x,ty,pos,af,none⟩::rest) ρ w:=h
theorem giG  (h:WL ro P N ops Q (⟨dd,op,ty,pos,af,some g⟩::rest) ρ w):WL ro P N ops Q (⟨dd,op,ty,pos,af,some g⟩::rest) ρ w:=h
theorem giL  (h:WL ro P N ops Q (⟨dd,.load t x,ty,pos,af,none⟩::rest) ρ w):WL ro P N ops Q (⟨dd,.load t x,ty,pos,af,none⟩::rest) ρ w:=h
theorem giB {b:BinOp} (h:WL ro P N ops Q (⟨dd,.binOp b t x y u,ty,pos,af,none⟩::rest) ρ w):WL ro P N ops Q (⟨dd,.binOp b t x y u,ty,pos,af,none⟩::rest) ρ w:=h
theorem giD {ps:Array (Nat×Operand)} (h:WL ro P N ops Q (⟨dd,.build t ps,ty,pos,af,none⟩::rest) ρ w):WL ro P N ops Q (⟨dd,.build t ps,ty,pos,af,none⟩::rest) ρ w:=h
theorem giX  (h:WL ro P N ops Q (⟨dd,.box t x,ty,pos,af,none⟩::rest) ρ w):WL ro P N ops Q (⟨dd,.box t x,ty,pos,af,none⟩::rest) ρ w:=h
theorem giS  (h:WL ro P N ops Q (⟨dd,.store t x y,ty,pos,af,none⟩::rest) ρ w):WL ro P N ops Q (⟨dd,.store t x y,ty,pos,af,none⟩::rest) ρ w:=h
theorem gl1 {v:Value} (hh:Hp w0 H w) [ht:az P t n false by' zc] (kk:WL ro P N ops Q rest (cg ρ d v) w) (hx:ev ρ x=.pointer (some ⟨b,o,none⟩):=by exact rfl) (hi:HE.blk b t' cs fz∈H:=by repeat (first|exact abF|apply abN)) (hv:cs[o]?=some v:=by exact rfl) (hN:d<N:=by decide):WL ro P N ops Q (⟨some d,.load t x,ty,pos,af,none⟩::rest) ρ w:=let ⟨_,h⟩:=List.getElem?_of_mem hi;bG ht.out hx (hh.ej h hv) hN kk
theorem glg (hh:Hp w0 H w) [ht:az P t n true by' zc] (kk:WL ro P N ops Q rest (cg ρ d (.agg vs.toArray)) w) (hx:ev ρ x=.pointer (some ⟨b,o,none⟩):=by exact rfl) (hi:HE.blk b t' cs fz∈H:=by repeat (first|exact abF|apply abN)) (hv:(cs.drop o).take n=vs:=by simp only [adh,aee,aeb,List.drop_succ_cons,ab2,Nat.reduceAdd]<;>rfl) (hl:vs.length=n:=by exact rfl) (hN:d<N:=by decide):WL ro P N ops Q (⟨some d,.load t x,ty,pos,af,none⟩::rest) ρ w:=let ⟨_,h⟩:=List.getElem?_of_mem hi;bF ht.out hx (hh.aE h hv) hl hN kk
theorem gbx {v:Value} (hh:Hp w0 H w) (kk:∀b w',Hp w0 (.blk b t cs (0,0)::H) w'→WL ro P N ops Q rest (cg ρ d (.pointer (some ⟨b,0,none⟩))) w') (hx:ev ρ x=v:=by first|exact cH rfl|exact Aj rfl|exact Be rfl|exact pT rfl|exact eR rfl|exact wX rfl|exact pz rfl|exact IB rfl|exact uY rfl) (hc:v.cells=cs.toArray:=by exact rfl) (hN:d<N:=by decide):WL ro P N ops Q (⟨some d,.box t x,ty,pos,af,none⟩::rest) ρ w:=Mp hh hx hc hN kk
inductive FR:List HE→HE→HE→List HE→Prop
 |here {x y:HE}{H:List HE}:FR (x::H) x y (y::H)
 |there {x y z:HE}{H H':List HE} (h:FR H x y H'):FR (z::H) x y (z::H')
theorem FR.at_ {x y:HE}{H:List HE} (h:FR H x y H'):∃i:Nat,H[i]?=some x∧H.set i y=H':=by
 induction h with
 |here=>exact ⟨0,rfl,rfl⟩
 |there h ih=>
  obtain ⟨i,h1,h2⟩:=ih;exact ⟨i+1,h1,by rw [ab9,h2]⟩
theorem gst {cs':List Value}{v:Value} (hh:Hp w0 H w) [ht:az P t n ag by' zc] (kk:∀w',Hp w0 H' w'→WL ro P N ops Q rest ρ w') (hx:ev ρ x=.pointer (some ⟨b,o,none⟩):=by exact rfl) (hy:ev ρ y=v:=by first|exact cH rfl|exact Aj rfl|exact Be rfl|exact pT rfl|exact eR rfl|exact wX rfl|exact pz rfl|exact IB rfl|exact uY rfl) (hc:v.cells=vs.toArray:=by exact rfl) (hm:FR H (.blk b t' cs fz) (.blk b t' cs' fz) H':=by repeat (first|exact .here|apply FR.there)) (hs:bK cs o vs=cs':=by simp only [bK,adh,aee,aeb,List.drop_succ_cons,abC,abE,ab0,aer,ab2,Nat.reduceAdd]<;>rfl) (hl:vs.length=n:=by exact rfl) (ho:o+n≤cs.length:=by simp) (h1:(vs.all Value.oneCell')=true:=by exact rfl):WL ro P N ops Q (⟨none,.store t x y,ty,pos,af,none⟩::rest) ρ w:=by
 subst hs;obtain ⟨i,h2,rfl⟩:=hm.at_;exact Cw hh hx h2 hy hc ht.out hl ho h1 kk
end
theorem aj {p q:Prop} (kQ:q) (e:KQ q→p:=by intro kQ;(repeat (first|(refine giW ?_;first|(refine giM ?_;first|refine mI ?_|refine mL ?_|refine mS ?_|refine mB ?_|refine mG ?_|refine mT ?_|refine mP ?_|refine mF ?_|refine mX (by first|exact pz rfl|exact uY rfl) abr ?_)|(refine giA ?_;first|refine aI ?_|refine aL ?_|refine aS ?_|refine aB ?_|refine aG ?_|refine aT ?_|refine aP ?_|refine aF ?_|refine jN (by first|exact pz rfl|exact uY rfl) abr ?_)|(refine giN ?_;first|refine aJ ?_|refine Nk ?_)|(refine giG ?_;first|refine gS ?_|refine gT ?_|refine gV ?_|refine wa rfl rfl abr ?_)|refine tq ?_|(refine giL ?_;first|refine gl1 hh ?_|refine glg hh ?_|refine p8 hh 0 ?_|refine p8 hh 1 ?_|refine p8 hh 2 ?_|refine p8 hh 3 ?_|refine p8 hh 4 ?_|refine p8 hh 5 ?_|refine m9 hh 0 [_,_] ?_|refine m9 hh 0 [_,_,_] ?_|refine m9 hh 0 [_,_,_,_,_,_] ?_|refine m9 hh 1 [_,_] ?_|refine m9 hh 1 [_,_,_] ?_|refine m9 hh 1 [_,_,_,_,_,_] ?_|refine m9 hh 2 [_,_] ?_|refine m9 hh 2 [_,_,_] ?_|refine m9 hh 2 [_,_,_,_,_,_] ?_|refine m9 hh 3 [_,_] ?_|refine m9 hh 3 [_,_,_] ?_|refine m9 hh 3 [_,_,_,_,_,_] ?_|refine m9 hh 4 [_,_] ?_|refine m9 hh 4 [_,_,_] ?_|refine m9 hh 4 [_,_,_,_,_,_] ?_)|(refine giB ?_;first|refine nC ?_|refine qy ?_|refine nP ?_|refine SJ ?_|refine ZF ?_|refine Y3 ?_|refine B8 ?_|refine sZ ?_|refine mulC ?_|refine Sh bq.out rfl rfl abr ?_|refine Gs rfl rfl abq abq abq abr ?_|refine OC rfl rfl abq abq abr ?_|refine s_cat rfl rfl (by simp only [ki,dY];omega) abr ?_)|refine te ?_|refine vk ?_|refine Yv ?_|refine YG ?_|refine Q8 ?_|refine dF bq.out az.size rfl rfl rfl abq abr ?_|refine du bq.out az.size rfl rfl rfl abq abr ?_|refine nj bq.out az.size rfl rfl rfl abq abr ?_|refine Fo bq.out az.size rfl rfl abq abq abr ?_|refine uN bq.out rfl rfl abq (by assumption) abr ?_|(refine giD ?_;first|refine BU [_] ?_|refine BU [_,_] ?_|refine BU [_,_,_] ?_|refine BU [_,_,_,_] ?_|refine BU [_,_,_,_,_] ?_|refine BU [_,_,_,_,_,_] ?_|refine BU [_,_,_,_,_,_,_] ?_|refine BU [_,_,_,_,_,_,_,_] ?_|refine BU [_,_,_,_,_,_,_,_,_] ?_|refine BU [_,_,_,_,_,_,_,_,_,_] ?_|refine BU [_,_,_,_,_,_,_,_,_,_,_] ?_|refine BU [_,_,_,_,_,_,_,_,_,_,_,_] ?_)|refine F4 rfl abr ?_|refine tR bq.out rfl abr ?_|refine Mk rfl abq abq abr ?_|refine nt eG.out rfl abr ?_|refine wZ bq.out bq.out rfl abq abq abr ?_|refine GU bq.out bq.out rfl abr ?_|refine s_field1 eG.out az.out rfl rfl abr ?_|refine RH eG.out az.out rfl rfl abr ?_|refine Yi rfl rfl abr ?_|refine Yg rfl rfl abr ?_)|(refine giC ?_;first|refine bR ?_|refine bO ?_|refine cT ?_|refine cF ?_|refine dA ?_|refine yp ?_|refine Ce ?_|refine lk ?_|refine Mu ?_|refine wc_scope ?_)|refine eF ?_|refine WN ?_|refine vS ?_|refine Ol ?_|refine XV ?_|refine FN ?_|refine VW abr ?_|refine sc_norm ?_|refine sc_ret ?_|refine sc_exit ?_|refine Z1 ?_|refine qa2 ?_|refine ZL ?_));exact kQ.o):p:=e ⟨kQ⟩
theorem LL {p q:Prop} (kQ:q) (e:KQ q→p:=by intro kQ;(first|(refine yU hh ?_;intro b_ w_ hh;revert b_ w_ hh)|(refine giX ?_;(first|refine gbx hh ?_|refine yD hh [_] ?_|refine yD hh [_,_] ?_|refine yD hh [_,_,_] ?_|refine yD hh [_,_,_,_] ?_|refine yD hh [_,_,_,_,_] ?_|refine yD hh [_,_,_,_,_,_] ?_|refine yD hh [_,_,_,_,_,_,_] ?_|refine yD hh [_,_,_,_,_,_,_,_] ?_);intro b_ w_ hh;revert b_ w_ hh)|(refine giS ?_;first|(refine gst hh ?_;intro w_ hh;revert w_ hh)|((first|refine gE hh 0 [_] ?_|refine gE hh 0 [_,_] ?_|refine gE hh 0 [_,_,_] ?_|refine gE hh 0 [_,_,_,_] ?_|refine gE hh 0 [_,_,_,_,_] ?_|refine gE hh 0 [_,_,_,_,_,_] ?_|refine gE hh 0 [_,_,_,_,_,_,_] ?_);intro w_ hh;(first|replace hh:Hp _ (.blk _ _ [_] _::_) _:=hh|replace hh:Hp _ (.blk _ _ [_,_] _::_) _:=hh|replace hh:Hp _ (.blk _ _ [_,_,_] _::_) _:=hh|replace hh:Hp _ (.blk _ _ [_,_,_,_] _::_) _:=hh|replace hh:Hp _ (.blk _ _ [_,_,_,_,_] _::_) _:=hh|replace hh:Hp _ (.blk _ _ [_,_,_,_,_,_] _::_) _:=hh|replace hh:Hp _ (.blk _ _ [_,_,_,_,_,_,_] _::_) _:=hh|replace hh:Hp _ (.blk _ _ [_,_,_,_,_,_,_,_] _::_) _:=hh|replace hh:Hp _ (.blk _ _ [_,_,_,_,_,_,_,_,_] _::_) _:=hh|replace hh:Hp _ (.blk _ _ [_,_,_,_,_,_,_,_,_,_] _::_) _:=hh|replace hh:Hp _ (.blk _ _ [_,_,_,_,_,_,_,_,_,_,_] _::_) _:=hh|replace hh:Hp _ (.blk _ _ [_,_,_,_,_,_,_,_,_,_,_,_] _::_) _:=hh|replace hh:Hp _ (.blk _ _ [_,_,_,_,_,_,_,_,_,_,_,_,_] _::_) _:=hh|replace hh:Hp _ (.blk _ _ [_,_,_,_,_,_,_,_,_,_,_,_,_,_] _::_) _:=hh);revert w_ hh)|((first|refine gE hh 1 [_] ?_|refine gE hh 1 [_,_] ?_|refine gE hh 1 [_,_,_] ?_|refine gE hh 1 [_,_,_,_] ?_|refine gE hh 1 [_,_,_,_,_] ?_|refine gE hh 1 [_,_,_,_,_,_] ?_|refine gE hh 1 [_,_,_,_,_,_,_] ?_);intro w_ hh;(first|replace hh:Hp _ (_::.blk _ _ [_] _::_) _:=hh|replace hh:Hp _ (_::.blk _ _ [_,_] _::_) _:=hh|replace hh:Hp _ (_::.blk _ _ [_,_,_] _::_) _:=hh|replace hh:Hp _ (_::.blk _ _ [_,_,_,_] _::_) _:=hh|replace hh:Hp _ (_::.blk _ _ [_,_,_,_,_] _::_) _:=hh|replace hh:Hp _ (_::.blk _ _ [_,_,_,_,_,_] _::_) _:=hh|replace hh:Hp _ (_::.blk _ _ [_,_,_,_,_,_,_] _::_) _:=hh|replace hh:Hp _ (_::.blk _ _ [_,_,_,_,_,_,_,_] _::_) _:=hh|replace hh:Hp _ (_::.blk _ _ [_,_,_,_,_,_,_,_,_] _::_) _:=hh|replace hh:Hp _ (_::.blk _ _ [_,_,_,_,_,_,_,_,_,_] _::_) _:=hh|replace hh:Hp _ (_::.blk _ _ [_,_,_,_,_,_,_,_,_,_,_] _::_) _:=hh|replace hh:Hp _ (_::.blk _ _ [_,_,_,_,_,_,_,_,_,_,_,_] _::_) _:=hh|replace hh:Hp _ (_::.blk _ _ [_,_,_,_,_,_,_,_,_,_,_,_,_] _::_) _:=hh|replace hh:Hp _ (_::.blk _ _ [_,_,_,_,_,_,_,_,_,_,_,_,_,_] _::_) _:=hh);revert w_ hh)|((first|refine gE hh 2 [_] ?_|refine gE hh 2 [_,_] ?_|refine gE hh 2 [_,_,_] ?_|refine gE hh 2 [_,_,_,_] ?_|refine gE hh 2 [_,_,_,_,_] ?_|refine gE hh 2 [_,_,_,_,_,_] ?_|refine gE hh 2 [_,_,_,_,_,_,_] ?_);intro w_ hh;(first|replace hh:Hp _ (_::_::.blk _ _ [_] _::_) _:=hh|replace hh:Hp _ (_::_::.blk _ _ [_,_] _::_) _:=hh|replace hh:Hp _ (_::_::.blk _ _ [_,_,_] _::_) _:=hh|replace hh:Hp _ (_::_::.blk _ _ [_,_,_,_] _::_) _:=hh|replace hh:Hp _ (_::_::.blk _ _ [_,_,_,_,_] _::_) _:=hh|replace hh:Hp _ (_::_::.blk _ _ [_,_,_,_,_,_] _::_) _:=hh|replace hh:Hp _ (_::_::.blk _ _ [_,_,_,_,_,_,_] _::_) _:=hh|replace hh:Hp _ (_::_::.blk _ _ [_,_,_,_,_,_,_,_] _::_) _:=hh|replace hh:Hp _ (_::_::.blk _ _ [_,_,_,_,_,_,_,_,_] _::_) _:=hh|replace hh:Hp _ (_::_::.blk _ _ [_,_,_,_,_,_,_,_,_,_] _::_) _:=hh|replace hh:Hp _ (_::_::.blk _ _ [_,_,_,_,_,_,_,_,_,_,_] _::_) _:=hh|replace hh:Hp _ (_::_::.blk _ _ [_,_,_,_,_,_,_,_,_,_,_,_] _::_) _:=hh|replace hh:Hp _ (_::_::.blk _ _ [_,_,_,_,_,_,_,_,_,_,_,_,_] _::_) _:=hh|replace hh:Hp _ (_::_::.blk _ _ [_,_,_,_,_,_,_,_,_,_,_,_,_,_] _::_) _:=hh);revert w_ hh)|((first|refine gE hh 3 [_] ?_|refine gE hh 3 [_,_] ?_|refine gE hh 3 [_,_,_] ?_|refine gE hh 3 [_,_,_,_] ?_|refine gE hh 3 [_,_,_,_,_] ?_|refine gE hh 3 [_,_,_,_,_,_] ?_|refine gE hh 3 [_,_,_,_,_,_,_] ?_);intro w_ hh;(first|replace hh:Hp _ (_::_::_::.blk _ _ [_] _::_) _:=hh|replace hh:Hp _ (_::_::_::.blk _ _ [_,_] _::_) _:=hh|replace hh:Hp _ (_::_::_::.blk _ _ [_,_,_] _::_) _:=hh|replace hh:Hp _ (_::_::_::.blk _ _ [_,_,_,_] _::_) _:=hh|replace hh:Hp _ (_::_::_::.blk _ _ [_,_,_,_,_] _::_) _:=hh|replace hh:Hp _ (_::_::_::.blk _ _ [_,_,_,_,_,_] _::_) _:=hh|replace hh:Hp _ (_::_::_::.blk _ _ [_,_,_,_,_,_,_] _::_) _:=hh|replace hh:Hp _ (_::_::_::.blk _ _ [_,_,_,_,_,_,_,_] _::_) _:=hh|replace hh:Hp _ (_::_::_::.blk _ _ [_,_,_,_,_,_,_,_,_] _::_) _:=hh|replace hh:Hp _ (_::_::_::.blk _ _ [_,_,_,_,_,_,_,_,_,_] _::_) _:=hh|replace hh:Hp _ (_::_::_::.blk _ _ [_,_,_,_,_,_,_,_,_,_,_] _::_) _:=hh|replace hh:Hp _ (_::_::_::.blk _ _ [_,_,_,_,_,_,_,_,_,_,_,_] _::_) _:=hh|replace hh:Hp _ (_::_::_::.blk _ _ [_,_,_,_,_,_,_,_,_,_,_,_,_] _::_) _:=hh|replace hh:Hp _ (_::_::_::.blk _ _ [_,_,_,_,_,_,_,_,_,_,_,_,_,_] _::_) _:=hh);revert w_ hh)|((first|refine gE hh 4 [_] ?_|refine gE hh 4 [_,_] ?_|refine gE hh 4 [_,_,_] ?_|refine gE hh 4 [_,_,_,_] ?_|refine gE hh 4 [_,_,_,_,_] ?_|refine gE hh 4 [_,_,_,_,_,_] ?_|refine gE hh 4 [_,_,_,_,_,_,_] ?_);intro w_ hh;(first|replace hh:Hp _ (_::_::_::_::.blk _ _ [_] _::_) _:=hh|replace hh:Hp _ (_::_::_::_::.blk _ _ [_,_] _::_) _:=hh|replace hh:Hp _ (_::_::_::_::.blk _ _ [_,_,_] _::_) _:=hh|replace hh:Hp _ (_::_::_::_::.blk _ _ [_,_,_,_] _::_) _:=hh|replace hh:Hp _ (_::_::_::_::.blk _ _ [_,_,_,_,_] _::_) _:=hh|replace hh:Hp _ (_::_::_::_::.blk _ _ [_,_,_,_,_,_] _::_) _:=hh|replace hh:Hp _ (_::_::_::_::.blk _ _ [_,_,_,_,_,_,_] _::_) _:=hh|replace hh:Hp _ (_::_::_::_::.blk _ _ [_,_,_,_,_,_,_,_] _::_) _:=hh|replace hh:Hp _ (_::_::_::_::.blk _ _ [_,_,_,_,_,_,_,_,_] _::_) _:=hh|replace hh:Hp _ (_::_::_::_::.blk _ _ [_,_,_,_,_,_,_,_,_,_] _::_) _:=hh|replace hh:Hp _ (_::_::_::_::.blk _ _ [_,_,_,_,_,_,_,_,_,_,_] _::_) _:=hh|replace hh:Hp _ (_::_::_::_::.blk _ _ [_,_,_,_,_,_,_,_,_,_,_,_] _::_) _:=hh|replace hh:Hp _ (_::_::_::_::.blk _ _ [_,_,_,_,_,_,_,_,_,_,_,_,_] _::_) _:=hh|replace hh:Hp _ (_::_::_::_::.blk _ _ [_,_,_,_,_,_,_,_,_,_,_,_,_,_] _::_) _:=hh);revert w_ hh)|((first|refine gE hh 5 [_] ?_|refine gE hh 5 [_,_] ?_|refine gE hh 5 [_,_,_] ?_|refine gE hh 5 [_,_,_,_] ?_|refine gE hh 5 [_,_,_,_,_] ?_|refine gE hh 5 [_,_,_,_,_,_] ?_|refine gE hh 5 [_,_,_,_,_,_,_] ?_);intro w_ hh;(first|replace hh:Hp _ (_::_::_::_::_::.blk _ _ [_] _::_) _:=hh|replace hh:Hp _ (_::_::_::_::_::.blk _ _ [_,_] _::_) _:=hh|replace hh:Hp _ (_::_::_::_::_::.blk _ _ [_,_,_] _::_) _:=hh|replace hh:Hp _ (_::_::_::_::_::.blk _ _ [_,_,_,_] _::_) _:=hh|replace hh:Hp _ (_::_::_::_::_::.blk _ _ [_,_,_,_,_] _::_) _:=hh|replace hh:Hp _ (_::_::_::_::_::.blk _ _ [_,_,_,_,_,_] _::_) _:=hh|replace hh:Hp _ (_::_::_::_::_::.blk _ _ [_,_,_,_,_,_,_] _::_) _:=hh|replace hh:Hp _ (_::_::_::_::_::.blk _ _ [_,_,_,_,_,_,_,_] _::_) _:=hh|replace hh:Hp _ (_::_::_::_::_::.blk _ _ [_,_,_,_,_,_,_,_,_] _::_) _:=hh|replace hh:Hp _ (_::_::_::_::_::.blk _ _ [_,_,_,_,_,_,_,_,_,_] _::_) _:=hh|replace hh:Hp _ (_::_::_::_::_::.blk _ _ [_,_,_,_,_,_,_,_,_,_,_] _::_) _:=hh|replace hh:Hp _ (_::_::_::_::_::.blk _ _ [_,_,_,_,_,_,_,_,_,_,_,_] _::_) _:=hh|replace hh:Hp _ (_::_::_::_::_::.blk _ _ [_,_,_,_,_,_,_,_,_,_,_,_,_] _::_) _:=hh|replace hh:Hp _ (_::_::_::_::_::.blk _ _ [_,_,_,_,_,_,_,_,_,_,_,_,_,_] _::_) _:=hh);revert w_ hh)|((first|refine gE hh 6 [_] ?_|refine gE hh 6 [_,_] ?_|refine gE hh 6 [_,_,_] ?_|refine gE hh 6 [_,_,_,_] ?_|refine gE hh 6 [_,_,_,_,_] ?_|refine gE hh 6 [_,_,_,_,_,_] ?_|refine gE hh 6 [_,_,_,_,_,_,_] ?_);intro w_ hh;(first|replace hh:Hp _ (_::_::_::_::_::_::.blk _ _ [_] _::_) _:=hh|replace hh:Hp _ (_::_::_::_::_::_::.blk _ _ [_,_] _::_) _:=hh|replace hh:Hp _ (_::_::_::_::_::_::.blk _ _ [_,_,_] _::_) _:=hh|replace hh:Hp _ (_::_::_::_::_::_::.blk _ _ [_,_,_,_] _::_) _:=hh|replace hh:Hp _ (_::_::_::_::_::_::.blk _ _ [_,_,_,_,_] _::_) _:=hh|replace hh:Hp _ (_::_::_::_::_::_::.blk _ _ [_,_,_,_,_,_] _::_) _:=hh|replace hh:Hp _ (_::_::_::_::_::_::.blk _ _ [_,_,_,_,_,_,_] _::_) _:=hh|replace hh:Hp _ (_::_::_::_::_::_::.blk _ _ [_,_,_,_,_,_,_,_] _::_) _:=hh|replace hh:Hp _ (_::_::_::_::_::_::.blk _ _ [_,_,_,_,_,_,_,_,_] _::_) _:=hh|replace hh:Hp _ (_::_::_::_::_::_::.blk _ _ [_,_,_,_,_,_,_,_,_,_] _::_) _:=hh|replace hh:Hp _ (_::_::_::_::_::_::.blk _ _ [_,_,_,_,_,_,_,_,_,_,_] _::_) _:=hh|replace hh:Hp _ (_::_::_::_::_::_::.blk _ _ [_,_,_,_,_,_,_,_,_,_,_,_] _::_) _:=hh|replace hh:Hp _ (_::_::_::_::_::_::.blk _ _ [_,_,_,_,_,_,_,_,_,_,_,_,_] _::_) _:=hh|replace hh:Hp _ (_::_::_::_::_::_::.blk _ _ [_,_,_,_,_,_,_,_,_,_,_,_,_,_] _::_) _:=hh);revert w_ hh)));exact kQ.o):p:=e ⟨kQ⟩
theorem bT {p q:Prop} (kQ:q) (e:KQ q→p:=by intro kQ;refine aj ?_;refine LL ?_;(first|(intro b_ w_ hh;refine aj ?_;revert b_ w_ hh)|(intro w_ hh;refine aj ?_;revert w_ hh));exact kQ.o):p:=e ⟨kQ⟩
theorem bX {p q:Prop} (kQ:q) (e:KQ q→p:=by intro kQ;refine aj ?_;refine LL ?_;(first|(intro b_ w_ hh;refine bT ?_;revert b_ w_ hh)|(intro w_ hh;refine bT ?_;revert w_ hh));exact kQ.o):p:=e ⟨kQ⟩
theorem lK {p q:Prop} (kQ:q) (e:KQ q→p:=by intro kQ;refine aj ?_;refine LL ?_;(first|(intro b_ w_ hh;refine bX ?_;revert b_ w_ hh)|(intro w_ hh;refine bX ?_;revert w_ hh));exact kQ.o):p:=e ⟨kQ⟩
theorem xQ {p q:Prop} (kQ:q) (e:KQ q→p:=by intro kQ;refine aj ?_;refine LL ?_;(first|(intro b_ w_ hh;refine lK ?_;revert b_ w_ hh)|(intro w_ hh;refine lK ?_;revert w_ hh));exact kQ.o):p:=e ⟨kQ⟩
theorem Zm {p q:Prop} (kQ:q) (e:KQ q→p:=by intro kQ;refine aj ?_;refine LL ?_;(first|(intro b_ w_ hh;refine xQ ?_;revert b_ w_ hh)|(intro w_ hh;refine xQ ?_;revert w_ hh));exact kQ.o):p:=e ⟨kQ⟩
theorem Z2 {p q:Prop} (kQ:q) (e:KQ q→p:=by intro kQ;refine aj ?_;refine LL ?_;(first|(intro b_ w_ hh;refine Zm ?_;revert b_ w_ hh)|(intro w_ hh;refine Zm ?_;revert w_ hh));exact kQ.o):p:=e ⟨kQ⟩
theorem Z0 {p q:Prop} (kQ:q) (e:KQ q→p:=by intro kQ;refine aj ?_;refine LL ?_;(first|(intro b_ w_ hh;refine Z2 ?_;revert b_ w_ hh)|(intro w_ hh;refine Z2 ?_;revert w_ hh));exact kQ.o):p:=e ⟨kQ⟩
theorem ZW {p q:Prop} (kQ:q) (e:KQ q→p:=by intro kQ;refine aj ?_;refine LL ?_;(first|(intro b_ w_ hh;refine Z0 ?_;revert b_ w_ hh)|(intro w_ hh;refine Z0 ?_;revert w_ hh));exact kQ.o):p:=e ⟨kQ⟩
theorem ZZ {p q:Prop} (kQ:q) (e:KQ q→p:=by intro kQ;refine aj ?_;refine LL ?_;(first|(intro b_ w_ hh;refine ZW ?_;revert b_ w_ hh)|(intro w_ hh;refine ZW ?_;revert w_ hh));exact kQ.o):p:=e ⟨kQ⟩
theorem X9 {p q:Prop} (kQ:q) (e:KQ q→p:=by intro kQ;refine aj ?_;refine LL ?_;(first|(intro b_ w_ hh;refine ZZ ?_;revert b_ w_ hh)|(intro w_ hh;refine ZZ ?_;revert w_ hh));exact kQ.o):p:=e ⟨kQ⟩
theorem W3 {p q:Prop} (kQ:q) (e:KQ q→p:=by intro kQ;refine aj ?_;refine LL ?_;(first|(intro b_ w_ hh;refine X9 ?_;revert b_ w_ hh)|(intro w_ hh;refine X9 ?_;revert w_ hh));exact kQ.o):p:=e ⟨kQ⟩
theorem aaV {p q:Prop} (kQ:q) (e:KQ q→p:=by intro kQ;refine aj ?_;refine LL ?_;(first|(intro b_ w_ hh;refine W3 ?_;revert b_ w_ hh)|(intro w_ hh;refine W3 ?_;revert w_ hh));exact kQ.o):p:=e ⟨kQ⟩
end Go.Proofs.YtmchncaiffbpaaaGreatDoor
