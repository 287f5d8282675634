/- Lemmas for solveApart, part 2. -/
import Derived.Test.YtbencocchdpikaaGreatDoorProg
import Derived.KernelRfl
import Derived.Deep.AppendSrc
import Derived.Deep.Upon
import Derived.Test.YtbencocchdpikaaGreatDoorRows
import Derived.WalkKit
import Derived.ProofKit
import Derived.OpenShut
import Derived.Carry
import Init
import Derived.Laws.Externs
import Derived.Lib.Mul64
import Derived.Test.YtbencocchdpikaaGreatDoorZ1
set_option linter.all false
set_option maxHeartbeats 0
namespace Go.Proofs.YtbencocchdpikaaGreatDoor
open Go.Proofs.Tryz
set_option maxRecDepth 100000
class Qa(P:Program)(t:TypeId)(d:outParam TypeDesc):Prop where out:P.underlying t=some d:=by kernel_rfl
class pa(P:Program)(t:TypeId)(n:outParam Nat)(ag:outParam Bool)(b:outParam Nat)(zc:outParam (List Value)):Prop where out:ed P t=some (n,ag,b,zc):=by kernel_rfl
class Bd(P:Program)(s:TypeId)(f:Nat)(off:outParam Nat)(ft:outParam TypeId):Prop where out:Wf P s f=some (off,ft):=by kernel_rfl
class Hi(P:Program)(s:TypeId)(pl:outParam (List (Nat×Nat))):Prop where out:Yx P s=some pl:=by kernel_rfl
class la(P:Program)(f:FuncId):Prop where out:ym P f=true:=by kernel_rfl
def fi{P:Program}{f:FuncId}(h:ym P f=true:=by kernel_rfl):ym P f=true:=h
def pa.size{P:Program}{t:TypeId}{n b:Nat}{ag:Bool}{zc:List Value}[h:pa P t n ag b zc]:(P.info? t).map (·.size)=some n:=by
 obtain⟨i,z,d,hi,T,o,K,_⟩:=Je h.out;rw[hi,p9,K]
instance:Qa prog 2 (.int .i64):={}
instance:pa prog 2 1 false 8 [.int .i64 0]:={}
instance:Qa prog 3 (.int .i64):={}
instance:pa prog 3 1 false 8 [.int .i64 0]:={}
instance:Qa prog 4 (.bool):={}
instance:pa prog 4 1 false 1 [.bool false]:={}
instance:Qa prog 5 (.int .u8):={}
instance:pa prog 5 1 false 1 [.int .u8 0]:={}
instance:Qa prog 6 (.int .u8):={}
instance:pa prog 6 1 false 1 [.int .u8 0]:={}
instance:pa prog 7 4 true 24 [.int .i64 0,.int .i64 0,.bool false,.int .u8 0]:={}
instance:Bd prog 7 0 0 2:={}
instance:Bd prog 7 1 1 3:={}
instance:Bd prog 7 2 2 4:={}
instance:Bd prog 7 3 3 6:={}
instance:Hi prog 7 [(0,1),(1,1),(2,1),(3,1)]:={}
instance:pa prog 8 4 true 24 [.int .i64 0,.int .i64 0,.bool false,.int .u8 0]:={}
instance:Bd prog 8 0 0 2:={}
instance:Bd prog 8 1 1 3:={}
instance:Bd prog 8 2 2 4:={}
instance:Bd prog 8 3 3 6:={}
instance:Hi prog 8 [(0,1),(1,1),(2,1),(3,1)]:={}
instance:Qa prog 9 (.string):={}
instance:pa prog 9 1 false 16 [.string { data:= #[] }]:={}
instance:Qa prog 10 (.string):={}
instance:pa prog 10 1 false 16 [.string { data:= #[] }]:={}
instance:Qa prog 11 (.string):={}
instance:pa prog 11 1 false 16 [.string { data:= #[] }]:={}
instance:Qa prog 12 (.int .u64):={}
instance:pa prog 12 1 false 8 [.int .u64 0]:={}
instance:pa prog 13 2 true 24 [.string { data:= #[] },.int .u64 0]:={}
instance:Bd prog 13 0 0 9:={}
instance:Bd prog 13 1 1 12:={}
instance:Hi prog 13 [(0,1),(1,1)]:={}
instance:pa prog 14 2 true 24 [.string { data:= #[] },.int .u64 0]:={}
instance:Bd prog 14 0 0 9:={}
instance:Bd prog 14 1 1 12:={}
instance:Hi prog 14 [(0,1),(1,1)]:={}
instance:Qa prog 15 (.pointer 347):={}
instance:pa prog 15 1 false 8 [.pointer none]:={}
instance:Qa prog 16 (.pointer 350):={}
instance:pa prog 16 1 false 8 [.pointer none]:={}
instance:Qa prog 17 (.pointer 359):={}
instance:pa prog 17 1 false 8 [.pointer none]:={}
instance:pa prog 18 1 true 8 [.pointer none]:={}
instance:Bd prog 18 0 0 17:={}
instance:Hi prog 18 [(0,1)]:={}
instance:pa prog 19 1 true 8 [.pointer none]:={}
instance:Bd prog 19 0 0 17:={}
instance:Hi prog 19 [(0,1)]:={}
instance:Qa prog 21 (.int .i32):={}
instance:pa prog 21 1 false 4 [.int .i32 0]:={}
instance:Qa prog 22 (.slice 72):={}
instance:pa prog 22 1 false 24 [.slice none 0 0]:={}
instance:pa prog 23 2 true 32 [.int .i64 0,.slice none 0 0]:={}
instance:Bd prog 23 0 0 3:={}
instance:Bd prog 23 1 1 22:={}
instance:Hi prog 23 [(0,1),(1,1)]:={}
instance:pa prog 24 2 true 32 [.int .i64 0,.slice none 0 0]:={}
instance:Bd prog 24 0 0 3:={}
instance:Bd prog 24 1 1 22:={}
instance:Hi prog 24 [(0,1),(1,1)]:={}
instance:Qa prog 25 (.slice 36):={}
instance:pa prog 25 1 false 24 [.slice none 0 0]:={}
instance:Qa prog 26 (.slice 36):={}
instance:pa prog 26 1 false 24 [.slice none 0 0]:={}
instance:pa prog 27 2 true 24 [.bool false,.string { data:= #[] }]:={}
instance:Bd prog 27 0 0 4:={}
instance:Bd prog 27 1 1 9:={}
instance:Hi prog 27 [(0,1),(1,1)]:={}
instance:pa prog 28 2 true 24 [.bool false,.string { data:= #[] }]:={}
instance:Bd prog 28 0 0 4:={}
instance:Bd prog 28 1 1 9:={}
instance:Hi prog 28 [(0,1),(1,1)]:={}
instance:pa prog 29 3 true 32 [.bool false,.string { data:= #[] },.int .i64 0]:={}
instance:Bd prog 29 0 0 28:={}
instance:Bd prog 29 1 2 3:={}
instance:Hi prog 29 [(0,2),(2,1)]:={}
instance:pa prog 30 3 true 32 [.bool false,.string { data:= #[] },.int .i64 0]:={}
instance:Bd prog 30 0 0 28:={}
instance:Bd prog 30 1 2 3:={}
instance:Hi prog 30 [(0,2),(2,1)]:={}
instance:pa prog 35 6 true 64 [.bool false,.string { data:= #[] },.int .i64 0,.bool false,.string { data:= #[] },.int .i64 0]:={}
instance:Bd prog 35 0 0 30:={}
instance:Bd prog 35 1 3 30:={}
instance:Hi prog 35 [(0,3),(3,3)]:={}
instance:pa prog 36 6 true 64 [.bool false,.string { data:= #[] },.int .i64 0,.bool false,.string { data:= #[] },.int .i64 0]:={}
instance:Bd prog 36 0 0 30:={}
instance:Bd prog 36 1 3 30:={}
instance:Hi prog 36 [(0,3),(3,3)]:={}
instance:Qa prog 37 (.slice 30):={}
instance:pa prog 37 1 false 24 [.slice none 0 0]:={}
instance:Qa prog 38 (.slice 30):={}
instance:pa prog 38 1 false 24 [.slice none 0 0]:={}
instance:pa prog 39 8 true 96 [.int .i64 0,.bool false,.string { data:= #[] },.int .i64 0,.bool false,.string { data:= #[] },.int .i64 0,.slice none 0 0]:={}
instance:Bd prog 39 0 0 3:={}
instance:Bd prog 39 1 1 36:={}
instance:Bd prog 39 2 7 38:={}
instance:Hi prog 39 [(0,1),(1,6),(7,1)]:={}
instance:pa prog 40 8 true 96 [.int .i64 0,.bool false,.string { data:= #[] },.int .i64 0,.bool false,.string { data:= #[] },.int .i64 0,.slice none 0 0]:={}
instance:Bd prog 40 0 0 3:={}
instance:Bd prog 40 1 1 36:={}
instance:Bd prog 40 2 7 38:={}
instance:Hi prog 40 [(0,1),(1,6),(7,1)]:={}
instance:Qa prog 41 (.int .i64):={}
instance:pa prog 41 1 false 8 [.int .i64 0]:={}
instance:Qa prog 47 (.slice 24):={}
instance:pa prog 47 1 false 24 [.slice none 0 0]:={}
instance:Qa prog 48 (.slice 5):={}
instance:pa prog 48 1 false 24 [.slice none 0 0]:={}
instance:Qa prog 55 (.slice 60):={}
instance:pa prog 55 1 false 24 [.slice none 0 0]:={}
instance:pa prog 59 5 true 64 [.int .i64 0,.slice none 0 0,.bool false,.string { data:= #[] },.int .i64 0]:={}
instance:Bd prog 59 0 0 3:={}
instance:Bd prog 59 1 1 26:={}
instance:Bd prog 59 2 2 30:={}
instance:Hi prog 59 [(0,1),(1,1),(2,3)]:={}
instance:pa prog 60 5 true 64 [.int .i64 0,.slice none 0 0,.bool false,.string { data:= #[] },.int .i64 0]:={}
instance:Bd prog 60 0 0 3:={}
instance:Bd prog 60 1 1 26:={}
instance:Bd prog 60 2 2 30:={}
instance:Hi prog 60 [(0,1),(1,1),(2,3)]:={}
instance:pa prog 71 4 true 48 [.string { data:= #[] },.bool false,.string { data:= #[] },.int .i64 0]:={}
instance:Bd prog 71 0 0 9:={}
instance:Bd prog 71 1 1 30:={}
instance:Hi prog 71 [(0,1),(1,3)]:={}
instance:pa prog 72 4 true 48 [.string { data:= #[] },.bool false,.string { data:= #[] },.int .i64 0]:={}
instance:Bd prog 72 0 0 9:={}
instance:Bd prog 72 1 1 30:={}
instance:Hi prog 72 [(0,1),(1,3)]:={}
instance:Qa prog 76 (.slice 3):={}
instance:pa prog 76 1 false 24 [.slice none 0 0]:={}
instance:pa prog 77 2 true 48 [.slice none 0 0,.slice none 0 0]:={}
instance:Bd prog 77 0 0 76:={}
instance:Bd prog 77 1 1 37:={}
instance:Hi prog 77 [(0,1),(1,1)]:={}
instance:pa prog 78 2 true 48 [.slice none 0 0,.slice none 0 0]:={}
instance:Bd prog 78 0 0 76:={}
instance:Bd prog 78 1 1 37:={}
instance:Hi prog 78 [(0,1),(1,1)]:={}
instance:pa prog 83 5 true 120 [.slice none 0 0,.slice none 0 0,.slice none 0 0,.slice none 0 0,.slice none 0 0]:={}
instance:Bd prog 83 0 0 26:={}
instance:Bd prog 83 1 1 78:={}
instance:Bd prog 83 2 3 78:={}
instance:Hi prog 83 [(0,1),(1,2),(3,2)]:={}
instance:pa prog 84 5 true 120 [.slice none 0 0,.slice none 0 0,.slice none 0 0,.slice none 0 0,.slice none 0 0]:={}
instance:Bd prog 84 0 0 26:={}
instance:Bd prog 84 1 1 78:={}
instance:Bd prog 84 2 3 78:={}
instance:Hi prog 84 [(0,1),(1,2),(3,2)]:={}
instance:Qa prog 87 (.slice 84):={}
instance:pa prog 87 1 false 24 [.slice none 0 0]:={}
instance:Qa prog 95 (.slice 78):={}
instance:pa prog 95 1 false 24 [.slice none 0 0]:={}
instance:Qa prog 99 (.slice 26):={}
instance:pa prog 99 1 false 24 [.slice none 0 0]:={}
instance:Qa prog 122 (.int .i64):={}
instance:pa prog 122 1 false 8 [.int .i64 0]:={}
instance:pa prog 123 5 true 56 [.int .i64 0,.bool false,.string { data:= #[] },.bool false,.string { data:= #[] }]:={}
instance:Bd prog 123 0 0 122:={}
instance:Bd prog 123 1 1 28:={}
instance:Bd prog 123 2 3 28:={}
instance:Hi prog 123 [(0,1),(1,2),(3,2)]:={}
instance:pa prog 124 5 true 56 [.int .i64 0,.bool false,.string { data:= #[] },.bool false,.string { data:= #[] }]:={}
instance:Bd prog 124 0 0 122:={}
instance:Bd prog 124 1 1 28:={}
instance:Bd prog 124 2 3 28:={}
instance:Hi prog 124 [(0,1),(1,2),(3,2)]:={}
instance:Qa prog 128 (.slice 130):={}
instance:pa prog 128 1 false 24 [.slice none 0 0]:={}
instance:pa prog 129 1 true 24 [.slice none 0 0]:={}
instance:Bd prog 129 0 0 37:={}
instance:Hi prog 129 [(0,1)]:={}
instance:pa prog 130 1 true 24 [.slice none 0 0]:={}
instance:Bd prog 130 0 0 37:={}
instance:Hi prog 130 [(0,1)]:={}
instance:Qa prog 147 (.slice 9):={}
instance:pa prog 147 1 false 24 [.slice none 0 0]:={}
instance:pa prog 158 6 true 64 [.bool false,.string { data:= #[] },.int .i64 0,.bool false,.string { data:= #[] },.int .i64 0]:={}
instance:Bd prog 158 0 0 36:={}
instance:Hi prog 158 [(0,6)]:={}
instance:pa prog 159 6 true 64 [.bool false,.string { data:= #[] },.int .i64 0,.bool false,.string { data:= #[] },.int .i64 0]:={}
instance:Bd prog 159 0 0 36:={}
instance:Hi prog 159 [(0,6)]:={}
instance:Qa prog 172 (.slice 37):={}
instance:pa prog 172 1 false 24 [.slice none 0 0]:={}
instance:pa prog 179 9 true 96 [.bool false,.string { data:= #[] },.int .i64 0,.bool false,.string { data:= #[] },.int .i64 0,.bool false,.string { data:= #[] },.int .i64 0]:={}
instance:Bd prog 179 0 0 36:={}
instance:Bd prog 179 1 6 30:={}
instance:Hi prog 179 [(0,6),(6,3)]:={}
instance:pa prog 180 9 true 96 [.bool false,.string { data:= #[] },.int .i64 0,.bool false,.string { data:= #[] },.int .i64 0,.bool false,.string { data:= #[] },.int .i64 0]:={}
instance:Bd prog 180 0 0 36:={}
instance:Bd prog 180 1 6 30:={}
instance:Hi prog 180 [(0,6),(6,3)]:={}
instance:Qa prog 186 (.pointer 130):={}
instance:pa prog 186 1 false 8 [.pointer none]:={}
instance:pa prog 195 2 true 16 [.int .i64 0,.int .i64 0]:={}
instance:Bd prog 195 0 0 3:={}
instance:Bd prog 195 1 1 3:={}
instance:Hi prog 195 [(0,1),(1,1)]:={}
instance:pa prog 196 2 true 16 [.int .i64 0,.int .i64 0]:={}
instance:Bd prog 196 0 0 3:={}
instance:Bd prog 196 1 1 3:={}
instance:Hi prog 196 [(0,1),(1,1)]:={}
instance:Qa prog 215 (.slice 28):={}
instance:pa prog 215 1 false 24 [.slice none 0 0]:={}
instance:Qa prog 216 (.string):={}
instance:pa prog 216 1 false 16 [.string { data:= #[] }]:={}
instance:pa prog 217 2 true 24 [.string { data:= #[] },.bool false]:={}
instance:Bd prog 217 0 0 216:={}
instance:Bd prog 217 1 1 4:={}
instance:Hi prog 217 [(0,1),(1,1)]:={}
instance:pa prog 218 2 true 24 [.string { data:= #[] },.bool false]:={}
instance:Bd prog 218 0 0 216:={}
instance:Bd prog 218 1 1 4:={}
instance:Hi prog 218 [(0,1),(1,1)]:={}
instance:Qa prog 223 (.int .u64):={}
instance:pa prog 223 1 false 8 [.int .u64 0]:={}
instance:Qa prog 232 (.slice 276):={}
instance:pa prog 232 1 false 24 [.slice none 0 0]:={}
instance:Qa prog 238 (.slice 215):={}
instance:pa prog 238 1 false 24 [.slice none 0 0]:={}
instance:pa prog 255 6 true 64 [.bool false,.string { data:= #[] },.int .i64 0,.bool false,.string { data:= #[] },.int .i64 0]:={}
instance:Bd prog 255 0 0 30:={}
instance:Bd prog 255 1 3 30:={}
instance:Hi prog 255 [(0,3),(3,3)]:={}
instance:pa prog 256 6 true 64 [.bool false,.string { data:= #[] },.int .i64 0,.bool false,.string { data:= #[] },.int .i64 0]:={}
instance:Bd prog 256 0 0 30:={}
instance:Bd prog 256 1 3 30:={}
instance:Hi prog 256 [(0,3),(3,3)]:={}
instance:Qa prog 265 (.slice 223):={}
instance:pa prog 265 1 false 24 [.slice none 0 0]:={}
instance:Qa prog 266 (.slice 223):={}
instance:pa prog 266 1 false 24 [.slice none 0 0]:={}
instance:pa prog 275 6 true 64 [.bool false,.string { data:= #[] },.int .i64 0,.bool false,.string { data:= #[] },.int .i64 0]:={}
instance:Bd prog 275 0 0 30:={}
instance:Bd prog 275 1 3 30:={}
instance:Hi prog 275 [(0,3),(3,3)]:={}
instance:pa prog 276 6 true 64 [.bool false,.string { data:= #[] },.int .i64 0,.bool false,.string { data:= #[] },.int .i64 0]:={}
instance:Bd prog 276 0 0 30:={}
instance:Bd prog 276 1 3 30:={}
instance:Hi prog 276 [(0,3),(3,3)]:={}
instance:Qa prog 298 (.array 64 5):={}
instance:pa prog 298 64 true 64 [.int .u8 0,.int .u8 0,.int .u8 0,.int .u8 0,.int .u8 0,.int .u8 0,.int .u8 0,.int .u8 0,.int .u8 0,.int .u8 0,.int .u8 0,.int .u8 0,.int .u8 0,.int .u8 0,.int .u8 0,.int .u8 0,.int .u8 0,.int .u8 0,.int .u8 0,.int .u8 0,.int .u8 0,.int .u8 0,.int .u8 0,.int .u8 0,.int .u8 0,.int .u8 0,.int .u8 0,.int .u8 0,.int .u8 0,.int .u8 0,.int .u8 0,.int .u8 0,.int .u8 0,.int .u8 0,.int .u8 0,.int .u8 0,.int .u8 0,.int .u8 0,.int .u8 0,.int .u8 0,.int .u8 0,.int .u8 0,.int .u8 0,.int .u8 0,.int .u8 0,.int .u8 0,.int .u8 0,.int .u8 0,.int .u8 0,.int .u8 0,.int .u8 0,.int .u8 0,.int .u8 0,.int .u8 0,.int .u8 0,.int .u8 0,.int .u8 0,.int .u8 0,.int .u8 0,.int .u8 0,.int .u8 0,.int .u8 0,.int .u8 0,.int .u8 0]:={}
instance:Qa prog 299 (.int .u64):={}
instance:pa prog 299 1 false 8 [.int .u64 0]:={}
instance:pa prog 310 2 true 48 [.slice none 0 0,.slice none 0 0]:={}
instance:Bd prog 310 0 0 266:={}
instance:Bd prog 310 1 1 266:={}
instance:Hi prog 310 [(0,1),(1,1)]:={}
instance:pa prog 311 2 true 48 [.slice none 0 0,.slice none 0 0]:={}
instance:Bd prog 311 0 0 266:={}
instance:Bd prog 311 1 1 266:={}
instance:Hi prog 311 [(0,1),(1,1)]:={}
instance:Qa prog 318 (.array 256 4):={}
instance:Qa prog 319 (.array 256 4):={}
instance:Qa prog 323 (.pointer 319):={}
instance:pa prog 323 1 false 8 [.pointer none]:={}
instance:Qa prog 338 (.array 256 5):={}
instance:pa prog 339 2 true 2 [.int .u8 0,.int .u8 0]:={}
instance:Bd prog 339 0 0 5:={}
instance:Bd prog 339 1 1 5:={}
instance:Hi prog 339 [(0,1),(1,1)]:={}
instance:pa prog 340 2 true 2 [.int .u8 0,.int .u8 0]:={}
instance:Bd prog 340 0 0 5:={}
instance:Bd prog 340 1 1 5:={}
instance:Hi prog 340 [(0,1),(1,1)]:={}
instance:Qa prog 341 (.array 16 340):={}
instance:pa prog 341 32 true 32 [.int .u8 0,.int .u8 0,.int .u8 0,.int .u8 0,.int .u8 0,.int .u8 0,.int .u8 0,.int .u8 0,.int .u8 0,.int .u8 0,.int .u8 0,.int .u8 0,.int .u8 0,.int .u8 0,.int .u8 0,.int .u8 0,.int .u8 0,.int .u8 0,.int .u8 0,.int .u8 0,.int .u8 0,.int .u8 0,.int .u8 0,.int .u8 0,.int .u8 0,.int .u8 0,.int .u8 0,.int .u8 0,.int .u8 0,.int .u8 0,.int .u8 0,.int .u8 0]:={}
instance:Qa prog 345 (.pointer 362):={}
instance:pa prog 345 1 false 8 [.pointer none]:={}
instance:pa prog 346 4 true 40 [.pointer none,.pointer none,.pointer none,.string { data:= #[] }]:={}
instance:Bd prog 346 0 0 17:={}
instance:Bd prog 346 1 1 17:={}
instance:Bd prog 346 2 2 17:={}
instance:Bd prog 346 3 3 9:={}
instance:Hi prog 346 [(0,1),(1,1),(2,1),(3,1)]:={}
instance:pa prog 347 4 true 40 [.pointer none,.pointer none,.pointer none,.string { data:= #[] }]:={}
instance:Bd prog 347 0 0 17:={}
instance:Bd prog 347 1 1 17:={}
instance:Bd prog 347 2 2 17:={}
instance:Bd prog 347 3 3 9:={}
instance:Hi prog 347 [(0,1),(1,1),(2,1),(3,1)]:={}
instance:Qa prog 348 (.array 0 16):={}
instance:pa prog 348 0 true 0 []:={}
instance:pa prog 349 0 true 0 []:={}
instance:Hi prog 349 [(0,0)]:={}
instance:pa prog 350 0 true 0 []:={}
instance:Hi prog 350 [(0,0)]:={}
instance:Qa prog 351 (.int .u32):={}
instance:pa prog 351 1 false 4 [.int .u32 0]:={}
instance:Qa prog 352 (.int .u8):={}
instance:pa prog 352 1 false 1 [.int .u8 0]:={}
instance:Qa prog 353 (.int .u8):={}
instance:pa prog 353 1 false 1 [.int .u8 0]:={}
instance:Qa prog 355 (.pointer 5):={}
instance:pa prog 355 1 false 8 [.pointer none]:={}
instance:Qa prog 356 (.int .i32):={}
instance:pa prog 356 1 false 4 [.int .i32 0]:={}
instance:Qa prog 357 (.int .i32):={}
instance:pa prog 357 1 false 4 [.int .i32 0]:={}
instance:pa prog 358 11 true 48 [.int .u64 0,.int .u64 0,.int .u32 0,.int .u8 0,.int .u8 0,.int .u8 0,.int .u8 0,.nilFunc,.pointer none,.int .i32 0,.int .i32 0]:={}
instance:pa prog 359 11 true 48 [.int .u64 0,.int .u64 0,.int .u32 0,.int .u8 0,.int .u8 0,.int .u8 0,.int .u8 0,.nilFunc,.pointer none,.int .i32 0,.int .i32 0]:={}
instance:pa prog 361 1 true 16 [.string { data:= #[] }]:={}
instance:Bd prog 361 0 0 9:={}
instance:Hi prog 361 [(0,1)]:={}
instance:pa prog 362 1 true 16 [.string { data:= #[] }]:={}
instance:Bd prog 362 0 0 9:={}
instance:Hi prog 362 [(0,1)]:={}
def mixed:prog.follows .mixedOrders=true:=by kernel_rfl
instance:la prog 3:={}
instance:la prog 4:={}
instance:la prog 5:={}
instance:la prog 6:={}
instance:la prog 7:={}
instance:la prog 8:={}
instance:la prog 9:={}
instance:la prog 10:={}
instance:la prog 11:={}
instance:la prog 12:={}
instance:la prog 13:={}
instance:la prog 14:={}
instance:la prog 15:={}
instance:la prog 16:={}
instance:la prog 17:={}
instance:la prog 18:={}
instance:la prog 19:={}
instance:la prog 20:={}
instance:la prog 21:={}
instance:la prog 22:={}
instance:la prog 23:={}
instance:la prog 24:={}
instance:la prog 25:={}
instance:la prog 26:={}
instance:la prog 27:={}
instance:la prog 28:={}
instance:la prog 29:={}
instance:la prog 30:={}
instance:la prog 31:={}
instance:la prog 32:={}
instance:la prog 33:={}
instance:la prog 34:={}
instance:la prog 35:={}
instance:la prog 36:={}
instance:la prog 37:={}
instance:la prog 38:={}
instance:la prog 39:={}
instance:la prog 40:={}
instance:la prog 41:={}
instance:la prog 42:={}
instance:la prog 43:={}
instance:la prog 44:={}
instance:la prog 45:={}
instance:la prog 46:={}
instance:la prog 47:={}
instance:la prog 48:={}
instance:la prog 49:={}
instance:la prog 50:={}
instance:la prog 51:={}
instance:la prog 52:={}
instance:la prog 53:={}
instance:la prog 54:={}
instance:la prog 55:={}
instance:la prog 56:={}
instance:la prog 57:={}
instance:la prog 58:={}
instance:la prog 59:={}
instance:la prog 60:={}
instance:la prog 61:={}
instance:la prog 62:={}
instance:la prog 63:={}
instance:la prog 64:={}
instance:la prog 65:={}
instance:la prog 66:={}
instance:la prog 67:={}
instance:la prog 68:={}
instance:la prog 69:={}
instance:la prog 70:={}
instance:la prog 71:={}
instance:la prog 72:={}
instance:la prog 73:={}
instance:la prog 74:={}
instance:la prog 75:={}
instance:la prog 76:={}
instance:la prog 77:={}
instance:la prog 78:={}
instance:la prog 79:={}
instance:la prog 80:={}
instance:la prog 81:={}
instance:la prog 82:={}
instance:la prog 83:={}
instance:la prog 84:={}
instance:la prog 85:={}
instance:la prog 86:={}
instance:la prog 87:={}
instance:la prog 88:={}
instance:la prog 89:={}
instance:la prog 90:={}
instance:la prog 91:={}
instance:la prog 92:={}
instance:la prog 93:={}
instance:la prog 94:={}
instance:la prog 95:={}
instance:la prog 96:={}
instance:la prog 97:={}
instance:la prog 98:={}
instance:la prog 99:={}
instance:la prog 100:={}
instance:la prog 101:={}
instance:la prog 102:={}
instance:la prog 103:={}
instance:la prog 104:={}
instance:la prog 105:={}
instance:la prog 106:={}
instance:la prog 107:={}
instance:la prog 108:={}
instance:la prog 109:={}
instance:la prog 110:={}
instance:la prog 111:={}
instance:la prog 112:={}
instance:la prog 113:={}
instance:la prog 114:={}
instance:la prog 115:={}
instance:la prog 116:={}
instance:la prog 117:={}
instance:la prog 118:={}
instance:la prog 119:={}
instance:la prog 120:={}
instance:la prog 121:={}
instance:la prog 122:={}
instance:la prog 123:={}
instance:la prog 124:={}
instance:la prog 125:={}
instance:la prog 126:={}
instance:la prog 127:={}
instance:la prog 128:={}
instance:la prog 129:={}
instance:la prog 130:={}
instance:la prog 131:={}
instance:la prog 132:={}
instance:la prog 133:={}
instance:la prog 134:={}
instance:la prog 135:={}
instance:la prog 136:={}
instance:la prog 137:={}
instance:la prog 138:={}
instance:la prog 139:={}
instance:la prog 140:={}
instance:la prog 141:={}
instance:la prog 142:={}
instance:la prog 143:={}
instance:la prog 144:={}
instance:la prog 145:={}
instance:la prog 146:={}
instance:la prog 147:={}
instance:la prog 148:={}
instance:la prog 149:={}
instance:la prog 150:={}
instance:la prog 151:={}
instance:la prog 152:={}
instance:la prog 153:={}
instance:la prog 154:={}
instance:la prog 155:={}
instance:la prog 156:={}
instance:la prog 157:={}
instance:la prog 158:={}
instance:la prog 159:={}
instance:la prog 160:={}
instance:la prog 161:={}
instance:la prog 162:={}
instance:la prog 163:={}
instance:la prog 164:={}
instance:la prog 165:={}
instance:la prog 166:={}
instance:la prog 167:={}
instance:la prog 168:={}
instance:la prog 169:={}
instance:la prog 170:={}
instance:la prog 171:={}
instance:la prog 172:={}
instance:la prog 173:={}
instance:la prog 174:={}
instance:la prog 175:={}
instance:la prog 176:={}
instance:la prog 177:={}
instance:la prog 178:={}
instance:la prog 179:={}
instance:la prog 180:={}
instance:la prog 181:={}
instance:la prog 182:={}
instance:la prog 183:={}
instance:la prog 184:={}
instance:la prog 185:={}
instance:la prog 186:={}
instance:la prog 187:={}
instance:la prog 188:={}
instance:la prog 189:={}
instance:la prog 190:={}
instance:la prog 191:={}
instance:la prog 192:={}
instance:la prog 193:={}
instance:la prog 194:={}
instance:la prog 195:={}
instance:la prog 196:={}
instance:la prog 197:={}
instance:la prog 198:={}
instance:la prog 199:={}
instance:la prog 200:={}
instance:la prog 201:={}
instance:la prog 202:={}
instance:la prog 203:={}
instance:la prog 204:={}
instance:la prog 205:={}
instance:la prog 206:={}
instance:la prog 207:={}
instance:la prog 208:={}
instance:la prog 209:={}
instance:la prog 210:={}
instance:la prog 211:={}
instance:la prog 212:={}
instance:la prog 213:={}
instance:la prog 214:={}
instance:la prog 215:={}
instance:la prog 216:={}
instance:la prog 217:={}
instance:la prog 218:={}
instance:la prog 219:={}
instance:la prog 220:={}
instance:la prog 221:={}
instance:la prog 222:={}
instance:la prog 223:={}
instance:la prog 224:={}
instance:la prog 225:={}
instance:la prog 226:={}
instance:la prog 227:={}
instance:la prog 228:={}
instance:la prog 229:={}
instance:la prog 230:={}
instance:la prog 231:={}
instance:la prog 232:={}
instance:la prog 233:={}
instance:la prog 234:={}
instance:la prog 235:={}
instance:la prog 236:={}
instance:la prog 237:={}
instance:la prog 238:={}
instance:la prog 239:={}
instance:la prog 240:={}
instance:la prog 241:={}
instance:la prog 242:={}
instance:la prog 243:={}
instance:la prog 244:={}
instance:la prog 245:={}
instance:la prog 246:={}
instance:la prog 247:={}
instance:la prog 248:={}
instance:la prog 249:={}
instance:la prog 250:={}
instance:la prog 251:={}
instance:la prog 252:={}
instance:la prog 253:={}
instance:la prog 254:={}
instance:la prog 255:={}
instance:la prog 256:={}
instance:la prog 257:={}
instance:la prog 258:={}
instance:la prog 259:={}
instance:la prog 260:={}
instance:la prog 261:={}
instance:la prog 262:={}
instance:la prog 263:={}
instance:la prog 264:={}
instance:la prog 265:={}
instance:la prog 266:={}
instance:la prog 267:={}
instance:la prog 268:={}
instance:la prog 269:={}
instance:la prog 270:={}
instance:la prog 271:={}
instance:la prog 272:={}
instance:la prog 273:={}
instance:la prog 274:={}
instance:la prog 275:={}
instance:la prog 276:={}
instance:la prog 277:={}
instance:la prog 278:={}
instance:la prog 279:={}
instance:la prog 280:={}
instance:la prog 281:={}
instance:la prog 282:={}
instance:la prog 283:={}
instance:la prog 284:={}
instance:la prog 285:={}
instance:la prog 286:={}
instance:la prog 287:={}
instance:la prog 288:={}
instance:la prog 289:={}
instance:la prog 290:={}
instance:la prog 291:={}
instance:la prog 292:={}
instance:la prog 293:={}
instance:la prog 294:={}
instance:la prog 295:={}
instance:la prog 296:={}
instance:la prog 297:={}
instance:la prog 298:={}
instance:la prog 299:={}
instance:la prog 300:={}
instance:la prog 301:={}
instance:la prog 302:={}
instance:la prog 303:={}
instance:la prog 304:={}
instance:la prog 305:={}
instance:la prog 306:={}
instance:la prog 307:={}
instance:la prog 308:={}
instance:la prog 309:={}
instance:la prog 312:={}
instance:la prog 313:={}
instance:la prog 314:={}
instance:la prog 315:={}
instance:la prog 316:={}
instance:la prog 317:={}
instance:la prog 318:={}
instance:la prog 319:={}
instance:la prog 320:={}
instance:la prog 321:={}
instance:la prog 322:={}
instance:la prog 324:={}
instance:la prog 325:={}
instance:la prog 326:={}
instance:la prog 327:={}
instance:la prog 328:={}
instance:la prog 329:={}
instance:la prog 330:={}
instance:la prog 331:={}
instance:la prog 332:={}
instance:la prog 333:={}
open Go.RowKit
variable {ro:Mode}{P:Program}{N d:Nat}{ops:Array Oper}{Q:Kq}{O:Rf}{w:World}{rest:List Oper}{ty:TypeId}{pos:String}{af:Array Edge}{x:Operand}
def mI{k:IntKind}{a:Int}(p:WL ro P N ops Q rest (jd O d (.int k a)) w)(C:ev O x=.int k a:=by exact Xb rfl)(L:d<N:=by decide):WL ro P N ops Q (⟨some d,.move x,ty,pos,af,none⟩::rest) O w:=sv (Ib C) p L
def aI{k:IntKind}{a:Int}(p:WL ro P N ops Q rest (jd O d (.int k a)) w)(C:ev O x=.int k a:=by exact Xb rfl)(L:d<N:=by decide):WL ro P N ops Q (⟨some d,.assign x,ty,pos,af,none⟩::rest) O w:=sv (rn C) p L
def mB{a:Bool}(p:WL ro P N ops Q rest (jd O d (.bool a)) w)(C:ev O x=.bool a:=by exact Wn rfl)(L:d<N:=by decide):WL ro P N ops Q (⟨some d,.move x,ty,pos,af,none⟩::rest) O w:=sv (Ib C) p L
def aB{a:Bool}(p:WL ro P N ops Q rest (jd O d (.bool a)) w)(C:ev O x=.bool a:=by exact Wn rfl)(L:d<N:=by decide):WL ro P N ops Q (⟨some d,.assign x,ty,pos,af,none⟩::rest) O w:=sv (rn C) p L
def mS{a:ByteArray}(p:WL ro P N ops Q rest (jd O d (.string a)) w)(C:ev O x=.string a:=by exact uD rfl)(L:d<N:=by decide):WL ro P N ops Q (⟨some d,.move x,ty,pos,af,none⟩::rest) O w:=sv (Ib C) p L
def aS{a:ByteArray}(p:WL ro P N ops Q rest (jd O d (.string a)) w)(C:ev O x=.string a:=by exact uD rfl)(L:d<N:=by decide):WL ro P N ops Q (⟨some d,.assign x,ty,pos,af,none⟩::rest) O w:=sv (rn C) p L
variable {n:Nat}
def mL{A:Option Addr}{c:Nat}(p:WL ro P N ops Q rest (jd O d (.slice A n c)) w)(C:ev O x=.slice A n c:=by exact dp rfl)(L:d<N:=by decide):WL ro P N ops Q (⟨some d,.move x,ty,pos,af,none⟩::rest) O w:=sv (Ib C) p L
def aL{A:Option Addr}{c:Nat}(p:WL ro P N ops Q rest (jd O d (.slice A n c)) w)(C:ev O x=.slice A n c:=by exact dp rfl)(L:d<N:=by decide):WL ro P N ops Q (⟨some d,.assign x,ty,pos,af,none⟩::rest) O w:=sv (rn C) p L
def mT{l:List Value}(p:WL ro P N ops Q rest (jd O d (.tuple l.toArray)) w)(C:ev O x=.tuple l.toArray:=by exact abS rfl)(L:d<N:=by decide):WL ro P N ops Q (⟨some d,.move x,ty,pos,af,none⟩::rest) O w:=sv (Ib C) p L
variable {r:Bool}
def mF{f:Fn}{l r:List Value}(p:WL ro P N ops Q rest (jd O d (.func f l.toArray r.toArray)) w)(C:ev O x=.func f l.toArray r.toArray:=by exact xr rfl)(L:d<N:=by decide):WL ro P N ops Q (⟨some d,.move x,ty,pos,af,none⟩::rest) O w:=sv (Ib C) p L
def mP{a:Option Addr}(p:WL ro P N ops Q rest (jd O d (.pointer a)) w)(C:ev O x=.pointer a:=by exact rfl)(L:d<N:=by decide):WL ro P N ops Q (⟨some d,.move x,ty,pos,af,none⟩::rest) O w:=sv (Ib C) p L
variable {H:List HE}{y:Operand}{t u:TypeId}
def Wg{k:IntKind}{a b:Int}(p:WL ro P N ops Q rest (jd O d (.bool r)) w)(C:ev O x=.int k a:=by exact rfl)(hy:ev O y=.int k b:=by exact rfl)(H:decide (a<b)=r:=by first|exact m' Z'|exact k' Z'|exact rfl)(L:d<N:=by decide):WL ro P N ops Q (⟨some d,.binOp .lss t x y u,ty,pos,af,none⟩::rest) O w:=sv (yM C hy) (by rw[H];exact p) L
def afT{k:IntKind}{a b:Int}(p:WL ro P N ops Q rest (jd O d (.bool r)) w)(C:ev O x=.int k a:=by exact rfl)(hy:ev O y=.int k b:=by exact rfl)(H:decide (a<=b)=r:=by first|exact m' Z'|exact k' Z'|exact rfl)(L:d<N:=by decide):WL ro P N ops Q (⟨some d,.binOp .leq t x y u,ty,pos,af,none⟩::rest) O w:=sv (TL C hy) (by rw[H];exact p) L
def Fu{k:IntKind}{a b:Int}(p:WL ro P N ops Q rest (jd O d (.bool r)) w)(C:ev O x=.int k a:=by exact rfl)(hy:ev O y=.int k b:=by exact rfl)(H:decide (b<a)=r:=by first|exact m' Z'|exact k' Z'|exact rfl)(L:d<N:=by decide):WL ro P N ops Q (⟨some d,.binOp .gtr t x y u,ty,pos,af,none⟩::rest) O w:=sv (eM C hy) (by rw[H];exact p) L
def Ny{k:IntKind}{a b:Int}(p:WL ro P N ops Q rest (jd O d (.bool r)) w)(C:ev O x=.int k a:=by exact rfl)(hy:ev O y=.int k b:=by exact rfl)(H:decide (b<=a)=r:=by first|exact m' Z'|exact k' Z'|exact rfl)(L:d<N:=by decide):WL ro P N ops Q (⟨some d,.binOp .geq t x y u,ty,pos,af,none⟩::rest) O w:=sv (mW C hy) (by rw[H];exact p) L
def Ct{k:IntKind}{a b:Int}(p:WL ro P N ops Q rest (jd O d (.bool r)) w)(C:ev O x=.int k a:=by exact rfl)(hy:ev O y=.int k b:=by exact rfl)(H:decide (a=b)=r:=by first|exact m' Z'|exact k' Z'|exact rfl)(L:d<N:=by decide):WL ro P N ops Q (⟨some d,.binOp .eql t x y u,ty,pos,af,none⟩::rest) O w:=sv (TB C hy) (by rw[H];exact p) L
def ZC{k:IntKind}{a b:Int}(p:WL ro P N ops Q rest (jd O d (.bool r)) w)(C:ev O x=.int k a:=by exact rfl)(hy:ev O y=.int k b:=by exact rfl)(H:decide (a≠b)=r:=by first|exact m' Z'|exact k' Z'|exact rfl)(L:d<N:=by decide):WL ro P N ops Q (⟨some d,.binOp .neq t x y u,ty,pos,af,none⟩::rest) O w:=sv (kL C hy) (by rw[H];exact p) L
def Gi{a b:Int}(p:WL ro P N ops Q rest (jd O d (.int .i64 (a+b))) w)(C:ev O x=.int .i64 a:=by exact rfl)(hy:ev O y=.int .i64 b:=by exact rfl)(h1: -9223372036854775808<=a+b:=by omega)(h2:a+b<=9223372036854775807:=by omega)(L:d<N:=by decide):WL ro P N ops Q (⟨some d,.binOp .add t x y u,ty,pos,af,none⟩::rest) O w:=sv (Ws C hy h1 h2) p L
def vy{a b:Int}(p:WL ro P N ops Q rest (jd O d (.int .i64 (a-b))) w)(C:ev O x=.int .i64 a:=by exact rfl)(hy:ev O y=.int .i64 b:=by exact rfl)(h1: -9223372036854775808<=a-b:=by omega)(h2:a-b<=9223372036854775807:=by omega)(L:d<N:=by decide):WL ro P N ops Q (⟨some d,.binOp .sub t x y u,ty,pos,af,none⟩::rest) O w:=sv (zU C hy h1 h2) p L
def mulC{a b:Int}(p:WL ro P N ops Q rest (jd O d (.int .i64 (a*b))) w)(C:ev O x=.int .i64 a:=by exact rfl)(hy:ev O y=.int .i64 b:=by exact rfl)(h1: -9223372036854775808<=a*b:=by omega)(h2:a*b<=9223372036854775807:=by omega)(L:d<N:=by decide):WL ro P N ops Q (⟨some d,.binOp .mul t x y u,ty,pos,af,none⟩::rest) O w:=sv (oT C hy h1 h2) p L
variable {vs:List Value}
def Jv{i:Nat}{v:Value}(p:WL ro P N ops Q rest (jd O d (v)) w)(C:ev O x=.tuple vs.toArray:=by exact rfl)(A:vs[i]?=some v:=by exact rfl)(L:d<N:=by decide):WL ro P N ops Q (⟨some d,.extract x i,ty,pos,af,none⟩::rest) O w:=sv (vd C A) p L
def DC{b:Bool}(p:WL ro P N ops Q rest (jd O d (.bool !b)) w)(C:ev O x=.bool b:=by exact rfl)(L:d<N:=by decide):WL ro P N ops Q (⟨some d,.unOp .not t x,ty,pos,af,none⟩::rest) O w:=sv (gY C) p L
def xi{e:TypeId}{A:Option Addr}{c:Nat}[S:Qa P t (.slice e)](p:WL ro P N ops Q rest (jd O d (.int .i64 n)) w)(C:ev O x=.slice A n c:=by exact rfl)(L:d<N:=by decide):WL ro P N ops Q (⟨some d,.call ⟨.builtin .len, #[x], #[t]⟩,ty,pos,af,none⟩::rest) O w:=sv (rF S.out C) p L
variable {o off:Nat}
def Bm{s:TypeId}{f b:Nat}{q:TypeId}[Y:Bd P s f off q](p:WL ro P N ops Q rest (jd O d (.pointer (some ⟨b,o+off,none⟩))) w)(C:ev O x=.pointer (some ⟨b,o,none⟩):=by exact rfl)(L:d<N:=by decide):WL ro P N ops Q (⟨some d,.fieldAddr s x f,ty,pos,af,none⟩::rest) O w:=sv (cu Y.out C) p L
variable {by':Nat}{cs zc:List Value}{fz:Nat×Nat}{w0:World}
def pj{b:Nat}{f:TypeId}{v:Value}(I:Hp w0 H w)(i:Nat)[S:pa P t n false by' zc](p:WL ro P N ops Q rest (jd O d (v)) w)(C:ev O x=.pointer (some ⟨b,o,none⟩):=by exact rfl)(hi:H[i]?=some (.blk b f cs fz):=by exact rfl)(A:cs[o]?=some v:=by exact rfl)(L:d<N:=by decide):WL ro P N ops Q (⟨some d,.load t x,ty,pos,af,none⟩::rest) O w:=sv (Ba S.out C (I.se hi A)) p L
def rk{b:Nat}{f:TypeId}(I:Hp w0 H w)(i:Nat)(vs:List Value)[S:pa P t n true by' zc](p:WL ro P N ops Q rest (jd O d (.agg vs.toArray)) w)(C:ev O x=.pointer (some ⟨b,o,none⟩):=by exact rfl)(hi:H[i]?=some (.blk b f cs fz):=by exact rfl)(A:(cs.drop o).take n=vs:=by exact rfl)(a:vs.length=n:=by exact rfl)(L:d<N:=by decide):WL ro P N ops Q (⟨some d,.load t x,ty,pos,af,none⟩::rest) O w:=sv (Ka S.out C (I.Ra hi A) a) p L
variable {ag:Bool}
def dv(I:Hp w0 H w)[S:pa P t n ag by' zc](p:∀b V,Hp w0 (.blk b t zc (0,0)::H) V->WL ro P N ops Q rest (jd O d (.pointer (some ⟨b,0,none⟩))) V)(L:d<N:=by decide):WL ro P N ops Q (⟨some d,.alloc t,ty,pos,af,none⟩::rest) O w:=xP I S.out L p
def jC{v:Value}(I:Hp w0 H w)(cs:List Value)(p:∀b V,Hp w0 (.blk b t cs (0,0)::H) V->WL ro P N ops Q rest (jd O d (.pointer (some ⟨b,0,none⟩))) V)(C:ev O x=v:=by exact rfl)(E:v.cells=cs.toArray:=by exact rfl)(L:d<N:=by decide):WL ro P N ops Q (⟨some d,.box t x,ty,pos,af,none⟩::rest) O w:=fT I C E L p
def Ze{f:TypeId}{b:Nat}{v:Value}(I:Hp w0 H w)(i:Nat)(vs:List Value)[S:pa P t n ag by' zc](p:∀V,Hp w0 (H.set i (.blk b f (db cs o vs) fz)) V->WL ro P N ops Q rest O V)(C:ev O x=.pointer (some ⟨b,o,none⟩):=by exact rfl)(hi:H[i]?=some (.blk b f cs fz):=by exact rfl)(hy:ev O y=v:=by exact rfl)(E:v.cells=vs.toArray:=by exact rfl)(a:vs.length=n:=by exact rfl)(W:o+n<=cs.length:=by simp)(h1:(vs.all Value.oneCell')=true:=by exact rfl):WL ro P N ops Q (⟨none,.store t x y,ty,pos,af,none⟩::rest) O w:=Tx I C hi hy E S.out a W h1 p
variable {parts:Array (Nat×Operand)}
def Ez{X:List (Nat×Value)}{pl:List (Nat×Nat)}(cs:List Value)[D:pa P t n true by' zc][s:Hi P t pl](p:WL ro P N ops Q rest (jd O d (.agg cs.toArray)) w)(hp:gF O parts.toList=X:=by exact rfl)(Y:jm (pl[·]?) zc X=some cs:=by exact rfl)(L:d<N:=by decide):WL ro P N ops Q (⟨some d,.build t parts,ty,pos,af,none⟩::rest) O w:=sv (yC D.out s.out hp Y) p L
def gP{c a b:Operand}{v:Bool}(p:WL ro P N ops Q rest (jd O d (.bool v)) w)(E:ev O c=.bool true:=by exact rfl)(C:ev O a=.bool v:=by exact Wn rfl)(L:d<N:=by decide):WL ro P N ops Q (⟨some d,.pick c a b,ty,pos,af,none⟩::rest) O w:=sv (eF E C) p L
def FH{c a b:Operand}{v:Bool}(p:WL ro P N ops Q rest (jd O d (.bool v)) w)(E:ev O c=.bool false:=by exact rfl)(C:ev O b=.bool v:=by exact Wn rfl)(L:d<N:=by decide):WL ro P N ops Q (⟨some d,.pick c a b,ty,pos,af,none⟩::rest) O w:=sv (lG E C) p L
variable {j:Nat}
def gS{op:Op}{g:Nat}{b c:Bool}(p:WL ro P N ops Q rest (jd O d undef) w)(L:d<N:=by decide)(hj:(ops[j]?).bind (·.dst)=some g:=by exact rfl)(A:O g=.bool c:=by exact rfl)(F:c≠b:=by decide):WL ro P N ops Q (⟨some d,op,ty,pos,af,some (j,b)⟩::rest) O w:=qk L hj A F p
def gV{op:Op}{g:Nat}{b:Bool}(p:WL ro P N ops Q rest (jd O d undef) w)(L:d<N:=by decide)(hj:(ops[j]?).bind (·.dst)=some g:=by exact rfl)(F:nb (O g) b=true:=by exact rfl):WL ro P N ops Q (⟨some d,op,ty,pos,af,some (j,b)⟩::rest) O w:=iw L hj F p
def gT{dd:Option Nat}{op:Op}{g:Nat}{b:Bool}(p:WL ro P N ops Q (⟨dd,op,ty,pos,af,none⟩::rest) O w)(hj:(ops[j]?).bind (·.dst)=some g:=by exact rfl)(A:O g=.bool b:=by exact rfl):WL ro P N ops Q (⟨dd,op,ty,pos,af,some (j,b)⟩::rest) O w:=Oe hj A p
variable {R:Ending->World->Prop}{args:Array Operand}
def cdC{f:FuncId}{ts:Array TypeId}{v:Value}(I:Hp w0 H w)(E:Calls P f vs.toArray w λe V=>e=.returned v/\Below w.heap.size w V)[Y:la P f](M:Qs O args.toList=vs)(p:∀V,Hp w0 H V->WL ro P N ops Q rest (jd O d v) V)(L:d<N:=by decide):WL ro P N ops Q (⟨some d,.call ⟨.value (.func f),args,ts⟩,ty,pos,af,none⟩::rest) O w:=Tc E Y.out M L λ_ _ R=>⟨_,R.1,p _ (I.ext R.2)⟩
def sr{id:Nat}{y:Code}{l:List Oper}(h:WL ro P N l.toArray (Nd (λO w=>WC ro P N y Q O w) Q) l O w):WC ro P N (.seq (.region id l.toArray false) y) Q O w:=xa (Hb h)
def cT{c:Operand}{x y:Code}(h:WC ro P N x Q O w)(E:ev O c=.bool true:=by exact rfl):WC ro P N (.cond c x y) Q O w:=kO E h
def cF{c:Operand}{x y:Code}(h:WC ro P N y Q O w)(E:ev O c=.bool false:=by exact rfl):WC ro P N (.cond c x y) Q O w:=XM E h
def qa1{fn:Func}{e:Exit}{t0:Tmp}{v0:Value}(h:R (.returned v0) w)(H:fn.results= #[.tmp t0]:=by exact rfl)(J:O t0=v0:=by first|exact ji rfl|exact jk rfl|exact JA rfl|exact aN rfl|exact v_agg rfl|exact rfl)(he:e=.normal\/e=.ret:=by first|exact .inr rfl|exact .inl rfl):Cm P fn R e O w:=ae8 he H J h
variable {v1:Value}
def qa2{fn:Func}{e:Exit}{t0 t1:Tmp}{v0:Value}(h:R (.returned (.tuple #[v0,v1])) w)(H:fn.results= #[.tmp t0,.tmp t1]:=by exact rfl)(J:O t0=v0:=by first|exact ji rfl|exact jk rfl|exact JA rfl|exact aN rfl|exact v_agg rfl|exact rfl)(h1:O t1=v1:=by first|exact ji rfl|exact jk rfl|exact JA rfl|exact aN rfl|exact v_agg rfl|exact rfl)(he:e=.normal\/e=.ret:=by first|exact .inr rfl|exact .inl rfl):Cm P fn R e O w:=af7 he H J h1 h
def qa3{fn:Func}{e:Exit}{t0 t1 t2:Tmp}{v0 v2:Value}(h:R (.returned (.tuple #[v0,v1,v2])) w)(H:fn.results= #[.tmp t0,.tmp t1,.tmp t2]:=by exact rfl)(J:O t0=v0:=by first|exact ji rfl|exact jk rfl|exact JA rfl|exact aN rfl|exact v_agg rfl|exact rfl)(h1:O t1=v1:=by first|exact ji rfl|exact jk rfl|exact JA rfl|exact aN rfl|exact v_agg rfl|exact rfl)(h2:O t2=v2:=by first|exact ji rfl|exact jk rfl|exact JA rfl|exact aN rfl|exact v_agg rfl|exact rfl)(he:e=.normal\/e=.ret:=by first|exact .inr rfl|exact .inl rfl):Cm P fn R e O w:=af2 he H J h1 h2 h
def qN{fn:Func}{e:Exit}{Y:ResultVar}{v0:Value}(h1:Kh P O w [Y] [v0])(h:R (.returned v0) w)(H:fn.results= #[Y]:=by exact rfl)(he:e=.normal\/e=.ret:=by first|exact .inr rfl|exact .inl rfl):Cm P fn R e O w:=adR he H h1 h
def dP{fn:Func}{e:Exit}{Y M:ResultVar}{v0:Value}(h1:Kh P O w [Y,M] [v0,v1])(h:R (.returned (.tuple #[v0,v1])) w)(H:fn.results= #[Y,M]:=by exact rfl)(he:e=.normal\/e=.ret:=by first|exact .inr rfl|exact .inl rfl):Cm P fn R e O w:=aeg he H h1 h
def qc3{fn:Func}{e:Exit}{Y M r:ResultVar}{v0 v2:Value}(h1:Kh P O w [Y,M,r] [v0,v1,v2])(h:R (.returned (.tuple #[v0,v1,v2])) w)(H:fn.results= #[Y,M,r]:=by exact rfl)(he:e=.normal\/e=.ret:=by first|exact .inr rfl|exact .inl rfl):Cm P fn R e O w:=aek he H h1 h
class TS(P:Program)(t:TypeId)(n:outParam Nat):Prop where out:(P.info? t).map (·.size)=some n
instance {P:Program}{t n b:Nat}{ag:Bool}{zc:List Value}[pa P t n ag b zc]:TS P t n:=⟨pa.size⟩
variable {k:Nat}
def u0(ops:Array Oper):Nat->Nat->Nat->Bool
 |0,_,_=>false
 |n+1,k,i=>match ops[k]? with
  |none=>false
  |some o=>(o.after.any λe=>Region.binds .any e && e.on==i)||o.after.any λe=>Region.binds .any e && u0 ops n e.on i
def Vp(ops:Array Oper)(L:Array Bool):Prop:=∀k o,ops[k]?=some o->L.getD k false=true->∀e∈o.after,Region.binds .any e=true->L.getD e.on false=true
variable {W:World}
def Om{ops:Array Oper}{L:Array Bool}(E:Vp ops L):∀(n k i:Nat),(∀o,ops[k]?=some o->∀e∈o.after,Region.binds .any e=true->L.getD e.on false=true)->u0 ops n k i=true->L.getD i false=true
 |0,_,_,_,h=>by simp[u0] at h
 |n+1,k,i,u,h=>by
  unfold u0 at h;split at h
  .cases h
  rename_i o W;rw[V7] at h;obtain h|h:=h
  .obtain⟨e,he,h⟩:=Array.any_eq_true'.1 h;simp only[l',k9] at h;rw[<-h.2];exact u o W e he h.1
  obtain⟨e,he,h⟩:=Array.any_eq_true'.1 h;simp only[l'] at h;have h1:=u o W e he h.1;exact Om E n e.on i (λv K=>E e.on v K h1) h.2
variable {next:Rf->World->Prop}
structure OG(P:Program)(ops:Array Oper)(o:Oper)(O:Rf)(w:World)(K:Value->World->Prop):Prop where
 out:∀(a:Act)(next:Act->World->Prop)(Q:Exit->Act->World->Prop),(∀i,a.tmps.getD i undef=O i)->(∀v V,K v V->next (a.put o.dst v) V)->
  if Region.wanted o (yielded ops a.tmps) then o.wp P a w next Q\/(o.asks P a w/\LetsOut Q) else next (a.put o.dst undef) w
def eL{a:Act}(h:∀i,a.tmps.getD i undef=O i):a.eval=ev O:=by
 funext x
 cases x with
 |tmp t=>exact h t
 |_=>rfl
def wc{o:Oper}{K:Value->World->Prop}{v:Value}{V:World}(s:o.guard=none)(H:(execOp (ev O) o).run P w=.ok (.value v) V)(u:K v V):OG P ops o O w K:=
 ⟨λa next Q M B=>by
  rw[P' (by simp[Region.wanted,s])];refine .inl ?_;unfold Oper.wp;rw[eL M,H];exact B _ _ u⟩
variable {Z:World}
def ib{o:Oper}{K:Value->World->Prop}{f:FuncId}{args:Array Value}(s:o.guard=none)(H:(execOp (ev O) o).run P w=.ok (.enter f args) Z)(E:Calls P f args Z R) (u:∀e V,R e V->∃v,e=.returned v/\K v V):OG P ops o O w K:=
 ⟨λa next Q M B=>by
  rw[P' (by simp[Region.wanted,s])];refine .inl ?_;unfold Oper.wp;rw[eL M,H];show Calls P f args Z _;refine E.mono λe V hR=> ?_;obtain⟨v,rfl,b⟩:=u e V hR;exact B _ _ b⟩
def nk{K:Value->World->Prop}{d:Option Nat}{op:Op}{ty:TypeId}{af:Array Edge}{g:Nat}{b:Bool} (hj:(ops[j]?).bind (·.dst)=some g)(A:O g=.bool b)(h:OG P ops ⟨d,op,ty,pos,af,none⟩ O w K):OG P ops ⟨d,op,ty,pos,af,some (j,b)⟩ O w K:=
 ⟨λa next Q M B=>by
  have h1:Region.wanted ⟨d,op,ty,pos,af,some (j,b)⟩ (yielded ops a.tmps)=true:=by
   have h2:=M g;rw[A,U9] at h2
   cases G:a.tmps[g]? with
   |none=>rw[G] at h2;cases h2
   |some x=>
    rw[G] at h2;simp only[J9] at h2;subst h2;simp[Region.wanted,yielded,hj,G]
  have h2:=h.out a next Q M B;rw[P' (by simp[Region.wanted])] at h2;rw[P' h1];exact h2⟩
def Ky{K:Value->World->Prop}{d:Option Nat}{op:Op}{ty:TypeId}{af:Array Edge}{g:Nat}{b c:Bool} (hj:(ops[j]?).bind (·.dst)=some g)(A:O g=.bool c)(F:c≠b)(h:K undef w):OG P ops ⟨d,op,ty,pos,af,some (j,b)⟩ O w K:=
 ⟨λa next Q M B=>by
  have h1:Region.wanted ⟨d,op,ty,pos,af,some (j,b)⟩ (yielded ops a.tmps)=false:=by
   have h2:=M g;rw[A,U9] at h2
   cases G:a.tmps[g]? with
   |none=>rw[G] at h2;cases h2
   |some x=>
    rw[G] at h2;simp only[J9] at h2;subst h2;simp[Region.wanted,yielded,hj,G,F]
  rw[h1];exact B _ _ h⟩
def Ec(V:Nat->Value->World->Prop)(O U:Rf)(Z:World):List (Nat×Option Nat)->Prop
 |[]=>True
 |(t,some j)::r=>V j (U t) Z/\Ec V O U Z r
 |(t,none)::r=>U t=O t/\Ec V O U Z r
def DO(P:Program)(ops:Array Oper)(J:World->Prop)(h:Nat->Value->World->Prop)(O:Rf):Nat->List Oper->List (List (Nat×Option Nat))->Prop
 |i,o::os,s::ss=>((∀v w V,h i v w->Below w.heap.size w V->h i v V)/\∀U Z,J Z->Ec h O U Z s->OG P ops o U Z λv q=>Below Z.heap.size Z q/\h i v q)/\DO P ops J h O (i+1) os ss
 |_,[],[]=>True
 |_,_,_=>False
def CM{ops:Array Oper}{J:World->Prop}{j:Nat->Value->World->Prop}:∀(l:List Oper)(ss:List (List (Nat×Option Nat)))(i:Nat),DO P ops J j O i l ss->l.length=ss.length/\∀k o,l[k]?=some o->∃s,ss[k]?=some s/\(∀v w V,j (i+k) v w->Below w.heap.size w V->j (i+k) v V)/\∀U Z,J Z->Ec j O U Z s->OG P ops o U Z λv q=>Below Z.heap.size Z q/\j (i+k) v q
 |[],[],_,_=>⟨rfl,λk o h=>by simp at h⟩
 |[],_::_,_,h=>h.elim
 |_::_,[],_,h=>h.elim
 |o::l,s::ss,i,h=>by
  obtain⟨h1,h2⟩:=CM l ss (i+1) h.2;refine⟨by simp[h1],λk a u=> ?_⟩
  cases k with
  |zero=>
   simp only[q7,g9] at u;subst u;exact⟨s,rfl,h.1⟩
  |succ k=>
   obtain⟨s',K,G⟩:=h2 k a (by simpa using u);refine⟨s',by simpa using K, ?_⟩;have e:i+1+k=i+(k+1):=Z';rw[e] at G;exact G
def qe(O:Rf)(f:Nat->Value):List (Nat×Nat)->Rf
 |[]=>O
 |(i,d)::r=>jd (qe O f r) d (f i)
def tp(V:Nat->Value->World->Prop)(f:Nat->Value)(w:World):List (Nat×Nat)->Prop
 |[]=>True
 |(i,_)::r=>V i (f i) w/\tp V f w r
def fh(n k:Nat):Array Bool:=(List.replicate k true++List.replicate (n-k) false).toArray
variable {m:Nat}
def hU(l:List Oper)(m N:Nat)(src:List (List (Nat×Option Nat)))(ds:List (Nat×Nat)):Bool:=
 let ops:=l.toArray
 let pre:=(List.range m).map λi=>((ops[i]?).bind (·.dst))
 (m<=l.length) && (src.length==m) &&
 (ds==(pre.zipIdx.filterMap λ(d,i)=>d.map λd=>(i,d)).reverse) && (decide (ds.map (·.2)).Nodup) && (ds.all λp=>p.2<N) &&
 ((List.range m).all λi=>match ops[i]?,src[i]? with
  |some o,some s=>((o.looksAt ops).all λt=>s.any λp=>p.1==t) &&
    s.all λp=>match p.2 with
     |some j=>(j<m) && ((ops[j]?).bind (·.dst)==some p.1) && u0 ops 16 i j
     |none=>(List.range m).all λj=> !((ops[j]?).bind (·.dst)==some p.1)||(j !=i && u0 ops 16 j i)
  |_,_=>false) &&
 (l.length==m||((List.range m).all λi=>u0 ops 16 m i)) &&
 ((List.range (l.length-m)).all λk=>Region.ready .any ops (fh l.length (m+k))==[m+k]) && (Region.ready .any ops (fh l.length l.length)==[]) &&
 ((List.range (l.length-m)).all λk=>k==0||u0 ops 16 (m+k) m) &&
 ((List.range l.length).all λi=>match ops[i]? with|some o=>o.after.all λe=> !Region.binds .any e||e.on<i|none=>false)
def JN(n k i:Nat):(fh n k).getD i false=decide (i<k):=by
 unfold fh;rw[U9,J8];obtain h|h:=o_ i k
 .rw[m9 (by simpa using h)];simp[h]
 rw[S9 (by simpa using h),X5];have:¬i<k:=Z';split<;>simp[this]
def eR(n k:Nat)(u:k<n):(fh n k).setIfInBounds k true=fh n (k+1):=by
 unfold fh;rw[List.setIfInBounds_toArray];congr 1;apply g_;intro i;rw[L9];simp only[List.getElem?_append,Q9,X5,y'];by_cases h1:k=i
 .subst h1;rw[P' rfl,P' Z',P' (show k<k+1 by omega),P' (show k<k+1 by omega)]
 rw[Q' h1];by_cases h2:i<k
 .rw[P' h2,P' h2,P' (show i<k+1 by omega),P' (show i<k+1 by omega)]
 rw[Q' h2,Q' (show ¬i<k+1 by omega)];by_cases G:i-k<n-k
 .rw[P' G,P' (show i-(k+1)<n-(k+1) by omega)]
 rw[Q' G,Q' (show ¬i-(k+1)<n-(k+1) by omega)]
def OO(n k:Nat)(u:k<=n):(fh n k).size=n:=by simp[fh];omega
def Hv(n k:Nat):(fh n k).toList.countP (λb=>b)=k:=by
 simp[fh,List.countP_replicate]
def Lq{L:Array Bool}(K:L.size=n)(u:k<=n)(h1:∀i,i<k->L.getD i false=true)(h2:∀i,k<=i->L.getD i false=false):L=fh n k:=by
 apply Array.ext
 .rw[K,OO n k u]
 intro i hi v;have N:L[i]=L.getD i false:=by simp[hi]
 have a:(fh n k)[i]=(fh n k).getD i false:=by simp[v]
 rw[N,a,JN n k i];obtain h|h:=o_ i k
 .rw[h1 i h];simp[h]
 rw[h2 i h];have:¬i<k:=Z';simp[this]
variable {fuel:Nat}{D:List Deferred}
def Pw{l:List Oper}{b:Exit->Act->World->Prop}(m:Nat) (H:∀k,m<=k->k<l.length->Region.ready .any l.toArray (fh l.length k)=[k])(x:Region.ready .any l.toArray (fh l.length l.length)=[]):
  ∀(fuel k:Nat)(a:Act)(w:World),m<=k->k<=l.length->l.length<=fuel+k->wpList P l.toArray b (l.drop k) a w->wpAny P .any l.toArray b fuel (fh l.length k) a w
 |fuel,k,a,w,C,u,Y,h=>by
  obtain D|N:=o_ k l.length
  .cases fuel with
   |zero=>omega
   |succ fuel=>
    refine wpAny_all (H k C D) (by simp) λi hi=> ?_;obtain rfl:i=k:=by simpa using hi
    rw[K8 D] at h;unfold wpList at h;have W:l.toArray[i]?=some l[i]:=by simp[D]
    have p:=eR l.length i D;have M:∀a w,wpList P l.toArray b (l.drop (i+1)) a w->wpAny P .any l.toArray b fuel ((fh l.length i).setIfInBounds i true) a w:=λa w h=>(by rw[p];exact Pw m H x fuel (i+1) a w Z' Z' Z' h);unfold wpOp;rw[W];simp only[];split at h
    .rename_i hw;rw[P' hw];exact h.imp (Oper.wp_mono M) id
    rename_i hw;rw[Q' hw];exact M _ _ h
  obtain rfl:k=l.length:=Z';rw[List.drop_length] at h;exact wpAny_done x h fuel
structure DI(D:List Deferred)(N:Nat)(ops:Array Oper)(m:Nat)(O:Rf)(J:World->Prop)(V:Nat->Value->World->Prop)(L:Array Bool)(a:Act)(w:World):Prop where
 nd:a.defers=D
 sz:a.tmps.size=N
 j:J w
 ls:L.size=ops.size
 cl:Vp ops L
 tl:∀k,m<=k->L.getD k false=false
 vs:∀i d,i<m->L.getD i false=true->(ops[i]?).bind (·.dst)=some d->V i (a.tmps.getD d undef) w
 mv:∀s,(∀i,i<m->L.getD i false=true->(ops[i]?).bind (·.dst)≠some s)->a.tmps.getD s undef=O s
def re{L:Array Bool}{i:Nat}(hi:i<L.size):(L.setIfInBounds i true).getD j false=(decide (j=i)||L.getD j false):=by
 rw[U9,Array.getElem?_setIfInBounds];by_cases h:i=j
 .subst h;simp[hi]
 have:¬j=i:=λe=>h e.symm;simp[h,this]
def Ve{a:Act}{d s:Nat}{v:Value}(T:d<a.tmps.size):(a.put (some d) v).tmps.getD s undef=if s=d then v else a.tmps.getD s undef:=by
 by_cases h:s=d
 .subst h;simp[Act.put,T]
 have:d≠s:=λe=>h e.symm;simp[Act.put,Array.getElem?_setIfInBounds_ne this,h]
def Jh(f:Nat->Value):∀(ds:List (Nat×Nat))(s:Nat),(ds.map (·.2)).Nodup->(∀i,(i,s)∈ds->qe O f ds s=f i)/\((∀i,(i,s)∉ds)->qe O f ds s=O s)
 |[],s,_=>⟨λi h=>by simp at h,λ_=>rfl⟩
 |(j,d)::r,s,h=>by
  rw[I_,W7] at h;obtain⟨h1,h2⟩:=Jh f r s h.2;constructor
  .intro i hi;obtain c|c:=u'.1 hi
   .injection c with N L
    subst N;subst L;exact ur _ _ _
   have E:s≠d:=λe=>h.1 (e ▸ B'.2 ⟨_,c,rfl⟩);exact(Dh _ E _).trans (h1 i c)
  intro B;have E:s≠d:=(by rintro rfl;exact B j I');exact(Dh _ E _).trans (h2 λi hi=>B i (L' _ hi))
def Lu{V:Nat->Value->World->Prop}{f:Nat->Value}{w:World}:∀(ds:List (Nat×Nat)),(∀p∈ds,V p.1 (f p.1) w)->tp V f w ds
 |[],_=>trivial
 |(i,d)::r,h=>⟨h (i,d) I',Lu r λp hp=>h p (L' _ hp)⟩
def Vr{V:Nat->Value->World->Prop}{U:Rf}{Z:World}:∀(s:List (Nat×Option Nat)),(∀p∈s,match p.2 with|some j=>V j (U p.1) Z|none=>U p.1=O p.1)->Ec V O U Z s
 |[],_=>trivial
 |(t,some j)::r,h=>⟨h (t,some j) I',Vr r λp hp=>h p (L' _ hp)⟩
 |(t,none)::r,h=>⟨h (t,none) I',Vr r λp hp=>h p (L' _ hp)⟩
theorem aeV{id:Nat}{l:List Oper}(m:Nat)(src:List (List (Nat×Option Nat)))(ds:List (Nat×Nat))(J:World->Prop)(r:Nat->Value->World->Prop)(hm:P.follows .mixedOrders=true)(hok:hU l m N src ds=true) (hJ:∀w V,J w->Below w.heap.size w V->J V)(h0:J w)(hops:DO P l.toArray J r O 0 (l.take m) src) (tail:∀f V,J V->tp r f V ds->WL ⟨none,D,false⟩ P N l.toArray Q (l.drop m) (qe O f ds) V):WC ⟨none,D,false⟩ P N (.region id l.toArray true) Q O w:=by
 refine WC.vn λa hf=>wp_region_any hm ?_;simp only[hU,l',h',k9,L_,S_] at hok;obtain⟨⟨⟨⟨⟨⟨⟨⟨⟨⟨hml,_⟩,hds⟩,hnd⟩,hdN⟩,hrd⟩,Y⟩,hready⟩,hend⟩,hdep⟩,hedge⟩:=hok;have hdo:=(CM _ _ _ hops).2;have n:∀i d,i<m->((l.toArray[i]?).bind (·.dst))=some d->(i,d)∈ds:=λi d hi hd=>(by exact abv);have hdsm:∀i d,(i,d)∈ds->i<m/\((l.toArray[i]?).bind (·.dst))=some d:=λi d hp=>by
  refine QP ?_;(unhygienic intros)
  exact zW8
 have hone:∀i j d,i<m->j<m->((l.toArray[i]?).bind (·.dst))=some d->((l.toArray[j]?).bind (·.dst))=some d->i=j:=λi j d hi hj h1 h2=>by
  refine ads ?_;intro p1 p2 e1;injection e1 with _ e1
  omega
 have z:l.toArray.size=l.length:=by simp
 have full:∀(L:Array Bool)(a:Act)(w:World)(fuel:Nat),DI D N l.toArray m O J r L a w->(∀i,i<m->L.getD i false=true)->l.length<=fuel+m->wpAny P .any l.toArray (Lf N D Q) fuel L a w:=(by intro L a w fuel g X hfu;have hL:L=fh l.length m:=Lq (by rw[g.ls,z]) hml X g.tl;refine aaf ?_;have hfits:kg N D a (qe O (λi=>match(l.toArray[i]?).bind (·.dst) with|some d=>a.tmps.getD d undef|none=>undef) ds):=(by refine SZ ?_;intro s hs;rw[(Jh _ ds s hnd).2 λi hi=>hs ⟨i,hi⟩];exact g.mv s λi hi _ hd=>hs ⟨i,n i s hi hd⟩);refine(tail _ w g.j (Lu ds λp hp=> ?_)).out a hfits;obtain⟨h1,h2⟩:=hdsm p.1 p.2 hp;have:=g.vs p.1 p.2 h1 (X _ h1) h2;rw[h2];exact this);have key:∀(fuel:Nat)(L:Array Bool)(a:Act)(w:World),DI D N l.toArray m O J r L a w->fuel+L.toList.countP (λb=>b)=l.length->wpAny P .any l.toArray (Lf N D Q) fuel L a w:=by
  intro fuel
  induction fuel with
  |zero=>
   intro L a w g hc;have X:∀i,i<l.length->L.getD i false=true:=λi hi=>by
    refine lY ?_;intro h1 h2;have G:i<L.size:=by rw[g.ls,z];exact hi
    have:=h2 L[i] (by simp);simpa[G] using this
   exact acP
  |succ fuel ih=>
   intro L a w g hc;by_cases X:∀i,i<m->L.getD i false=true
   .refine full L a w (fuel+1) g X ?_;have hL:L=fh l.length m:=Lq (by rw[g.ls,z]) hml X g.tl;rw[hL,Hv] at hc;omega
   have T:∃i,i<m/\L.getD i false=false:=(by exact acB);have c:∀i,i∈Region.ready .any l.toArray L↔i<l.length/\L.getD i true=false/\∃o,l.toArray[i]?=some o/\∀e∈o.after,Region.binds .any e=true->L.getD e.on false=true:=λi=>by
    unfold Region.ready;rw[D9,S_,z];constructor
    .rintro ⟨h1,h2⟩;have W:l.toArray[i]?=some l[i]:=by simp[h1]
     rw[W] at h2;simp only[p9,J9,l',n8] at h2;refine⟨h1,h2.1,l[i],W,λe he F=> ?_⟩;have:=j8.1 h2.2 e he;simpa[F] using this
    refine aea ?_;(unhygienic intros)
    cases F:Region.binds .any e with
    |false=>simp
    |true=>simpa[F] using G e he F
   refine⟨λhnil=> ?_,λi hi=> ?_⟩
   .exfalso;have hmin:∀k,(∃i,i<k/\i<m/\L.getD i false=false)->∃i,i<m/\L.getD i false=false/\∀j,j<i->L.getD j false=true:=by
     intro k
     induction k with
     |zero=>rintro ⟨i,h,_⟩;omega
     |succ k ihk=>
      refine fY ?_;intro i h1 h2 G hex;exact abH
    obtain⟨i0,h1,h2⟩:=T;obtain⟨i,hi,hu,hlow⟩:=hmin (i0+1) ⟨i0,Z',h1,h2⟩;have u:i<l.length:=Z';have hE:=hedge i u;have W:l.toArray[i]?=some l[i]:=by simp[u]
    rw[W] at hE;have hmem:i∈Region.ready .any l.toArray L:=(c i).2 ⟨u,by
     have G:i<L.size:=by rw[g.ls,z];exact u
     rw[U9] at hu |-;rw[k7 G] at hu |-;simpa using hu,l[i],W,λe he F=>by
     have:=j8.1 hE e he;simp only[F,o7,z_,h'] at this;exact hlow _ this⟩
    rw[hnil] at hmem
    cases hmem
   obtain⟨u,hun,o,W,hed⟩:=(c i).1 hi;have S:i<L.size:=by rw[g.ls,z];exact u
   have hun':L.getD i false=false:=(by exact abh);have q:∀o',l.toArray[i]?=some o'->∀e∈o'.after,Region.binds .any e=true->L.getD e.on false=true:=λo' K=>(by rw[W] at K;injection K with K;subst K;exact hed);have E:i<m:=by
    obtain h|h:=o_ i m
    .exact h
    exfalso;obtain h2|h2:=o_ m i
    .refine IZ ?_;intro G h4;have:=Om g.cl 16 i m q G;rw[g.tl m (E' _)] at this
     cases this
    obtain rfl:i=m:=Z';have h4:(l.length==i)=false:=by simp;omega
    rw[h4,z_] at Y;have h5:=L_.1 Y;obtain⟨j,hj,hju⟩:=T;have:=Om g.cl 16 i j q (h5 j (by simpa using hj));rw[hju] at this
    cases this
   have hok':(l.take m)[i]?=some o:=(by rw[o8,P' E];simpa using W);obtain⟨s,hs,hstab,hog⟩:=hdo i o hok';rw[U_] at hstab hog;have M:=hrd i E;rw[W,hs] at M;simp only[l',L_] at M;have hro:Ec r O (λt=>a.tmps.getD t undef) w s:=Vr s λp hp=>by
    have H:=M.2 p hp
    cases hp3:p.2 with
    |some j=>
     rw[hp3] at H;simp only[l',h',k9] at H;exact g.vs j p.1 H.1.1 (Om g.cl 16 i j q H.2) H.1.2
    |none=>
     rw[hp3] at H;refine g.mv p.1 λj hj R B=> ?_;have h6:=L_.1 H j (by simpa using hj);rw[B] at h6;simp only[beq_self_eq_true,o7,z_,l'] at h6;have:=Om g.cl 16 j i (λo' K e he F=>g.cl j o' K R e he F) h6.2;rw[hun'] at this
     cases this
   have hgo:=(hog _ w g.j hro).out a (wpAny P .any l.toArray (Lf N D Q) fuel (L.setIfInBounds i true)) (Lf N D Q) (λ_=>rfl) (λv w2 hv=>by
    refine ih _ _ _ ?_ ?_
    .refine⟨?_, ?_,hJ _ _ g.j hv.1,by simpa using g.ls, ?_, ?_, ?_, ?_⟩
     .cases o.dst<;>exact g.nd
     .cases A:o.dst with
      |none=>exact g.sz
      |some d=>simpa[Act.put] using g.sz
     .intro k ok hk hkl e he F;rw[re S] at hkl |-;by_cases hki:k=i
      .subst hki;simp[q ok hk e he F]
      simp only[hki,decide_false,z_] at hkl;simp[g.cl k ok hk hkl e he F]
     .intro k hk;rw[re S,g.tl k hk];have:¬k=i:=Z';simp[this]
     .intro j d hj R B;rw[re S] at R;have hd1:∀C,o.dst=some C->C<a.tmps.size:=λC hd'=>(by rw[g.sz];exact hdN (i,C) (n i C E (by rw[W];exact hd')));by_cases hji:j=i
      .subst hji;refine GR ?_;intro B;exact hv.2
      simp only[hji,decide_false,z_] at R;have hold:=g.vs j d hj R B;have hdj:(j,d)∈ds:=n j d hj B;have hst:=(hdo j (l.toArray[j]?.getD default) (by
       have:j<l.length:=Z';rw[o8,P' hj];simp[this])).choose_spec.2.1
      rw[U_] at hst;have hne:∀C,o.dst=some C->d≠C:=λC hd' e=>(by subst e;exact hji (hone j i d hj E B (by rw[W];exact hd')))
      cases A:o.dst with
      |none=>exact hst _ _ _ hold hv.1
      |some C=>
       rw[Ve (hd1 C A),Q' (hne C A)];exact hst _ _ _ hold hv.1
     refine abn ?_;(unhygienic intros)
     cases A:o.dst with
     |none=>exact hold
     |some C=>
      rw[Ve (by rw[g.sz];exact hdN (i,C) (n i C E (by rw[W];exact A))),Q' (λe=>hni (by rw[A,e]))];exact hold
    have hLi:L.toList[i]?=some false:=by
     have G:i<L.toList.length:=by simpa using S
     rw[U8 G];have:L.getD i false=L.toList[i]:=by simp[S]
     rw[<-this,hun']
    rw[Array.toList_setIfInBounds,List.countP_set (by simpa using S)];have h4:L.toList[i]'(by simpa using S)=false:=(x'.1 hLi).2;rw[h4];simp only[z6,if_false,if_true];omega)
   unfold wpOp;rw[W];exact hgo
 have hJ0:J ({ w with drawn:=w.drawn+1 }:World):=hJ w _ h0 ⟨rfl,rfl,rfl,E' _,λ_ _=>rfl⟩;have hr0:∀i,(Array.replicate l.toArray.size false).getD i false=false:=λi=>(by rw[U9,T5];split<;>rfl);refine key _ _ _ _ ⟨hf.nd,hf.sz,hJ0,by simp,λk o _ hk=> ?_,λk _=>hr0 k,λi d _ hi=> ?_,λs _=>hf.at_ s⟩ ?_
 .rw[hr0] at hk;cases hk
 .rw[hr0] at hi;cases hi
 simp[List.countP_replicate]
def Is(c:Value):Value->World->Prop:=λv _=>v=c
def Is.ext{c:Value}(v:Value)(w V:World)(h:Is c v w)(_:Below w.heap.size w V):Is c v V:=h
structure JJ(w0:World)(H:List HE)(w W:World):Prop where
 hp:Hp w0 H W
 bl:Below w.heap.size w W
def JJ.ext{H:List HE}{c:World}(h:JJ w0 H w W)(F:Below W.heap.size W c):JJ w0 H w c:=⟨h.hp.ext F,h.bl.trans (F.mono h.bl.size)⟩
def JJ.start{H:List HE}(h:Hp w0 H w):JJ w0 H w w:=⟨h,Below.refl _ _⟩
def acH(n k:Nat)(cs:List Value):Value->World->Prop:=λv W=>∃b,v=.slice (some ⟨b,0,none⟩) n n/\Sl W (some ⟨b,0,none⟩) n k cs
def Ob(w:World)(t:TypeId)(cs:List Value):Value->World->Prop:=λv W=>∃b,v=.pointer (some ⟨b,0,none⟩)/\w.heap.size<=b/\W.heap[b]?=some (.cells cs.toArray t (0,0))
def Ob.ext{t:TypeId}(v:Value)(Z q:World)(h:Ob w t cs v Z)(F:Below Z.heap.size Z q):Ob w t cs v q:=by
 obtain⟨b,h1,h2,G⟩:=h;have D:b<Z.heap.size:=by
  obtain D|N:=o_ b Z.heap.size
  .exact D
  rw[k6 N] at G;cases G
 exact⟨b,h1,h2,(F.block b D).trans G⟩
def Wo{d:Option Nat}{ty:TypeId}{af:Array Edge}{t e:TypeId}{len sz:Nat}{X:List (Nat×Value)}(S:P.underlying t=some (.slice e))(D:ed P e=some (sz,ag,by',zc)) (hp:gF O parts.toList=X)(f:zc.length=sz)(b:jm (λi=>some (i*sz,sz)) (Bg len zc) X=some cs)(J:¬len*sz=0)(p:len*sz<=16777216)(Q:cs.length=len*sz){K:Value->World->Prop} (c:∀v q,acH len sz cs v q->Below w.heap.size w q->K v q):OG P ops ⟨d,.buildSlice t len parts,ty,pos,af,none⟩ O w K:=by
 obtain⟨z,o,r⟩:=Md (w:=w) D;have Y:Below w.heap.size w (w.alloc (.cells cs.toArray e)):=(Below.refl _ _).alloc (E' _) _;refine wc rfl (V:=w.alloc (.cells cs.toArray e)) (v:=.slice (some ⟨w.heap.size,0,none⟩) len len) ?_ (c _ _ ⟨w.heap.size,rfl,Q,λ_=>⟨_,rfl,λj u hu=> ?_⟩⟩ Y)
 .have g:¬2^24<len*sz:=Z';have T:=Ou _ _ _ b;refine OZ ?_;intro T h a;simp[newRow]
 rw[Zd,U_,cell_of_row _ w.heap.size j cs.toArray e (0,0) (heap_alloc_new w _)];simpa using hu
def Pg{d:Option Nat}{ty:TypeId}{af:Array Edge}{t:TypeId}{wr:World}(S:ed P t=some (n,ag,by',zc))(F:Below wr.heap.size wr w){K:Value->World->Prop} (u:∀v q,Ob wr t zc v q->Below w.heap.size w q->K v q):OG P ops ⟨d,.alloc t,ty,pos,af,none⟩ O w K:=by
 obtain⟨z,o,r⟩:=Md (w:=w) S;exact wc rfl (V:=w.alloc (.cells zc.toArray t)) (v:=.pointer (some ⟨w.heap.size,0,none⟩)) (by simp[execOp,Instr.alloc,newVar,newRow,o,r]) (u _ _ ⟨w.heap.size,rfl,F.size,heap_alloc_new w _⟩ ((Below.refl _ _).alloc (E' _) _))
def JJ.newVar{H:List HE}{t:TypeId}{b:Nat}(h:JJ w0 H w W)(K:Hp w0 H w)(h2:w.heap.size<=b)(G:W.heap[b]?=some (.cells cs.toArray t (0,0))):Hp w0 (.blk b t cs (0,0)::H) W:=by
 refine⟨h.hp.below, ?_, ?_⟩
 .intro y hy;obtain rfl|hy:=u'.1 hy
  .exact⟨d' K.size h2,G,.inr (E' _)⟩
  exact h.hp.own y hy
 rw[K7];show(b::H.filterMap HE.id).Nodup;refine W7.2 ⟨λhm=> ?_,h.hp.nd⟩;obtain⟨y,hy,d⟩:=Z8.1 hm;have:=(Ye (K.own y hy) d).2;omega
abbrev VP:=Value->World->Prop
def Cd(pv:Nat->VP)(i:Nat)(V:VP):Nat->VP:=λj=>cond (Nat.beq j i) V (pv j)
def noV:Nat->VP:=λ_ _ _=>True
def DX(P:Program)(ops:Array Oper)(J:World->Prop)(O:Rf)(T:(Nat->VP)->Prop):Nat->(Nat->VP)->List Oper->List (List (Nat×Option Nat))->Prop
 |i,pv,o::os,s::ss=>∃h:VP,(∀v w V,h v w->Below w.heap.size w V->h v V)/\(∀U Z,J Z->Ec pv O U Z s->OG P ops o U Z λv q=>Below Z.heap.size Z q/\h v q)/\DX P ops J O T (i+1) (Cd pv i h) os ss
 |_,pv,[],[]=>T pv
 |_,_,_,_=>False
def uK(pv:Nat->VP)(i:Nat)(V:VP):Cd pv i V i=V:=by simp[Cd]
def bD(pv:Nat->VP){i:Nat}(V:VP)(h:j≠i):Cd pv i V j=pv j:=by
 have:Nat.beq j i=false:=by rw[O6];intro h2;exact h (Nat.eq_of_beq_eq_true h2)
 simp only[Cd,this,cond_false]
def Bt{V a:Nat->VP}{O U:Rf}{Z:World}(h:∀j v w,V j v w->a j v w):∀s,Ec V O U Z s->Ec a O U Z s
 |[],_=>trivial
 |(_,some _)::r,I=>⟨h _ _ _ I.1,Bt h r I.2⟩
 |(_,none)::r,I=>⟨I.1,Bt h r I.2⟩
def tL{P:Program}{ops:Array Oper}{J:World->Prop}{O:Rf}{T:(Nat->VP)->Prop}:∀(os:List Oper)(ss:List (List (Nat×Option Nat)))(i:Nat)(pv:Nat->VP),(∀j,i<=j->∀v w,pv j v w)->DX P ops J O T i pv os ss->
  ∃V,(∀j,j<i->V j=pv j)/\DO P ops J V O i os ss/\T V
 |[],[],_,pv,_,h=>⟨pv,λ_ _=>rfl,trivial,h⟩
 |[],_::_,_,_,_,h=>h.elim
 |_::_,[],_,_,_,h=>h.elim
 |o::os,s::ss,i,pv,n,⟨V,h1,h2,G⟩=>by
  obtain⟨a,z,b,L⟩:=tL os ss (i+1) (Cd pv i V) (λj hj v w=>by rw[bD _ _ Z'];exact n j Z' v w) G;refine adz ?_;intro e;intro U Z hj H;rw[e];refine h2 U Z hj (Bt (λj v w I=> ?_) s H);obtain D|N:=o_ j i
  .rw[z j Z',bD _ _ Z'] at I;exact I
  exact n j N v w
variable {J:World->Prop}{T:(Nat->VP)->Prop}{i:Nat}{pv:Nat->VP}
def Fa(h:T pv):DX P ops J O T i pv [] []:=h
variable {os:List Oper}{s:List (Nat×Option Nat)}{ss:List (List (Nat×Option Nat))}
def Ja{o:Oper}(h:VP)(h1:∀v w V,h v w->Below w.heap.size w V->h v V)(h2:∀U Z,J Z->Ec (pv) O U Z s->OG P ops o U Z λv q=>Below Z.heap.size Z q/\h v q) (k:DX P ops J O T (i+1) (Cd pv i (h)) os ss):DX P ops J O T i pv (o::os) (s::ss):=⟨h,h1,h2,k⟩
variable {d:Option Nat}{op:Op}
def Ma{v:Value}(H:∀U Z,J Z->Ec (pv) O U Z s->(execOp (ev U) ⟨d,op,ty,pos,af,none⟩).run P Z=.ok (.value v) Z) (k:DX P ops J O T (i+1) (Cd pv i (Is v)) os ss):DX P ops J O T i pv (⟨d,op,ty,pos,af,none⟩::os) (s::ss):=
 Ja (Is v) Is.ext (λU Z hj h=>wc rfl (H U Z hj h) ⟨Below.refl _ _,rfl⟩) k
def UW{v:Value}{f:FuncId}{args:Array Value}(H:∀U Z,J Z->Ec (pv) O U Z s->(execOp (ev U) ⟨d,op,ty,pos,af,none⟩).run P Z=.ok (.enter f args) Z) (E:∀Z,J Z->Calls P f args Z λe V=>e=.returned v/\Below Z.heap.size Z V) (k:DX P ops J O T (i+1) (Cd pv i (Is v)) os ss):DX P ops J O T i pv (⟨d,op,ty,pos,af,none⟩::os) (s::ss):=
 Ja (Is v) Is.ext (λU Z hj h=>ib rfl (H U Z hj h) (E Z hj) λ_ _ R=>⟨v,R.1,R.2,rfl⟩) k
def Rows(n k:Nat)(cs:List Value):VP:=λv W=>∃A c,v=.slice A n c/\Sl W A n k cs
def Rows.ext(v:Value)(w V:World)(h:Rows n k cs v w)(F:Below w.heap.size w V):Rows n k cs v V:=let⟨A,c,h1,h2⟩:=h;⟨A,c,h1,h2.ext F⟩
def fy{t e:TypeId}{len sz:Nat}{X:List (Nat×Value)}(S:P.underlying t=some (.slice e))(D:ed P e=some (sz,ag,by',zc)) (hp:∀U Z,J Z->Ec (pv) O U Z s->gF U parts.toList=X)(f:zc.length=sz)(Y:jm (λi=>some (i*sz,sz)) (Bg len zc) X=some cs)(a:¬len*sz=0)(p:len*sz<=16777216)(Q:cs.length=len*sz) (k:DX P ops J O T (i+1) (Cd pv i (Rows len sz cs)) os ss):DX P ops J O T i pv (⟨d,.buildSlice t len parts,ty,pos,af,none⟩::os) (s::ss):=
 Ja (Rows len sz cs) Rows.ext (λU Z hj h=>Wo S D (hp U Z hj h) f Y a p Q λ_ _ ⟨_,A,K⟩ F=>⟨F,_,_,A,K⟩) k
def WB{b:Bool}{g:Nat}{v:Value}(hj:(ops[j]?).bind (·.dst)=some g)(A:∀U Z,J Z->Ec (pv) O U Z s->U g=.bool b) (H:∀U Z,J Z->Ec (pv) O U Z s->(execOp (ev U) ⟨d,op,ty,pos,af,none⟩).run P Z=.ok (.value v) Z) (k:DX P ops J O T (i+1) (Cd pv i (Is v)) os ss):DX P ops J O T i pv (⟨d,op,ty,pos,af,some (j,b)⟩::os) (s::ss):=
 Ja (Is v) Is.ext (λU Z z h=>nk hj (A U Z z h) (wc rfl (H U Z z h) ⟨Below.refl _ _,rfl⟩)) k
def Zh{b:Bool}{g:Nat}{v:Value}{f:FuncId}{args:Array Value}(hj:(ops[j]?).bind (·.dst)=some g)(A:∀U Z,J Z->Ec (pv) O U Z s->U g=.bool b) (H:∀U Z,J Z->Ec (pv) O U Z s->(execOp (ev U) ⟨d,op,ty,pos,af,none⟩).run P Z=.ok (.enter f args) Z) (E:∀Z,J Z->Calls P f args Z λe V=>e=.returned v/\Below Z.heap.size Z V) (k:DX P ops J O T (i+1) (Cd pv i (Is v)) os ss):DX P ops J O T i pv (⟨d,op,ty,pos,af,some (j,b)⟩::os) (s::ss):=
 Ja (Is v) Is.ext (λU Z z h=>nk hj (A U Z z h) (ib rfl (H U Z z h) (E Z z) λ_ _ R=>⟨v,R.1,R.2,rfl⟩)) k
def kW{b c:Bool}{g:Nat}(hj:(ops[j]?).bind (·.dst)=some g)(A:∀U Z,J Z->Ec (pv) O U Z s->U g=.bool c)(F:c≠b) (k:DX P ops J O T (i+1) (Cd pv i (Is undef)) os ss):DX P ops J O T i pv (⟨d,op,ty,pos,af,some (j,b)⟩::os) (s::ss):=
 Ja (Is undef) Is.ext (λU Z z h=>Ky hj (A U Z z h) F ⟨Below.refl _ _,rfl⟩) k
variable {α:Type}
def ia{α:Type}(f:α->List Value)(l:List α):List Value:=l.flatMap f
variable {f:α->List Value}{sz:Nat}
def Wd(Y:∀x,(f x).length=sz)(l:List α):(ia f l).length=l.length*sz:=by
 induction l with
 |nil=>simp[ia]
 |cons x l W=>
  have:ia f (x::l)=f x++ia f l:=by simp[ia]
  rw[this,y',Y,W,T_,H9];omega
def uh(x:α)(l:List α):ia f (x::l)=f x++ia f l:=by simp[ia]
def Aa(l m:List α):ia f (l++m)=ia f l++ia f m:=by simp[ia]
def Jj(x:α):ia f [x]=f x:=by simp[ia]
def Yf(Y:∀x,(f x).length=sz)(l:List α)(k:Nat):(ia f l).drop (k*sz)=ia f (l.drop k):=by
 induction l generalizing k with
 |nil=>simp[ia]
 |cons x l W=>
  cases k with
  |zero=>simp
  |succ k=>rw[uh,H9,O8,<-Y x,List.drop_append,List.drop_succ_cons,<-W k,Y x];simp[Y x]
def qh(Y:∀x,(f x).length=sz)(l:List α)(k:Nat):(ia f l).take (k*sz)=ia f (l.take k):=by
 induction l generalizing k with
 |nil=>simp[ia]
 |cons x l W=>
  cases k with
  |zero=>simp[ia]
  |succ k=>rw[uh,H9,O8,X7,uh,<-W k,<-Y x,List.take_append];simp;exact w' (Nat.le_add_right _ _)
def Yq(Y:∀x,(f x).length=sz){l:List α}{x:α}(h:l[k]?=some x):((ia f l).drop (k*sz)).take sz=f x:=by
 obtain⟨h1,h2⟩:=x'.1 h;rw[Yf Y,K8 h1,h2,uh,List.take_append_of_le_length (by rw[Y];omega),w' (by rw[Y];omega)]
def Rd.recAt{b:Addr}{l:List α}(h:Rd w b (ia f l))(Y:∀x,(f x).length=sz){x:α}(C:l[k]?=some x):Rd w (b.add (k*sz)) (f x):=by
 have:=h.elem k sz;rwa[Yq Y C] at this
def Sl.sa{A:Option Addr}{l:List α}(h:Sl w A n sz (ia f l))(Y:∀x,(f x).length=sz)(J:0<sz):l.length=n:=by
 have:=h.1;rw[Wd Y] at this;exact Nat.eq_of_mul_eq_mul_right J this
def Jd(Y:∀x,(f x).length=sz){l:List α}{y:α}(h:k<l.length):db (ia f l) (k*sz) (f y)=ia f (l.set k y):=by
 unfold db;rw[qh Y,Y,<-H9,Yf Y,x6,P' h,Aa,uh,H_]
def Ia(h:∀x,(f x).all Value.oneCell'=true)(l:List α):((ia f l).all Value.oneCell')=true:=by
 rw[L_];intro v A;obtain⟨x,_,C⟩:=E8.1 A;exact L_.1 (h x) v C
def de{l:List α}{x:α}(h:l[k]?=some x):l.drop k=x::l.drop (k+1):=by
 obtain⟨h1,rfl⟩:=x'.1 h;exact K8 h1
def zh{p:α->Bool}{l:List α}(h:l.any p=false):l.find? p=none:=by
 rw[a8];intro x C;have:=E9.1 h x C;simpa using this
def Ks{p:α->Bool}{l:List α}{i:Nat}{x:α}(h:(l.take i).any p=false)(C:l[i]?=some x)(hp:p x=true):l.find? p=some x:=by
 have:l=l.take i++x::l.drop (i+1):=by rw[<-de C,q_]
 rw[this,List.find?_append,zh h,V5 hp];rfl
def Xo(acc:List Nat):List Edge->Nat
 |[]=>0
 |e::r=>bif Region.binds .any e then 1<<<e.on|||acc.getD e.on 0|||Xo acc r else Xo acc r
def wm:List Oper->List Nat->List Nat
 |[],acc=>acc
 |o::r,acc=>wm r (acc++[Xo acc o.after.toList])
def Pp{acc:List Nat}{i:Nat}:∀{es:List Edge},(Xo acc es).testBit i=true->∃e∈es,Region.binds .any e=true/\(e.on=i\/(acc.getD e.on 0).testBit i=true)
 |[],h=>by simp[Xo] at h
 |e::r,h=>by
  unfold Xo at h
  cases F:Region.binds .any e with
  |false=>
   rw[F,cond_false] at h;obtain⟨e',h1,h2⟩:=Pp h;exact⟨e',L' _ h1,h2⟩
  |true=>
   rw[F,cond_true,Nat.testBit_or,Nat.testBit_or,V7,V7] at h;obtain(h|h)|h:=h
   .refine⟨e,I',F,.inl ?_⟩;rw[Nat.one_shiftLeft,Nat.testBit_two_pow] at h;simpa using h
   .exact⟨e,I',F,.inr h⟩
   obtain⟨e',h1,h2⟩:=Pp h;exact⟨e',L' _ h1,h2⟩
def iE:∀(l:List Oper)(acc:List Nat),∃t,wm l acc=acc++t
 |[],acc=>⟨[],by simp[wm]⟩
 |o::r,acc=>(by obtain⟨t,h⟩:=iE r (acc++[Xo acc o.after.toList]);exact⟨_,by rw[wm,h,H_]⟩)
def JL:∀(l:List Oper)(acc:List Nat)(k i:Nat),acc.length<=k->((wm l acc).getD k 0).testBit i=true->∃o,l[k-acc.length]?=some o/\∃e∈o.after,Region.binds .any e=true/\(e.on=i\/e.on<k/\((wm l acc).getD e.on 0).testBit i=true)
 |[],acc,k,i,u,h=>(by rw[wm,X9,K_ u] at h;simp at h)
 |o::r,acc,k,i,u,h=>by
  obtain D|N:=o_ acc.length k
  .have Q:(acc++[Xo acc o.after.toList]).length=acc.length+1:=by simp
   obtain⟨v,h1,h2⟩:=JL r (acc++[Xo acc o.after.toList]) k i Z' h;refine⟨v, ?_,h2⟩;rw[Q] at h1;rw[show k-acc.length=(k-(acc.length+1))+1 by omega,p7];exact h1
  obtain rfl:k=acc.length:=Z';obtain⟨t,S⟩:=iE r (acc++[Xo acc o.after.toList]);refine⟨o,by rw[u_];rfl, ?_⟩;rw[wm,S] at h |-;rw[X9,H_,S9 (E' _),u_] at h;simp only[C',q7,J9,F'] at h;obtain⟨e,h1,h2,G⟩:=Pp h;refine⟨e,by simpa using h1,h2, ?_⟩;obtain G|G:=G
  .exact .inl G
  have z:e.on<acc.length:=by
   obtain P|P:=o_ e.on acc.length
   .exact P
   rw[X9,K_ P] at G;simp at G
  refine .inr ⟨z, ?_⟩;rw[X9,H_,m9 z,<-X9];exact G
def tj{l:List Oper}{M:List Nat}{L:Array Bool}(s:wm l []=M)(E:Vp l.toArray L):∀(k i:Nat),(∀o,l.toArray[k]?=some o->∀e∈o.after,Region.binds .any e=true->L.getD e.on false=true)->(M.getD k 0).testBit i=true->L.getD i false=true:=by
 intro k
 induction k using Nat.strongRecOn with
 |_ k a=>
  intro i u h;rw[<-s] at h;obtain⟨o,W,e,he,F,G⟩:=JL l [] k i (J' _) h;have K:l.toArray[k]?=some o:=by rw[J8];exact W
  have h1:=u o K e he F;obtain G|⟨G,z⟩:=G
  .rw[<-G];exact h1
  rw[s] at z;exact a e.on G i (λv q=>E e.on v q h1) z
def flL(n m:Nat)(X:List Nat):Array Bool:=((List.range n).map λi=>decide (i<m/\i∉X)).toArray
def jQ{i:Nat}{X:List Nat}(hi:i<n):(flL n m X).getD i true=decide (i<m/\i∉X):=by
 unfold flL;rw[U9,J8,z',f_ hi];rfl
def NP(Q:Kq):Prop:=∀c O w,¬Q (.panic c) O w
def Mb{fn:Func}:NP (Cm P fn R):=λ_ _ _ h=>h.1.elim nofun nofun
def lb(h:NP Q):NP (Nd next Q):=λc O w R=>h c O w R
def Lb{id:Nat}(h:NP Q):NP (Rp id Q):=λc O w R=>h c O w R
def Gx:Op->Bool
 |.extract _ _=>true
 |.move _=>true
 |_=>false
def abC(l:List Oper)(m:Nat)(X:List Nat)(i:Nat):Bool:=
 Region.free .any l.toArray (flL l.length m X) i && match l[i]? with
  |some ⟨some _,op,_,_,af,none⟩=>Gx op && af.all λe=> !Region.binds .any e||(decide (e.on<m) && !X.contains e.on)
  |_=>false
def mN{l:List Oper}{X:List Nat}{i:Nat}(h:abC l m X i=true):Region.free .any l.toArray (flL l.length m X) i=true/\(∀o,l[i]?=some o->∀e∈o.after,Region.binds .any e=true->e.on<m/\e.on∉X)/\
  ∃d op ty pos af,l[i]?=some ⟨some d,op,ty,pos,af,none⟩/\Gx op=true:=by
 unfold abC at h;rw[l'] at h;obtain⟨h1,h2⟩:=h;split at h2
 .rename_i d op ty pos af W;rw[l'] at h2;obtain⟨C,h2⟩:=h2;refine⟨h1,λo K e he F=> ?_,d,op,ty,pos,af,W,C⟩;rw[W] at K;injection K with K
  subst K;have:=j8.1 h2 e he;simp only[F,o7,z_,l',h',n8,List.contains_eq_mem,T6] at this;exact this
 cases h2
def ql(l:List Oper)(m N:Nat)(src:List (List (Nat×Option Nat)))(ds:List (Nat×Nat))(X M:List Nat):Bool:=
 let ops:=l.toArray
 let pre:=(List.range m).map λi=>((ops[i]?).bind (·.dst))
 (m<=l.length) && (src.length==m) &&
 (ds==(pre.zipIdx.filterMap λ(d,i)=>d.map λd=>(i,d)).reverse) && (decide (ds.map (·.2)).Nodup) && (ds.all λp=>p.2<N) &&
 ((List.range m).all λi=>match ops[i]?,src[i]? with
  |some o,some s=>((o.looksAt ops).all λt=>s.any λp=>p.1==t) &&
    s.all λp=>match p.2 with
     |some j=>(j<m) && ((ops[j]?).bind (·.dst)==some p.1) && (M.getD i 0).testBit j
     |none=>(List.range m).all λj=> !((ops[j]?).bind (·.dst)==some p.1)||(j !=i && (M.getD j 0).testBit i)
  |_,_=>false) &&
 (l.length==m||((List.range m).all λi=>X.contains i||(M.getD m 0).testBit i)) &&
 ((List.range (l.length-m)).all λk=>Region.ready .any ops (fh l.length (m+k))==[m+k]) && (Region.ready .any ops (fh l.length l.length)==[]) &&
 ((List.range (l.length-m)).all λk=>k==0||(M.getD (m+k) 0).testBit m) &&
 ((List.range l.length).all λi=>match ops[i]? with|some o=>o.after.all λe=> !Region.binds .any e||e.on<i|none=>false) &&
 Region.noSelect ops && (X.all λi=>abC l m X i) && (wm l []==M)
def js(P:Program)(l:List Oper):List Nat->Prop
 |[]=>True
 |i::r=>(∃d t ty pos af n ag by' zc,l[i]?=some ⟨some d,.alloc t,ty,pos,af,none⟩/\ed P t=some (n,ag,by',zc))/\js P l r
def js.at{l:List Oper}:∀{Y:List Nat},js P l Y->∀i∈Y,∃d t ty pos af n ag by' zc,l[i]?=some ⟨some d,.alloc t,ty,pos,af,none⟩/\ed P t=some (n,ag,by',zc)
 |[],_,_,hi=>by simp at hi
 |j::r,h,i,hi=>by
  obtain rfl|hi:=u'.1 hi
  .exact h.1
  exact js.at h.2 i hi
def Hn{l:List Oper}:js P l []:=trivial
def On{l:List Oper}{i d t ty:Nat}{af:Array Edge}{r:List Nat}(h:l[i]?=some ⟨some d,.alloc t,ty,pos,af,none⟩)(S:ed P t=some (n,ag,by',zc))(H:js P l r):js P l (i::r):=⟨⟨d,t,ty,pos,af,n,ag,by',zc,h,S⟩,H⟩
def gG{d:Nat}{t ty:Nat}{af:Array Edge}{K:Value->World->Prop}(S:ed P t=some (n,ag,by',zc))(h:OG P ops ⟨some d,.alloc t,ty,pos,af,none⟩ O w K) (a:Act)(T:d<a.tmps.size)(next:Act->World->Prop)(Q:Exit->Act->World->Prop)(M:∀i,a.tmps.getD i undef=O i)(B:∀v V,K v V->(∃b,v=.pointer (some ⟨b,0,none⟩)/\w.heap.size<=b/\b<V.heap.size)->next (a.put (some d) v) V):
  if Region.wanted ⟨some d,.alloc t,ty,pos,af,none⟩ (yielded ops a.tmps) then(Oper.wp P ⟨some d,.alloc t,ty,pos,af,none⟩ a w next Q)\/((Oper.asks P ⟨some d,.alloc t,ty,pos,af,none⟩ a w)/\LetsOut Q) else next (a.put (some d) undef) w:=by
 have h1:=h.out a (λa' V=>∃v,a'=a.put (some d) v/\K v V) Q M λv V u=>⟨v,rfl,u⟩;have hw:Region.wanted ⟨some d,.alloc t,ty,pos,af,none⟩ (yielded ops a.tmps)=true:=by simp[Region.wanted]
 rw[P' hw] at h1 |-;refine h1.imp (λh2=> ?_) id;obtain⟨z,o,r⟩:=Md (w:=w) S;have H:(execOp a.eval ⟨some d,.alloc t,ty,pos,af,none⟩).run P w=.ok (.value (.pointer (some ⟨w.heap.size,0,none⟩))) (w.alloc (.cells zc.toArray t)):=by simp[execOp,Instr.alloc,newVar,newRow,o,r]
 unfold Oper.wp at h2 |-;rw[H] at h2 |-;obtain⟨v,A,u⟩:∃v,a.put (some d) (.pointer (some ⟨w.heap.size,0,none⟩))=a.put (some d) v/\K v (w.alloc (.cells zc.toArray t)):=h2;have G:=Y_ (λa':Act=>a'.tmps.getD d undef) A;simp only[Ve T,P'] at G;subst G;exact B _ _ u ⟨_,rfl,E' _,(Array.getElem?_eq_some_iff.1 (heap_alloc_new w _)).1⟩
def JE{x:Operand}{ty d:Nat}{af:Array Edge}(f:Operand->Value)(w:World):(∃v,∀V,(execOp f ⟨some d,.extract x k,ty,pos,af,none⟩).run P V=.ok (.value v) V)\/∀a K,Oper.upon P ⟨some d,.extract x k,ty,pos,af,none⟩ a K (λ_ _ _=>False) ((execOp f ⟨some d,.extract x k,ty,pos,af,none⟩).run P w)->False:=by
 cases C:f x with
 |tuple xs=>
  cases u:xs[k]? with
  |some v=>exact .inl ⟨v,λV=>by simp[execOp,C,Instr.extract,u]⟩
  |none=>exact .inr λa K h=>by simp[execOp,C,Instr.extract,u,Oper.upon] at h
 |_=>exact .inr λa K h=>by simp[execOp,C,Instr.extract,Oper.upon] at h
def pure_run{op:Op}(hp:Gx op=true){ty d:Nat}{af:Array Edge}(f:Operand->Value)(w:World):(∃v,∀V,(execOp f ⟨some d,op,ty,pos,af,none⟩).run P V=.ok (.value v) V)\/∀a K,Oper.upon P ⟨some d,op,ty,pos,af,none⟩ a K (λ_ _ _=>False) ((execOp f ⟨some d,op,ty,pos,af,none⟩).run P w)->False:=by
 unfold Gx at hp;split at hp
 .exact JE f w
 .exact .inl ⟨_,λV=>by simp[execOp];rfl⟩
 cases hp
def HG{d:Nat}{op:Op}(hp:Gx op=true){ty:Nat}{af:Array Edge}{K:Value->World->Prop}(h:OG P ops ⟨some d,op,ty,pos,af,none⟩ O w K)(a:Act)(T:d<a.tmps.size)(M:∀i,a.tmps.getD i undef=O i):
  ∃v,(∀V,(execOp a.eval ⟨some d,op,ty,pos,af,none⟩).run P V=.ok (.value v) V)/\K v w:=by
 have h1:=h.out a (λa' V=>∃v,a'=a.put (some d) v/\K v V) (λ_ _ _=>False) M λv V u=>⟨v,rfl,u⟩;rw[P' (by simp[Region.wanted])] at h1;obtain h1|⟨_,_,_,h1⟩:=h1
 .unfold Oper.wp at h1;obtain⟨v,A⟩|B:=pure_run (P:=P) hp (d:=d) (ty:=ty) (pos:=pos) (af:=af) a.eval w
  .rw[A w] at h1;obtain⟨v',h2,u⟩:∃v',a.put (some d) v=a.put (some d) v'/\K v' w:=h1;have G:=Y_ (λa':Act=>a'.tmps.getD d undef) h2;simp only[Ve T,P'] at G;subst G;exact⟨v,A,u⟩
  exact(B _ _ h1).elim
 exact h1.elim
structure DI2(D:List Deferred)(fr:List Nat)(N:Nat)(ops:Array Oper)(m:Nat)(O:Rf)(J:World->Prop)(V:Nat->Value->World->Prop)(L:Array Bool)(a:Act)(w:World):Prop where
 nd:a.defers=D
 sz:a.tmps.size=N
 j:J w
 ls:L.size=ops.size
 cl:Vp ops L
 tl:∀k,m<=k->L.getD k false=false
 vs:∀i d,i<m->L.getD i false=true->(ops[i]?).bind (·.dst)=some d->V i (a.tmps.getD d undef) w
 mv:∀s,(∀i,i<m->L.getD i false=true->(ops[i]?).bind (·.dst)≠some s)->a.tmps.getD s undef=O s
 fb:∀i∈fr,L.getD i false=true->∀d,(ops[i]?).bind (·.dst)=some d->∃b,a.tmps.getD d undef=.pointer (some ⟨b,0,none⟩)/\b<w.heap.size
 fd:∀i∈fr,∀j∈fr,i≠j->L.getD i false=true->L.getD j false=true->∀d e,(ops[i]?).bind (·.dst)=some d->(ops[j]?).bind (·.dst)=some e->a.tmps.getD d undef≠a.tmps.getD e undef
theorem ET{id:Nat}{l:List Oper}(fr fl M:List Nat)(m:Nat)(src:List (List (Nat×Option Nat)))(ds:List (Nat×Nat))(J:World->Prop)(r:Nat->Value->World->Prop)(hm:P.follows .mixedOrders=true)(hok:ql l m N src ds fl M=true)(hfr:js P l fr)(hfm:fr.all (λi=>i<m)=true)(hQp:NP Q) (hJ:∀w V,J w->Below w.heap.size w V->J V)(h0:J w)(hops:DO P l.toArray J r O 0 (l.take m) src) (tail:∀f V,J V->tp r f V ds->(∀i∈fr,∀j∈fr,i≠j->f i≠f j)->WL ⟨none,D,false⟩ P N l.toArray Q (l.drop m) (qe O f ds) V):WC ⟨none,D,false⟩ P N (.region id l.toArray true) Q O w:=by
 refine acq ?_;(unhygienic intros)
 have hdo:=(CM _ _ _ hops).2;have u:∀i d,i<m->((l.toArray[i]?).bind (·.dst))=some d->(i,d)∈ds:=λi d hi hd=>(by exact abv);have hdsm:∀i d,(i,d)∈ds->i<m/\((l.toArray[i]?).bind (·.dst))=some d:=λi d hp=>by
  refine QP ?_;(unhygienic intros)
  exact zW8
 have hone:∀i j d,i<m->j<m->((l.toArray[i]?).bind (·.dst))=some d->((l.toArray[j]?).bind (·.dst))=some d->i=j:=λi j d hi hj h1 h2=>(by have p1:=u i d hi h1;have p2:=u j d hj h2;exact adA);have hnn:l.toArray.size=l.length:=by simp
 have F:∀i∈fr,i<m:=λi hi=>by simpa using L_.1 hfm i hi
 have full:∀(L:Array Bool)(a:Act)(w:World)(fuel:Nat),DI2 D fr N l.toArray m O J r L a w->(∀i,i<m->L.getD i false=true)->l.length<=fuel+m->wpAny P .any l.toArray (Lf N D Q) fuel L a w:=by
  intro L a w fuel g X hfu;have hL:L=fh l.length m:=Lq (by rw[g.ls,hnn]) hml X g.tl;refine aaf ?_;have hfits:kg N D a (qe O (λi=>match(l.toArray[i]?).bind (·.dst) with|some d=>a.tmps.getD d undef|none=>undef) ds):=(by refine SZ ?_;intro s hs;rw[(Jh _ ds s hnd).2 λi hi=>hs ⟨i,hi⟩];exact g.mv s λi hi _ hd=>hs ⟨i,u i s hi hd⟩);refine(tail _ w g.j (Lu ds λp hp=> ?_) λi hi j hj hij=> ?_).out a hfits
  rotate_left
  .obtain⟨d,t,ty,pos,af,n,ag,by',zc,H,_⟩:=hfr.at i hi;obtain⟨e,t',ty',pos',af',n',ag',by'',zc',hj1,_⟩:=hfr.at j hj;have hi2:(l.toArray[i]?).bind (·.dst)=some d:=by rw[J8,H];rfl
   have hj2:(l.toArray[j]?).bind (·.dst)=some e:=by rw[J8,hj1];rfl
   rw[hi2,hj2];exact g.fd i hi j hj hij (X i (F i hi)) (X j (F j hj)) d e hi2 hj2
  obtain⟨h1,h2⟩:=hdsm p.1 p.2 hp;have:=g.vs p.1 p.2 h1 (X _ h1) h2;rw[h2];exact this
 have key:∀(fuel:Nat)(L:Array Bool)(a:Act)(w:World),DI2 D fr N l.toArray m O J r L a w->fuel+L.toList.countP (λb=>b)=l.length->wpAny P .any l.toArray (Lf N D Q) fuel L a w:=by
  intro fuel
  induction fuel with
  |zero=>
   intro L a w g hc;have X:∀i,i<l.length->L.getD i false=true:=λi hi=>(by exact aeG);exact acP
  |succ fuel ih=>
   intro L a w g hc;by_cases X:∀i,i<m->L.getD i false=true
   .refine full L a w (fuel+1) g X ?_;have hL:L=fh l.length m:=Lq (by rw[g.ls,hnn]) hml X g.tl;rw[hL,Hv] at hc;omega
   have hsome:∃i,i<m/\L.getD i false=false:=(by exact acB);have q:∀i,i∈Region.ready .any l.toArray L↔i<l.length/\L.getD i true=false/\∃o,l.toArray[i]?=some o/\∀e∈o.after,Region.binds .any e=true->L.getD e.on false=true:=λi=>(by exact acr);have both:∀(i:Nat)(_:i<m)(o:Oper)(_:l.toArray[i]?=some o)(_:L.getD i false=false)(_:∀e∈o.after,Region.binds .any e=true->L.getD e.on false=true),
     OG P l.toArray o (λt=>a.tmps.getD t undef) w (λv w2=>Below w.heap.size w w2/\r i v w2)/\
     ∀v w2,(Below w.heap.size w w2/\r i v w2)->(i∈fr->∃b,v=.pointer (some ⟨b,0,none⟩)/\w.heap.size<=b/\b<w2.heap.size)->wpAny P .any l.toArray (Lf N D Q) fuel (L.setIfInBounds i true) (a.put o.dst v) w2:=λi E o W T hed=>by
    refine D2 ?_;intro S hed';have hok':(l.take m)[i]?=some o:=(by rw[o8,P' E];simpa using W);refine TY ?_;(unhygienic intros)
    have hro:Ec r O (λt=>a.tmps.getD t undef) w s:=Vr s λp hp=>by
     have hp2:=hrdi.2 p hp
     cases hp3:p.2 with
     |some j=>
      rw[hp3] at hp2;simp only[l',h',k9] at hp2;exact g.vs j p.1 hp2.1.1 (tj hM g.cl i j hed' hp2.2) hp2.1.2
     |none=>
      refine F2 ?_;(unhygienic intros)
      rw[T] at this
      cases this
    have A:∀v w2,(Below w.heap.size w w2/\r i v w2)->(i∈fr->∃b,v=.pointer (some ⟨b,0,none⟩)/\w.heap.size<=b/\b<w2.heap.size)->wpAny P .any l.toArray (Lf N D Q) fuel (L.setIfInBounds i true) (a.put o.dst v) w2:=λv w2 hv hfv=>by
     have hd1:∀C,o.dst=some C->C<a.tmps.size:=λC hd'=>(by rw[g.sz];exact hdN (i,C) (u i C E (by rw[W];exact hd')));have hput:∀j d,j<m->j≠i->(l.toArray[j]?).bind (·.dst)=some d->(a.put o.dst v).tmps.getD d undef=a.tmps.getD d undef:=λj d hj z B=>by
      cases hod:o.dst with
      |none=>rfl
      |some C=>rw[Ve (hd1 C hod),Q' λe=>z (hone j i d hj E B (by rw[W,e];exact hod))]
     refine aci ?_;intro hputi hfd;refine ih _ _ _ ?_ ?_
     .refine⟨?_, ?_,hJ _ _ g.j hv.1,by simpa using g.ls, ?_, ?_, ?_, ?_, ?_, ?_⟩
      .cases o.dst<;>exact g.nd
      .cases hod:o.dst with
       |none=>exact g.sz
       |some d=>simpa[Act.put] using g.sz
      .intro k ok hk hkl e he hb;rw[re S] at hkl |-;by_cases hki:k=i
       .subst hki;simp[hed' ok hk e he hb]
       simp only[hki,decide_false,z_] at hkl;simp[g.cl k ok hk hkl e he hb]
      .intro k hk;rw[re S,g.tl k hk];have:¬k=i:=Z';simp[this]
      .intro j d hj R B;rw[re S] at R;have hd1:∀C,o.dst=some C->C<a.tmps.size:=λC hd'=>(by rw[g.sz];exact hdN (i,C) (u i C E (by rw[W];exact hd')));by_cases z:j=i
       .subst z;refine GR ?_;(unhygienic intros)
        exact hv.2
       simp only[z,decide_false,z_] at R;have hold:=g.vs j d hj R B;have hdj:(j,d)∈ds:=u j d hj B;have hst:=(hdo j (l.toArray[j]?.getD default) (by
        have:j<l.length:=Z';rw[o8,P' hj];simp[this])).choose_spec.2.1
       rw[U_] at hst;have hne:∀C,o.dst=some C->d≠C:=λC hd' e=>(by subst e;exact z (hone j i d hj E B (by rw[W];exact hd')))
       cases hod:o.dst with
       |none=>exact hst _ _ _ hold hv.1
       |some C=>
        rw[Ve (hd1 C hod),Q' (hne C hod)];exact hst _ _ _ hold hv.1
      .refine abn ?_;(unhygienic intros)
       cases hod:o.dst with
       |none=>exact hold
       |some C=>
        rw[Ve (by rw[g.sz];exact hdN (i,C) (u i C E (by rw[W];exact hod))),Q' (λe=>hni (by rw[hod,e]))];exact hold
      .intro j hj R d B;rw[re S] at R;by_cases z:j=i
       .subst z;obtain⟨b,hb1,_,hb3⟩:=hfv hj;exact⟨b,(hputi d B).trans hb1,hb3⟩
       simp only[z,decide_false,z_] at R;obtain⟨b,hb1,hb2⟩:=g.fb j hj R d B;exact⟨b,(hput j d (F j hj) z B).trans hb1,k_ hb2 hv.1.size⟩
      intro j hj k hk hjk R hkl d e B hke;rw[re S] at R hkl;by_cases z:j=i
      .subst z;have hkj:k≠j:=λe=>hjk e.symm;simp only[hkj,decide_false,z_] at hkl;rw[hputi d B,hput k e (F k hk) hkj hke];exact λhe=>hfd k hk hkj hkl hj e hke he.symm
      simp only[z,decide_false,z_] at R;by_cases hki:k=i
      .subst hki;rw[hputi e hke,hput j d (F j hj) z B];exact hfd j hj z R hk d B
      simp only[hki,decide_false,z_] at hkl;rw[hput j d (F j hj) z B,hput k e (F k hk) hki hke];exact g.fd j hj k hk hjk R hkl d e B hke
     have hLi:L.toList[i]?=some false:=by
      have G:i<L.toList.length:=by simpa using S
      rw[U8 G];have:L.getD i false=L.toList[i]:=by simp[S]
      rw[<-this,T]
     rw[Array.toList_setIfInBounds,List.countP_set (by simpa using S)];have h4:L.toList[i]'(by simpa using S)=false:=(x'.1 hLi).2;rw[h4];simp only[z6,if_false,if_true];omega
    exact⟨hog _ w g.j hro,A⟩
   by_cases hnf:∀i,i<m->i∉fl->L.getD i false=true
   .obtain⟨i,E,T⟩:=hsome;have hif:i∈fl:=L8 λh=>by
     have h2:=hnf i E h;rw[T] at h2
     cases h2
    obtain⟨hfree,hedf,d,op,ty,pos,af,hlo,hpu⟩:=hfl i hif;have W:l.toArray[i]?=some ⟨some d,op,ty,pos,af,none⟩:=by rw[J8];exact hlo
    have hed:∀e∈af,Region.binds .any e=true->L.getD e.on false=true:=λe he hb=>(by obtain⟨h1,h2⟩:=hedf _ hlo e he hb;exact hnf e.on h1 h2);have Y:i<l.length:=Z';have S:i<L.size:=by rw[g.ls,hnn];exact Y
    have hunt:L.getD i true=false:=(by rw[U9] at T |-;rw[k7 S] at T |-;simpa using T);obtain⟨hog,A⟩:=both i E _ W T hed;obtain⟨v,hv,hk⟩:=HG hpu hog a (by rw[g.sz];exact hdN (i,d) (u i d E (by rw[W];rfl))) λ_=>rfl;refine wpAny_first (v:=v) W (Region.noSelect_spec hns) (λc a w ⟨ρ',_,hq⟩=>(hQp c ρ' w hq).elim) fuel L a w (λj oj hj z R hno=> ?_) ((q i).2 ⟨Y,hunt,_,W,hed⟩) (.inl ⟨by simp[Region.wanted],hv⟩) (A v w hk λhfr'=> ?_)
    .refine Region.free_spec W hfree j oj hj z ?_ hno;have hjlen:j<l.length:=by have:=(Array.getElem?_eq_some_iff.1 hj).1;omega
     rw[jQ hjlen];rw[T6];rintro ⟨h1,h2⟩;have G:=hnf j h1 h2;have hjL:j<L.size:=by rw[g.ls,hnn];exact hjlen
     rw[U9] at G R;rw[k7 hjL] at G R;simp only[J9] at G R;rw[G] at R
     cases R
    obtain⟨C,t,ty',pos',af',n,ag,by',zc,H,_⟩:=hfr.at i hfr';rw[hlo] at H;injection H with H
    injection H with _ H
    subst H
    cases hpu
   have hsome2:∃i,i<m/\i∉fl/\L.getD i false=false:=by
    refine L8 λhn=>hnf λi hi hif=> ?_
    cases hc2:L.getD i false with
    |true=>rfl
    |false=>exact absurd ⟨i,hi,hif,hc2⟩ hn
   refine⟨λhnil=> ?_,λi hi=> ?_⟩
   .exfalso;have hmin:∀k,(∃i,i<k/\i<m/\L.getD i false=false)->∃i,i<m/\L.getD i false=false/\∀j,j<i->L.getD j false=true:=by
     intro k
     induction k with
     |zero=>rintro ⟨i,h,_⟩;omega
     |succ k ihk=>
      refine fY ?_;(unhygienic intros)
      exact abH
    obtain⟨i0,h1,h2⟩:=hsome;obtain⟨i,hi,hu,hlow⟩:=hmin (i0+1) ⟨i0,Z',h1,h2⟩;have Y:i<l.length:=Z';have hE:=hedge i Y;have W:l.toArray[i]?=some l[i]:=by simp[Y]
    rw[W] at hE;have hmem:i∈Region.ready .any l.toArray L:=(q i).2 ⟨Y,by
     have G:i<L.size:=by rw[g.ls,hnn];exact Y
     rw[U9] at hu |-;rw[k7 G] at hu |-;simpa using hu,l[i],W,λe he hb=>by
     have:=j8.1 hE e he;simp only[hb,o7,z_,h'] at this;exact hlow _ this⟩
    rw[hnil] at hmem
    cases hmem
   obtain⟨Y,hun,o,W,hed⟩:=(q i).1 hi;have S:i<L.size:=by rw[g.ls,hnn];exact Y
   have T:L.getD i false=false:=(by exact abh);refine ae7 ?_;intro hed' E;obtain⟨hog,A⟩:=both i E o W T hed;have hgo:if Region.wanted o (yielded l.toArray a.tmps) then(o.wp P a w (wpAny P .any l.toArray (Lf N D Q) fuel (L.setIfInBounds i true)) (Lf N D Q))\/((o.asks P a w)/\LetsOut (Lf N D Q)) else wpAny P .any l.toArray (Lf N D Q) fuel (L.setIfInBounds i true) (a.put o.dst undef) w:=by
    by_cases hif:i∈fr
    .obtain⟨d,t,ty,pos,af,n,ag,by',zc,H,ht⟩:=hfr.at i hif;have ho2:o=⟨some d,.alloc t,ty,pos,af,none⟩:=by
      have h7:=W;rw[J8,H] at h7;injection h7 with h7
      exact h7.symm
     have hds:d<a.tmps.size:=(by rw[g.sz];exact hdN (i,d) (u i d E (by rw[W,ho2];rfl)));subst ho2;exact gG ht hog a hds _ _ (λ_=>rfl) λv V hk hb=>A v V hk λ_=>hb
    exact hog.out a _ _ (λ_=>rfl) λv w2 hv=>A v w2 hv λh=>absurd h hif
   unfold wpOp;rw[W];exact hgo
 exact aeA
def JJ.vB{H:List HE}{t i:TypeId}{j:List Value}{b d:Nat}(h:JJ w0 H w W)(K:Hp w0 H w)(h2:w.heap.size<=b)(G:W.heap[b]?=some (.cells cs.toArray t (0,0))) (g:w.heap.size<=d)(a:W.heap[d]?=some (.cells j.toArray i (0,0)))(r:b≠d):Hp w0 (.blk d i j (0,0)::.blk b t cs (0,0)::H) W:=by
 have h1:=h.newVar K h2 G;refine⟨h.hp.below, ?_, ?_⟩
 .intro y hy;obtain rfl|hy:=u'.1 hy
  .exact⟨d' K.size g,a,.inr (E' _)⟩
  exact h1.own y hy
 rw[K7,K7];show(d::b::H.filterMap HE.id).Nodup;have B:∀c,w.heap.size<=c->c∉H.filterMap HE.id:=λc E hm=>(by obtain⟨y,hy,f⟩:=Z8.1 hm;have:=(Ye (K.own y hy) f).2;omega);refine W7.2 ⟨λhm=> ?_,W7.2 ⟨B b h2,h.hp.nd⟩⟩;obtain e|hm:=u'.1 hm
 .exact r e.symm
 exact B d g hm
def Nz{Q:Kq}{id:Nat}{l:List Oper}(Y X M:List Nat)(m:Nat)(src:List (List (Nat×Option Nat)))(ds:List (Nat×Nat)){H:List HE}(I:Hp w0 H w)(hm:P.follows .mixedOrders=true)(y:ql l m N src ds X M=true) (k:js P l Y)(L:Y.all (λi=>i<m)=true)(A:NP Q) (h:DX P l.toArray (JJ w0 H w) O (λo=>∀f V,JJ w0 H w V->tp o f V ds->(∀i∈Y,∀j∈Y,i≠j->f i≠f j)->WL ⟨none,D,false⟩ P N l.toArray Q (l.drop m) (qe O f ds) V) 0 noV (l.take m) src):WC ⟨none,D,false⟩ P N (.region id l.toArray true) Q O w:=by
 obtain⟨o,_,h1,h2⟩:=tL _ _ _ _ (λ_ _ _ _=>trivial) h;exact ET Y X M m src ds (JJ w0 H w) o hm y k L A (λ_ _ h F=>h.ext F) (JJ.start I) h1 h2
def Ly(O:Rf):List (Nat×Value)->Rf
 |[]=>O
 |(d,v)::r=>jd (Ly O r) d v
def EqL(f:Nat->Value):List (Nat×Nat)->List (Nat×Value)->Prop
 |[],[]=>True
 |(i,d)::r,(C,v)::s=>(d=C/\f i=v)/\EqL f r s
 |_,_=>False
def Xx{O:Rf}{f:Nat->Value}:∀{ds:List (Nat×Nat)}{vs:List (Nat×Value)},EqL f ds vs->qe O f ds=Ly O vs
 |[],[],_=>rfl
 |[],_::_,h=>h.elim
 |_::_,[],h=>h.elim
 |(i,d)::r,(C,v)::s,h=>(by obtain⟨⟨rfl,rfl⟩,h2⟩:=h;rw[qe,Ly,Xx h2])
def cK{f:Nat->Value}:EqL f [] []:=trivial
def Ge{f:Nat->Value}{i d:Nat}{v:Value}{r:List (Nat×Nat)}{s:List (Nat×Value)}(h:f i=v)(H:EqL f r s):EqL f ((i,d)::r) ((d,v)::s):=⟨⟨rfl,h⟩,H⟩
def AM{Q:Kq}{l:List Oper}{ρ':Rf}(h:O=ρ')(k:WL ro P N ops Q l ρ' w):WL ro P N ops Q l O w:=h ▸ k
def xw{K:Value->World->Prop}{op:Op}{g:Nat}{b:Bool}(hj:(ops[j]?).bind (·.dst)=some g)(A:O g=undef)(h:K undef w):OG P ops ⟨d,op,ty,pos,af,some (j,b)⟩ O w K:=
 ⟨λa next Q M B=>by
  have h1:Region.wanted ⟨d,op,ty,pos,af,some (j,b)⟩ (yielded ops a.tmps)=false:=by
   have h2:=M g;rw[A,U9] at h2
   cases G:a.tmps[g]? with
   |none=>simp[Region.wanted,yielded,hj,G]
   |some x=>
    rw[G] at h2;simp only[J9] at h2;subst h2;simp[Region.wanted,yielded,hj,G,undef]
  rw[h1];exact B _ _ h⟩
def KS{b:Bool}{op:Op}{g:Nat}(hj:(ops[j]?).bind (·.dst)=some g)(A:∀U Z,J Z->Ec (pv) O U Z s->U g=undef) (k:DX P ops J O T (i+1) (Cd pv i (Is undef)) os ss):DX P ops J O T i pv (⟨d,op,ty,pos,af,some (j,b)⟩::os) (s::ss):=
 Ja (Is undef) Is.ext (λU Z z h=>xw hj (A U Z z h) ⟨Below.refl _ _,rfl⟩) k
def Hp.Wc{f:α->List Value}{sz:Nat}{H:List HE}{i c e g:Nat}{l:List α}{x:α}(I:Hp w0 H w)(hi:H[i]?=some (.row (some ⟨g,0,none⟩) n c e sz (ia f l)))(Y:∀x,(f x).length=sz)(J:0<sz)(C:l[k]?=some x):Rd w ⟨g,k*sz,none⟩ (f x):=by
 have K:=I.ma hi;have Q:=K.sa Y J;obtain⟨b,h1,h2⟩:=K.2 (by have:=(x'.1 C).1;omega);injection h1 with h1
 subst h1;have G:=h2.recAt Y C;rwa[Zd,U_] at G
def Sx{d:Option Nat}{ty:Nat}{af:Array Edge}{g:Option (Nat×Bool)}{x:Operand}{a:Addr}(C:ev O x=.pointer (some a)):(execOp (ev O) ⟨d,.nilCheck x,ty,pos,af,g⟩).run P w=.ok (.value (.pointer (some a))) w:=by simp[execOp,C]
variable {d ty:Nat}
def oI{x:Operand}{a:Addr}(C:ev O x=.pointer (some a))(L:d<N)(p:WL ro P N ops Q rest (jd O d (.pointer (some a))) w):WL ro P N ops Q (⟨some d,.nilCheck x,ty,pos,af,none⟩::rest) O w:=ub rfl rfl L (Sx C) p
structure WA(P:Program)(N:Nat)(ops:Array Oper)(Q:Kq)(fuel:Nat)(L:Array Bool)(O:Rf)(w:World):Prop where
 out:∀a,Fits N a O->wpAny P .any ops (lift N Q) fuel L a w
def bw{o:Oper}{a:Act}{K:Act->World->Prop}{r:Result Next}(h:o.upon P a K (lift N (Nd next Q)) r):o.upon P a K (lift N Q) r:=by
 have hp:∀c a w,lift N (Nd next Q) (.panic c) a w->lift N Q (.panic c) a w:=λ_ _ _ h=>h;have W:LetsOut (lift N (Nd next Q))->LetsOut (lift N Q):=λ⟨a,w,h⟩=>⟨a,w,h⟩
 cases r with
 |ok n V=>
  cases n<;>simp only[Oper.upon] at h |- <;>first
   |exact h
   |exact Calls.mono h (λe b he=>by cases e<;>first|exact he|exact hp _ _ _ he|exact W he)
 |halt x V=>cases x<;>simp only[Oper.upon] at h |- <;>first|exact h|exact hp _ _ _ h|exact W h
def ZJ{L:Array Bool}{rs:List Nat}(H:Region.ready .any ops L=rs)(E:rs≠[]) (h:∀i∈rs,∃o,ops[i]?=some o/\WL .plain P N ops (Nd (λO w=>WA P N ops Q fuel (L.setIfInBounds i true) O w) Q) [o] O w):WA P N ops Q (fuel+1) L O w:=by
 refine⟨λa Y=>wpAny_all H E λi hi=> ?_⟩;obtain⟨o,W,hw⟩:=h i hi;have h1:=hw.out a Y;have y:∀a w,wpList P ops (lift N (Nd (λO w=>WA P N ops Q fuel (L.setIfInBounds i true) O w) Q)) [] a w->wpAny P .any ops (lift N Q) fuel (L.setIfInBounds i true) a w:=λa w ⟨ρ',T,R⟩=>(by have x:WA P N ops Q fuel (L.setIfInBounds i true) ρ' w:=R;exact x.out a T);unfold wpOp;rw[W];simp only[];unfold wpList at h1;split at h1
 .rename_i K;rw[P' K];refine h1.imp (λh2=>Oper.wp_mono y ?_) (λh2=>⟨h2.1, ?_⟩)
  .unfold Oper.wp at h2 |-;exact bw h2
  obtain⟨a',V,G⟩:=h2.2;exact⟨a',V,G⟩
 rename_i K;rw[Q' K];exact y _ _ h1
def je{L:Array Bool}{i:Nat}{o:Oper}(H:Region.ready .any ops L=[i])(W:ops[i]?=some o) (h:WL .plain P N ops (Nd (λO w=>WA P N ops Q fuel (L.setIfInBounds i true) O w) Q) [o] O w):WA P N ops Q (fuel+1) L O w:=
 ZJ H (by simp) λj hj=>by
  obtain rfl:j=i:=by simpa using hj
  exact⟨o,W,h⟩
def At{L:Array Bool}{i i2:Nat}{o v:Oper}(H:Region.ready .any ops L=[i,i2])(W:ops[i]?=some o)(q:ops[i2]?=some v) (h:WL .plain P N ops (Nd (λO w=>WA P N ops Q fuel (L.setIfInBounds i true) O w) Q) [o] O w) (h2:WL .plain P N ops (Nd (λO w=>WA P N ops Q fuel (L.setIfInBounds i2 true) O w) Q) [v] O w):WA P N ops Q (fuel+1) L O w:=
 ZJ H (by simp) λj hj=>by
  obtain rfl|hj:=u'.1 hj
  .exact⟨o,W,h⟩
  obtain rfl:j=i2:=by simpa using hj
  exact⟨v,q,h2⟩
def Kc{L:Array Bool}(h:WA P N ops Q fuel L O w):WL .plain P N ops (Nd (λO w=>WA P N ops Q fuel L O w) Q) [] O w:=na h
def Hg{l:List Oper}{L:Array Bool}(m:Nat)(hm:m<=l.length)(b:L=fh l.length m)(Y:l.length<=fuel+m) (H:((List.range (l.length-m)).all λk=>Region.ready .any l.toArray (fh l.length (m+k))==[m+k])=true)(x:Region.ready .any l.toArray (fh l.length l.length)=[]) (h:WL .plain P N l.toArray Q (l.drop m) O w):WA P N l.toArray Q fuel L O w:=
 ⟨λa t=>by
  rw[b];refine Pw m (λk h1 h2=> ?_) x fuel m a w (E' _) hm Y (h.out a t);have G:=L_.1 H (k-m) (by simp;omega);rw[show m+(k-m)=k by omega] at G;exact eq_of_beq G⟩
def Ao{id:Nat}{l:List Oper}{H:List HE}(I:Hp w0 H w)(hm:P.follows .mixedOrders=true)(h:∀V,JJ w0 H w V->WA P N l.toArray Q l.length (Array.replicate l.length false) O V):WC .plain P N (.region id l.toArray true) Q O w:=by
 refine WC.vn λa Y=>wp_region_any hm ?_;have F:Below w.heap.size w ({ w with drawn:=w.drawn+1 }:World):=⟨rfl,rfl,rfl,E' _,λ_ _=>rfl⟩;have:=(h _ ((JJ.start I).ext F)).out a Y;simpa using this
def AO:List Nat->List (List Nat)
 |[]=>[[]]
 |x::r=>AO r++(AO r).map (x:: ·)
def zu(p:Nat->Bool):∀l:List Nat,l.filter p∈AO l
 |[]=>by simp[AO]
 |x::r=>by
  have W:=zu p r;rw[List.filter_cons,AO];split
  .exact u9 _ (B'.2 ⟨_,W,rfl⟩)
  exact M9 _ W
def lD(n m:Nat)(X D:List Nat):Array Bool:=((List.range n).map λi=>decide (i<m/\(i∉X\/i∈D))).toArray
def DK(l:List Oper)(X D:List Nat):Bool:=D.all λi=>match l[i]? with
 |some o=>o.after.all λe=> !Region.binds .any e|| !X.contains e.on||D.contains e.on
 |none=>true
def dsD(ds:List (Nat×Nat))(X D:List Nat):List (Nat×Nat):=ds.filter λp=> !X.contains p.1||D.contains p.1
def aC(l:List Oper)(m:Nat)(X:List Nat)(ds:List (Nat×Nat)):List (List Nat×Nat×List (Nat×Nat)):=((AO X).filter (DK l X)).map λD=>(D,l.length-(lD l.length m X D).toList.countP (λb=>b)-1,dsD ds X D)
def Ru(l:List Oper)(m N:Nat)(src:List (List (Nat×Option Nat)))(ds:List (Nat×Nat))(X M:List Nat):Bool:=
 let ops:=l.toArray
 let pre:=(List.range m).map λi=>((ops[i]?).bind (·.dst))
 (m<=l.length) && (src.length==m) &&
 (ds==(pre.zipIdx.filterMap λ(d,i)=>d.map λd=>(i,d)).reverse) && (decide (ds.map (·.2)).Nodup) && (ds.all λp=>p.2<N) &&
 ((List.range m).all λi=>match ops[i]?,src[i]? with
  |some o,some s=>((o.looksAt ops).all λt=>s.any λp=>p.1==t) &&
    s.all λp=>match p.2 with
     |some j=>(j<m) && ((ops[j]?).bind (·.dst)==some p.1) && (M.getD i 0).testBit j
     |none=>(List.range m).all λj=> !((ops[j]?).bind (·.dst)==some p.1)||(j !=i && (M.getD j 0).testBit i)
  |_,_=>false) &&
 (l.length==m||((List.range m).all λi=>X.contains i||(M.getD m 0).testBit i)) &&
 ((List.range (l.length-m)).all λk=>k==0||(M.getD (m+k) 0).testBit m) &&
 ((List.range l.length).all λi=>match ops[i]? with|some o=>o.after.all λe=> !Region.binds .any e||e.on<i|none=>false) && (wm l []==M)
theorem WG{id:Nat}{l:List Oper}(fr X M:List Nat)(m:Nat)(src:List (List (Nat×Option Nat)))(ds:List (Nat×Nat))(Ds:List (List Nat×Nat×List (Nat×Nat)))(J:World->Prop)(r:Nat->Value->World->Prop)(hm:P.follows .mixedOrders=true)(hok:Ru l m N src ds X M=true)(hDs:aC l m X ds=Ds)(hmn:m<l.length)(hfr:js P l fr)(hfm:fr.all (λi=>i<m)=true) (hJ:∀w V,J w->Below w.heap.size w V->J V)(h0:J w)(hops:DO P l.toArray J r O 0 (l.take m) src) (tail:∀p∈Ds,∀f V,J V->tp r f V p.2.2->(∀i∈fr,∀j∈fr,i≠j->(!X.contains i||p.1.contains i)=true->(!X.contains j||p.1.contains j)=true->f i≠f j)->WL .plain P N l.toArray (Nd (λO w=>WA P N l.toArray Q p.2.1 ((lD l.length m X p.1).setIfInBounds m true) O w) Q) ((l.drop m).take 1) (qe O f p.2.2) V):WC .plain P N (.region id l.toArray true) Q O w:=by
 refine WC.vn λa hf=>wp_region_any hm ?_;simp only[Ru,l',h',k9,L_,S_] at hok;obtain⟨⟨⟨⟨⟨⟨⟨⟨⟨hml,_⟩,hds⟩,hnd⟩,hdN⟩,hrd⟩,htail⟩,hdep⟩,hedge⟩,hM⟩:=hok;have hdo:=(CM _ _ _ hops).2;have q:∀i d,i<m->((l.toArray[i]?).bind (·.dst))=some d->(i,d)∈ds:=λi d hi hd=>(by exact abv);have hdsm:∀i d,(i,d)∈ds->i<m/\((l.toArray[i]?).bind (·.dst))=some d:=λi d hp=>(by refine QP ?_;intro x k hx hxe;exact zW8);have hone:∀i j d,i<m->j<m->((l.toArray[i]?).bind (·.dst))=some d->((l.toArray[j]?).bind (·.dst))=some d->i=j:=λi j d hi hj h1 h2=>(by have p1:=q i d hi h1;have p2:=q j d hj h2;exact adA);have hnn:l.toArray.size=l.length:=by simp
 have A:∀i∈fr,i<m:=λi hi=>by simpa using L_.1 hfm i hi
 have part:∀(L:Array Bool)(a:Act)(w:World)(fuel:Nat),DI2 [] fr N l.toArray m O J r L a w->(∀i,i<m->i∉X->L.getD i false=true)->fuel+1+L.toList.countP (λb=>b)=l.length->∀o,l.toArray[m]?=some o->
   wpOp P l.toArray (lift N Q) m (wpAny P .any l.toArray (lift N Q) fuel (L.setIfInBounds m true)) a w:=by
  intro L a w fuel g Y hfu o W;have u:∀i,i∈X.filter (λi=>L.getD i false)↔i∈X/\L.getD i false=true:=λi=>by rw[D9]
  have hL:L=lD l.length m X (X.filter λi=>L.getD i false):=by
   apply Array.ext (by simp[lD,g.ls]);intro i h1 h2;have e1:L.getD i false=L[i]:=by simp[h1]
   rw[<-e1];simp only[lD,List.getElem_toArray,List.getElem_map,List.getElem_range];obtain h|h:=o_ i m
   .by_cases D:i∈X
    .cases hc:L.getD i false with
     |true=>exact(m' ⟨h,.inr ((u i).2 ⟨D,hc⟩)⟩).symm
     |false=>exact(k' λI=>I.2.elim (λhn=>hn D) λhd=>by rw[((u i).1 hd).2] at hc;cases hc).symm
    rw[Y i h D];exact(m' ⟨h,.inl D⟩).symm
   rw[g.tl i h];exact(k' λI=>by omega).symm
  have hcl:DK l X (X.filter λi=>L.getD i false)=true:=L_.2 λi hi=>by
   obtain⟨h1,h2⟩:=(u i).1 hi
   cases hli:l[i]? with
   |none=>rfl
   |some oi=>
    refine j8.2 λe he=> ?_
    cases hb:Region.binds .any e with
    |false=>rfl
    |true=>
     have G:=g.cl i oi (by rw[J8];exact hli) h2 e he hb;by_cases hef:e.on∈X
     .rw[V7];exact .inr (m6.2 ((u _).2 ⟨hef,G⟩))
     simp[hef]
  have hmem:(X.filter (λi=>L.getD i false),l.length-(lD l.length m X (X.filter λi=>L.getD i false)).toList.countP (λb=>b)-1,dsD ds X (X.filter λi=>L.getD i false))∈Ds:=(by rw[<-hDs];exact B'.2 ⟨_,D9.2 ⟨zu _ _,hcl⟩,rfl⟩);have hfu':l.length-L.toList.countP (λb=>b)-1=fuel:=Z';have htl:=tail _ hmem;simp only[<-hL,hfu'] at htl;have hsub:∀p∈dsD ds X (X.filter λi=>L.getD i false),p∈ds/\L.getD p.1 false=true:=λp hp=>by
   obtain⟨h1,h2⟩:=D9.1 hp;refine⟨h1, ?_⟩;simp only[V7,n8,List.contains_eq_mem,T6,h'] at h2;obtain h2|h2:=h2
   .exact Y _ (hdsm _ _ h1).1 h2
   exact((u _).1 h2).2
  have hnd':((dsD ds X (X.filter λi=>L.getD i false)).map (·.2)).Nodup:=(List.filter_sublist.map _).nodup hnd;have hfits:Fits N a (qe O (λi=>match(l.toArray[i]?).bind (·.dst) with|some d=>a.tmps.getD d undef|none=>undef) (dsD ds X (X.filter λi=>L.getD i false))):=by
   refine⟨g.nd,g.sz,λs=> ?_⟩;by_cases hs:∃i,(i,s)∈dsD ds X (X.filter λi=>L.getD i false)
   .obtain⟨i,hi⟩:=hs;rw[(Jh _ _ s hnd').1 i hi,(hdsm i s (hsub _ hi).1).2]
   rw[(Jh _ _ s hnd').2 λi hi=>hs ⟨i,hi⟩];refine g.mv s λi hi hil hd=>hs ⟨i,D9.2 ⟨q i s hi hd, ?_⟩⟩;by_cases D:i∈X
   .rw[V7];exact .inr (m6.2 ((u i).2 ⟨D,hil⟩))
   simp[D]
  have h1:=(htl (λi=>match(l.toArray[i]?).bind (·.dst) with|some d=>a.tmps.getD d undef|none=>undef) w g.j (Lu _ λp hp=>by
   obtain⟨h1,h2⟩:=hsub p hp;obtain⟨G,h4⟩:=hdsm p.1 p.2 h1;have:=g.vs p.1 p.2 G h2 h4;rw[h4];exact this) λi hi j hj hij hpi hpj=>by
    obtain⟨d,t,ty,pos,af,n,ag,by',zc,hi1,_⟩:=hfr.at i hi;obtain⟨e,t',ty',pos',af',n',ag',by'',zc',hj1,_⟩:=hfr.at j hj;have hi2:(l.toArray[i]?).bind (·.dst)=some d:=by rw[J8,hi1];rfl
    have hj2:(l.toArray[j]?).bind (·.dst)=some e:=by rw[J8,hj1];rfl
    have hup:∀i∈fr,(!X.contains i||(X.filter λi=>L.getD i false).contains i)=true->L.getD i false=true:=λi hi hp=>by
     by_cases hf:i∈X
     .rw[m6.2 hf,o7,z_] at hp;exact((u i).1 (m6.1 hp)).2
     exact Y i (A i hi) hf
    rw[hi2,hj2];exact g.fd i hi j hj hij (hup i hi hpi) (hup j hj hpj) d e hi2 hj2).out a hfits
  have hone':(l.drop m).take 1=[o]:=(by rw[J8] at W;obtain⟨h2,G⟩:=x'.1 W;rw[K8 h2,G];rfl);rw[hone'] at h1;have hK:∀a w,wpList P l.toArray (lift N (Nd (λO w=>WA P N l.toArray Q fuel (L.setIfInBounds m true) O w) Q)) [] a w->wpAny P .any l.toArray (lift N Q) fuel (L.setIfInBounds m true) a w:=λa w ⟨ρ',hf',hq⟩=>(by have hq':WA P N l.toArray Q fuel (L.setIfInBounds m true) ρ' w:=hq;exact hq'.out a hf');unfold wpOp;rw[W];simp only[];unfold wpList at h1;split at h1
  .rename_i hwt;rw[P' hwt];refine h1.imp (λh2=>Oper.wp_mono hK ?_) (λh2=>⟨h2.1, ?_⟩)
   .unfold Oper.wp at h2 |-;exact bw h2
   obtain⟨a',V,G⟩:=h2.2;exact⟨a',V,G⟩
  rename_i hwt;rw[Q' hwt];exact hK _ _ h1
 have key:∀(fuel:Nat)(L:Array Bool)(a:Act)(w:World),DI2 [] fr N l.toArray m O J r L a w->fuel+L.toList.countP (λb=>b)=l.length->wpAny P .any l.toArray (lift N Q) fuel L a w:=by
  intro fuel
  induction fuel with
  |zero=>
   intro L a w g hc;have Y:∀i,i<l.length->L.getD i false=true:=λi hi=>(by exact aeG);have h1:=Y m hmn;rw[g.tl m (E' _)] at h1
   cases h1
  |succ fuel ih=>
   intro L a w g hc;have c:∀i,i∈Region.ready .any l.toArray L↔i<l.length/\L.getD i true=false/\∃o,l.toArray[i]?=some o/\∀e∈o.after,Region.binds .any e=true->L.getD e.on false=true:=λi=>(by exact acr);have both:∀(i:Nat)(_:i<m)(o:Oper)(_:l.toArray[i]?=some o)(_:L.getD i false=false)(_:∀e∈o.after,Region.binds .any e=true->L.getD e.on false=true),
     OG P l.toArray o (λt=>a.tmps.getD t undef) w (λv w2=>Below w.heap.size w w2/\r i v w2)/\
     ∀v w2,(Below w.heap.size w w2/\r i v w2)->(i∈fr->∃b,v=.pointer (some ⟨b,0,none⟩)/\w.heap.size<=b/\b<w2.heap.size)->wpAny P .any l.toArray (lift N Q) fuel (L.setIfInBounds i true) (a.put o.dst v) w2:=λi E o W hun' hed=>by
    refine D2 ?_;intro S hed';have hok':(l.take m)[i]?=some o:=(by rw[o8,P' E];simpa using W);refine TY ?_;(unhygienic intros)
    have hro:Ec r O (λt=>a.tmps.getD t undef) w s:=Vr s λp hp=>by
     have hp2:=hrdi.2 p hp
     cases hp3:p.2 with
     |some j=>
      rw[hp3] at hp2;simp only[l',h',k9] at hp2;exact g.vs j p.1 hp2.1.1 (tj hM g.cl i j hed' hp2.2) hp2.1.2
     |none=>
      refine F2 ?_;(unhygienic intros)
      rw[hun'] at this
      cases this
    have H:∀v w2,(Below w.heap.size w w2/\r i v w2)->(i∈fr->∃b,v=.pointer (some ⟨b,0,none⟩)/\w.heap.size<=b/\b<w2.heap.size)->wpAny P .any l.toArray (lift N Q) fuel (L.setIfInBounds i true) (a.put o.dst v) w2:=λv w2 hv hfv=>by
     have hd1:∀C,o.dst=some C->C<a.tmps.size:=λC hd'=>(by rw[g.sz];exact hdN (i,C) (q i C E (by rw[W];exact hd')));have hput:∀j d,j<m->j≠i->(l.toArray[j]?).bind (·.dst)=some d->(a.put o.dst v).tmps.getD d undef=a.tmps.getD d undef:=λj d hj z B=>by
      cases T:o.dst with
      |none=>rfl
      |some C=>rw[Ve (hd1 C T),Q' λe=>z (hone j i d hj E B (by rw[W,e];exact T))]
     have hputi:∀d,(l.toArray[i]?).bind (·.dst)=some d->(a.put o.dst v).tmps.getD d undef=v:=λd hd=>(by rw[W] at hd;simp only[u6] at hd;rw[hd,Ve (hd1 d hd),P' rfl]);have hfd:∀j∈fr,j≠i->L.getD j false=true->i∈fr->∀e,(l.toArray[j]?).bind (·.dst)=some e->a.tmps.getD e undef≠v:=λj hj z R D e hje heq=>by
      obtain⟨b,hb1,hb2⟩:=g.fb j hj R e hje;obtain⟨b',hv1,hb3,_⟩:=hfv D;rw[hb1,hv1] at heq;injection heq with heq
      injection heq with heq
      injection heq with heq
      omega
     refine ih _ _ _ ?_ ?_
     .refine⟨?_, ?_,hJ _ _ g.j hv.1,by simpa using g.ls, ?_, ?_, ?_, ?_, ?_, ?_⟩
      .cases o.dst<;>exact g.nd
      .cases T:o.dst with
       |none=>exact g.sz
       |some d=>simpa[Act.put] using g.sz
      .intro k ok hk F e he hb;rw[re S] at F |-;by_cases hki:k=i
       .subst hki;simp[hed' ok hk e he hb]
       simp only[hki,decide_false,z_] at F;simp[g.cl k ok hk F e he hb]
      .intro k hk;rw[re S,g.tl k hk];have:¬k=i:=Z';simp[this]
      .intro j d hj R B;rw[re S] at R;have hd1:∀C,o.dst=some C->C<a.tmps.size:=λC hd'=>(by rw[g.sz];exact hdN (i,C) (q i C E (by rw[W];exact hd')));by_cases z:j=i
       .subst z;refine GR ?_;intro B;exact hv.2
       simp only[z,decide_false,z_] at R;have hold:=g.vs j d hj R B;have hdj:(j,d)∈ds:=q j d hj B;have hst:=(hdo j (l.toArray[j]?.getD default) (by
        have:j<l.length:=Z';rw[o8,P' hj];simp[this])).choose_spec.2.1
       rw[U_] at hst;have hne:∀C,o.dst=some C->d≠C:=λC hd' e=>(by subst e;exact z (hone j i d hj E B (by rw[W];exact hd')))
       cases T:o.dst with
       |none=>exact hst _ _ _ hold hv.1
       |some C=>
        rw[Ve (hd1 C T),Q' (hne C T)];exact hst _ _ _ hold hv.1
      .refine abn ?_;(unhygienic intros)
       cases T:o.dst with
       |none=>exact hold
       |some C=>
        rw[Ve (by rw[g.sz];exact hdN (i,C) (q i C E (by rw[W];exact T))),Q' (λe=>hni (by rw[T,e]))];exact hold
      .intro j hj R d B;rw[re S] at R;by_cases z:j=i
       .subst z;obtain⟨b,hb1,_,hb3⟩:=hfv hj;exact⟨b,(hputi d B).trans hb1,hb3⟩
       simp only[z,decide_false,z_] at R;obtain⟨b,hb1,hb2⟩:=g.fb j hj R d B;exact⟨b,(hput j d (A j hj) z B).trans hb1,k_ hb2 hv.1.size⟩
      intro j hj k hk hjk R F d e B hke;rw[re S] at R F;by_cases z:j=i
      .subst z;have hkj:k≠j:=λe=>hjk e.symm;simp only[hkj,decide_false,z_] at F;rw[hputi d B,hput k e (A k hk) hkj hke];exact λhe=>hfd k hk hkj F hj e hke he.symm
      simp only[z,decide_false,z_] at R;by_cases hki:k=i
      .subst hki;rw[hputi e hke,hput j d (A j hj) z B];exact hfd j hj z R hk d B
      simp only[hki,decide_false,z_] at F;rw[hput j d (A j hj) z B,hput k e (A k hk) hki hke];exact g.fd j hj k hk hjk R F d e B hke
     have hLi:L.toList[i]?=some false:=by
      have G:i<L.toList.length:=by simpa using S
      rw[U8 G];have:L.getD i false=L.toList[i]:=by simp[S]
      rw[<-this,hun']
     rw[Array.toList_setIfInBounds,List.countP_set (by simpa using S)];have h4:L.toList[i]'(by simpa using S)=false:=(x'.1 hLi).2;rw[h4];simp only[z6,if_false,if_true];omega
    exact⟨hog _ w g.j hro,H⟩
   refine⟨λhnil=> ?_,λi hi=> ?_⟩
   .exfalso;have hmin:∀k,(∃i,i<k/\i<m+1/\L.getD i false=false)->∃i,i<m+1/\L.getD i false=false/\∀j,j<i->L.getD j false=true:=by
     intro k
     induction k with
     |zero=>rintro ⟨i,h,_⟩;omega
     |succ k ihk=>
      rintro ⟨i,h1,h2,G⟩;by_cases hex:∃i,i<k/\i<m+1/\L.getD i false=false
      .exact ihk hex
      exact abH
    obtain⟨i,hi,hu,hlow⟩:=hmin (m+1) ⟨m,Z',Z',g.tl m (E' _)⟩;have hil:i<l.length:=Z';have hE:=hedge i hil;have W:l.toArray[i]?=some l[i]:=by simp[hil]
    rw[W] at hE;have hmem:i∈Region.ready .any l.toArray L:=(c i).2 ⟨hil,by
     have G:i<L.size:=by rw[g.ls,hnn];exact hil
     rw[U9] at hu |-;rw[k7 G] at hu |-;simpa using hu,l[i],W,λe he hb=>by
     have:=j8.1 hE e he;simp only[hb,o7,z_,h'] at this;exact hlow _ this⟩
    rw[hnil] at hmem
    cases hmem
   obtain⟨hil,hun,o,W,hed⟩:=(c i).1 hi;have S:i<L.size:=by rw[g.ls,hnn];exact hil
   have hun':L.getD i false=false:=(by exact abh);have hed':∀o',l.toArray[i]?=some o'->∀e∈o'.after,Region.binds .any e=true->L.getD e.on false=true:=λo' K=>(by rw[W] at K;injection K with K;subst K;exact hed);obtain E|E:=o_ i m
   .obtain⟨hog,H⟩:=both i E o W hun' hed;have hgo:if Region.wanted o (yielded l.toArray a.tmps) then(o.wp P a w (wpAny P .any l.toArray (lift N Q) fuel (L.setIfInBounds i true)) (lift N Q))\/((o.asks P a w)/\LetsOut (lift N Q)) else wpAny P .any l.toArray (lift N Q) fuel (L.setIfInBounds i true) (a.put o.dst undef) w:=by
     by_cases D:i∈fr
     .obtain⟨d,t,ty,pos,af,n,ag,by',zc,hi1,ht⟩:=hfr.at i D;have ho2:o=⟨some d,.alloc t,ty,pos,af,none⟩:=by
       have h7:=W;rw[J8,hi1] at h7;injection h7 with h7
       exact h7.symm
      have hds:d<a.tmps.size:=(by rw[g.sz];exact hdN (i,d) (q i d E (by rw[W,ho2];rfl)));subst ho2;exact gG ht hog a hds _ _ (λ_=>rfl) λv V hk hb=>H v V hk λ_=>hb
     exact hog.out a _ _ (λ_=>rfl) λv w2 hv=>H v w2 hv λh=>absurd h D
    unfold wpOp;rw[W];exact hgo
   obtain h2|h2:=o_ m i
   .exfalso;refine IZ ?_;intro G h4;have:=tj hM g.cl i m hed' G;rw[g.tl m (E' _)] at this
    cases this
   obtain rfl:i=m:=Z';refine part L a w fuel g (λj hj hjf=> ?_) hc o W;have h4:(l.length==i)=false:=by simp;omega
   rw[h4,z_] at htail;have h6:=L_.1 htail j (by simpa using hj);have h7:X.contains j=false:=by simpa using hjf
   rw[h7,z_] at h6;exact tj hM g.cl i j hed' h6
 exact aeA
def wC{x y:Value}{b d:Nat}(h:x≠y)(h1:x=.pointer (some ⟨b,0,none⟩))(h2:y=.pointer (some ⟨d,0,none⟩)):b≠d:=λe=>h (by rw[h1,h2,e])
def sJ{Q:Kq}{id:Nat}{l:List Oper}(Y X M:List Nat)(m:Nat)(src:List (List (Nat×Option Nat)))(ds:List (Nat×Nat))(a:List (List Nat×Nat×List (Nat×Nat))){H:List HE}(I:Hp w0 H w)(hm:P.follows .mixedOrders=true)(y:Ru l m N src ds X M=true)(b:aC l m X ds=a)(c:m<l.length)(k:js P l Y)(L:Y.all (λi=>i<m)=true) (h:DX P l.toArray (JJ w0 H w) O (λo=>∀p∈a,∀f V,JJ w0 H w V->tp o f V p.2.2->(∀i∈Y,∀j∈Y,i≠j->(!X.contains i||p.1.contains i)=true->(!X.contains j||p.1.contains j)=true->f i≠f j)->WL .plain P N l.toArray (Nd (λO w=>WA P N l.toArray Q p.2.1 ((lD l.length m X p.1).setIfInBounds m true) O w) Q) ((l.drop m).take 1) (qe O f p.2.2) V) 0 noV (l.take m) src):WC .plain P N (.region id l.toArray true) Q O w:=by
 obtain⟨o,_,h1,h2⟩:=tL _ _ _ _ (λ_ _ _ _=>trivial) h;exact WG Y X M m src ds a (JJ w0 H w) o hm y b c k L (λ_ _ h F=>h.ext F) (JJ.start I) h1 h2
def Sk{Q:Kq}{id:Nat}{l:List Oper}(X M:List Nat)(m:Nat)(src:List (List (Nat×Option Nat)))(ds:List (Nat×Nat))(a:List (List Nat×Nat×List (Nat×Nat))){H:List HE}(I:Hp w0 H w)(hm:P.follows .mixedOrders=true)(y:Ru l m N src ds X M=true)(o:aC l m X ds=a)(Y:m<l.length) (h:DX P l.toArray (JJ w0 H w) O (λj=>∀p∈a,∀f V,JJ w0 H w V->tp j f V p.2.2->WL .plain P N l.toArray (Nd (λO w=>WA P N l.toArray Q p.2.1 ((lD l.length m X p.1).setIfInBounds m true) O w) Q) ((l.drop m).take 1) (qe O f p.2.2) V) 0 noV (l.take m) src):WC .plain P N (.region id l.toArray true) Q O w:=by
 obtain⟨j,_,h1,h2⟩:=tL _ _ _ _ (λ_ _ _ _=>trivial) h;exact WG [] X M m src ds a (JJ w0 H w) j hm y o Y Hn rfl (λ_ _ h F=>h.ext F) (JJ.start I) h1 λp hp f V hj A _=>h2 p hp f V hj A
variable {lo:Operand}
def Nf{d:Option Nat}{ty:TypeId}{af:Array Edge}{g:Option (Nat×Bool)}{t e:TypeId}{x:Operand}{A:Option Addr}{c l sz:Nat}{k:IntKind}{m:Int}(S:P.underlying t=some (.slice e))(M:(P.info? e).map (·.size)=some sz)(C:ev O x=.slice A n c)(p:ev O lo=.int k m) (hm:m=(l:Int))(h1:l<=n)(h2:n<=c):(execOp (ev O) ⟨d,.slice t x (some lo) none none,ty,pos,af,g⟩).run P w=.ok (.value (.slice (if c=l then A else A.map (·.add (l*sz))) (n-l) (c-l))) w:=
 xf (lo:=some lo) (hi:=none) (l:=l) (h:=n) S M C ⟨k,m,p,hm⟩ rfl h1 h2
def Sl.front{A:Option Addr}{xs:List Value}(h:Sl w A n k xs)(hm:m<=n):Sl w A m k (xs.take (m*k)):=by
 have hle:m*k<=n*k:=c_ _ hm;refine⟨by rw[p',h.1];omega,λJ=> ?_⟩;obtain⟨b,h1,h2⟩:=h.2 Z';exact⟨b,h1,h2.take _⟩
def Sl.back{A:Option Addr}{l c:Nat}{xs:List Value}(h:Sl w A n k xs)(Q:l<=n)(E:n<=c):Sl w (if c=l then A else A.map (·.add (l*k))) (n-l) k (xs.drop (l*k)):=by
 have h1:=h.cut Q (E' n) E;have h2:((xs.drop (l*k)).take ((n-l)*k))=xs.drop (l*k):=w' (by rw[j_,h.1,Nat.sub_mul];exact E' _);rwa[h2] at h1
variable {base:Nat}
def ahu(base:Nat)(t:TypeId)(sz:Nat):VP:=λv W=>∃g,v=.slice (some ⟨g,0,none⟩) 0 0/\W.ownsRow base t sz (.slice (some ⟨g,0,none⟩) 0 0) 0 []
def Iu(base:Nat)(t:TypeId)(n sz:Nat)(cs:List Value):VP:=λv W=>∃A c,v=.slice A n c/\W.ownsRow base t sz (.slice A n c) n cs
def hI{V:World}{t:TypeId}{sz c:Nat}{A:Option Addr}{xs:List Value}(h:w.ownsRow base t sz (.slice A n c) n xs)(F:Below w.heap.size w V):V.ownsRow base t sz (.slice A n c) n xs:=by
 refine⟨h.1,h.2.imp id ?_⟩;rintro ⟨g,cap,cur,h1,h2,G,z⟩;have D:g<w.heap.size:=by
  obtain h|h:=o_ g w.heap.size
  .exact h
  rw[k6 h] at G;cases G
 exact⟨g,cap,cur,h1,h2,(F.block g D).trans G,z⟩
def Iu.ext{t:TypeId}{sz:Nat}(v:Value)(w V:World)(h:Iu base t n sz cs v w)(F:Below w.heap.size w V):Iu base t n sz cs v V:=let⟨A,c,h1,h2⟩:=h;⟨A,c,h1,hI h2 F⟩
def JJ.XI{H:List HE}{t:TypeId}{c sz:Nat}{A:Option Addr}(K:Hp w0 H w)(h:Hp w0 H W)(a:W.ownsRow w.heap.size t sz (.slice A n c) n cs):Hp w0 (.row A n c t sz cs::H) W:=by
 refine⟨h.below,λx C=> ?_, ?_⟩
 .obtain rfl|C:=u'.1 C
  .refine⟨a.1,a.2.imp id ?_⟩;rintro ⟨g,cap,cur,h1,h2,G⟩;exact⟨g,cap,cur,h1,d' K.size h2,G⟩
  exact h.own x C
 rw[K7];obtain⟨h1,_⟩|⟨g,cap,cur,h1,h2,_⟩:=a.2
 .injection h1 with N
  subst N;exact h.nd
 injection h1 with N
 subst N;show(g::H.filterMap HE.id).Nodup;refine W7.2 ⟨λhm=> ?_,h.nd⟩;obtain⟨y,hy,d⟩:=Z8.1 hm;have:=(Ye (K.own y hy) d).2;omega
structure DI6(D:List Deferred)(N:Nat)(ops:Array Oper)(m μ:Nat)(O:Rf)(J:Bool->World->Prop)(V:Nat->Value->World->Prop)(L:Array Bool)(a:Act)(w:World):Prop where
 nd:a.defers=D
 sz:a.tmps.size=N
 j:J (L.getD μ false) w
 ls:L.size=ops.size
 cl:Vp ops L
 tl:∀k,m<=k->L.getD k false=false
 vs:∀i d,i<m->L.getD i false=true->(ops[i]?).bind (·.dst)=some d->V i (a.tmps.getD d undef) w
 mv:∀s,(∀i,i<m->L.getD i false=true->(ops[i]?).bind (·.dst)≠some s)->a.tmps.getD s undef=O s
def Sts(h:Nat->VP):List Nat->Prop
 |[]=>True
 |i::r=>(∀v w V,h i v w->h i v V)/\Sts h r
structure JC(w0:World)(H:List HE)(W:World):Prop where
 hp:Hp w0 H W
variable {d:Option Nat}{ty:TypeId}
def nN{k:IntKind}{a:Int}(p:DX P ops J O T (i+1) (Cd pv i (Is (.int k a))) os ss)(C:∀U Z,J Z->Ec pv O U Z s->ev U x=.int k a:=by intro U Z hj hR;first|exact hR.1|exact hR.2.1|exact hR.2.2.1|exact rfl):DX P ops J O T i pv (⟨d,.move x,ty,pos,af,none⟩::os) (s::ss):=Ma (λU Z hj h=>Ib (C U Z hj h)) p
def daI{k:IntKind}{a:Int}(p:DX P ops J O T (i+1) (Cd pv i (Is (.int k a))) os ss)(C:∀U Z,J Z->Ec pv O U Z s->ev U x=.int k a:=by intro U Z hj hR;first|exact hR.1|exact hR.2.1|exact hR.2.2.1|exact rfl):DX P ops J O T i pv (⟨d,.assign x,ty,pos,af,none⟩::os) (s::ss):=Ma (λU Z hj h=>rn (C U Z hj h)) p
def dmB{a:Bool}(p:DX P ops J O T (i+1) (Cd pv i (Is (.bool a))) os ss)(C:∀U Z,J Z->Ec pv O U Z s->ev U x=.bool a:=by intro U Z hj hR;first|exact hR.1|exact hR.2.1|exact hR.2.2.1|exact rfl):DX P ops J O T i pv (⟨d,.move x,ty,pos,af,none⟩::os) (s::ss):=Ma (λU Z hj h=>Ib (C U Z hj h)) p
def dmS{a:ByteArray}(p:DX P ops J O T (i+1) (Cd pv i (Is (.string a))) os ss)(C:∀U Z,J Z->Ec pv O U Z s->ev U x=.string a:=by intro U Z hj hR;first|exact hR.1|exact hR.2.1|exact hR.2.2.1|exact rfl):DX P ops J O T i pv (⟨d,.move x,ty,pos,af,none⟩::os) (s::ss):=Ma (λU Z hj h=>Ib (C U Z hj h)) p
def eI{A:Option Addr}{c:Nat}(p:DX P ops J O T (i+1) (Cd pv i (Is (.slice A n c))) os ss)(C:∀U Z,J Z->Ec pv O U Z s->ev U x=.slice A n c:=by intro U Z hj hR;first|exact hR.1|exact hR.2.1|exact hR.2.2.1|exact rfl):DX P ops J O T i pv (⟨d,.move x,ty,pos,af,none⟩::os) (s::ss):=Ma (λU Z hj h=>Ib (C U Z hj h)) p
def dmT{l:List Value}(p:DX P ops J O T (i+1) (Cd pv i (Is (.tuple l.toArray))) os ss)(C:∀U Z,J Z->Ec pv O U Z s->ev U x=.tuple l.toArray:=by intro U Z hj hR;first|exact hR.1|exact hR.2.1|exact hR.2.2.1|exact rfl):DX P ops J O T i pv (⟨d,.move x,ty,pos,af,none⟩::os) (s::ss):=Ma (λU Z hj h=>Ib (C U Z hj h)) p
def dmF{f:Fn}{l r:List Value}(p:DX P ops J O T (i+1) (Cd pv i (Is (.func f l.toArray r.toArray))) os ss)(C:∀U Z,J Z->Ec pv O U Z s->ev U x=.func f l.toArray r.toArray:=by intro U Z hj hR;first|exact hR.1|exact hR.2.1|exact hR.2.2.1|exact rfl):DX P ops J O T i pv (⟨d,.move x,ty,pos,af,none⟩::os) (s::ss):=Ma (λU Z hj h=>Ib (C U Z hj h)) p
def dmP{a:Option Addr}(p:DX P ops J O T (i+1) (Cd pv i (Is (.pointer a))) os ss)(C:∀U Z,J Z->Ec pv O U Z s->ev U x=.pointer a:=by intro U Z hj hR;first|exact hR.1|exact hR.2.1|exact hR.2.2.1|exact rfl):DX P ops J O T i pv (⟨d,.move x,ty,pos,af,none⟩::os) (s::ss):=Ma (λU Z hj h=>Ib (C U Z hj h)) p
def dnc{a:Addr}(p:DX P ops J O T (i+1) (Cd pv i (Is (.pointer (some a)))) os ss)(C:∀U Z,J Z->Ec pv O U Z s->ev U x=.pointer (some a):=by intro U Z hj hR;first|exact hR.1|exact hR.2.1|exact hR.2.2.1|exact rfl):DX P ops J O T i pv (⟨d,.nilCheck x,ty,pos,af,none⟩::os) (s::ss):=Ma (λU Z hj h=>Sx (C U Z hj h)) p
def dfa{c:TypeId}{f b:Nat}{q:TypeId}[Y:Bd P c f off q](p:DX P ops J O T (i+1) (Cd pv i (Is (.pointer (some ⟨b,o+off,none⟩)))) os ss)(C:∀U Z,J Z->Ec pv O U Z s->ev U x=.pointer (some ⟨b,o,none⟩):=by intro U Z hj hR;first|exact hR.1|exact hR.2.1|exact hR.2.2.1|exact rfl):DX P ops J O T i pv (⟨d,.fieldAddr c x f,ty,pos,af,none⟩::os) (s::ss):=Ma (λU Z hj h=>cu Y.out (C U Z hj h)) p
def Wy{c:TypeId}{f:Nat}{b:Addr}{q:TypeId}[Y:Bd P c f off q](p:DX P ops J O T (i+1) (Cd pv i (Is (.pointer (some (b.add off))))) os ss)(C:∀U Z,J Z->Ec pv O U Z s->ev U x=.pointer (some b):=by intro U Z hj hR;first|exact hR.1|exact hR.2.1|exact hR.2.2.1|exact rfl):DX P ops J O T i pv (⟨d,.fieldAddr c x f,ty,pos,af,none⟩::os) (s::ss):=Ma (λU Z hj h=>Al Y.out (C U Z hj h)) p
def uo{b:Addr}{v:Value}(E:∀Z,J Z->Z.cell? b=some v)[S:pa P t n false by' zc](p:DX P ops J O T (i+1) (Cd pv i (Is (v))) os ss)(C:∀U Z,J Z->Ec pv O U Z s->ev U x=.pointer (some b):=by intro U Z hj hR;first|exact hR.1|exact hR.2.1|exact hR.2.2.1|exact rfl):DX P ops J O T i pv (⟨d,.load t x,ty,pos,af,none⟩::os) (s::ss):=Ma (λU Z hj h=>Ba S.out (C U Z hj h) (E Z hj)) p
def Fj{b:Addr}(vs:List Value)(E:∀Z,J Z->Rd Z b vs)[S:pa P t n true by' zc](p:DX P ops J O T (i+1) (Cd pv i (Is (.agg vs.toArray))) os ss)(C:∀U Z,J Z->Ec pv O U Z s->ev U x=.pointer (some b):=by intro U Z hj hR;first|exact hR.1|exact hR.2.1|exact hR.2.2.1|exact rfl)(Q:vs.length=n:=by exact rfl):DX P ops J O T i pv (⟨d,.load t x,ty,pos,af,none⟩::os) (s::ss):=Ma (λU Z hj h=>Ka S.out (C U Z hj h) (E Z hj) Q) p
def sK{H:List HE}{b:Nat}{f:TypeId}{v:Value}(j:Nat)[S:pa P t n false by' zc](p:DX P ops (JJ w0 H w) O T (i+1) (Cd pv i (Is (v))) os ss)(C:∀U Z,JJ w0 H w Z->Ec pv O U Z s->ev U x=.pointer (some ⟨b,o,none⟩):=by intro U Z hj hR;first|exact hR.1|exact hR.2.1|exact hR.2.2.1|exact rfl)(hi:H[j]?=some (.blk b f cs fz):=by exact rfl)(A:cs[o]?=some v:=by exact rfl):DX P ops (JJ w0 H w) O T i pv (⟨d,.load t x,ty,pos,af,none⟩::os) (s::ss):=Ma (λU Z hj h=>Ba S.out (C U Z hj h) (hj.hp.se hi A)) p
def Ud{H:List HE}{b:Nat}{f:TypeId}(j:Nat)(vs:List Value)[S:pa P t n true by' zc](p:DX P ops (JJ w0 H w) O T (i+1) (Cd pv i (Is (.agg vs.toArray))) os ss)(C:∀U Z,JJ w0 H w Z->Ec pv O U Z s->ev U x=.pointer (some ⟨b,o,none⟩):=by intro U Z hj hR;first|exact hR.1|exact hR.2.1|exact hR.2.2.1|exact rfl)(hi:H[j]?=some (.blk b f cs fz):=by exact rfl)(A:(cs.drop o).take n=vs:=by exact rfl)(Q:vs.length=n:=by exact rfl):DX P ops (JJ w0 H w) O T i pv (⟨d,.load t x,ty,pos,af,none⟩::os) (s::ss):=Ma (λU Z hj h=>Ka S.out (C U Z hj h) (hj.hp.Ra hi A) Q) p
def afo{e:TypeId}{B:Option Addr}{c:Nat}[S:Qa P t (.slice e)](p:DX P ops J O T (i+1) (Cd pv i (Is (.int .i64 n))) os ss)(C:∀U Z,J Z->Ec pv O U Z s->ev U x=.slice B n c:=by intro U Z hj hR;first|exact hR.1|exact hR.2.1|exact hR.2.2.1|exact rfl):DX P ops J O T i pv (⟨d,.call ⟨.builtin .len, #[x], #[t]⟩,ty,pos,af,none⟩::os) (s::ss):=Ma (λU Z hj h=>rF S.out (C U Z hj h)) p
def afW{k:IntKind}{a b:Int}(p:DX P ops J O T (i+1) (Cd pv i (Is (.bool r))) os ss)(C:∀U Z,J Z->Ec pv O U Z s->ev U x=.int k a:=by intro U Z hj hR;first|exact hR.1|exact hR.2.1|exact hR.2.2.1|exact rfl)(hy:∀U Z,J Z->Ec pv O U Z s->ev U y=.int k b:=by intro U Z hj hR;first|exact hR.1|exact hR.2.1|exact hR.2.2.1|exact rfl)(H:decide (a<b)=r:=by first|exact m' Z'|exact k' Z'|exact rfl):DX P ops J O T i pv (⟨d,.binOp .lss t x y u,ty,pos,af,none⟩::os) (s::ss):=Ma (λU Z hj h=>by rw[<-H];exact yM (C U Z hj h) (hy U Z hj h)) p
def afC{k:IntKind}{a b:Int}(p:DX P ops J O T (i+1) (Cd pv i (Is (.bool r))) os ss)(C:∀U Z,J Z->Ec pv O U Z s->ev U x=.int k a:=by intro U Z hj hR;first|exact hR.1|exact hR.2.1|exact hR.2.2.1|exact rfl)(hy:∀U Z,J Z->Ec pv O U Z s->ev U y=.int k b:=by intro U Z hj hR;first|exact hR.1|exact hR.2.1|exact hR.2.2.1|exact rfl)(H:decide (a<=b)=r:=by first|exact m' Z'|exact k' Z'|exact rfl):DX P ops J O T i pv (⟨d,.binOp .leq t x y u,ty,pos,af,none⟩::os) (s::ss):=Ma (λU Z hj h=>by rw[<-H];exact TL (C U Z hj h) (hy U Z hj h)) p
def afD{k:IntKind}{a b:Int}(p:DX P ops J O T (i+1) (Cd pv i (Is (.bool r))) os ss)(C:∀U Z,J Z->Ec pv O U Z s->ev U x=.int k a:=by intro U Z hj hR;first|exact hR.1|exact hR.2.1|exact hR.2.2.1|exact rfl)(hy:∀U Z,J Z->Ec pv O U Z s->ev U y=.int k b:=by intro U Z hj hR;first|exact hR.1|exact hR.2.1|exact hR.2.2.1|exact rfl)(H:decide (b<a)=r:=by first|exact m' Z'|exact k' Z'|exact rfl):DX P ops J O T i pv (⟨d,.binOp .gtr t x y u,ty,pos,af,none⟩::os) (s::ss):=Ma (λU Z hj h=>by rw[<-H];exact eM (C U Z hj h) (hy U Z hj h)) p
def agf{k:IntKind}{a b:Int}(p:DX P ops J O T (i+1) (Cd pv i (Is (.bool r))) os ss)(C:∀U Z,J Z->Ec pv O U Z s->ev U x=.int k a:=by intro U Z hj hR;first|exact hR.1|exact hR.2.1|exact hR.2.2.1|exact rfl)(hy:∀U Z,J Z->Ec pv O U Z s->ev U y=.int k b:=by intro U Z hj hR;first|exact hR.1|exact hR.2.1|exact hR.2.2.1|exact rfl)(H:decide (a=b)=r:=by first|exact m' Z'|exact k' Z'|exact rfl):DX P ops J O T i pv (⟨d,.binOp .eql t x y u,ty,pos,af,none⟩::os) (s::ss):=Ma (λU Z hj h=>by rw[<-H];exact TB (C U Z hj h) (hy U Z hj h)) p
def afP{k:IntKind}{a b:Int}(p:DX P ops J O T (i+1) (Cd pv i (Is (.bool r))) os ss)(C:∀U Z,J Z->Ec pv O U Z s->ev U x=.int k a:=by intro U Z hj hR;first|exact hR.1|exact hR.2.1|exact hR.2.2.1|exact rfl)(hy:∀U Z,J Z->Ec pv O U Z s->ev U y=.int k b:=by intro U Z hj hR;first|exact hR.1|exact hR.2.1|exact hR.2.2.1|exact rfl)(H:decide (a≠b)=r:=by first|exact m' Z'|exact k' Z'|exact rfl):DX P ops J O T i pv (⟨d,.binOp .neq t x y u,ty,pos,af,none⟩::os) (s::ss):=Ma (λU Z hj h=>by rw[<-H];exact kL (C U Z hj h) (hy U Z hj h)) p
def abk{a b:Int}(p:DX P ops J O T (i+1) (Cd pv i (Is (.int .i64 (a+b)))) os ss)(C:∀U Z,J Z->Ec pv O U Z s->ev U x=.int .i64 a:=by intro U Z hj hR;first|exact hR.1|exact hR.2.1|exact hR.2.2.1|exact rfl)(hy:∀U Z,J Z->Ec pv O U Z s->ev U y=.int .i64 b:=by intro U Z hj hR;first|exact hR.1|exact hR.2.1|exact hR.2.2.1|exact rfl)(h1: -9223372036854775808<=a+b:=by omega)(h2:a+b<=9223372036854775807:=by omega):DX P ops J O T i pv (⟨d,.binOp .add t x y u,ty,pos,af,none⟩::os) (s::ss):=Ma (λU Z hj h=>Ws (C U Z hj h) (hy U Z hj h) h1 h2) p
def afQ{a b:Int}(p:DX P ops J O T (i+1) (Cd pv i (Is (.int .i64 (a-b)))) os ss)(C:∀U Z,J Z->Ec pv O U Z s->ev U x=.int .i64 a:=by intro U Z hj hR;first|exact hR.1|exact hR.2.1|exact hR.2.2.1|exact rfl)(hy:∀U Z,J Z->Ec pv O U Z s->ev U y=.int .i64 b:=by intro U Z hj hR;first|exact hR.1|exact hR.2.1|exact hR.2.2.1|exact rfl)(h1: -9223372036854775808<=a-b:=by omega)(h2:a-b<=9223372036854775807:=by omega):DX P ops J O T i pv (⟨d,.binOp .sub t x y u,ty,pos,af,none⟩::os) (s::ss):=Ma (λU Z hj h=>zU (C U Z hj h) (hy U Z hj h) h1 h2) p
def af0{a b:Int}(p:DX P ops J O T (i+1) (Cd pv i (Is (.int .i64 (a*b)))) os ss)(C:∀U Z,J Z->Ec pv O U Z s->ev U x=.int .i64 a:=by intro U Z hj hR;first|exact hR.1|exact hR.2.1|exact hR.2.2.1|exact rfl)(hy:∀U Z,J Z->Ec pv O U Z s->ev U y=.int .i64 b:=by intro U Z hj hR;first|exact hR.1|exact hR.2.1|exact hR.2.2.1|exact rfl)(h1: -9223372036854775808<=a*b:=by omega)(h2:a*b<=9223372036854775807:=by omega):DX P ops J O T i pv (⟨d,.binOp .mul t x y u,ty,pos,af,none⟩::os) (s::ss):=Ma (λU Z hj h=>oT (C U Z hj h) (hy U Z hj h) h1 h2) p
def ae6{b:Bool}(p:DX P ops J O T (i+1) (Cd pv i (Is (.bool !b))) os ss)(C:∀U Z,J Z->Ec pv O U Z s->ev U x=.bool b:=by intro U Z hj hR;first|exact hR.1|exact hR.2.1|exact hR.2.2.1|exact rfl):DX P ops J O T i pv (⟨d,.unOp .not t x,ty,pos,af,none⟩::os) (s::ss):=Ma (λU Z hj h=>gY (C U Z hj h)) p
def dex{v:Value}(p:DX P ops J O T (i+1) (Cd pv i (Is (v))) os ss)(C:∀U Z,J Z->Ec pv O U Z s->ev U x=.tuple vs.toArray:=by intro U Z hj hR;first|exact hR.1|exact hR.2.1|exact hR.2.2.1|exact rfl)(A:vs[j]?=some v:=by exact rfl):DX P ops J O T i pv (⟨d,.extract x j,ty,pos,af,none⟩::os) (s::ss):=Ma (λU Z hj h=>vd (C U Z hj h) A) p
def dpT{c a b:Operand}{v:Bool}(p:DX P ops J O T (i+1) (Cd pv i (Is (.bool v))) os ss)(E:∀U Z,J Z->Ec pv O U Z s->ev U c=.bool true:=by intro U Z hj hR;first|exact hR.1|exact hR.2.1|exact hR.2.2.1|exact rfl)(C:∀U Z,J Z->Ec pv O U Z s->ev U a=.bool v:=by intro U Z hj hR;first|exact hR.1|exact hR.2.1|exact hR.2.2.1|exact rfl):DX P ops J O T i pv (⟨d,.pick c a b,ty,pos,af,none⟩::os) (s::ss):=Ma (λU Z hj h=>eF (E U Z hj h) (C U Z hj h)) p
def dpF{c a b:Operand}{v:Bool}(p:DX P ops J O T (i+1) (Cd pv i (Is (.bool v))) os ss)(E:∀U Z,J Z->Ec pv O U Z s->ev U c=.bool false:=by intro U Z hj hR;first|exact hR.1|exact hR.2.1|exact hR.2.2.1|exact rfl)(C:∀U Z,J Z->Ec pv O U Z s->ev U b=.bool v:=by intro U Z hj hR;first|exact hR.1|exact hR.2.1|exact hR.2.2.1|exact rfl):DX P ops J O T i pv (⟨d,.pick c a b,ty,pos,af,none⟩::os) (s::ss):=Ma (λU Z hj h=>lG (E U Z hj h) (C U Z hj h)) p
def Xr{e:TypeId}{b c sz:Nat}{q:IntKind}{m:Int}(k:Nat)[S:Qa P t (.slice e)][K:TS P e sz](p:DX P ops J O T (i+1) (Cd pv i (Is (.pointer (some ⟨b,k*sz,none⟩)))) os ss)(C:∀U Z,J Z->Ec pv O U Z s->ev U x=.slice (some ⟨b,0,none⟩) n c:=by intro U Z hj hR;first|exact hR.1|exact hR.2.1|exact hR.2.2.1|exact rfl)(hy:∀U Z,J Z->Ec pv O U Z s->ev U y=.int q m:=by intro U Z hj hR;first|exact hR.1|exact hR.2.1|exact hR.2.2.1|exact rfl)(hm:m=(k:Int):=by omega)(h1:k<n:=by omega):DX P ops J O T i pv (⟨d,.indexAddr t x y,ty,pos,af,none⟩::os) (s::ss):=Ma (λU Z hj h=>Lc S.out K.out (C U Z hj h) (hy U Z hj h) hm h1) p
def Ui{e:TypeId}{b:Addr}{c sz:Nat}{q:IntKind}{m:Int}(k:Nat)[S:Qa P t (.slice e)][K:TS P e sz](p:DX P ops J O T (i+1) (Cd pv i (Is (.pointer (some (b.add (k*sz)))))) os ss)(C:∀U Z,J Z->Ec pv O U Z s->ev U x=.slice (some b) n c:=by intro U Z hj hR;first|exact hR.1|exact hR.2.1|exact hR.2.2.1|exact rfl)(hy:∀U Z,J Z->Ec pv O U Z s->ev U y=.int q m:=by intro U Z hj hR;first|exact hR.1|exact hR.2.1|exact hR.2.2.1|exact rfl)(hm:m=(k:Int):=by omega)(h1:k<n:=by omega):DX P ops J O T i pv (⟨d,.indexAddr t x y,ty,pos,af,none⟩::os) (s::ss):=Ma (λU Z hj h=>pb S.out K.out (C U Z hj h) (hy U Z hj h) hm h1) p
def dC{f:FuncId}{ts:Array TypeId}{v:Value}(E:∀Z,J Z->Calls P f vs.toArray Z λe V=>e=.returned v/\Below Z.heap.size Z V)(p:DX P ops J O T (i+1) (Cd pv i (Is (v))) os ss)(M:∀U Z,J Z->Ec pv O U Z s->Qs U args.toList=vs:=by intro U Z hj hR;repeat (first|exact Wa|(apply qa;first|exact hR.1|exact hR.2.1|exact hR.2.2.1|exact hR.2.2.2.1|exact rfl)))(Y:ym P f=true:=by exact fi):DX P ops J O T i pv (⟨d,.call ⟨.value (.func f),args,ts⟩,ty,pos,af,none⟩::os) (s::ss):=UW (λU Z hj h=>La Y (M U Z hj h)) E p
def dB{X:List (Nat×Value)}{pl:List (Nat×Nat)}(cs:List Value)[D:pa P t n true by' zc][a:Hi P t pl](p:DX P ops J O T (i+1) (Cd pv i (Is (.agg cs.toArray))) os ss)(hp:∀U Z,J Z->Ec pv O U Z s->gF U parts.toList=X:=by intro U Z hj hR;repeat (first|exact ae|(apply Eb;first|exact hR.1|exact hR.2.1|exact hR.2.2.1|exact hR.2.2.2.1|exact rfl)))(Y:jm (pl[·]?) zc X=some cs:=by exact rfl):DX P ops J O T i pv (⟨d,.build t parts,ty,pos,af,none⟩::os) (s::ss):=Ma (λU Z hj h=>yC D.out a.out (hp U Z hj h) Y) p
def Wp{e:TypeId}{len sz:Nat}{X:List (Nat×Value)}(cs:List Value)[S:Qa P t (.slice e)][D:pa P e sz ag by' zc](b:DX P ops J O T (i+1) (Cd pv i (Rows len sz cs)) os ss)(hp:∀U Z,J Z->Ec pv O U Z s->gF U parts.toList=X:=by intro U Z hj hR;repeat (first|exact ae|(apply Eb;first|exact hR.1|exact hR.2.1|exact hR.2.2.1|exact hR.2.2.2.1|exact rfl)))(f:zc.length=sz:=by exact rfl)(Y:jm (λi=>some (i*sz,sz)) (Bg len zc) X=some cs:=by exact rfl)(a:¬len*sz=0:=by decide)(p:len*sz<=16777216:=by decide)(Q:cs.length=len*sz:=by exact rfl):DX P ops J O T i pv (⟨d,.buildSlice t len parts,ty,pos,af,none⟩::os) (s::ss):=fy S.out D.out hp f Y a p Q b
def dS{b c:Bool}{op:Op}{g:Nat}(p:DX P ops J O T (i+1) (Cd pv i (Is (undef))) os ss)(hj:(ops[j]?).bind (·.dst)=some g:=by exact rfl)(A:∀U Z,J Z->Ec pv O U Z s->U g=.bool c:=by intro U Z hj hR;first|exact hR.1|exact hR.2.1|exact hR.2.2.1|exact hR.2.2.2.1)(F:c≠b:=by decide):DX P ops J O T i pv (⟨d,op,ty,pos,af,some (j,b)⟩::os) (s::ss):=kW hj A F p
def dU{b:Bool}{op:Op}{g:Nat}(p:DX P ops J O T (i+1) (Cd pv i (Is (undef))) os ss)(hj:(ops[j]?).bind (·.dst)=some g:=by exact rfl)(A:∀U Z,J Z->Ec pv O U Z s->U g=undef:=by intro U Z hj hR;first|exact hR.1|exact hR.2.1|exact hR.2.2.1|exact hR.2.2.2.1):DX P ops J O T i pv (⟨d,op,ty,pos,af,some (j,b)⟩::os) (s::ss):=KS hj A p
def dG{b:Bool}{op:Op}{g:Nat}(p:DX P ops J O T i pv (⟨d,op,ty,pos,af,none⟩::os) (s::ss))(hj:(ops[j]?).bind (·.dst)=some g:=by exact rfl)(A:∀U Z,J Z->Ec pv O U Z s->U g=.bool b:=by intro U Z hj hR;first|exact hR.1|exact hR.2.1|exact hR.2.2.1|exact hR.2.2.2.1):DX P ops J O T i pv (⟨d,op,ty,pos,af,some (j,b)⟩::os) (s::ss):=let⟨V,h1,h2,G⟩:=p;⟨V,h1,λU Z l h=>nk hj (A U Z l h) (h2 U Z l h),G⟩
abbrev Zc(f:FuncId)(a:Array Value)(w:World)(v:Value):Prop:=Calls prog f a w λr V=>r=.returned v/\Below w.heap.size w V
def kcb{a b:α}(h:a=b:=by(conv=>lhs;cbv)<;>rfl):a=b:=h
def Ca{f:FuncId}{fn:Func}{c:Code}{l:List Value}(Y:P.funcs[f]?=some fn)(h:WC .plain P N c (Cm P fn R) (VQ l) w)(B:fn.ntmps=N:=by(conv=>lhs;whnf)<;>rfl)(F:fn.body=some c:=by rfl)(M:l.length<=N:=by simp):Calls P f l.toArray w R:=mR Y F B M h
variable {d:Nat}
def cd{f:FuncId}{ts:Array TypeId}{v:Value}(I:Hp w0 H w)(E:Calls P f vs.toArray w λe V=>e=.returned v/\Below w.heap.size w V)(p:∀V,Hp w0 H V->WL ro P N ops Q rest (jd O d v) V)(L:d<N:=by decide)(Y:ym P f=true:=by kernel_rfl)(M:Qs O args.toList=vs:=by exact rfl):WL ro P N ops Q (⟨some d,.call ⟨.value (.func f),args,ts⟩,ty,pos,af,none⟩::rest) O w:=Tc E Y M L λ_ _ R=>⟨_,R.1,p _ (I.ext R.2)⟩
def qd{f:FuncId}{ts:Array TypeId}{v:Value}(I:Hp w0 H w)(E:Calls P f vs.toArray w λe V=>e=.returned v/\Below w.heap.size w V)(M:Qs O args.toList=vs)(p:∀V,Hp w0 H V->WL ro P N ops Q rest (jd O d v) V)(L:d<N:=by decide)(Y:ym P f=true:=by kernel_rfl):WL ro P N ops Q (⟨some d,.call ⟨.value (.func f),args,ts⟩,ty,pos,af,none⟩::rest) O w:=Tc E Y M L λ_ _ R=>⟨_,R.1,p _ (I.ext R.2)⟩
def cr{f:FuncId}{ts:Array TypeId}{xs:List Value}{t:TypeId}(I:Hp w0 H w)(E:Calls P f vs.toArray w λe V=>∃A c,e=.returned (.slice A n c)/\V.ownsRow w.heap.size t k (.slice A n c) n xs/\Below w.heap.size w V)(p:∀A c V,Hp w0 (.row A n c t k xs::H) V->WL ro P N ops Q rest (jd O d (.slice A n c)) V)(L:d<N:=by decide)(Y:ym P f=true:=by kernel_rfl)(M:Qs O args.toList=vs:=by exact rfl):WL ro P N ops Q (⟨some d,.call ⟨.value (.func f),args,ts⟩,ty,pos,af,none⟩::rest) O w:=Tc E Y M L λ_ _ ⟨A,c,R,W,F⟩=>⟨_,R,p A c _ (I.pd (x:=.row _ _ _ _ _ _) F W)⟩
def lW{f:FuncId}{ts:Array TypeId}{xs:List Value}{t:TypeId}(I:Hp w0 H w)(E:Calls P f vs.toArray w λe V=>∃A c,e=.returned (.slice A n c)/\V.ownsRow w.heap.size t k (.slice A n c) n xs/\Below w.heap.size w V)(M:Qs O args.toList=vs)(p:∀A c V,Hp w0 (.row A n c t k xs::H) V->WL ro P N ops Q rest (jd O d (.slice A n c)) V)(L:d<N:=by decide)(Y:ym P f=true:=by kernel_rfl):WL ro P N ops Q (⟨some d,.call ⟨.value (.func f),args,ts⟩,ty,pos,af,none⟩::rest) O w:=Tc E Y M L λ_ _ ⟨A,c,R,W,F⟩=>⟨_,R,p A c _ (I.pd (x:=.row _ _ _ _ _ _) F W)⟩
def fN{f:FuncId}{ts:Array TypeId}{xs:List Value}{t:TypeId}(I:Hp w0 H w)(E:Calls P f vs.toArray w λe V=>∃b c,e=.returned (.slice (some ⟨b,0,none⟩) n c)/\V.ownsRow w.heap.size t k (.slice (some ⟨b,0,none⟩) n c) n xs/\Below w.heap.size w V)(p:∀b c V,Hp w0 (.row (some ⟨b,0,none⟩) n c t k xs::H) V->WL ro P N ops Q rest (jd O d (.slice (some ⟨b,0,none⟩) n c)) V)(L:d<N:=by decide)(Y:ym P f=true:=by kernel_rfl)(M:Qs O args.toList=vs:=by exact rfl):WL ro P N ops Q (⟨some d,.call ⟨.value (.func f),args,ts⟩,ty,pos,af,none⟩::rest) O w:=Tc E Y M L λ_ _ ⟨A,c,R,W,F⟩=>⟨_,R,p _ c _ (I.pd (x:=.row _ _ _ _ _ _) F W)⟩
def OW{f:FuncId}{ts:Array TypeId}{xs:List Value}{t:TypeId}(I:Hp w0 H w)(E:Calls P f vs.toArray w λe V=>∃b c,e=.returned (.slice (some ⟨b,0,none⟩) n c)/\V.ownsRow w.heap.size t k (.slice (some ⟨b,0,none⟩) n c) n xs/\Below w.heap.size w V)(M:Qs O args.toList=vs)(p:∀b c V,Hp w0 (.row (some ⟨b,0,none⟩) n c t k xs::H) V->WL ro P N ops Q rest (jd O d (.slice (some ⟨b,0,none⟩) n c)) V)(L:d<N:=by decide)(Y:ym P f=true:=by kernel_rfl):WL ro P N ops Q (⟨some d,.call ⟨.value (.func f),args,ts⟩,ty,pos,af,none⟩::rest) O w:=Tc E Y M L λ_ _ ⟨A,c,R,W,F⟩=>⟨_,R,p _ c _ (I.pd (x:=.row _ _ _ _ _ _) F W)⟩
def Wi{f:FuncId}{ts:Array TypeId}(E:Calls P f vs.toArray w R)(p:∀e V,R e V->∃v,e=.returned v/\WL ro P N ops Q rest (jd O d v) V)(L:d<N:=by decide)(Y:ym P f=true:=by kernel_rfl)(M:Qs O args.toList=vs:=by exact rfl):WL ro P N ops Q (⟨some d,.call ⟨.value (.func f),args,ts⟩,ty,pos,af,none⟩::rest) O w:=Tc E Y M L p
def te{f:FuncId}{ts:Array TypeId}(E:Calls P f vs.toArray w R)(M:Qs O args.toList=vs)(p:∀e V,R e V->∃v,e=.returned v/\WL ro P N ops Q rest (jd O d v) V)(L:d<N:=by decide)(Y:ym P f=true:=by kernel_rfl):WL ro P N ops Q (⟨some d,.call ⟨.value (.func f),args,ts⟩,ty,pos,af,none⟩::rest) O w:=Tc E Y M L p
def ZU:Code->List Nat
 |.region _ ops _=>ops.toList.filterMap (·.dst)
 |.seq a b=>ZU a++ZU b
 |.cond _ a b=>ZU a++ZU b
 |.block _ c=>ZU c
 |.loop c=>ZU c
 |.scope c=>ZU c
 |.rangeFunc _ X a b=>X.toList++(ZU a++ZU b)
 |_=>[]
def ad9(a:Nat):List Nat->List Nat
 |[]=>[a]
 |b::l=>if a<b then a::b::l else if a=b then b::l else b::ad9 a l
def moC(c:Code):List Nat:=(ZU c).foldr ad9 []
variable {c:Code}{mods:List Nat}
def bf(s0:Nat)(I:Value->World->Prop)(X:Value->World->Nat)(J:I (O s0) w) (round:∀ρ' v0 V,I v0 V->WC ro P N c (Nd (λK q=>I (K s0) q/\X (K s0) q<X v0 V/\Sf mods K O) Q) (jd (mask mods ρ' O) s0 v0) V)(_:moC c=mods:=by exact kcb):WC ro P N (.loop c) Q O w:=TU mods s0 I X J round
def Fi(s0 s1:Nat)(I:Value->Value->World->Prop)(X:Value->Value->World->Nat)(J:I (O s0) (O s1) w) (round:∀ρ' v0 v1 V,I v0 v1 V->WC ro P N c (Nd (λK q=>I (K s0) (K s1) q/\X (K s0) (K s1) q<X v0 v1 V/\Sf mods K O) Q) (jd (jd (mask mods ρ' O) s0 v0) s1 v1) V)(_:moC c=mods:=by exact kcb):WC ro P N (.loop c) Q O w:=VU mods s0 s1 I X J round
def kX(l:List Oper)(m:Nat):List (List (Nat×Option Nat)):=
 let M:=wm l []
 let ops:=l.toArray
 (l.take m).zipIdx.map λ(o,i)=>((o.looksAt ops).eraseDups).map λt=>
  (t,(List.range m).find? λj=>((l[j]?).bind (·.dst)==some t) && (M.getD i 0).testBit j)
def dsT(l:List Oper)(m:Nat):List (Nat×Nat):=((l.take m).zipIdx.filterMap λ(o,i)=>o.dst.map λd=>(i,d)).reverse
def EqV(pv:Nat->VP):List (Nat×Nat)->List (Nat×Value)->Prop
 |[],[]=>True
 |(i,d)::r,(C,v)::s=>(d=C/\pv i=Is v)/\EqV pv r s
 |_,_=>False
def PQ{V:VP}{i:Nat}(h:j<i):Cd pv i V j=pv j:=by
 have:j.beq i=false:=by
  cases F:j.beq i with
  |false=>rfl
  |true=>exact absurd (Nat.eq_of_beq_eq_true F) (Nat.ne_of_lt h)
 show(bif j.beq i then V else pv j)=_;rw[this];rfl
def EqW(n:Nat)(pv:Nat->VP)(ds:List (Nat×Nat))(vs:List (Nat×Value)):Prop:=(∀p∈ds,p.1<n)/\EqV pv ds vs
def qM{pv a:Nat->VP}:∀{r:List (Nat×Nat)}{s:List (Nat×Value)},(∀p∈r,a p.1=pv p.1)->EqV pv r s->EqV a r s
 |[],[],_,_=>trivial
 |[],_::_,_,h=>h.elim
 |_::_,[],_,h=>h.elim
 |(j,d)::r,(C,v)::s,F,⟨⟨h1,h2⟩,G⟩=>⟨⟨h1,(F _ I').trans h2⟩,qM (λp hp=>F p (L' _ hp)) G⟩
def LL:EqW n pv [] []:=⟨λ_ h=>absurd h h_,trivial⟩
def Vv{i:Nat}{V:VP}{r:List (Nat×Nat)}{s:List (Nat×Value)}(h:EqW i pv r s):EqW (i+1) (Cd pv i V) r s:=
 ⟨λp hp=>Nat.lt_succ_of_lt (h.1 p hp),qM (λp hp=>PQ (h.1 p hp)) h.2⟩
def XJ{i d:Nat}{v:Value}{r:List (Nat×Nat)}{s:List (Nat×Value)}(h:EqW i pv r s):EqW (i+1) (Cd pv i (Is v)) ((i,d)::r) ((d,v)::s):=
 ⟨λp hp=>by
  obtain rfl|hp:=u'.1 hp
  .exact Nat.lt_succ_self _
  exact Nat.lt_succ_of_lt (h.1 p hp),⟨rfl,uK _ _ _⟩,(Vv h).2⟩
def EqV.to{pv:Nat->VP}{f:Nat->Value}{W:World}:∀{ds:List (Nat×Nat)}{vs:List (Nat×Value)},EqV pv ds vs->tp pv f W ds->EqL f ds vs
 |[],[],_,_=>trivial
 |[],_::_,h,_=>h.elim
 |_::_,[],h,_=>h.elim
 |(i,d)::r,(C,v)::s,⟨⟨h1,h2⟩,G⟩,h=>⟨⟨h1,by have:=h.1;rw[h2] at this;exact this⟩,EqV.to G h.2⟩
def xL{P:Program}{ops:Array Oper}{J:World->Prop}{O:Rf}{T f:(Nat->VP)->Prop}(S:∀V,T V->f V):∀{l:List Oper}{s:List (List (Nat×Option Nat))}{i:Nat}{pv:Nat->VP},DX P ops J O T i pv l s->DX P ops J O f i pv l s
 |[],[],_,_,h=>S _ h
 |_::_,_::_,_,_,⟨V,h1,h2,G⟩=>⟨V,h1,h2,xL S G⟩
 |[],_::_,_,_,h=>h.elim
 |_::_,[],_,_,h=>h.elim
variable {id:Nat}{l:List Oper}{src:List (List (Nat×Option Nat))}{ds:List (Nat×Nat)}
def Ak(m:Nat)(I:Hp w0 H w)(h:DX P l.toArray (JJ w0 H w) O (λj=>∀f V,JJ w0 H w V->tp j f V ds->WL ⟨none,D,false⟩ P N l.toArray Q (l.drop m) (qe O f ds) V) 0 noV (l.take m) src) (_:(kX l m,dsT l m)=(src,ds):=by exact kcb)(hm:P.follows .mixedOrders=true:=by exact mixed)(y:ql l m N src ds [] (wm l [])=true:=by kernel_rfl)(A:NP Q:=by repeat (first|exact Mb|refine lb ?_|refine Lb ?_|refine Sa ?_)):WC ⟨none,D,false⟩ P N (.region id l.toArray true) Q O w:=
 Nz [] [] (wm l []) m src ds I hm y Hn rfl A (xL (λ_ h f V h1 h2 _=>h f V h1 h2) h)
def jR(a X:List Nat)(m:Nat)(I:Hp w0 H w)(h:DX P l.toArray (JJ w0 H w) O (λo=>∀f V,JJ w0 H w V->tp o f V ds->(∀i∈a,∀j∈a,i≠j->f i≠f j)->WL ⟨none,D,false⟩ P N l.toArray Q (l.drop m) (qe O f ds) V) 0 noV (l.take m) src) (_:(kX l m,dsT l m)=(src,ds):=by exact kcb)(hm:P.follows .mixedOrders=true:=by exact mixed)(y:ql l m N src ds X (wm l [])=true:=by kernel_rfl)(x:js P l a:=by repeat (first|exact Hn|refine On rfl pa.out ?_))(M:a.all (λi=>i<m)=true:=by rfl)(A:NP Q:=by repeat (first|exact Mb|refine lb ?_|refine Lb ?_|refine Sa ?_)):WC ⟨none,D,false⟩ P N (.region id l.toArray true) Q O w:=
 Nz a X (wm l []) m src ds I hm y x M A h
variable {ρ':Rf}
def dn{M:Mode}{D:List Oper}{i:Nat}{vs:List (Nat×Value)}(k:∀W,Hp w0 H W->WL M P N ops Q D ρ' W)(h:EqW i pv ds vs:=by repeat (first|exact LL|apply XJ|apply Vv))(e:Ly O vs=ρ':=by dsimp only[Ly]<;>rfl):DX P ops (JJ w0 H w) O (λj=>∀f V,JJ w0 H w V->tp j f V ds->WL M P N ops Q D (qe O f ds) V) i pv [] []:=
 λf W hj a=>by rw[Xx (h.2.to a),e];exact k W hj.hp
def dn2{M:Mode}{D:List Oper}{i:Nat}{a:List Nat}{vs:List (Nat×Value)}(k:∀W,Hp w0 H W->WL M P N ops Q D ρ' W)(h:EqW i pv ds vs:=by repeat (first|exact LL|apply XJ|apply Vv))(e:Ly O vs=ρ':=by dsimp only[Ly]<;>rfl):DX P ops (JJ w0 H w) O (λo=>∀f V,JJ w0 H w V->tp o f V ds->(∀i∈a,∀j∈a,i≠j->f i≠f j)->WL M P N ops Q D (qe O f ds) V) i pv [] []:=
 λf W hj b _=>by rw[Xx (h.2.to b),e];exact k W hj.hp
def lg{M:Mode}{D:List Oper}{f:Nat->Value}{vs:List (Nat×Value)}(k:WL M P N ops Q D ρ' w)(h:EqL f ds vs:=by repeat (first|exact cK|(apply Ge;(first|assumption|rfl))))(e:Ly O vs=ρ':=by dsimp only[Ly]<;>rfl):WL M P N ops Q D (qe O f ds) w:=AM (Xx h) (e ▸ k)
structure KP(q:Prop):Prop where o:q
def dg1{p q:Prop}(kQ:q)(e:KP q->p:=by intro kQ;(first|refine nN ?_|refine dmS ?_|refine eI ?_|refine dmB ?_|refine dmG ?_|refine dmT ?_|refine dmF ?_|refine dmP ?_|refine daI ?_|refine daS ?_|refine daL ?_|refine daB ?_|refine daG ?_|refine daT ?_|refine daF ?_|refine daP ?_|refine dnc ?_|refine dfa ?_|refine Wy ?_|refine afo ?_|refine afW ?_|refine afC ?_|refine afD ?_|refine dgeq ?_|refine agf ?_|refine afP ?_|refine abk ?_|refine afQ ?_|refine af0 ?_|refine ae6 ?_|refine dex ?_|refine dpT ?_|refine dpF ?_|refine sK 0 ?_|refine sK 1 ?_|refine sK 2 ?_|refine sK 3 ?_|refine sK 4 ?_|refine sK 5 ?_|refine sK 6 ?_|refine sK 7 ?_|refine sK 8 ?_|refine Ud 0 [_,_] ?_|refine Ud 0 [_,_,_] ?_|refine Ud 0 [_,_,_,_] ?_|refine Ud 0 [_,_,_,_,_] ?_|refine Ud 0 [_,_,_,_,_,_] ?_|refine Ud 0 [_,_,_,_,_,_,_] ?_|refine Ud 0 [_,_,_,_,_,_,_,_] ?_|refine Ud 0 [_,_,_,_,_,_,_,_,_] ?_|refine Ud 0 [_,_,_,_,_,_,_,_,_,_] ?_|refine Ud 0 [_,_,_,_,_,_,_,_,_,_,_,_] ?_|refine Ud 1 [_,_] ?_|refine Ud 1 [_,_,_] ?_|refine Ud 1 [_,_,_,_] ?_|refine Ud 1 [_,_,_,_,_] ?_|refine Ud 1 [_,_,_,_,_,_] ?_|refine Ud 1 [_,_,_,_,_,_,_] ?_|refine Ud 1 [_,_,_,_,_,_,_,_] ?_|refine Ud 1 [_,_,_,_,_,_,_,_,_] ?_|refine Ud 1 [_,_,_,_,_,_,_,_,_,_] ?_|refine Ud 1 [_,_,_,_,_,_,_,_,_,_,_,_] ?_|refine Ud 2 [_,_] ?_|refine Ud 2 [_,_,_] ?_|refine Ud 2 [_,_,_,_] ?_|refine Ud 2 [_,_,_,_,_] ?_|refine Ud 2 [_,_,_,_,_,_] ?_|refine Ud 2 [_,_,_,_,_,_,_] ?_|refine Ud 2 [_,_,_,_,_,_,_,_] ?_|refine Ud 2 [_,_,_,_,_,_,_,_,_] ?_|refine Ud 2 [_,_,_,_,_,_,_,_,_,_] ?_|refine Ud 2 [_,_,_,_,_,_,_,_,_,_,_,_] ?_|refine Ud 3 [_,_] ?_|refine Ud 3 [_,_,_] ?_|refine Ud 3 [_,_,_,_] ?_|refine Ud 3 [_,_,_,_,_] ?_|refine Ud 3 [_,_,_,_,_,_] ?_|refine Ud 3 [_,_,_,_,_,_,_] ?_|refine Ud 3 [_,_,_,_,_,_,_,_] ?_|refine Ud 3 [_,_,_,_,_,_,_,_,_] ?_|refine Ud 3 [_,_,_,_,_,_,_,_,_,_] ?_|refine Ud 3 [_,_,_,_,_,_,_,_,_,_,_,_] ?_|refine Ud 4 [_,_] ?_|refine Ud 4 [_,_,_] ?_|refine Ud 4 [_,_,_,_] ?_|refine Ud 4 [_,_,_,_,_] ?_|refine Ud 4 [_,_,_,_,_,_] ?_|refine Ud 4 [_,_,_,_,_,_,_] ?_|refine Ud 4 [_,_,_,_,_,_,_,_] ?_|refine Ud 4 [_,_,_,_,_,_,_,_,_] ?_|refine Ud 4 [_,_,_,_,_,_,_,_,_,_] ?_|refine Ud 4 [_,_,_,_,_,_,_,_,_,_,_,_] ?_|refine Ud 5 [_,_] ?_|refine Ud 5 [_,_,_] ?_|refine Ud 5 [_,_,_,_] ?_|refine Ud 5 [_,_,_,_,_] ?_|refine Ud 5 [_,_,_,_,_,_] ?_|refine Ud 5 [_,_,_,_,_,_,_] ?_|refine Ud 5 [_,_,_,_,_,_,_,_] ?_|refine Ud 5 [_,_,_,_,_,_,_,_,_] ?_|refine Ud 5 [_,_,_,_,_,_,_,_,_,_] ?_|refine Ud 5 [_,_,_,_,_,_,_,_,_,_,_,_] ?_|refine Ud 6 [_,_] ?_|refine Ud 6 [_,_,_] ?_|refine Ud 6 [_,_,_,_] ?_|refine Ud 6 [_,_,_,_,_] ?_|refine Ud 6 [_,_,_,_,_,_] ?_|refine Ud 6 [_,_,_,_,_,_,_] ?_|refine Ud 6 [_,_,_,_,_,_,_,_] ?_|refine Ud 6 [_,_,_,_,_,_,_,_,_] ?_|refine Ud 6 [_,_,_,_,_,_,_,_,_,_] ?_|refine Ud 6 [_,_,_,_,_,_,_,_,_,_,_,_] ?_|refine Ud 7 [_,_] ?_|refine Ud 7 [_,_,_] ?_|refine Ud 7 [_,_,_,_] ?_|refine Ud 7 [_,_,_,_,_] ?_|refine Ud 7 [_,_,_,_,_,_] ?_|refine Ud 7 [_,_,_,_,_,_,_] ?_|refine Ud 7 [_,_,_,_,_,_,_,_] ?_|refine Ud 7 [_,_,_,_,_,_,_,_,_] ?_|refine Ud 7 [_,_,_,_,_,_,_,_,_,_] ?_|refine Ud 7 [_,_,_,_,_,_,_,_,_,_,_,_] ?_|refine Ud 8 [_,_] ?_|refine Ud 8 [_,_,_] ?_|refine Ud 8 [_,_,_,_] ?_|refine Ud 8 [_,_,_,_,_] ?_|refine Ud 8 [_,_,_,_,_,_] ?_|refine Ud 8 [_,_,_,_,_,_,_] ?_|refine Ud 8 [_,_,_,_,_,_,_,_] ?_|refine Ud 8 [_,_,_,_,_,_,_,_,_] ?_|refine Ud 8 [_,_,_,_,_,_,_,_,_,_] ?_|refine Ud 8 [_,_,_,_,_,_,_,_,_,_,_,_] ?_|refine dB [_] ?_|refine dB [_,_] ?_|refine dB [_,_,_] ?_|refine dB [_,_,_,_] ?_|refine dB [_,_,_,_,_] ?_|refine dB [_,_,_,_,_,_] ?_|refine dB [_,_,_,_,_,_,_] ?_|refine dB [_,_,_,_,_,_,_,_] ?_|refine dB [_,_,_,_,_,_,_,_,_] ?_|refine dB [_,_,_,_,_,_,_,_,_,_] ?_|refine dB [_,_,_,_,_,_,_,_,_,_,_] ?_|refine dB [_,_,_,_,_,_,_,_,_,_,_,_] ?_);exact kQ.o):p:=e ⟨kQ⟩
def wb{p q:Prop}(kQ:q)(e:KP q->p:=by intro kQ;(repeat (first|refine dg1 ?_|refine dS ?_|refine dU ?_|(refine dG ?_;refine dg1 ?_)));exact kQ.o):p:=e ⟨kQ⟩
variable {q:Prop}
def ud(m:Nat)(I:Hp w0 H w)(kQ:q)(J:(kX l m,dsT l m)=(src,ds):=by exact kcb)(hm:P.follows .mixedOrders=true:=by exact mixed)(y:ql l m N src ds [] (wm l [])=true:=by kernel_rfl)(A:NP Q:=by repeat (first|exact Mb|refine lb ?_|refine Lb ?_|refine Sa ?_))(e:KP q->DX P l.toArray (JJ w0 H w) O (λh=>∀f V,JJ w0 H w V->tp h f V ds->WL ⟨none,D,false⟩ P N l.toArray Q (l.drop m) (qe O f ds) V) 0 noV (l.take m) src:=by intro kQ;refine wb ?_;exact kQ.o):WC ⟨none,D,false⟩ P N (.region id l.toArray true) Q O w:=Ak m I (e ⟨kQ⟩) J hm y A
def XQ(a X:List Nat)(m:Nat)(I:Hp w0 H w)(kQ:q)(J:(kX l m,dsT l m)=(src,ds):=by exact kcb)(hm:P.follows .mixedOrders=true:=by exact mixed)(y:ql l m N src ds X (wm l [])=true:=by kernel_rfl)(x:js P l a:=by repeat (first|exact Hn|refine On rfl pa.out ?_))(M:a.all (λi=>i<m)=true:=by rfl)(A:NP Q:=by repeat (first|exact Mb|refine lb ?_|refine Lb ?_|refine Sa ?_))(e:KP q->DX P l.toArray (JJ w0 H w) O (λh=>∀f V,JJ w0 H w V->tp h f V ds->(∀i∈a,∀j∈a,i≠j->f i≠f j)->WL ⟨none,D,false⟩ P N l.toArray Q (l.drop m) (qe O f ds) V) 0 noV (l.take m) src:=by intro kQ;refine wb ?_;exact kQ.o):WC ⟨none,D,false⟩ P N (.region id l.toArray true) Q O w:=jR a X m I (e ⟨kQ⟩) J hm y x M A
open Go.ChangeShapes Go.WideShapes Go.ChangeAt Go.RowKit
variable {H:Type}{enc:TypeId×Value->H}
def Uo(Q:laidOutB P=true){W c:World}(F:Below W.heap.size W c)(sp:Nat->Bool):∀(ts:List TypeId)(vs:List Value)(ds:List (DataW H))(X:List MemPlace),(∀t∈ts,P.readableRec t=true/\t<P.types.size)->(∀x∈X,x.block<W.heap.size)->(∀x∈X,sp x.block=true)->DataW.TrodAll enc P W 0 (λ_=>true) true ts vs ds X->DataW.TrodAll enc P c 0 sp true ts vs ds X
 |[],vs,ds,X,_,_,_,h=>(by obtain⟨rfl,rfl,rfl⟩:=trodAll_nil h;exact trodAll_mk0)
 |t::ts,vs,ds,X,a,D,i,h=>by
  obtain⟨v,b,d,e,p,q,rfl,rfl,rfl,J,Y⟩:=trodAll_cons h;refine trodAll_cons_mk (WideElems.Trod_stays Q (a t I').1 (a t I').2 J (λx C=>F.same (D x (M9 _ C))) (λx C=>i x (M9 _ C))) (Uo Q F sp ts b e q (λt S=>a t (L' _ S)) (λx C=>D x (u9 _ C)) (λx C=>i x (u9 _ C)) Y)
def uR{f:Func}{s:ChangeSpec}{c:World}{args:Array Value}{ds:List (DataW H)}{before:List MemPlace}{tb:TypeId} (g:DataW.Whole enc P f.params.toList s.vars false W args.toList ds [] before)(A:s.vars=[])(Q:laidOutB P=true)(r:∀t∈f.params.toList,P.readableRec t=true/\t<P.types.size) (e:f.resultTypes= #[tb])(a:P.underlying tb=some .bool)(m:(s.fn H (ds++[])).results=[.lit (.bool true)])(i:(s.fn H (ds++[])).args=ds)(l:(s.fn H (ds++[])).vars=[])(F:Below W.heap.size W c):
  s.post enc P f false true false false W args (.bool true) c:=by
 have D:∀p∈before,p.block<W.heap.size:=λp hp=>by simpa using g.lt p hp
 have hold:∀p∈before,(λb=>decide (b<W.heap.size)) p.block=true:=λp hp=>by simpa using D p hp
 have n:=g;obtain⟨v,pv,R,q,j,u,B⟩:=n;rw[A] at q;obtain⟨_,rfl⟩:=trodVars_none q;have C:before=v:=by rw[j,M_]
 subst C;have h:∀sp:Nat->Bool,(∀p∈before,sp p.block=true)->DataW.TrodAll enc P c 0 sp true f.params.toList args.toList (s.fn H (ds++[])).args before:=λsp o=>(by rw[i];exact Uo Q F sp _ _ _ _ r D o R);have k:∀sp:Nat->Bool,DataW.TrodVars enc P c sp s.vars (s.fn H (ds++[])).vars []:=λsp=>(by rw[A,l];rfl);have hR:∀(b:Nat)(sp:Nat->Bool)(T:Bool),DataW.TrodAll enc P c b sp T f.resultTypes.toList ((Value.bool true).resultList f.resultTypes.size) (s.fn H (ds++[])).results []:=λb sp T=>(by rw[e,m];exact trodAll_cons_mk (shut_bool a _) trodAll_mk0);refine⟨ds,[],before,[],before,[],g,hR _ _ _,h _ hold,k _,World.keptBut_mono (λp hp=>⟨hp, ?_⟩) (F.frame (· ∈before)),λ_=> ?_⟩
 .exact .inr (.inl hp)
 refine⟨ok_one e rfl (okWide_bool_mk a _),_,_,([]++before)++[],⟨[]++before,[],trodAll_append (h _ (λ_ _=>rfl)) (hR _ _ _),k _,rfl, ?_, ?_⟩, ?_⟩
 .intro b off hp;have d:=u b off (by simpa using hp);rw[F.frozen (D _ (by simpa using hp))];exact d
 .intro M
  cases M
 intro p hp _;simpa using hp
variable {cy:Nat}{H:List HE}
def tK(I:Hp w0 H w){t s e:TypeId}{x y:Operand}{i b c dl dc sz:Nat}{B:Option Addr}{xs news:List Value}(hi:H[i]?=some (.row (some ⟨b,0,none⟩) m c e sz xs))(hx:ev O x=.slice (some ⟨b,o,none⟩) dl dc)(hy:ev O y=.slice B n cy) (p:Sl w B n sz news)(ht:P.underlying t=some (.slice e))(W:ed P e=some (sz,ag,by',zc))(ho:o+min n dl*sz<=xs.length)(h1:(news.all Value.oneCell')=true)(hN:d<N) (kk:∀V,Hp w0 (H.set i (.row (some ⟨b,0,none⟩) m c e sz (db xs o (news.take (min n dl*sz))))) V->WL ro P N ops Q rest (jd O d (.int .i64 ((min n dl:Nat):Int))) V):
  WL ro P N ops Q (⟨some d,.call ⟨.builtin .copy, #[x,y], #[t,s]⟩,ty,pos,af,none⟩::rest) O w:=by
 obtain⟨inf,z,dd,hti,hd,hz,S,hby,hzc,_⟩:=Je W;have K:=I.at_ hi;obtain⟨hlen,h2⟩:=K;have G:=p.1;have hmin:min n dl*sz<=n*sz:=c_ _ (Nat.min_le_left _ _);have r:(news.take (min n dl*sz)).length=min n dl*sz:=by rw[p'];omega
 have E:∀v∈news.take (min n dl*sz),v.oneCell'=true:=λv hv=>L_.1 h1 v (x9 hv);have k:(Builtin.firstCells sz (min n dl) (.slice B n cy)).run P w=.ok (news.take (min n dl*sz)).toArray w:=by
  cases B with
  |none=>
   have J:n=0:=by
    obtain J|J:=G8 n
    .exact J
    obtain⟨A,h1,_⟩:=p.2 J;cases h1
   subst J;simp[Builtin.firstCells]
  |some A=>
   have M:∀j u,(news.take (min n dl*sz))[j]?=some u->w.cell? (A.add j)=some u:=by
    intro j u hj;rw[o8] at hj;split at hj
    .obtain J|J:=G8 n
     .subst J;have:news=[]:=Q8 (by simpa using G);simp[this] at hj
     obtain⟨ad',he,L⟩:=p.2 J;injection he with he
     subst he;exact L j u hj
    cases hj
   have:=run_loadCells_list (P:=P) w A _ M;rw[r] at this;simpa[Builtin.firstCells] using this
 generalize news.take (min n dl*sz)=vs at r E k kk;rw[<-r] at ho;obtain⟨h2,_⟩|⟨g,cap,cur,hv,hg,F,q,C,a,f⟩:=h2
 .injection h2 with h2;cases h2
 injection hv with R hn X
 injection R with R
 injection R with R
 subst R;subst X;have h:cur.size=cur.toList.length:=by simp
 have hle:m*sz<=c*sz:=c_ _ q;obtain⟨V,hr,Y,T,hs⟩:=Qg (P:=P) (b:=b) (t:=e) (fz:=(0,0)) o vs 0 cur.toList w (by simpa using F) (.inr (E' _)) (by rw[<-h];omega) E;refine ub rfl rfl hN (V:=V) (v:=.int .i64 ((min n dl:Nat):Int)) ?_ (kk V (I.grown hi T (.inl rfl) ⟨by rw[Qe Z'];exact hlen,.inr ⟨b,c,(db cur.toList o vs).toArray,rfl,hg,by simpa using Y,q,C, ?_, ?_⟩⟩))
 .have D:Nat.min n dl=min n dl:=rfl;simp only[execOp,resolve,invoke,hx,hy,List.map_toArray,I_,R9];simp[builtin,Builtin.copy_,run_underlying ht,Builtin.lenOf,sizeOf,typeInfo,hti,S,D,k,hr,goInt]
 .simp only[z7];rw[Qe (by rw[<-h];omega),<-h,a]
 simp only[db];rw[<-f];have h5:o+vs.length<=m*sz:=Z';have h6:m*sz<=cur.toList.length:=by rw[<-h,a];exact hle
 refine H0 ?_;congr 2;congr 1;omega
def va(B:Nat):List Nat->Nat
 |[]=>0
 |d::l=>d+B*va B l
def jb(B:Nat):Nat->Nat->List Nat
 |0,_=>[]
 |k+1,n=>n % B::jb B k (n/B)
def Ad:List Nat->List Nat
 |[]=>[]
 |d::l=>match Ad l with
  |[]=>if d=0 then[] else[d]
  |e::m=>d::e::m
def ra(B n:Nat):List Nat:=Ad (jb B (n.log2+1) n)
def Dg(B:Nat)(l:List Nat):Prop:=∀d∈l,d<B
variable {B:Nat}
def Dg.nil:Dg B []:=λ_ h=>(nomatch h)
def Dg.cons{d:Nat}{l:List Nat}(h:d<B)(Q:Dg B l):Dg B (d::l):=λx C=>by
 obtain rfl|C:=u'.1 C
 .exact h
 exact Q x C
def Dg.head{d:Nat}{l:List Nat}(h:Dg B (d::l)):d<B:=h d I'
def Dg.tail{d:Nat}{l:List Nat}(h:Dg B (d::l)):Dg B l:=λx C=>h x (L' _ C)
def Dg.append{l m:List Nat}(h:Dg B l)(S:Dg B m):Dg B (l++m):=λx C=>by
 obtain C|C:=O_.1 C
 .exact h x C
 exact S x C
def Dg.sub{l m:List Nat}(h:Dg B l)(S:m.Sublist l):Dg B m:=λx C=>h x (S.subset C)
def Dg.take{l:List Nat}(h:Dg B l)(n:Nat):Dg B (l.take n):=h.sub (List.take_sublist n l)
def Dg.drop{l:List Nat}(h:Dg B l)(n:Nat):Dg B (l.drop n):=h.sub (List.drop_sublist n l)
def Dg.at_{l:List Nat}(h:Dg B l){i d:Nat}(hi:l[i]?=some d):d<B:=h d (N' hi)
def Dg.xX{l:List Nat}(h:Dg B l)(i:Nat){d:Nat}(T:d<B):Dg B (l.set i d):=λx C=>by
 obtain C|rfl:=R8 C
 .exact h x C
 exact T
def Dg.Ld(E:0<B)(n:Nat):Dg B (List.replicate n 0):=λx C=>by rw[List.eq_of_mem_replicate C];exact E
def nc(l:List Nat)(m):va B (l++m)=va B l+B^l.length*va B m:=by
 induction l with
 |nil=>simp[va]
 |cons d l W=>simp only[C',va,W,T_,B_];rw[n_,n7];congr 2;rw[<-Z9,V_ B]
def Ff{l:List Nat}(h:Dg B l):va B l<B^l.length:=by
 induction l with
 |nil=>simp[va]
 |cons d l W=>
  have h1:=W h.tail;have h2:=h.head;simp only[va,T_,B_]
  calc d+B*va B l<B+B*va B l:=by omega
   _=B*(va B l+1):=by rw[n_,X_,O8]
   _<=B*B^l.length:=D_ _ h1
   _=B^l.length*B:=V_ _ _
def Di(n:Nat):va B (List.replicate n 0)=0:=by
 induction n with
 |zero=>rfl
 |succ n W=>simp[S7,va,W]
def ua(k n:Nat):(jb B k n).length=k:=by
 induction k generalizing n with
 |zero=>rfl
 |succ k W=>simp[jb,W]
def ie(E:0<B)(k n:Nat):Dg B (jb B k n):=by
 induction k generalizing n with
 |zero=>exact Dg.nil
 |succ k W=>exact Dg.cons (Q_ _ E) (W _)
def DU(k n:Nat):va B (jb B k n)=n % B^k:=by
 induction k generalizing n with
 |zero=>simp[jb,va,Nat.mod_one]
 |succ k W=>rw[jb,va,W,B_,V_ (B^k),Nat.mod_mul]
def Db(h:n<B^k):va B (jb B k n)=n:=by rw[DU,E_ h]
def kq{l:List Nat}(h:Dg B l):jb B l.length (va B l)=l:=by
 induction l with
 |nil=>rfl
 |cons d l W=>
  have T:=h.head;simp only[T_,jb,va];rw[W8,E_ T,K9 _ _ Z',s_ T,U_,W h.tail]
def VC{l m:List Nat}(Q:Dg B l)(hm:Dg B m)(hlen:l.length=m.length)(h:va B l=va B m):l=m:=by
 rw[<-kq Q,<-kq hm,hlen,h]
def Wh(k n i:Nat)(h:i<k):(jb B k n)[i]?=some (n/B^i % B):=by
 induction k generalizing n i with
 |zero=>omega
 |succ k W=>
  cases i with
  |zero=>simp[jb]
  |succ i=>simp only[jb,p7];rw[W _ _ Z',l9,B_,V_ B]
def wv{l:List Nat}(h:Dg B l){i d:Nat}(hi:l[i]?=some d):va B l/B^i % B=d:=by
 have h1:=Wh (B:=B) l.length (va B l) i (x'.1 hi).1;rw[kq h,hi] at h1;injection h1 with h1
 exact h1.symm
def mq{l:List Nat}(h:Dg B l){i:Nat}(hi:l.length<=i)(E:0<B):va B l/B^i=0:=
 s_ (k_ (Ff h) (J_ E hi))
def Zf(l:List Nat)(i:Nat)(h:i<=l.length):va B l=va B (l.take i)+B^i*va B (l.drop i):=by
 have:=nc (B:=B) (l.take i) (l.drop i);rw[q_,List.length_take_of_le h] at this;exact this
def PE{l:List Nat}(h:Dg B l)(i:Nat)(E:0<B):va B (l.drop i)=va B l/B^i:=by
 by_cases hi:i<=l.length
 .rw[Zf l i hi];have h1:=Ff (h.take i);rw[List.length_take_of_le hi] at h1;rw[K9 _ _ (N_ E),s_ h1,U_]
 rw[g6 Z',mq h Z' E];rfl
def xR{l:List Nat}(h:Dg B l)(i:Nat)(hi:i<=l.length):va B (l.take i)=va B l % B^i:=by
 rw[Zf l i hi,W8,E_];have h1:=Ff (h.take i);rwa[List.length_take_of_le hi] at h1
def Qh(l):va B (Ad l)=va B l:=by
 induction l with
 |nil=>rfl
 |cons d l W=>
  simp only[Ad,va];split
  .rename_i h;rw[h] at W;simp only[va] at W;split
   .rename_i J;rw[J,<-W];simp[va]
   rw[<-W];simp[va]
  rename_i e m h;rw[h] at W;rw[<-W];rfl
def mj(l:List Nat):Ad l=l.take (Ad l).length:=by
 induction l with
 |nil=>rfl
 |cons d l W=>
  simp only[Ad];split
  .split
   .rfl
   simp
  rename_i e m h;rw[h] at W;simp only[T_,X7] at W |-;rw[<-W]
def Vd(l):(Ad l).length<=l.length:=by
 have:=Y_ List.length (mj l);rw[p'] at this;omega
def zz(l):(Ad l).getLast?≠some 0:=by
 induction l with
 |nil=>simp[Ad]
 |cons d l W=>
  simp only[Ad];split
  .split
   .simp
   simpa
  rename_i e m h;rw[h] at W;rwa[List.getLast?_cons_cons]
def Dg.cut{l:List Nat}(h:Dg B l):Dg B (Ad l):=by rw[mj];exact h.take _
def cP{l:List Nat}(h:l.getLast?≠some 0):Ad l=l:=by
 induction l with
 |nil=>rfl
 |cons d l W=>
  cases l with
  |nil=>simp only[Ad];rw[Q'];intro J;subst J;simp at h
  |cons e m=>
   rw[List.getLast?_cons_cons] at h;rw[Ad,W h]
def sx(l:List Nat):Ad (l++[0])=Ad l:=by
 induction l with
 |nil=>simp[Ad]
 |cons d l W=>simp only[C',Ad,W]
def Dz{l:List Nat}{d:Nat}(h:d≠0):Ad (l++[d])=l++[d]:=cP (by simpa using h)
def Can(B:Nat)(l:List Nat):Prop:=Dg B l/\l.getLast?≠some 0
def Can.cut{l:List Nat}(h:Dg B l):Can B (Ad l):=⟨h.cut,zz l⟩
def FR{l:List Nat}(h:l.getLast?≠some 0)(a:l≠[]):B^(l.length-1)<=va B l:=by
 have h1:=List.dropLast_concat_getLast a;have h2:l.getLast a≠0:=(by intro J;apply h;rw[List.getLast?_eq_some_getLast a,J]);rw[<-h1,nc];simp only[y',List.length_dropLast,T_,B7];have:l.length-1+(0+1)-1=l.length-1:=Z';rw[this];simp only[va,A8,I9];exact d' (a6 _ (Nat.pos_of_ne_zero h2)) (Nat.le_add_left _ _)
def Can.Lx{l m:List Nat}(Q:Can B l)(hm:Can B m)(E:1<B)(h:va B l<=va B m):l.length<=m.length:=by
 obtain D|N:=o_ m.length l.length
 .exfalso;have a:l≠[]:=by intro J;simp[J] at D
  have h1:=FR (B:=B) Q.2 a;have h2:=Ff hm.1;have G:B^m.length<=B^(l.length-1):=J_ Z' Z';exact Nat.lt_irrefl _ (k_ h2 (d' G (d' h1 h)))
 exact N
def Can.inj{l m:List Nat}(Q:Can B l)(hm:Can B m)(E:1<B)(h:va B l=va B m):l=m:=
 VC Q.1 hm.1 (Nat.le_antisymm (Q.Lx hm E (Nat.le_of_eq h)) (hm.Lx Q E (Nat.le_of_eq h.symm))) h
def Ed(E:0<B)(n:Nat):Can B (ra B n):=Can.cut (ie E _ _)
def VD(E:1<B)(n:Nat):n<B^(n.log2+1):=by
 have h1:n<2^(n.log2+1):=Nat.lt_log2_self;exact k_ h1 (Nat.pow_le_pow_left E _)
def Yd(E:1<B)(n:Nat):va B (ra B n)=n:=by
 rw[ra,Qh,Db (VD E n)]
def SE(E:1<B){l:List Nat}(h:Can B l):ra B (va B l)=l:=(Ed Z' _).inj h E (Yd E _)
def bg(E:1<B){l:List Nat}(h:Dg B l):Ad l=ra B (va B l):=by
 rw[<-Qh,SE E (Can.cut h)]
def Gg(E:1<B):ra B 0=[]:=(Ed Z' 0).inj ⟨Dg.nil,by simp⟩ E (by rw[Yd E];rfl)
def kr(E:1<B):ra B n=[]↔n=0:=by
 constructor
 .intro h;have:=Yd E n;rw[h] at this;exact this.symm
 intro h;rw[h,Gg E]
def jf(E:1<B)(h:n<B^k):(ra B n).length<=k:=by
 have h1:Ad (jb B k n)=ra B n:=by rw[bg E (ie Z' _ _),Db h]
 have:=Vd (jb B k n);rw[h1,ua] at this;exact this
def zl(E:1<B)(n:Nat):n<B^(ra B n).length:=by
 have:=Ff (Ed (B:=B) Z' n).1;rwa[Yd E] at this
def Ei(E:1<B){a b:Nat}(h:a<=b):(ra B a).length<=(ra B b).length:=(Ed Z' a).Lx (Ed Z' b) E (by rw[Yd E,Yd E];exact h)
def Xv(E:1<B){i:Nat}(h:i<(ra B n).length):(ra B n)[i]?=some (n/B^i % B):=by
 have h1:=U8 h;rw[h1];have h2:=wv (Ed (B:=B) Z' n).1 h1;rw[Yd E] at h2;rw[h2]
def GN(E:1<B)(h:n≠0):ra B n=n % B::ra B (n/B):=by
 refine(Ed Z' n).inj ⟨Dg.cons (Q_ _ Z') (Ed Z' _).1, ?_⟩ E ?_
 .cases T:ra B (n/B) with
  |nil=>
   rw[kr E] at T;have:n=n % B:=by have:=T9 n B;rw[T] at this;simpa using this.symm
   simp only[List.getLast?_singleton];intro J;injection J with J;omega
  |cons e m=>
   rw[List.getLast?_cons_cons,<-T];exact(Ed Z' _).2
 rw[Yd E,va,Yd E];have:=T9 n B;omega
def WT(E:1<B)(h:n<B^k):jb B k n=ra B n++List.replicate (k-(ra B n).length) 0:=by
 have Q:=jf E h;refine VC (B:=B) (ie Z' _ _) ((Ed Z' _).1.append (Dg.Ld Z' _)) ?_ ?_
 .rw[ua,y',Q9];omega
 rw[Db h,nc,Yd E,Di];simp
def vD:List Nat->Nat
 |[]=>0
 |d::_=>d
variable {ys:List Nat}
def OR(ys:List Nat):va B ys=vD ys+B*va B ys.tail:=by cases ys<;>simp[va,vD]
def aa2(h:Dg B ys)(E:0<B):vD ys<B:=by
 cases ys with
 |nil=>exact E
 |cons d l=>exact h.head
def Dg.tl(h:Dg B ys):Dg B ys.tail:=by
 cases ys with
 |nil=>exact h
 |cons d l=>exact h.tail
def Gv(ys:List Nat)(i:Nat):vD (ys.drop i)=(ys[i]?).getD 0:=by
 induction ys generalizing i with
 |nil=>simp[vD]
 |cons d l W=>cases i with
  |zero=>rfl
  |succ i=>simpa using W i
def tail_drop(ys:List Nat)(i:Nat):(ys.drop i).tail=ys.drop (i+1):=by
 induction ys generalizing i with
 |nil=>simp
 |cons d l W=>cases i with
  |zero=>rfl
  |succ i=>simp
def HD{B a b:Nat}(E:0<B)(h:a+B*b<B*n):b+a/B<n:=by
 have h1:(a+B*b)/B<n:=by rw[N9 E,V_ n];exact h
 rw[K9 _ _ E] at h1;omega
def pg(B:Nat):List Nat->List Nat->Nat->Nat->List Nat
 |[],_,_,_=>[]
 |x::xs,ys,m,c=>(x+vD ys*m+c) % B::pg B xs ys.tail m ((x+vD ys*m+c)/B)
def Hl(xs ys)(m c:Nat):(pg B xs ys m c).length=xs.length:=by
 induction xs generalizing ys c with
 |nil=>rfl
 |cons x xs W=>simp[pg,W]
def vx(E:0<B)(xs ys)(m c:Nat):Dg B (pg B xs ys m c):=by
 exact aeI
def Dt(E:0<B)(xs:List Nat)(ys)(m c:Nat)(h:va B xs+va B ys*m+c<B^xs.length):va B (pg B xs ys m c)=va B xs+va B ys*m+c:=by
 induction xs generalizing ys c with
 |nil=>simp only[B7,x7,va] at h;simp only[pg,va];omega
 |cons x xs W=>
  have e:va B (x::xs)+va B ys*m+c=(x+vD ys*m+c)+B*(va B xs+va B ys.tail*m):=(by rw[va,OR ys,I8,n_,Z9];omega);rw[T_,B_,V_ _ B,e] at h;have h1:=HD E h;simp only[pg,va];rw[W _ _ h1,<-va,e,n_];have:=m7 (x+vD ys*m+c) B;omega
def Np(B:Nat):List Nat->List Nat->Nat->List Nat
 |[],_,_=>[]
 |x::xs,ys,b=>(x+B-vD ys-b) % B::Np B xs ys.tail (if x<vD ys+b then 1 else 0)
def VG(B:Nat):List Nat->List Nat->Nat->Nat
 |[],_,b=>b
 |x::xs,ys,b=>VG B xs ys.tail (if x<vD ys+b then 1 else 0)
def DG(xs ys)(c:Nat):(Np B xs ys c).length=xs.length:=by
 induction xs generalizing ys c with
 |nil=>rfl
 |cons x xs W=>simp[Np,W]
def QJ(E:0<B)(xs ys)(c:Nat):Dg B (Np B xs ys c):=by
 exact aeI
def tF(E:0<B)(xs ys)(b:Nat)(C:Dg B xs)(hy:Dg B ys)(F:b<=1)(h:va B ys+b<=va B xs):va B (Np B xs ys b)+va B ys+b=va B xs/\VG B xs ys b=0:=by
 induction xs generalizing ys b with
 |nil=>simp only[va] at h;simp only[Np,VG,va];omega
 |cons x xs W=>
  have S:=C.head;have K:=aa2 hy E;have e:=OR (B:=B) ys;simp only[va,Np,VG] at h |-;by_cases D:x<vD ys+b
  .rw[P' D];have h1:va B ys.tail+1<=va B xs:=(by refine P6 λhle=> ?_;have:=D_ B hle;omega);obtain⟨i1,i2⟩:=W ys.tail 1 C.tail hy.tl Z' h1;refine⟨?_,i2⟩;have h2:=Y_ (B* ·) i1;simp only[n_] at h2;rw[E_ Z'];omega
  rw[Q' D];have h1:va B ys.tail+0<=va B xs:=(by refine H6 λhle=> ?_;have:=D_ B (Nat.succ_le_of_lt hle);simp only[o9,I9] at this;omega);obtain⟨i1,i2⟩:=W ys.tail 0 C.tail hy.tl Z' h1;refine⟨?_,i2⟩;have h2:=Y_ (B* ·) i1;simp only[n_,I9] at h2;have G:x+B-vD ys-b=(x-vD ys-b)+B:=Z';rw[G,Nat.add_mod_right,E_ Z'];omega
def OJ(xs)(i d:Nat)(hi:xs[i]?=some o):va B (xs.set i d)+B^i*o=va B xs+B^i*d:=by
 induction xs generalizing i with
 |nil=>simp at hi
 |cons x xs W=>
  cases i with
  |zero=>simp only[q7,g9] at hi;subst hi;simp only[j',va,x7,C8];omega
  |succ i=>
   have:=Y_ (B* ·) (W i hi);simp only[n_,<-Z9] at this;simp only[t_,va,B_,V_ _ B];omega
def iJ{l m:List Nat}{x y:Nat}(Q:Dg B l)(hlen:l.length=m.length)(h:x<y):va B (l++[x])<va B (m++[y]):=by
 rw[nc,nc,hlen];have h1:=Ff Q;rw[hlen] at h1;have h2:B^m.length*(x+1)<=B^m.length*y:=D_ _ h;simp only[va,A8,I9,o9] at h2 |-;omega
def Eh(a b:Nat):Int:=if a<b then -1 else if b<a then 1 else 0
def Yj{a b:Nat}(h:a<b):Eh a b= -1:=by simp[Eh,h]
def rr{a b:Nat}(h:b<a):Eh a b=1:=by simp only[Eh];rw[Q' Z',P' h]
def DL{a b:Nat}(h:a=b):Eh a b=0:=by simp only[Eh];rw[Q' Z',Q' Z']
def NA{xs:List Nat}{x y:Nat}(C:Dg B xs)(v:xs[k]?=some x)(E:ys[k]?=some y)(T:xs.drop (k+1)=ys.drop (k+1))(D:x<y):va B xs<va B ys:=by
 have lx:=(x'.1 v).1;have ly:=(x'.1 E).1;rw[Zf xs (k+1) lx,Zf ys (k+1) ly,T];have N:xs.take (k+1)=xs.take k++[x]:=by rw[List.take_add_one,v];rfl
 have L:ys.take (k+1)=ys.take k++[y]:=by rw[List.take_add_one,E];rfl
 have:=iJ (B:=B) (m:=ys.take k) (C.take k) (by rw[p',p'];omega) D;rw[N,L];omega
def lC{xs:List Nat}{x y:Nat}(v:xs[k]?=some x)(E:ys[k]?=some y)(T:xs.drop (k+1)=ys.drop (k+1))(h:x=y):xs.drop k=ys.drop k:=by
 obtain⟨lx,ex⟩:=x'.1 v;obtain⟨ly,c⟩:=x'.1 E;rw[K8 lx,K8 ly,T,ex,c,h]
def ar{v:Nat}(E:0<B)(hj:j<k)(a:n+B^j*v<B^k)(A:n/B^j % B+v<B):(jb B k n).set j (n/B^j % B+v)=jb B k (n+B^j*v):=by
 refine VC (B:=B) ((ie E _ _).xX _ A) (ie E _ _) (by rw[d_,ua,ua]) ?_;have h1:=OJ (B:=B) (jb B k n) j (n/B^j % B+v) (Wh k n j hj);rw[Db Z'] at h1;rw[Db a];rw[n_] at h1;omega
def xt(k:Nat):jb B k 0=List.replicate k 0:=by
 induction k with
 |zero=>rfl
 |succ k W=>simp[jb,W,S7]
def dF(s:List UInt8):List Nat:=(s.map UInt8.toNat).reverse
def bn(s:List UInt8):Nat:=va 256 (dF s)
def sb(n:Nat):List UInt8:=((ra 256 n).map UInt8.ofNat).reverse
def Zp(s):(dF s).length=s.length:=by simp[dF]
def eD(s):Dg 256 (dF s):=λd T=>by
 obtain⟨c,_,rfl⟩:=B'.1 (y8.1 T);exact c.toNat_lt
def pY(s:List UInt8):bn s<256^s.length:=by have:=Ff (eD s);rwa[Zp] at this
def kS{s:List UInt8}{i:Nat}{c:UInt8}(hi:i<s.length)(h:s[s.length-1-i]?=some c):(dF s)[i]?=some c.toNat:=by
 unfold dF;rw[z8 (by simpa using hi),D',z',h];rfl
def bR(n:Nat):dF (sb n)=ra 256 n:=by
 unfold dF sb;rw[List.map_reverse,U6,A_];have:∀l:List Nat,Dg 256 l->l.map (UInt8.toNat ∘ UInt8.ofNat)=l:=by
  intro l
  induction l with
  |nil=>intro _;rfl
  |cons d l W=>
   intro h;have T:=h.head;simp only[I_,W h.tail,Function.comp];congr 1;simp only[p6];omega
 exact this _ (Ed Z' n).1
def adX(n:Nat):bn (sb n)=n:=by rw[bn,bR,Yd Z']
def NN(n:Nat):(sb n).length=(ra 256 n).length:=by simp[sb]
def xW{s t:List UInt8}(h:dF s=dF t):s=t:=by
 have h1:=List.reverse_inj.1 h;exact(List.map_inj_right λa b h=>Q6.1 h).1 h1
def adK{s:List UInt8}(h:dF s=ra 256 n):s=sb n:=xW (by rw[h,bR])
def WW:sb 0=[]:=by rw[sb,Gg Z'];rfl
def rU(s):bn (0::s)=bn s:=by
 unfold bn dF;rw[I_,m8,nc];simp[va]
def adM{s:List UInt8}(h:s.head?≠some 0):sb (bn s)=s:=by
 refine(adK ?_).symm;rw[bn,SE Z' ⟨eD s, ?_⟩];unfold dF;rw[List.getLast?_reverse,List.head?_map]
 cases s with
 |nil=>simp
 |cons c s=>
  simp only[List.head?_cons,p9];intro J;injection J with J
  apply h;simp only[List.head?_cons];congr 1;exact Q6.1 (by simpa using J)
def Ea(n:Nat):Nat:=(ra 2 n).length
def Bk:Ea 0=0:=by rw[Ea,Gg Z'];rfl
def Ab(n:Nat):n<2^Ea n:=zl Z' n
def Zb(h:n<2^k):Ea n<=k:=jf Z' h
def bB(h:n≠0):2^(Ea n-1)<=n:=by
 have h1:=FR (B:=2) (Ed (B:=2) Z' n).2 (λJ=>h ((kr Z').1 J));rwa[Yd Z'] at h1
def cn(h:n≠0):0<Ea n:=by
 rw[Ea];have:ra 2 n≠[]:=λJ=>h ((kr Z').1 J);exact List.length_pos_iff.2 this
def rC(h1:n<2^k)(h2:2^(k-1)<=n):Ea n=k:=by
 have G:=Zb h1;obtain h|h:=o_ (Ea n) k
 .have z:=Ab n;have P:2^Ea n<=2^(k-1):=J_ Z' Z';omega
 omega
def TG{B b:Nat}(E:B=2^b){l:List Nat}{d:Nat}(Q:Dg B l)(hlen:l.length=m)(T:d≠0):Ea (va B (l++[d]))=b*m+Ea d:=by
 have D:=Ff Q;rw[hlen] at D;have hp:B^m=2^(b*m):=by rw[E,<-i_]
 rw[nc,hlen];simp only[va,A8,I9];rw[hp] at D |-;apply rC
 .have h1:=Ab d;have h2:2^(b*m)*(d+1)<=2^(b*m)*2^Ea d:=D_ _ h1;rw[R_];rw[o9] at h2;omega
 have h1:=bB T;have h2:=cn T;have e:b*m+Ea d-1=b*m+(Ea d-1):=Z';rw[e,R_];have G:2^(b*m)*2^(Ea d-1)<=2^(b*m)*d:=D_ _ h1;omega
def TH{a c s:Nat}(h:a<2^s):a|||(c*2^s)=a+c*2^s:=by
 have h1:=Nat.shiftLeft_add_eq_or_of_lt h c;rw[Nat.shiftLeft_eq] at h1;rw[Nat.or_comm,<-h1,O8]
def dV{i c:Nat}(n:Nat)(B:n<256^i)(E:c<256)(hi:i/8<k):
  n/18446744073709551616^(i/8) % 18446744073709551616<2^(i % 8*8)/\c*2^(i % 8*8)<18446744073709551616/\
  (jb 18446744073709551616 k n).set (i/8) (n/18446744073709551616^(i/8) % 18446744073709551616+c*2^(i % 8*8))=jb 18446744073709551616 k (n+256^i*c):=by
 refine vY ?_;intro g a hp;have h1:n/18446744073709551616^(i/8)<2^(i % 8*8):=(by rw[N9 (N_ V'),V_,<-hp];exact B);have K:2^(i % 8*8)*256<=18446744073709551616:=(by rw[a,g,<-R_];exact J_ Z' Z');have h2:n/18446744073709551616^(i/8) % 18446744073709551616<2^(i % 8*8):=l_ (Nat.mod_le _ _) h1;have G:(c+1)*2^(i % 8*8)<=256*2^(i % 8*8):=c_ _ E;rw[H9] at G;have A:0<2^(i % 8*8):=N_ Z';refine⟨h2,Z', ?_⟩;have z:256^i*c=18446744073709551616^(i/8)*(c*2^(i % 8*8)):=by rw[hp,Z9,V_ c]
 rw[z];refine ar V' hi ?_ Z';rw[<-z];have P:256^i*(c+1)<=256^i*256:=D_ _ E;have L:256^i*256<=18446744073709551616^k:=by
  have:256^i*256=2^(8*(i+1)):=by rw[a,<-i_,<-R_];congr 1
  rw[this,g,<-i_];exact J_ Z' Z'
 rw[o9] at P;omega
def RO(n i:Nat):n/18446744073709551616^(i/8) % 18446744073709551616/2^(i % 8*8) % 256=n/256^i % 256:=by
 refine vY ?_;intro g a hp;rw[hp,<-l9];generalize n/18446744073709551616^(i/8)=m;have e:(18446744073709551616:Nat)=2^(i % 8*8)*2^(64-i % 8*8):=by rw[<-R_,g];congr 1;omega
 rw[e,Nat.mod_mul_right_div_self];have L:2^(64-i % 8*8)=256*2^(56-i % 8*8):=by rw[a,<-R_];congr 1;omega
 rw[L,Nat.mod_mul_right_mod]
def Iz(n j s:Nat)(K:s<64)(J:0<s):(n/18446744073709551616^j % 18446744073709551616/2^s)<2^(64-s)/\
  n/18446744073709551616^j % 18446744073709551616/2^s+n/18446744073709551616^(j+1) % 2^s*2^(64-s)=n/2^(64*j+s) % 18446744073709551616:=by
 have g:(18446744073709551616:Nat)=2^64:=by decide
 have e:(18446744073709551616:Nat)=2^s*2^(64-s):=by rw[<-R_,g];congr 1;omega
 have hp:(18446744073709551616:Nat)^(j+1)=18446744073709551616^j*18446744073709551616:=B_ ..;rw[hp,<-l9,R_,i_,<-g,<-l9];generalize n/18446744073709551616^j=m;have N:m % 18446744073709551616/2^s=m/2^s % 2^(64-s):=by rw[e,Nat.mod_mul_right_div_self]
 rw[N];refine⟨Q_ _ (N_ Z'), ?_⟩;have L:m/18446744073709551616=m/2^s/2^(64-s):=by rw[e,<-l9]
 rw[L];generalize m/2^s=q;have X:(18446744073709551616:Nat)=2^(64-s)*2^s:=by rw[V_];exact e
 rw[X,Nat.mod_mul,V_ (2^(64-s))]
def aaG{d s:Nat}(T:d<18446744073709551616)(K:s<=64):d*2^s % 18446744073709551616+d/2^(64-s)*18446744073709551616=d*2^s/\d/2^(64-s)<2^s:=by
 have g:(18446744073709551616:Nat)=2^64:=by decide
 have e:(18446744073709551616:Nat)=2^(64-s)*2^s:=by rw[<-R_,g];congr 1;omega
 have h1:d*2^s/18446744073709551616=d/2^(64-s):=by rw[e,Nat.mul_div_mul_right _ _ (N_ Z')]
 rw[<-h1];constructor
 .have:=m7 (d*2^s) 18446744073709551616;omega
 rw[h1,N9 (N_ Z'),V_,<-e];exact T
def str(l:List UInt8):ByteArray:=⟨l.toArray⟩
def vc(l):(str l).data.toList=l:=by simp[str]
def Ew{a b:ByteArray}(h:a.data.toList=b.data.toList):a=b:=by
 cases a;cases b;congr 1;exact l7 h
def RP(s:ByteArray):str s.data.toList=s:=Ew (vc _)
def yg(l):(str l).size=l.length:=by simp[str,ByteArray.size]
def Hc(s:ByteArray):s.size=s.data.toList.length:=(Array.length_toList).symm
def Pa(l:List Int):List Value:=l.map (Value.int .i64)
def Cb(l):(Pa l).length=l.length:=by simp[Pa]
def RF(a:List Int)(b):Pa (a++b)=Pa a++Pa b:=by simp[Pa]
def Ic{l:List Int}{x:Int}(h:l[k]?=some x):(Pa l)[k]?=some (.int .i64 x):=by simp[Pa,h]
def tI(a:List UInt8)(b):bj (a++b)=bj a++bj b:=by simp[bj]
def Da(l):((Pa l).all Value.oneCell')=true:=by simp[Pa,Value.oneCell']
def AE(l:List ByteArray):List Value:=l.map Value.string
def qu(l:List ByteArray):(AE l).length=l.length:=by simp[AE]
def GM{l:List ByteArray}{x:ByteArray}(h:l[k]?=some x):(AE l)[k]?=some (.string x):=by simp[AE,h]
def ja{l:List α}{x:α}(h:l[k]?=some x):l.take (k+1)=l.take k++[x]:=by rw[List.take_add_one,h];rfl
def aa{l:List α}(h:k<l.length):∃x,l[k]?=some x:=⟨_,U8 h⟩
def ke(l:List UInt8):Bool:=l.all λc=>decide (c.toNat<128)
def gN(l:List UInt8)(c:UInt8):ke (l++[c])=(ke l && decide (c.toNat<128)):=by simp[ke]
def eE{l:List UInt8}{c:UInt8}(h:l[k]?=some c)(E:¬c.toNat<128):ke l=false:=by
 rw[<-q_ (k+1) l,ja h];simp only[ke,F6];simp;omega
def Nn{l:List UInt8}(h:ke l=true){c:UInt8}(E:l[k]?=some c):c.toNat<128:=by
 have:=L_.1 h c (N' E);simpa using this
def zd(x:Int):Bool:=decide (0<=x) && decide (x<=127)
def PA(x:Int):UInt8:=UInt8.ofNat x.toNat
def YU(xs:List Int):List UInt8:=if xs.all zd then xs.map PA else[]
def sX(xs:List Int):Int:=if xs.all zd then 0 else 3
def aaM{xs:List Int}{x:Int}(C:xs[k]?=some x)(h:zd x=false):YU xs=[]/\sX xs=3:=by
 have:xs.all zd=false:=by
  cases E:xs.all zd with
  |false=>rfl
  |true=>rw[L_.1 E x (N' C)] at h;cases h
 simp[YU,sX,this]
def Uu{xs:List Int}(h:xs.all zd=true):YU xs=xs.map PA/\sX xs=0:=by simp[YU,sX,h]
def xU{p:α->Bool}{l:List α}{x:α}(h:l[k]?=some x)(h1:(l.take k).all p=true)(h2:p x=true):(l.take (k+1)).all p=true:=by
 rw[ja h,F6,h1];simp[h2]
def AW{x:Int}(h:0<=x)(h2:x<=255):IntKind.u8.wrap x=x:=by
 have:IntKind.u8.wrap x=x % 256:=rfl;rw[this];omega
def Xu{x:Int}(h:zd x=true):Value.int .u8 x=.int .u8 (PA x).toNat:=by
 simp only[zd,l',h'] at h;congr 1;simp only[PA,p6];omega
def MS{xs:List Int}{x:Int}(C:xs[k]?=some x)(h:zd x=true):bj ((xs.take k).map PA)++[.int .u8 x]=bj ((xs.take (k+1)).map PA):=by
 rw[ja C,G_,tI,Xu h];rfl
def ints(l:List UInt8):List Int:=l.map λc=>(c.toNat:Int)
def Si(l:List UInt8):List Int:=if ke l then ints l else[]
def ah5(l:List UInt8):Int:=(Si l).sum
def Oc(l):(ints l).length=l.length:=by simp[ints]
def uw{l:List UInt8}{c:UInt8}(h:l[k]?=some c):Pa (ints (l.take k))++[.int .i64 c.toNat]=Pa (ints (l.take (k+1))):=by
 rw[ja h];simp[Pa,ints]
def lenOf:Value->Nat|.slice _ n _=>n|_=>0
def Ek{l:List UInt8}(h:ke l=true):Si l=ints l:=by simp[Si,h]
def aU{l:List UInt8}(h:ke l=false):Si l=[]:=by simp[Si,h]
def XX{l:List UInt8}{c:UInt8}(h:l[k]?=some c):(ints l)[k]?=some (c.toNat:Int):=by simp[ints,h]
def fL{l:List UInt8}{x:Int}(h:(Si l)[k]?=some x):0<=x/\x<=127:=by
 unfold Si at h;split at h
 .rename_i hm;simp only[ints,z',y9] at h;obtain⟨c,E,rfl⟩:=h;have:=Nn hm E;omega
 simp at h
def Qi(f:Int->Int->Int)(a b:List UInt8):Option (List Int):=
 if ke a && (ke b && decide ((b.length:Int)=a.length)) then some (List.zipWith f (ints a) (ints b)) else none
def mulL(a b:List UInt8):List UInt8×Int:=
 match Qi (· + ·) a b with|some l=>(YU l,sX l)|none=>([],1)
def ahc(a b:List UInt8):List UInt8×Bool:=
 match Qi (· - ·) a b with|some l=>(YU l,decide (sX l=0))|none=>([],false)
def eT{f:Int->Int->Int}{a b:List Int}{x y:Int}(C:a[k]?=some x)(hy:b[k]?=some y):(List.zipWith f a b)[k]?=some (f x y):=by
 simp[n9,C,hy]
def jn(f:Int->Int->Int)(a b:List Int)(k:Nat):List Int:=(List.zipWith f a b).take k++b.drop k
def SS(f:Int->Int->Int)(a b):jn f a b 0=b:=by simp[jn]
def nX{f:Int->Int->Int}{a b:List Int}(h:a.length=b.length)(u:k<=b.length):(jn f a b k).length=b.length:=by
 simp[jn,h];omega
def aaO{f:Int->Int->Int}{a b:List Int}(h:a.length=b.length){y:Int}(hy:b[k]?=some y):(jn f a b k)[k]?=some y:=by
 have u:k<b.length:=(x'.1 hy).1;unfold jn;rw[S9 (by simp[h];omega)];simp[h,P9 (Nat.le_of_lt u),hy]
def tV{f:Int->Int->Int}{a b:List Int}(h:a.length=b.length){x y:Int}(C:a[k]?=some x)(hy:b[k]?=some y):
  db (Pa (jn f a b k)) k [.int .i64 (f x y)]=Pa (jn f a b (k+1)):=by
 have u:k<b.length:=(x'.1 hy).1;have Q:((List.zipWith f a b).take k).length=k:=by simp[h];omega
 have N:(jn f a b k).take k=(List.zipWith f a b).take k:=(by unfold jn;rw[List.take_append_of_le_length Z',w' Z']);have L:(jn f a b k).drop (k+1)=b.drop (k+1):=(by unfold jn;rw[List.drop_append,Q,P8 Z',show k+1-k=1 by omega,F7];simp);simp only[db,Pa,<-List.map_take,<-V6,T_,B7,U_,N,L];unfold jn;rw[ja (eT C hy)];simp
def tU{f:Int->Int->Int}{a b:List Int}(h:a.length=b.length):jn f a b b.length=List.zipWith f a b:=by
 unfold jn;rw[w' (by simp[h]),List.drop_length,M_]
def Tj{l:List Int}(y:Int)(h:k<l.length):db (Pa l) (k*1) [.int .i64 y]=Pa (l.set k y):=by
 rw[X_,Qb (by rw[Cb];exact h)];unfold Pa;rw[B9]
structure KQ(q:Prop):Prop where o:q
def giW  (h:WL ro P N ops Q (l) O w):WL ro P N ops Q (l) O w:=h
def giC  (h:WC ro P N c Q O w):WC ro P N c Q O w:=h
def giN  (h:WL ro P N ops Q ([]) O w):WL ro P N ops Q ([]) O w:=h
variable {dd:Option Nat}
def giM  (h:WL ro P N ops Q (⟨dd,.move x,ty,pos,af,none⟩::rest) O w):WL ro P N ops Q (⟨dd,.move x,ty,pos,af,none⟩::rest) O w:=h
def giA  (h:WL ro P N ops Q (⟨dd,.assign x,ty,pos,af,none⟩::rest) O w):WL ro P N ops Q (⟨dd,.assign x,ty,pos,af,none⟩::rest) O w:=h
variable {g:Nat×Bool}
def giG  (h:WL ro P N ops Q (⟨dd,op,ty,pos,af,some g⟩::rest) O w):WL ro P N ops Q (⟨dd,op,ty,pos,af,some g⟩::rest) O w:=h
def giL  (h:WL ro P N ops Q (⟨dd,.load t x,ty,pos,af,none⟩::rest) O w):WL ro P N ops Q (⟨dd,.load t x,ty,pos,af,none⟩::rest) O w:=h
def giB{b:BinOp}(h:WL ro P N ops Q (⟨dd,.binOp b t x y u,ty,pos,af,none⟩::rest) O w):WL ro P N ops Q (⟨dd,.binOp b t x y u,ty,pos,af,none⟩::rest) O w:=h
def giD{X:Array (Nat×Operand)}(h:WL ro P N ops Q (⟨dd,.build t X,ty,pos,af,none⟩::rest) O w):WL ro P N ops Q (⟨dd,.build t X,ty,pos,af,none⟩::rest) O w:=h
def giX  (h:WL ro P N ops Q (⟨dd,.box t x,ty,pos,af,none⟩::rest) O w):WL ro P N ops Q (⟨dd,.box t x,ty,pos,af,none⟩::rest) O w:=h
def giS  (h:WL ro P N ops Q (⟨dd,.store t x y,ty,pos,af,none⟩::rest) O w):WL ro P N ops Q (⟨dd,.store t x y,ty,pos,af,none⟩::rest) O w:=h
def gl1{b:Nat}{f:TypeId}{v:Value}(I:Hp w0 H w)[S:pa P t n false by' zc](p:WL ro P N ops Q rest (jd O d v) w)(C:ev O x=.pointer (some ⟨b,o,none⟩):=by exact rfl)(hi:HE.blk b f cs fz∈H:=by repeat (first|exact I'|apply L'))(A:cs[o]?=some v:=by exact rfl)(L:d<N:=by decide):WL ro P N ops Q (⟨some d,.load t x,ty,pos,af,none⟩::rest) O w:=let⟨_,h⟩:=List.getElem?_of_mem hi;QV S.out C (I.se h A) L p
def glg{b:Nat}{f:TypeId}(I:Hp w0 H w)[S:pa P t n true by' zc](p:WL ro P N ops Q rest (jd O d (.agg vs.toArray)) w)(C:ev O x=.pointer (some ⟨b,o,none⟩):=by exact rfl)(hi:HE.blk b f cs fz∈H:=by repeat (first|exact I'|apply L'))(A:(cs.drop o).take n=vs:=by simp only[Y8,X7,H7,List.drop_succ_cons,U_,Nat.reduceAdd]<;>rfl)(a:vs.length=n:=by exact rfl)(L:d<N:=by decide):WL ro P N ops Q (⟨some d,.load t x,ty,pos,af,none⟩::rest) O w:=let⟨_,h⟩:=List.getElem?_of_mem hi;abD S.out C (I.Ra h A) a L p
def gbx{v:Value}(I:Hp w0 H w)(p:∀b V,Hp w0 (.blk b t cs (0,0)::H) V->WL ro P N ops Q rest (jd O d (.pointer (some ⟨b,0,none⟩))) V)(C:ev O x=v:=by first|exact Xb rfl|exact dp rfl|exact uD rfl|exact Wn rfl|exact Hd rfl|exact nJ rfl|exact xr rfl|exact ev_pnil rfl|exact ev_nilf rfl)(E:v.cells=cs.toArray:=by exact rfl)(L:d<N:=by decide):WL ro P N ops Q (⟨some d,.box t x,ty,pos,af,none⟩::rest) O w:=fT I C E L p
variable {H':List HE}
inductive vJ:List HE->HE->HE->List HE->Prop
 |here {x y:HE}{H:List HE}:vJ (x::H) x y (y::H)
 |there {x y z:HE}{H H':List HE} (h:vJ H x y H'):vJ (z::H) x y (z::H')
def vJ.at_{x y:HE}{H:List HE}(h:vJ H x y H'):∃i:Nat,H[i]?=some x/\H.set i y=H':=by
 induction h with
 |here=>exact⟨0,rfl,rfl⟩
 |there h W=>
  obtain⟨i,h1,h2⟩:=W;exact⟨i+1,h1,by rw[t_,h2]⟩
def gst{f:TypeId}{b:Nat}{j:List Value}{v:Value}(I:Hp w0 H w)[S:pa P t n ag by' zc](p:∀V,Hp w0 H' V->WL ro P N ops Q rest O V)(C:ev O x=.pointer (some ⟨b,o,none⟩):=by exact rfl)(hy:ev O y=v:=by first|exact Xb rfl|exact dp rfl|exact uD rfl|exact Wn rfl|exact Hd rfl|exact nJ rfl|exact xr rfl|exact ev_pnil rfl|exact ev_nilf rfl)(E:v.cells=vs.toArray:=by exact rfl)(hm:vJ H (.blk b f cs fz) (.blk b f j fz) H':=by repeat (first|exact .here|apply vJ.there))(K:db cs o vs=j:=by simp only[db,Y8,X7,H7,List.drop_succ_cons,F',C',T_,B7,U_,Nat.reduceAdd]<;>rfl)(a:vs.length=n:=by exact rfl)(W:o+n<=cs.length:=by simp)(h1:(vs.all Value.oneCell')=true:=by exact rfl):WL ro P N ops Q (⟨none,.store t x y,ty,pos,af,none⟩::rest) O w:=by
 subst K;obtain⟨i,h2,rfl⟩:=hm.at_;exact Tx I C h2 hy E S.out a W h1 p
def fa{p q:Prop}(kQ:q)(e:KQ q->p:=by intro kQ;(repeat (first|(refine giW ?_;first|(refine giM ?_;first|refine mI ?_|refine mL ?_|refine mS ?_|refine mB ?_|refine mG ?_|refine mT ?_|refine mP ?_|refine mF ?_|refine s_move (by first|exact xr rfl|exact ev_nilf rfl) V' ?_)|(refine giA ?_;first|refine aI ?_|refine aL ?_|refine aS ?_|refine aB ?_|refine aG ?_|refine aT ?_|refine aP ?_|refine aF ?_|refine s_assign (by first|exact xr rfl|exact ev_nilf rfl) V' ?_)|(refine giN ?_;first|refine na ?_|refine Zi ?_)|(refine giG ?_;first|refine gS ?_|refine gT ?_|refine gV ?_|refine wl_guard_skip0 rfl rfl V' ?_)|refine Bm ?_|(refine giL ?_;first|refine gl1 I ?_|refine glg I ?_|refine pj I 0 ?_|refine pj I 1 ?_|refine pj I 2 ?_|refine pj I 3 ?_|refine pj I 4 ?_|refine pj I 5 ?_|refine rk I 0 [_,_] ?_|refine rk I 0 [_,_,_] ?_|refine rk I 0 [_,_,_,_,_,_] ?_|refine rk I 1 [_,_] ?_|refine rk I 1 [_,_,_] ?_|refine rk I 1 [_,_,_,_,_,_] ?_|refine rk I 2 [_,_] ?_|refine rk I 2 [_,_,_] ?_|refine rk I 2 [_,_,_,_,_,_] ?_|refine rk I 3 [_,_] ?_|refine rk I 3 [_,_,_] ?_|refine rk I 3 [_,_,_,_,_,_] ?_|refine rk I 4 [_,_] ?_|refine rk I 4 [_,_,_] ?_|refine rk I 4 [_,_,_,_,_,_] ?_)|(refine giB ?_;first|refine Gi ?_|refine vy ?_|refine Wg ?_|refine Ct ?_|refine ZC ?_|refine afT ?_|refine Fu ?_|refine Ny ?_|refine mulC ?_|refine uW Qa.out rfl rfl V' ?_|refine aak rfl rfl Z' Z' Z' V' ?_|refine abo rfl rfl Z' Z' V' ?_|refine s_cat rfl rfl (by simp only[yg,Hc];omega) V' ?_)|refine xi ?_|refine Jv ?_|refine gP ?_|refine FH ?_|refine DC ?_|refine vH Qa.out pa.size rfl rfl rfl Z' V' ?_|refine PO Qa.out pa.size rfl rfl rfl Z' V' ?_|refine s_indexOff Qa.out pa.size rfl rfl rfl Z' V' ?_|refine LD Qa.out pa.size rfl rfl Z' Z' V' ?_|refine yD Qa.out rfl rfl Z' (by assumption) V' ?_|(refine giD ?_;first|refine Ez [_] ?_|refine Ez [_,_] ?_|refine Ez [_,_,_] ?_|refine Ez [_,_,_,_] ?_|refine Ez [_,_,_,_,_] ?_|refine Ez [_,_,_,_,_,_] ?_|refine Ez [_,_,_,_,_,_,_] ?_|refine Ez [_,_,_,_,_,_,_,_] ?_|refine Ez [_,_,_,_,_,_,_,_,_] ?_|refine Ez [_,_,_,_,_,_,_,_,_,_] ?_|refine Ez [_,_,_,_,_,_,_,_,_,_,_] ?_|refine Ez [_,_,_,_,_,_,_,_,_,_,_,_] ?_)|refine oI rfl V' ?_|refine VO Qa.out rfl V' ?_|refine ab3 rfl Z' Z' V' ?_|refine pC Bd.out rfl V' ?_|refine pJ Qa.out Qa.out rfl Z' Z' V' ?_|refine SI Qa.out Qa.out rfl V' ?_|refine cS Bd.out pa.out rfl rfl V' ?_|refine TX Bd.out pa.out rfl rfl V' ?_|refine adv rfl rfl V' ?_|refine adm rfl rfl V' ?_)|(refine giC ?_;first|refine Hb ?_|refine xa ?_|refine cT ?_|refine cF ?_|refine Fb ?_|refine Gj ?_|refine Xh ?_|refine td ?_|refine MU ?_|refine FU ?_)|refine Za ?_|refine Ut ?_|refine Ie ?_|refine Ep ?_|refine OP ?_|refine Ej ?_|refine abc V' ?_|refine sc_norm ?_|refine abX ?_|refine sc_exit ?_|refine qa1 ?_|refine qa2 ?_|refine qa3 ?_));exact kQ.o):p:=e ⟨kQ⟩
def ggb{p q:Prop}(kQ:q)(e:KQ q->p:=by intro kQ;(first|(refine dv I ?_;intro b_ w_ I;revert b_ w_ I)|(refine giX ?_;(first|refine gbx I ?_|refine jC I [_] ?_|refine jC I [_,_] ?_|refine jC I [_,_,_] ?_|refine jC I [_,_,_,_] ?_|refine jC I [_,_,_,_,_] ?_|refine jC I [_,_,_,_,_,_] ?_|refine jC I [_,_,_,_,_,_,_] ?_|refine jC I [_,_,_,_,_,_,_,_] ?_);intro b_ w_ I;revert b_ w_ I)|(refine giS ?_;first|(refine gst I ?_;intro w_ I;revert w_ I)|((first|refine Ze I 0 [_] ?_|refine Ze I 0 [_,_] ?_|refine Ze I 0 [_,_,_] ?_|refine Ze I 0 [_,_,_,_] ?_|refine Ze I 0 [_,_,_,_,_] ?_|refine Ze I 0 [_,_,_,_,_,_] ?_|refine Ze I 0 [_,_,_,_,_,_,_] ?_);intro w_ I;(first|replace I:Hp _ (.blk _ _ [_] _::_) _:=I|replace I:Hp _ (.blk _ _ [_,_] _::_) _:=I|replace I:Hp _ (.blk _ _ [_,_,_] _::_) _:=I|replace I:Hp _ (.blk _ _ [_,_,_,_] _::_) _:=I|replace I:Hp _ (.blk _ _ [_,_,_,_,_] _::_) _:=I|replace I:Hp _ (.blk _ _ [_,_,_,_,_,_] _::_) _:=I|replace I:Hp _ (.blk _ _ [_,_,_,_,_,_,_] _::_) _:=I|replace I:Hp _ (.blk _ _ [_,_,_,_,_,_,_,_] _::_) _:=I|replace I:Hp _ (.blk _ _ [_,_,_,_,_,_,_,_,_] _::_) _:=I|replace I:Hp _ (.blk _ _ [_,_,_,_,_,_,_,_,_,_] _::_) _:=I|replace I:Hp _ (.blk _ _ [_,_,_,_,_,_,_,_,_,_,_] _::_) _:=I|replace I:Hp _ (.blk _ _ [_,_,_,_,_,_,_,_,_,_,_,_] _::_) _:=I|replace I:Hp _ (.blk _ _ [_,_,_,_,_,_,_,_,_,_,_,_,_] _::_) _:=I|replace I:Hp _ (.blk _ _ [_,_,_,_,_,_,_,_,_,_,_,_,_,_] _::_) _:=I);revert w_ I)|((first|refine Ze I 1 [_] ?_|refine Ze I 1 [_,_] ?_|refine Ze I 1 [_,_,_] ?_|refine Ze I 1 [_,_,_,_] ?_|refine Ze I 1 [_,_,_,_,_] ?_|refine Ze I 1 [_,_,_,_,_,_] ?_|refine Ze I 1 [_,_,_,_,_,_,_] ?_);intro w_ I;(first|replace I:Hp _ (_::.blk _ _ [_] _::_) _:=I|replace I:Hp _ (_::.blk _ _ [_,_] _::_) _:=I|replace I:Hp _ (_::.blk _ _ [_,_,_] _::_) _:=I|replace I:Hp _ (_::.blk _ _ [_,_,_,_] _::_) _:=I|replace I:Hp _ (_::.blk _ _ [_,_,_,_,_] _::_) _:=I|replace I:Hp _ (_::.blk _ _ [_,_,_,_,_,_] _::_) _:=I|replace I:Hp _ (_::.blk _ _ [_,_,_,_,_,_,_] _::_) _:=I|replace I:Hp _ (_::.blk _ _ [_,_,_,_,_,_,_,_] _::_) _:=I|replace I:Hp _ (_::.blk _ _ [_,_,_,_,_,_,_,_,_] _::_) _:=I|replace I:Hp _ (_::.blk _ _ [_,_,_,_,_,_,_,_,_,_] _::_) _:=I|replace I:Hp _ (_::.blk _ _ [_,_,_,_,_,_,_,_,_,_,_] _::_) _:=I|replace I:Hp _ (_::.blk _ _ [_,_,_,_,_,_,_,_,_,_,_,_] _::_) _:=I|replace I:Hp _ (_::.blk _ _ [_,_,_,_,_,_,_,_,_,_,_,_,_] _::_) _:=I|replace I:Hp _ (_::.blk _ _ [_,_,_,_,_,_,_,_,_,_,_,_,_,_] _::_) _:=I);revert w_ I)|((first|refine Ze I 2 [_] ?_|refine Ze I 2 [_,_] ?_|refine Ze I 2 [_,_,_] ?_|refine Ze I 2 [_,_,_,_] ?_|refine Ze I 2 [_,_,_,_,_] ?_|refine Ze I 2 [_,_,_,_,_,_] ?_|refine Ze I 2 [_,_,_,_,_,_,_] ?_);intro w_ I;(first|replace I:Hp _ (_::_::.blk _ _ [_] _::_) _:=I|replace I:Hp _ (_::_::.blk _ _ [_,_] _::_) _:=I|replace I:Hp _ (_::_::.blk _ _ [_,_,_] _::_) _:=I|replace I:Hp _ (_::_::.blk _ _ [_,_,_,_] _::_) _:=I|replace I:Hp _ (_::_::.blk _ _ [_,_,_,_,_] _::_) _:=I|replace I:Hp _ (_::_::.blk _ _ [_,_,_,_,_,_] _::_) _:=I|replace I:Hp _ (_::_::.blk _ _ [_,_,_,_,_,_,_] _::_) _:=I|replace I:Hp _ (_::_::.blk _ _ [_,_,_,_,_,_,_,_] _::_) _:=I|replace I:Hp _ (_::_::.blk _ _ [_,_,_,_,_,_,_,_,_] _::_) _:=I|replace I:Hp _ (_::_::.blk _ _ [_,_,_,_,_,_,_,_,_,_] _::_) _:=I|replace I:Hp _ (_::_::.blk _ _ [_,_,_,_,_,_,_,_,_,_,_] _::_) _:=I|replace I:Hp _ (_::_::.blk _ _ [_,_,_,_,_,_,_,_,_,_,_,_] _::_) _:=I|replace I:Hp _ (_::_::.blk _ _ [_,_,_,_,_,_,_,_,_,_,_,_,_] _::_) _:=I|replace I:Hp _ (_::_::.blk _ _ [_,_,_,_,_,_,_,_,_,_,_,_,_,_] _::_) _:=I);revert w_ I)|((first|refine Ze I 3 [_] ?_|refine Ze I 3 [_,_] ?_|refine Ze I 3 [_,_,_] ?_|refine Ze I 3 [_,_,_,_] ?_|refine Ze I 3 [_,_,_,_,_] ?_|refine Ze I 3 [_,_,_,_,_,_] ?_|refine Ze I 3 [_,_,_,_,_,_,_] ?_);intro w_ I;(first|replace I:Hp _ (_::_::_::.blk _ _ [_] _::_) _:=I|replace I:Hp _ (_::_::_::.blk _ _ [_,_] _::_) _:=I|replace I:Hp _ (_::_::_::.blk _ _ [_,_,_] _::_) _:=I|replace I:Hp _ (_::_::_::.blk _ _ [_,_,_,_] _::_) _:=I|replace I:Hp _ (_::_::_::.blk _ _ [_,_,_,_,_] _::_) _:=I|replace I:Hp _ (_::_::_::.blk _ _ [_,_,_,_,_,_] _::_) _:=I|replace I:Hp _ (_::_::_::.blk _ _ [_,_,_,_,_,_,_] _::_) _:=I|replace I:Hp _ (_::_::_::.blk _ _ [_,_,_,_,_,_,_,_] _::_) _:=I|replace I:Hp _ (_::_::_::.blk _ _ [_,_,_,_,_,_,_,_,_] _::_) _:=I|replace I:Hp _ (_::_::_::.blk _ _ [_,_,_,_,_,_,_,_,_,_] _::_) _:=I|replace I:Hp _ (_::_::_::.blk _ _ [_,_,_,_,_,_,_,_,_,_,_] _::_) _:=I|replace I:Hp _ (_::_::_::.blk _ _ [_,_,_,_,_,_,_,_,_,_,_,_] _::_) _:=I|replace I:Hp _ (_::_::_::.blk _ _ [_,_,_,_,_,_,_,_,_,_,_,_,_] _::_) _:=I|replace I:Hp _ (_::_::_::.blk _ _ [_,_,_,_,_,_,_,_,_,_,_,_,_,_] _::_) _:=I);revert w_ I)|((first|refine Ze I 4 [_] ?_|refine Ze I 4 [_,_] ?_|refine Ze I 4 [_,_,_] ?_|refine Ze I 4 [_,_,_,_] ?_|refine Ze I 4 [_,_,_,_,_] ?_|refine Ze I 4 [_,_,_,_,_,_] ?_|refine Ze I 4 [_,_,_,_,_,_,_] ?_);intro w_ I;(first|replace I:Hp _ (_::_::_::_::.blk _ _ [_] _::_) _:=I|replace I:Hp _ (_::_::_::_::.blk _ _ [_,_] _::_) _:=I|replace I:Hp _ (_::_::_::_::.blk _ _ [_,_,_] _::_) _:=I|replace I:Hp _ (_::_::_::_::.blk _ _ [_,_,_,_] _::_) _:=I|replace I:Hp _ (_::_::_::_::.blk _ _ [_,_,_,_,_] _::_) _:=I|replace I:Hp _ (_::_::_::_::.blk _ _ [_,_,_,_,_,_] _::_) _:=I|replace I:Hp _ (_::_::_::_::.blk _ _ [_,_,_,_,_,_,_] _::_) _:=I|replace I:Hp _ (_::_::_::_::.blk _ _ [_,_,_,_,_,_,_,_] _::_) _:=I|replace I:Hp _ (_::_::_::_::.blk _ _ [_,_,_,_,_,_,_,_,_] _::_) _:=I|replace I:Hp _ (_::_::_::_::.blk _ _ [_,_,_,_,_,_,_,_,_,_] _::_) _:=I|replace I:Hp _ (_::_::_::_::.blk _ _ [_,_,_,_,_,_,_,_,_,_,_] _::_) _:=I|replace I:Hp _ (_::_::_::_::.blk _ _ [_,_,_,_,_,_,_,_,_,_,_,_] _::_) _:=I|replace I:Hp _ (_::_::_::_::.blk _ _ [_,_,_,_,_,_,_,_,_,_,_,_,_] _::_) _:=I|replace I:Hp _ (_::_::_::_::.blk _ _ [_,_,_,_,_,_,_,_,_,_,_,_,_,_] _::_) _:=I);revert w_ I)|((first|refine Ze I 5 [_] ?_|refine Ze I 5 [_,_] ?_|refine Ze I 5 [_,_,_] ?_|refine Ze I 5 [_,_,_,_] ?_|refine Ze I 5 [_,_,_,_,_] ?_|refine Ze I 5 [_,_,_,_,_,_] ?_|refine Ze I 5 [_,_,_,_,_,_,_] ?_);intro w_ I;(first|replace I:Hp _ (_::_::_::_::_::.blk _ _ [_] _::_) _:=I|replace I:Hp _ (_::_::_::_::_::.blk _ _ [_,_] _::_) _:=I|replace I:Hp _ (_::_::_::_::_::.blk _ _ [_,_,_] _::_) _:=I|replace I:Hp _ (_::_::_::_::_::.blk _ _ [_,_,_,_] _::_) _:=I|replace I:Hp _ (_::_::_::_::_::.blk _ _ [_,_,_,_,_] _::_) _:=I|replace I:Hp _ (_::_::_::_::_::.blk _ _ [_,_,_,_,_,_] _::_) _:=I|replace I:Hp _ (_::_::_::_::_::.blk _ _ [_,_,_,_,_,_,_] _::_) _:=I|replace I:Hp _ (_::_::_::_::_::.blk _ _ [_,_,_,_,_,_,_,_] _::_) _:=I|replace I:Hp _ (_::_::_::_::_::.blk _ _ [_,_,_,_,_,_,_,_,_] _::_) _:=I|replace I:Hp _ (_::_::_::_::_::.blk _ _ [_,_,_,_,_,_,_,_,_,_] _::_) _:=I|replace I:Hp _ (_::_::_::_::_::.blk _ _ [_,_,_,_,_,_,_,_,_,_,_] _::_) _:=I|replace I:Hp _ (_::_::_::_::_::.blk _ _ [_,_,_,_,_,_,_,_,_,_,_,_] _::_) _:=I|replace I:Hp _ (_::_::_::_::_::.blk _ _ [_,_,_,_,_,_,_,_,_,_,_,_,_] _::_) _:=I|replace I:Hp _ (_::_::_::_::_::.blk _ _ [_,_,_,_,_,_,_,_,_,_,_,_,_,_] _::_) _:=I);revert w_ I)|((first|refine Ze I 6 [_] ?_|refine Ze I 6 [_,_] ?_|refine Ze I 6 [_,_,_] ?_|refine Ze I 6 [_,_,_,_] ?_|refine Ze I 6 [_,_,_,_,_] ?_|refine Ze I 6 [_,_,_,_,_,_] ?_|refine Ze I 6 [_,_,_,_,_,_,_] ?_);intro w_ I;(first|replace I:Hp _ (_::_::_::_::_::_::.blk _ _ [_] _::_) _:=I|replace I:Hp _ (_::_::_::_::_::_::.blk _ _ [_,_] _::_) _:=I|replace I:Hp _ (_::_::_::_::_::_::.blk _ _ [_,_,_] _::_) _:=I|replace I:Hp _ (_::_::_::_::_::_::.blk _ _ [_,_,_,_] _::_) _:=I|replace I:Hp _ (_::_::_::_::_::_::.blk _ _ [_,_,_,_,_] _::_) _:=I|replace I:Hp _ (_::_::_::_::_::_::.blk _ _ [_,_,_,_,_,_] _::_) _:=I|replace I:Hp _ (_::_::_::_::_::_::.blk _ _ [_,_,_,_,_,_,_] _::_) _:=I|replace I:Hp _ (_::_::_::_::_::_::.blk _ _ [_,_,_,_,_,_,_,_] _::_) _:=I|replace I:Hp _ (_::_::_::_::_::_::.blk _ _ [_,_,_,_,_,_,_,_,_] _::_) _:=I|replace I:Hp _ (_::_::_::_::_::_::.blk _ _ [_,_,_,_,_,_,_,_,_,_] _::_) _:=I|replace I:Hp _ (_::_::_::_::_::_::.blk _ _ [_,_,_,_,_,_,_,_,_,_,_] _::_) _:=I|replace I:Hp _ (_::_::_::_::_::_::.blk _ _ [_,_,_,_,_,_,_,_,_,_,_,_] _::_) _:=I|replace I:Hp _ (_::_::_::_::_::_::.blk _ _ [_,_,_,_,_,_,_,_,_,_,_,_,_] _::_) _:=I|replace I:Hp _ (_::_::_::_::_::_::.blk _ _ [_,_,_,_,_,_,_,_,_,_,_,_,_,_] _::_) _:=I);revert w_ I)));exact kQ.o):p:=e ⟨kQ⟩
def Bb{p q:Prop}(kQ:q)(e:KQ q->p:=by intro kQ;refine fa ?_;refine ggb ?_;(first|(intro b_ w_ I;refine fa ?_;revert b_ w_ I)|(intro w_ I;refine fa ?_;revert w_ I));exact kQ.o):p:=e ⟨kQ⟩
def yb{p q:Prop}(kQ:q)(e:KQ q->p:=by intro kQ;refine fa ?_;refine ggb ?_;(first|(intro b_ w_ I;refine Bb ?_;revert b_ w_ I)|(intro w_ I;refine Bb ?_;revert w_ I));exact kQ.o):p:=e ⟨kQ⟩
def Am{p q:Prop}(kQ:q)(e:KQ q->p:=by intro kQ;refine fa ?_;refine ggb ?_;(first|(intro b_ w_ I;refine yb ?_;revert b_ w_ I)|(intro w_ I;refine yb ?_;revert w_ I));exact kQ.o):p:=e ⟨kQ⟩
def WU{p q:Prop}(kQ:q)(e:KQ q->p:=by intro kQ;refine fa ?_;refine ggb ?_;(first|(intro b_ w_ I;refine Am ?_;revert b_ w_ I)|(intro w_ I;refine Am ?_;revert w_ I));exact kQ.o):p:=e ⟨kQ⟩
def dk{f:FuncId}{ts:Array TypeId}{v:Value}(E:(callFunc f vs.toArray).run P w=.ok (.value v) w)(M:Qs O args.toList=vs)(L:d<N)(p:WL .plain P N ops Q rest (jd O d v) w):
  WL .plain P N ops Q (⟨some d,.call ⟨.value (.func f),args,ts⟩,ty,pos,af,none⟩::rest) O w:=by
 have H:(execOp (ev O) ⟨some d,.call ⟨.value (.func f),args,ts⟩,ty,pos,af,none⟩).run P w=.ok (.value v) w:=(by have C:ev O (.func f)=.func (.func f) #[] #[]:=rfl;simp only[execOp,resolve,Deferred.ofValue,C,invoke,Qq args M];simpa using E);exact ub rfl rfl L H p
def fj(x y c:Nat)(E:c<=1)(w:World):(callFunc 310 #[.int .u64 x,.int .u64 y,.int .u64 c]).run prog w=
   .ok (.value (.tuple #[.int .u64 (((x+y+c) % 18446744073709551616:Nat):Int),.int .u64 (((x+y+c)/18446744073709551616:Nat):Int)])) w:=by
 rw[run_callFunc_extern func310 U' U' U' (e:=add64Entry) U',run_add64 x y c Z' Z' Z' Z'];simp only[Result.andThen];congr 5<;>omega
def tR:Array Value->Sem Value:=λargs=>do
 let(x,y,b) <-Extern.MathBitsCarry.three "Sub64" args
 pure (Extern.MathBitsCarry.pair ((x+Extern.MathBitsCarry.m64-y-b) % Extern.MathBitsCarry.m64) (if x<y+b then 1 else 0))
def MI(x y b:Nat)(F:b<=1)(w:World):(tR #[.int .u64 x,.int .u64 y,.int .u64 b]).run P w=
   .ok (.tuple #[.int .u64 (((x+18446744073709551616-y-b) % 18446744073709551616:Nat):Int),.int .u64 ((if x<y+b then 1 else 0:Nat):Int)]) w:=by
 have:b=0\/b=1:=Z';obtain rfl|rfl:=this<;>rfl
def Hz(x y b:Nat)(F:b<=1)(w:World):(callFunc 311 #[.int .u64 x,.int .u64 y,.int .u64 b]).run prog w=
   .ok (.value (.tuple #[.int .u64 (((x+18446744073709551616-y-b) % 18446744073709551616:Nat):Int),.int .u64 ((if x<y+b then 1 else 0:Nat):Int)])) w:=by
 rw[run_callFunc_extern func311 U' U' U' (e:=tR) U',MI x y b F];rfl
def iu(x y:Nat)(w)(C:x<18446744073709551616)(hy:y<18446744073709551616):Zc 316 #[.int .u64 (x:Int),.int .u64 (y:Int)] w (.tuple #[.int .u64 ((x*y/18446744073709551616:Nat):Int),.int .u64 ((x*y % 18446744073709551616:Nat):Int)]):=by
 refine Ca func316 ?_;refine fa ?_;refine BU ?_;refine fa ?_;refine WS ?_;refine HA ?_;refine fa ?_;refine sv (Lg rfl rfl) ?_;refine fa ?_;refine sv (Lg rfl rfl) ?_;refine mI ?_;refine HA ?_;refine sv (Cf rfl rfl) ?_;refine fa ?_;refine BU ?_;refine fa ?_;refine HA ?_;refine fa ?_;refine sv (Lg rfl rfl) ?_;refine sv (Cf rfl rfl) ?_;refine fa ?_;refine sv (Lg rfl rfl) ?_;refine mI ?_;refine sv (Cf rfl rfl) ?_;refine mI ?_;refine HA ?_;refine sv (Cf rfl rfl) ?_;refine fa ?_;refine sv (Lg rfl rfl) ?_;refine fa ?_;obtain⟨X,p,c,f⟩:=Lib.mul64_hi x y C hy;have i:=Lib.half_mul_le (a:=x/4294967296) (b:=y/4294967296) Z' Z';have l:=Lib.half_mul_le (a:=x/4294967296) (b:=y % 4294967296) Z' Z';have d:=Lib.half_mul_le (a:=x % 4294967296) (b:=y/4294967296) Z' Z';have em:∀z:Nat,z &&& 4294967295=z % 4294967296:=λz=>Nat.and_two_pow_sub_one_eq_mod z 32;simp only[em];have F:x*y/18446744073709551616<18446744073709551616:=(by rw[N9 Z'];exact G6 C hy);refine⟨?_,Below.refl _ _⟩;congr 5;rw[E_ X,E_ (show x/4294967296*(y % 4294967296)<18446744073709551616 by omega),E_ p,E_ (show x % 4294967296*(y/4294967296)<18446744073709551616 by omega),E_ c,E_ (show x/4294967296*(y/4294967296)<18446744073709551616 by omega)];have key:∀A T V:Nat,A+T+V<18446744073709551616->((A+T) % 18446744073709551616+V) % 18446744073709551616=A+T+V:=by intro A T V h;omega
 rw[<-f] at F |-;exact Y_ Nat.cast (key _ _ _ F)
def dh{x:Nat}(hm:2^k=m)(h:m<=x):Ea x=k+Ea (x/m):=by
 subst hm;have J:x/2^k≠0:=(by have:=(Nat.div_pos_iff (a:=x) (b:=2^k)).2 ⟨N_ Z',h⟩;omega);have h1:=Ab (x/2^k);have h2:=bB J;have G:=cn J;have z:=T9 x (2^k);have P:=Q_ x (N_ (n:=k) (show 0<2 by omega));apply rC
 .rw[R_];have:2^k*(x/2^k+1)<=2^k*2^Ea (x/2^k):=D_ _ h1;rw[o9] at this;omega
 have e:k+Ea (x/2^k)-1=k+(Ea (x/2^k)-1):=Z';rw[e,R_];have:2^k*2^(Ea (x/2^k)-1)<=2^k*(x/2^k):=D_ _ h2;omega
def Qj{T:ByteArray}(S:T.data.toList=(List.range 256).map λn=>UInt8.ofNat (Ea n))(h:n<256):∃c:UInt8,T.data.toList[n]?=some c/\c.toNat=Ea n/\Ea n<=8:=by
 have F:Ea n<=8:=Zb Z';refine⟨UInt8.ofNat (Ea n), ?_, ?_,F⟩
 .rw[S,z',f_ h];rfl
 rw[p6];omega
def kE(x:Nat)(w)(C:x<18446744073709551616):Zc 319 #[.int .u64 (x:Int)] w (.int .i64 (Ea x)):=by
 refine Ca func319 ?_;by_cases o:4294967296<=x
 .have:=dh (x:=x) (k:=32) (m:=4294967296) rfl o;refine sr (aI (na (xa (sr (mI ?_)))));refine Ny (na (cT (sr (mI ?_))));refine HA ?_;refine aI (na (Hb (aI (na (xa (sr (mI ?_)))))));by_cases g:65536<=(x/4294967296)
  .have:=dh (x:=(x/4294967296)) (k:=16) (m:=65536) rfl g;refine EZ ?_;by_cases a:256<=((x/4294967296)/65536)
   .have:=dh (x:=((x/4294967296)/65536)) (k:=8) (m:=256) rfl a;refine SV ?_;obtain⟨B,b,z,L⟩:=Qj (T:=_) U' (n:=(((x/4294967296)/65536)/256)) Z';exact nE
   refine FK ?_;obtain⟨B,b,z,L⟩:=Qj (T:=_) U' (n:=(((x/4294967296)/65536))) Z';exact nE
  refine Ny (na (cF (Fb (Za (xa (sr (mI ?_)))))));by_cases a:256<=((x/4294967296))
  .have:=dh (x:=((x/4294967296))) (k:=8) (m:=256) rfl a;refine SV ?_;obtain⟨B,b,z,L⟩:=Qj (T:=_) U' (n:=(((x/4294967296))/256)) Z';exact nE
  refine FK ?_;obtain⟨B,b,z,L⟩:=Qj (T:=_) U' (n:=(((x/4294967296)))) Z';exact nE
 refine sr (aI (na (xa (sr (mI ?_)))));refine Ny (na (cF (Fb (Za (xa (sr (mI ?_)))))));by_cases g:65536<=(x)
 .have:=dh (x:=(x)) (k:=16) (m:=65536) rfl g;refine EZ ?_;by_cases a:256<=((x)/65536)
  .have:=dh (x:=((x)/65536)) (k:=8) (m:=256) rfl a;refine SV ?_;obtain⟨B,b,z,L⟩:=Qj (T:=_) U' (n:=(((x)/65536)/256)) Z';exact nE
  refine FK ?_;obtain⟨B,b,z,L⟩:=Qj (T:=_) U' (n:=(((x)/65536))) Z';exact nE
 refine Ny (na (cF (Fb (Za (xa (sr (mI ?_)))))));by_cases a:256<=((x))
 .have:=dh (x:=((x))) (k:=8) (m:=256) rfl a;refine SV ?_;obtain⟨B,b,z,L⟩:=Qj (T:=_) U' (n:=(((x))/256)) Z';exact nE
 refine FK ?_;obtain⟨B,b,z,L⟩:=Qj (T:=_) U' (n:=(((x)))) Z';exact nE
def Sp(x:Nat)(w)(C:x<18446744073709551616):Zc 303 #[.int .u64 (x:Int)] w (.int .i64 (64-(Ea x:Int))):=by
 have I:=Hp.start w;have F:Ea x<=64:=Zb (by simpa using C);refine Ca func303 ?_;refine fa ?_;refine cd I (kE _ _ C) ?_;intro y I;refine fa ?_;exact⟨rfl,I.below⟩
def tz(n:Nat):Nat:=Int.trailingZeros (n:Int)
def rL(k m:Nat):tz (2^k*(2*m+1))=k:=by
 have h:=Int.trailingZeros_shiftLeft (x:=2*(m:Int)+1) Z' k;rw[Int.trailingZeros_two_mul_add_one,Int.shiftLeft_eq] at h;unfold tz;have e:((2^k*(2*m+1):Nat):Int)=(2*(m:Int)+1)*2^k:=(by rw[F9,q6,M6];rfl);rw[e];have L:(((2^k:Nat)):Int)=2^k:=by simp
 rw[<-L] at h |-;simpa using h
def Mu(h:n≠0):∃m,n=2^tz n*(2*m+1):=by
 have:∀b n:Nat,n<=b->n≠0->∃k m,n=2^k*(2*m+1):=by
  intro b
  induction b with
  |zero=>intro n h1 h2;omega
  |succ b W=>
   intro n h1 h2;obtain h|h:=Nat.mod_two_eq_zero_or_one n
   .obtain⟨k,m,u⟩:=W (n/2) Z' Z';exact⟨k+1,m,by rw[B_,V_ (2^k),Z9,<-u];omega⟩
   exact⟨0,n/2,Z'⟩
 obtain⟨k,m,u⟩:=this n n (E' _) h;exact⟨m,by rw[u,rL]⟩
def cz(h:n≠0)(B:n<2^k):tz n<k:=by
 obtain⟨m,hm⟩:=Mu h;obtain h1|h1:=o_ (tz n) k
 .exact h1
 have h2:2^k<=2^tz n:=J_ Z' h1;have G:2^tz n*1<=2^tz n*(2*m+1):=D_ _ Z';omega
def aE(m p j:Nat)(h:m+p+1=2^j):(2*m+1) &&& (2*p+1)=1:=by
 apply Nat.eq_of_testBit_eq;intro i;rw[Nat.testBit_and]
 cases i with
 |zero=>simp
 |succ i=>
  rw[Nat.testBit_succ,Nat.testBit_succ,Nat.testBit_succ];have N:(2*m+1)/2=m:=Z';have L:(2*p+1)/2=p:=Z';have X:p=2^j-(m+1):=Z';rw[N,L,X,Nat.testBit_two_pow_sub_succ Z']
  cases hi:m.testBit i<;>simp
def XW{x:Nat}(C:x=2^k*(2*m+1))(D:x<18446744073709551616):x &&& (18446744073709551616-x) % 18446744073709551616=2^k:=by
 have g:(18446744073709551616:Nat)=2^64:=by decide
 have u:k<64:=(by have:=cz (n:=x) (k:=64) (by rw[C];exact Nat.mul_ne_zero (Nat.pos_iff_ne_zero.1 (N_ Z')) Z') (by rw[<-g];exact D);rwa[C,rL] at this);have hp:(18446744073709551616:Nat)=2^k*(2*2^(63-k)):=by rw[g,<-Nat.pow_succ',<-R_];congr 1;omega
 have hm:m<2^(63-k):=(by rw[C,hp] at D;have:=Nat.lt_of_mul_lt_mul_left D;omega);have e:(18446744073709551616-x) % 18446744073709551616=2^k*(2*(2^(63-k)-(m+1))+1):=(by have h1:2*(2^(63-k)-(m+1))+1=2*2^(63-k)-(2*m+1):=Z';rw[h1,Nat.mul_sub,<-hp,<-C,E_];have:0<2^k*(2*m+1):=Q7 (N_ Z') Z';omega);rw[e,C];have h2:=aE m (2^(63-k)-(m+1)) (63-k) Z';have G:=Y_ (· <<<k) h2;rw[Nat.shiftLeft_and_distrib] at G;simp only[Nat.shiftLeft_eq,C8] at G;rw[V_ (2^k),V_ (2^k)];exact G
def KH:List Nat:=[0,1,56,2,57,49,28,3,61,58,42,50,38,29,17,4,62,47,59,36,45,43,51,22,53,39,33,30,24,18,12,5,63,55,48,27,60,41,37,16,46,35,44,21,52,32,23,11,54,26,40,15,34,20,31,10,25,14,19,9,13,8,7,6]
def Gc(w:World):Prop:=Rd w ⟨0,0,none⟩ (ig KH)
def Gc.ext{V:World}(h:Gc w)(F:Below w.heap.size w V):Gc V:=Rd.ext h F
def Gc.hp{V:World}{H:List HE}(h:Gc w)(I:Hp w H V):Gc V:=Rd.ext h I.below
def abw:∀k:Fin 64,KH[2^k.val*285870213051353865 % 18446744073709551616/288230376151711744]?=some k.val/\2^k.val*285870213051353865 % 18446744073709551616/288230376151711744<64:=by decide+kernel
def rI(x:Nat)(w)(C:x<18446744073709551616)(J:x≠0)(S:Gc w):Zc 252 #[.int .u64 (x:Int)] w (.int .i64 (tz x)):=by
 have I:=Hp.start w;obtain⟨m,hm⟩:=Mu J;have u:tz x<64:=cz J (by simpa using C);have M:=XW hm C;obtain⟨t1,t2⟩:=abw ⟨tz x,u⟩;simp only at t1 t2;have E:=(show Rd w _ _ from S).Yr (Qm t1);refine Ca func252 ?_;refine fa ?_;refine sv (jT rfl (by first|assumption|omega)) ?_;refine sv (jH rfl rfl C (Q_ _ V')) ?_;rw[M];skip;refine sv (Lg (b:=285870213051353865) rfl rfl) ?_;refine sv (ao (s:=58) (m:=288230376151711744) rfl rfl V' V') ?_;refine sv (XH Qa.out pa.size rfl rfl rfl Z') ?_;refine sv (Ba pa.out rfl (E)) ?_;refine fa ?_;exact⟨rfl,I.below⟩
end Go.Proofs.YtbencocchdpikaaGreatDoor
