/- Lemmas for bernValues, part 1. -/
import Derived.KernelRfl
import Derived.Test.YtolamocnngihpaaGreatDoorRows
import Derived.WalkKit
import Derived.ProofKit
import Derived.OpenShut
import Derived.Carry
namespace Go.Proofs.YtolamocnngihpaaGreatDoor
open Go.ChangeShapes Go.WideShapes Go.ChangeAt Go.RowKit
theorem Xo:type_of% @if_pos:=@if_pos
theorem Xp:type_of% @if_neg:=@if_neg
theorem Xq:type_of% @List.Sublist.cons_cons:=@List.Sublist.cons_cons
theorem Xr:type_of% @Nat.le_refl:=@Nat.le_refl
theorem Xs:type_of% @Nat.zero_le:=@Nat.zero_le
theorem Xt:type_of% @List.mem_of_getElem?:=@List.mem_of_getElem?
theorem Xu:type_of% @List.nil_append:=@List.nil_append
theorem Xv:type_of% @List.Sublist.cons:=@List.Sublist.cons
theorem Xw:type_of% @List.cons_append:=@List.cons_append
theorem Xx:type_of% @List.getElem?_map:=@List.getElem?_map
theorem Xy:type_of% @List.length_append:=@List.length_append
theorem Xz:type_of% @List.take_of_length_le:=@List.take_of_length_le
theorem XA:type_of% @List.length_map:=@List.length_map
theorem XB:type_of% @List.mem_cons_self:=@List.mem_cons_self
theorem XC:type_of% @List.set_cons_zero:=@List.set_cons_zero
theorem XD:type_of% @List.mem_cons_of_mem:=@List.mem_cons_of_mem
theorem XE:type_of% @List.getElem?_eq_some_iff:=@List.getElem?_eq_some_iff
theorem XF:type_of% @Bool.and_eq_true:=@Bool.and_eq_true
theorem XG:type_of% @List.mem_map:=@List.mem_map
theorem XH:type_of% @decide_eq_true:=@decide_eq_true
theorem XI:type_of% @List.all_eq_true:=@List.all_eq_true
theorem XJ:type_of% @Nat.zero_add:=@Nat.zero_add
theorem XK:type_of% @Nat.mul_one:=@Nat.mul_one
theorem XL:type_of% @List.mem_cons:=@List.mem_cons
theorem XM:type_of% @decide_eq_false:=@decide_eq_false
theorem XN:type_of% @decide_eq_true_eq:=@decide_eq_true_eq
theorem XO:type_of% @List.mem_singleton:=@List.mem_singleton
theorem XP:type_of% @List.length_take:=@List.length_take
theorem XQ:type_of% @List.map_cons:=@List.map_cons
theorem XR:type_of% @List.length_cons:=@List.length_cons
theorem XS:type_of% @Nat.pow_add:=@Nat.pow_add
theorem XT:type_of% @List.mem_range:=@List.mem_range
theorem XU:type_of% @List.Sublist.slnil:=@List.Sublist.slnil
theorem XV:type_of% @Nat.le_trans:=@Nat.le_trans
theorem XW:type_of% @Nat.mod_lt:=@Nat.mod_lt
theorem XX:type_of% @List.perm_middle:=@List.perm_middle
theorem XY:type_of% @Nat.mul_comm:=@Nat.mul_comm
theorem XZ:type_of% @List.append_nil:=@List.append_nil
theorem X1:type_of% @List.getElem?_eq_none:=@List.getElem?_eq_none
theorem X2:type_of% @Bool.false_or:=@Bool.false_or
theorem X3:type_of% @List.mem_append:=@List.mem_append
theorem X4:type_of% @Nat.mul_le_mul_left:=@Nat.mul_le_mul_left
theorem X5:type_of% @Nat.mod_eq_of_lt:=@Nat.mod_eq_of_lt
theorem X6:type_of% @List.set_cons_succ:=@List.set_cons_succ
theorem X7:type_of% @Nat.pow_pos:=@Nat.pow_pos
theorem X8:type_of% @List.length_reverse:=@List.length_reverse
theorem X9:type_of% @List.sublist_cons_self:=@List.sublist_cons_self
theorem Ya:type_of% @List.append_assoc:=@List.append_assoc
theorem Yb:type_of% @Nat.lt_or_ge:=@Nat.lt_or_ge
theorem Yc:type_of% @List.map_append:=@List.map_append
theorem Yd:type_of% @Option.some.inj:=@Option.some.inj
theorem Ye:type_of% @List.map_nil:=@List.map_nil
theorem Yf:type_of% @Nat.pow_le_pow_right:=@Nat.pow_le_pow_right
theorem Yg:type_of% @List.take_append_drop:=@List.take_append_drop
theorem Yh:type_of% @List.getElem?_range:=@List.getElem?_range
theorem Yi:type_of% @Nat.pow_mul:=@Nat.pow_mul
theorem Yj:type_of% @Nat.pow_succ:=@Nat.pow_succ
theorem Yk:type_of% @Nat.div_eq_of_lt:=@Nat.div_eq_of_lt
theorem Yl:type_of% @Nat.mul_add:=@Nat.mul_add
theorem Ym:type_of% @List.map_map:=@List.map_map
theorem Yn:type_of% @Array.getD_eq_getD_getElem?:=@Array.getD_eq_getD_getElem?
theorem Yo:type_of% @List.Sublist.refl:=@List.Sublist.refl
theorem Yp:type_of% @Nat.mul_assoc:=@Nat.mul_assoc
theorem Yq:type_of% @Nat.sub_self:=@Nat.sub_self
theorem Yr:type_of% @Nat.mul_le_mul_right:=@Nat.mul_le_mul_right
theorem Ys:type_of% @Nat.min_eq_left:=@Nat.min_eq_left
theorem Yt:type_of% @Nat.lt_of_lt_of_le:=@Nat.lt_of_lt_of_le
theorem Yu:type_of% @congrArg:=@congrArg
theorem Yv:type_of% @Nat.lt_of_le_of_lt:=@Nat.lt_of_le_of_lt
theorem Yw:type_of% @Nat.succ_mul:=@Nat.succ_mul
theorem Yx:type_of% @List.mem_filterMap:=@List.mem_filterMap
theorem Yy:type_of% @Nat.add_mul_div_left:=@Nat.add_mul_div_left
theorem Yz:type_of% @List.length_drop:=@List.length_drop
theorem YA:type_of% @beq_iff_eq:=@beq_iff_eq
theorem YB:type_of% @Int.natCast_mul:=@Int.natCast_mul
theorem YC:type_of% @List.mem_filter:=@List.mem_filter
theorem YD:type_of% @List.getElem?_append_right:=@List.getElem?_append_right
theorem YE:type_of% @List.nil_sublist:=@List.nil_sublist
theorem YF:type_of% @Option.getD_some:=@Option.getD_some
theorem YG:type_of% @List.ext_getElem?:=@List.ext_getElem?
theorem YH:type_of% @List.drop_eq_getElem_cons:=@List.drop_eq_getElem_cons
theorem YI:type_of% @List.getElem?_eq_getElem:=@List.getElem?_eq_getElem
theorem YJ:type_of% @List.mem_iff_getElem?:=@List.mem_iff_getElem?
theorem YK:type_of% @List.pairwise_cons:=@List.pairwise_cons
theorem YL:type_of% @List.getElem?_take:=@List.getElem?_take
theorem YM:type_of% @List.getD_eq_getElem?_getD:=@List.getD_eq_getElem?_getD
theorem YN:type_of% @Int.toNat_natCast:=@Int.toNat_natCast
theorem YO:type_of% @List.length_range:=@List.length_range
theorem YP:type_of% @List.length_replicate:=@List.length_replicate
theorem YQ:type_of% @List.range_succ:=@List.range_succ
theorem YR:type_of% @Nat.div_lt_iff_lt_mul:=@Nat.div_lt_iff_lt_mul
theorem YS:type_of% @Nat.mul_succ:=@Nat.mul_succ
theorem YT:type_of% @Nat.mul_le_mul:=@Nat.mul_le_mul
theorem YU:type_of% @Int.sign_eq_one_of_pos:=@Int.sign_eq_one_of_pos
theorem YV:type_of% @Int.sign_eq_neg_one_of_neg:=@Int.sign_eq_neg_one_of_neg
theorem YW:type_of% @Nat.add_mul_mod_self_left:=@Nat.add_mul_mod_self_left
theorem YX:type_of% @Nat.add_zero:=@Nat.add_zero
theorem YY:type_of% @List.mem_of_mem_take:=@List.mem_of_mem_take
theorem YZ:type_of% @List.map_congr_left:=@List.map_congr_left
theorem Y0:type_of% @List.eq_nil_of_length_eq_zero:=@List.eq_nil_of_length_eq_zero
theorem Y1:type_of% @of_decide_eq_true:=@of_decide_eq_true
theorem Y2:type_of% @List.mem_append_right:=@List.mem_append_right
theorem Y3:type_of% @Nat.eq_zero_or_pos:=@Nat.eq_zero_or_pos
theorem Y4:type_of% @List.getElem?_drop:=@List.getElem?_drop
theorem Y5:type_of% @Classical.not_not:=@Classical.not_not
theorem Y6:type_of% @Nat.div_div_eq_div_mul:=@Nat.div_div_eq_div_mul
theorem Y7:type_of% @List.mem_append_left:=@List.mem_append_left
theorem Y8:type_of% @Nat.div_add_mod:=@Nat.div_add_mod
theorem Y9:type_of% @Option.some.injEq:=@Option.some.injEq
theorem Za:type_of% @Option.map_some:=@Option.map_some
theorem Zb:type_of% @List.any_eq_true:=@List.any_eq_true
theorem Zc:type_of% @Nat.add_mul:=@Nat.add_mul
theorem Zd:type_of% @Nat.one_mul:=@Nat.one_mul
theorem Ze:type_of% @List.getElem?_reverse:=@List.getElem?_reverse
theorem Zf:type_of% @List.any_eq_false:=@List.any_eq_false
theorem Zg:type_of% @Bool.and_eq_true_iff:=@Bool.and_eq_true_iff
theorem Zh:type_of% @Nat.add_comm:=@Nat.add_comm
theorem Zi:type_of% @Dyadic.one_mul:=@Dyadic.one_mul
theorem Zj:type_of% @List.drop_of_length_le:=@List.drop_of_length_le
theorem Zk:type_of% @List.filterMap_cons:=@List.filterMap_cons
theorem Zl:type_of% @Option.bind_some:=@Option.bind_some
theorem Zm:type_of% @Int.natCast_add:=@Int.natCast_add
theorem Zn:type_of% @Classical.byContradiction:=@Classical.byContradiction
theorem Zo:type_of% @Bool.or_eq_true:=@Bool.or_eq_true
theorem Zp:type_of% @Option.map_eq_some_iff:=@Option.map_eq_some_iff
theorem Zq:type_of% @List.mem_flatMap:=@List.mem_flatMap
theorem Zr:type_of% @List.map_drop:=@List.map_drop
theorem Zs:type_of% @List.nodup_cons:=@List.nodup_cons
theorem Zt:type_of% @List.mem_reverse:=@List.mem_reverse
theorem Zu:type_of% @List.flatMap_cons:=@List.flatMap_cons
theorem Zv:type_of% @List.map_set:=@List.map_set
theorem Zw:type_of% @List.getElem?_set:=@List.getElem?_set
theorem Zx:type_of% @List.map_take:=@List.map_take
theorem Zy:type_of% @Array.getElem?_eq_getElem:=@Array.getElem?_eq_getElem
theorem Zz:type_of% @Int.natAbs_mul:=@Int.natAbs_mul
theorem ZA:type_of% @List.set_append_right:=@List.set_append_right
theorem ZB:type_of% @List.replicate_succ:=@List.replicate_succ
theorem ZC:type_of% @List.flatMap_append:=@List.flatMap_append
theorem ZD:type_of% @List.mem_of_mem_drop:=@List.mem_of_mem_drop
theorem ZE:type_of% @List.getElem?_mapIdx:=@List.getElem?_mapIdx
theorem ZF:type_of% @Dyadic.zero_add:=@Dyadic.zero_add
theorem ZG:type_of% @List.length_set:=@List.length_set
theorem ZH:type_of% @List.take_zero:=@List.take_zero
theorem ZI:type_of% @List.getElem?_toArray:=@List.getElem?_toArray
theorem ZJ:type_of% @List.sublist_append_left:=@List.sublist_append_left
theorem ZK:type_of% @List.reverse_reverse:=@List.reverse_reverse
theorem ZL:type_of% @List.size_toArray:=@List.size_toArray
theorem ZM:type_of% @Nat.div_le_self:=@Nat.div_le_self
theorem ZN:type_of% @List.getElem?_append_left:=@List.getElem?_append_left
theorem ZO:type_of% @List.filterMap_append:=@List.filterMap_append
theorem ZP:type_of% @List.reverse_cons:=@List.reverse_cons
theorem ZQ:type_of% @List.filter_append:=@List.filter_append
theorem ZR:type_of% @Dyadic.add_zero:=@Dyadic.add_zero
theorem ZS:type_of% @Dyadic.pow_zero:=@Dyadic.pow_zero
theorem ZU:type_of% @Nat.add_assoc:=@Nat.add_assoc
theorem ZV:type_of% @List.reverse_append:=@List.reverse_append
theorem ZW:type_of% @Nat.mul_lt_mul_of_pos_right:=@Nat.mul_lt_mul_of_pos_right
theorem ZX:type_of% @List.map_singleton:=@List.map_singleton
theorem ZY:type_of% @Nat.pow_zero:=@Nat.pow_zero
theorem ZZ:type_of% @List.length_eq_zero_iff:=@List.length_eq_zero_iff
theorem Z0:type_of% @Nat.zero_mul:=@Nat.zero_mul
theorem Z1:type_of% @Bool.not_eq_true':=@Bool.not_eq_true'
theorem Z2:type_of% @List.take_length:=@List.take_length
theorem Z3:type_of% @decide_eq_false_iff_not:=@decide_eq_false_iff_not
theorem Z4:type_of% @Bool.eq_false_iff:=@Bool.eq_false_iff
theorem Z5:type_of% @Array.getElem?_eq_none:=@Array.getElem?_eq_none
theorem Z6:type_of% @List.getElem?_cons_zero:=@List.getElem?_cons_zero
theorem Z7:type_of% @Int.natAbs_pow:=@Int.natAbs_pow
theorem Z8:type_of% @Nat.mod_add_div:=@Nat.mod_add_div
theorem Z9:type_of% @List.drop_drop:=@List.drop_drop
theorem aaa:type_of% @List.getElem?_cons_succ:=@List.getElem?_cons_succ
theorem aab:type_of% @Bool.false_eq_true:=@Bool.false_eq_true
theorem aac:type_of% @List.nodup_append:=@List.nodup_append
theorem aad:type_of% @Int.lt_trichotomy:=@Int.lt_trichotomy
theorem aae:type_of% @List.length_nil:=@List.length_nil
theorem aaf:type_of% @Array.all_eq_true':=@Array.all_eq_true'
theorem aag:type_of% @List.any_append:=@List.any_append
theorem aah:type_of% @Dyadic.pow_succ:=@Dyadic.pow_succ
theorem aai:type_of% @Dyadic.mul_one:=@Dyadic.mul_one
theorem aaj:type_of% @List.any_nil:=@List.any_nil
theorem aak:type_of% @Int.natCast_pow:=@Int.natCast_pow
theorem aal:type_of% @List.length_finRange:=@List.length_finRange
theorem aam:type_of% @Array.getElem?_eq_some_iff:=@Array.getElem?_eq_some_iff
theorem aan:type_of% @List.take_take:=@List.take_take
theorem aao:type_of% @List.any_cons:=@List.any_cons
theorem aap:type_of% @Bool.true_and:=@Bool.true_and
theorem aaq:type_of% @Bool.not_true:=@Bool.not_true
theorem aar:type_of% @UInt8.toNat_inj:=@UInt8.toNat_inj
theorem aas:type_of% @Array.length_toList:=@Array.length_toList
theorem aat:type_of% @Int.mul_le_mul:=@Int.mul_le_mul
theorem aau:type_of% @List.length_mapIdx:=@List.length_mapIdx
theorem aav:type_of% @Nat.lt_of_not_le:=@Nat.lt_of_not_le
theorem aaw:type_of% @List.map_id':=@List.map_id'
theorem aax:type_of% @List.map_toArray:=@List.map_toArray
theorem aay:type_of% @List.replicate_zero:=@List.replicate_zero
theorem aaz:type_of% @UInt8.toNat_ofNat':=@UInt8.toNat_ofNat'
theorem aaA:type_of% @List.Pairwise.nil:=@List.Pairwise.nil
theorem aaB:type_of% @List.filter_eq_self:=@List.filter_eq_self
theorem aaC:type_of% @List.mem_or_eq_of_mem_set:=@List.mem_or_eq_of_mem_set
theorem aaD:type_of% @List.filter_cons_of_neg:=@List.filter_cons_of_neg
theorem aaE:type_of% @List.foldl_cons:=@List.foldl_cons
theorem aaF:type_of% @Int.eq_ofNat_of_zero_le:=@Int.eq_ofNat_of_zero_le
theorem aaG:type_of% @List.eraseIdx_eq_take_drop_succ:=@List.eraseIdx_eq_take_drop_succ
theorem aaH:type_of% @List.foldl_append:=@List.foldl_append
theorem aaI:type_of% @Dyadic.mul_zero:=@Dyadic.mul_zero
theorem aaJ:type_of% @List.cons.injEq:=@List.cons.injEq
theorem aaK:type_of% @List.set_eq_take_append_cons_drop:=@List.set_eq_take_append_cons_drop
theorem aaL:type_of% @Nat.mul_left_comm:=@Nat.mul_left_comm
theorem aaM:type_of% @List.sublist_append_right:=@List.sublist_append_right
theorem aaN:type_of% @Bool.and_eq_false_iff:=@Bool.and_eq_false_iff
theorem aaO:type_of% @Nat.le_mul_of_pos_right:=@Nat.le_mul_of_pos_right
theorem aaP:type_of% @List.contains_eq_mem:=@List.contains_eq_mem
theorem aaQ:type_of% @List.length_filter_le:=@List.length_filter_le
theorem aaR:type_of% @List.filter_eq_nil_iff:=@List.filter_eq_nil_iff
theorem aaS:type_of% @Int.natAbs_ediv_le_natAbs:=@Int.natAbs_ediv_le_natAbs
theorem aaT:type_of% @List.pairwise_singleton:=@List.pairwise_singleton
theorem aaU:type_of% @List.countP_singleton:=@List.countP_singleton
theorem aaV:type_of% @Nat.pow_lt_pow_iff_right:=@Nat.pow_lt_pow_iff_right
theorem aaW:type_of% @Nat.le_mul_of_pos_left:=@Nat.le_mul_of_pos_left
theorem aaX:type_of% @List.take_append_of_le_length:=@List.take_append_of_le_length
theorem aaY:type_of% @Array.getElem?_replicate:=@Array.getElem?_replicate
theorem aaZ:type_of% @Array.toList_setIfInBounds:=@Array.toList_setIfInBounds
theorem aa0:type_of% @List.getElem?_eq_none_iff:=@List.getElem?_eq_none_iff
theorem aa1:type_of% @List.filter_cons_of_pos:=@List.filter_cons_of_pos
def zL0:List (List (Nat×Option Nat)):=[[(4,none)],[(21,some 0)],[(1,none)],[(23,some 2)],[(22,some 1),(24,some 3)],[(25,some 4)],[(26,some 5)],[(4,none),(27,some 6)],[(28,some 7),(27,some 6)],[(29,some 8),(27,some 6)],[(30,some 9),(27,some 6)],[(27,some 6),(31,some 10)],[(32,some 11)],[(4,none),(33,some 12)],[(34,some 13),(33,some 12)],[(35,some 14),(33,some 12)],[(4,none),(33,some 12)],[(37,some 16),(33,some 12)],[(36,some 15),(38,some 17),(33,some 12)],[(33,some 12),(39,some 18)],[(40,some 19)],[(3,none),(41,some 20)],[(42,some 21),(41,some 20)],[(43,some 22),(41,some 20)],[(1,none),(44,some 23)],[(45,some 24),(44,some 23)],[(3,none),(44,some 23)],[(47,some 26),(44,some 23)],[(46,some 25),(48,some 27),(44,some 23)],[(49,some 28),(44,some 23)],[(50,some 29),(44,some 23)],[(4,none),(44,some 23)],[(52,some 31),(44,some 23)]]
def zL1:List Nat:=[0,1,0,4,15,31,63,127,255,511,1023,2047,4095,8191,16383,32767,8191,73727,262143,524287,1048575,2097151,4194303,8388607,16777215,33554431,16777215,83886079,268435455,536870911,1073741823,16777215,2164260863,8589934591,17179869183,34359738367]
def zL2:List Nat:=[14,53,54,55,56,57,58,59,60,61,62,63,64,65,66,67,68,69]
def zL3:List Nat:=[23,24,25,26,27,28,29,30,31,32,33,34,35,36,37,38,39,40,41,42,43,44,45,46,47,48,49,50,51,52,53]
theorem Xj {p:Prop} (h:p:=by omega):p:=h
theorem Xk {p:Prop} (h:p:=by decide):p:=h
theorem Xl {p:Prop} (h:p:=by kernel_rfl):p:=h
theorem Kx {P Q:Prop} (p:P) (h:P→Q:=by intro kQ;exact DK (b:=4294967295) rfl rfl (by first|assumption|omega) (by first|assumption|omega) Xk kQ):Q:=h p
theorem wW {P Q:Prop} (p:P) (h:P→Q:=by intro kQ;exact l5 (s:=32) (m:=4294967296) rfl rfl Xk Xk Xk kQ):Q:=h p
theorem GM {P Q:Prop} (p:P) (h:P→Q:=by intro kQ;exact l5 (s:=8) (m:=256) rfl rfl Xk Xk Xk kQ):Q:=h p
theorem mm {P Q:Prop} (p:P) (h:P→Q:=by intro kQ;exact C3 bh.out bh.out rfl (by first|assumption|omega) Xk kQ):Q:=h p
theorem Gl {P Q:Prop} (p:P) (h:P→Q:=by intro kQ;exact dL (aa (cF (aq (ai (sr (mI (mI kQ)))))))):Q:=h p
theorem BT {P Q:Prop} (p:P) (h:P→Q:=by intro kQ;exact C7 bh.out bh.out rfl Xj Xj Xk kQ):Q:=h p
theorem gy {P Q:Prop} (p:P) (h:P→Q:=by intro kQ;exact k6 Xk rfl rfl Xk kQ):Q:=h p
theorem pK {P Q:Prop} (p:P) (h:P→Q:=by intro kQ;exact cE (k:=j) bh.out aM.size rfl rfl Xj Xj Xk kQ):Q:=h p
theorem jG {P Q:Prop} (p:P) (h:P→Q:=by intro kQ;exact bU aM.out rfl ((hr.ext hh.below).wj (by assumption)) Xk kQ):Q:=h p
theorem oe {P Q:Prop} (p:P) (h:P→Q:=by intro kQ;exact Rq rfl rfl Xj Xj Xj Xk kQ):Q:=h p
theorem FY {P Q:Prop} (p:P) (h:P→Q:=by intro kQ;exact Tg rfl rfl (by first|assumption|omega) (by first|assumption|omega) Xk kQ):Q:=h p
theorem Kf {P Q:Prop} (p:P) (h:P→Q:=by intro kQ;exact bW hh (i:=0) (vs:=[_]) rfl rfl (cO rfl) rfl aM.out rfl (by rw [a8,aT];omega) rfl kQ):Q:=h p
theorem fp {P Q:Prop} (p:P) (h:P→Q:=by intro kQ;exact aA (bz (ai (al kQ)))):Q:=h p
theorem oI {P Q:Prop} (p:P) (h:P→Q:=by intro kQ;exact bf (aa (ah (cF (a6 (aE (aE (bq (ai (sr (mL kQ))))))))))):Q:=h p
theorem Fw {P Q:Prop} (p:P) (h:P→Q:=by intro kQ;exact cR (aa (cT (sr (aI (aa (aw (aK kQ)))))))):Q:=h p
theorem sY {P Q:Prop} (p:P) (h:P→Q:=by intro kQ;exact Rr rfl rfl Xj Xj Xk kQ):Q:=h p
theorem KY {P Q:Prop} (p:P) (h:P→Q:=by intro kQ;exact dL (aa (cT (aq (ai (ah (ao (ao (ah kQ))))))))):Q:=h p
theorem KS {P Q:Prop} (p:P) (h:P→Q:=by intro kQ;exact a0 8 [[(0,none)],[(5,none)],[(28,some 0),(29,some 1)],[(30,some 2)],[(1,none)],[(5,none)],[(32,some 4),(33,some 5)],[(34,some 6)]] [(7,35),(6,34),(5,33),(4,32),(3,31),(2,30),(1,29),(0,28)] hh mixed Xl kQ):Q:=h p
theorem Cb {P Q:Prop} (p:P) (h:P→Q:=by intro kQ;exact qS (fun _ hj=>(hr.ext hj.hp.below).wj hx3) kQ):Q:=h p
theorem CD {P Q:Prop} (p:P) (h:P→Q:=by intro kQ;exact qS (fun _ hj=>(hs.ext hj.hp.below).wj hy3) kQ):Q:=h p
theorem JS {P Q:Prop} (p:P) (h:P→Q:=by intro kQ;exact aW (bm (ae v35 (ae v34 (ae v33 (ae v32 (ae v31 (ae v30 (ae v29 (ae v28 aV))))))))) kQ):Q:=h p
theorem QA {P Q:Prop} (p:P) (h:P→Q:=by intro kQ;exact a0 8 [[(0,none)],[(5,none)],[(38,some 0),(39,some 1)],[(40,some 2)],[(1,none)],[(5,none)],[(42,some 4),(43,some 5)],[(44,some 6)]] [(7,45),(6,44),(5,43),(4,42),(3,41),(2,40),(1,39),(0,38)] hh mixed Xl kQ):Q:=h p
theorem Q4 {P Q:Prop} (p:P) (h:P→Q:=by intro kQ;exact aW (bm (ae v45 (ae v44 (ae v43 (ae v42 (ae v41 (ae v40 (ae v39 (ae v38 aV))))))))) kQ):Q:=h p
theorem wU {P Q:Prop} (p:P) (h:P→Q:=by intro kQ;exact bf (aa (ah (cT (aq (ai (ah (ao (sr (mI (aI (aa (sr (aI (aa (ah (sr (mI (mL (aH kQ)))))))))))))))))))):Q:=h p
theorem KL {P Q:Prop} (p:P) (h:P→Q:=by intro kQ;exact cE (k:=done.length) bh.out aM.size rfl rfl Xj Xj Xk kQ):Q:=h p
theorem jw {P Q:Prop} (p:P) (h:P→Q:=by intro kQ;exact bU aM.out rfl (hh.eH (i:=0) rfl (by first|assumption|(simp only [XK];assumption))) Xk kQ):Q:=h p
theorem oC {P Q:Prop} (p:P) (h:P→Q:=by intro kQ;exact o8 (k:=done.length) bh.out aM.size rfl rfl Xj Xj Xk kQ):Q:=h p
theorem yn {P Q:Prop} (p:P) (h:P→Q:=by intro kQ;exact bW hh (i:=0) (vs:=[_]) rfl rfl (cO rfl) rfl aM.out rfl (by rw [a8];simp only [Xy,XR];omega) rfl kQ):Q:=h p
theorem xt {P Q:Prop} (p:P) (h:P→Q:=by intro kQ;exact aI (aA (bz (ai (al kQ))))):Q:=h p
theorem rZ {P Q:Prop} (p:P) (h:P→Q:=by intro kQ;exact aL (aa (ah (sr (mL (aH (mI (aa (ao kQ))))))))):Q:=h p
theorem dR {P Q:Prop} (p:P) (h:P→Q:=by intro kQ;exact bf (aa (ah (cT (aq (ai (ah (ao (sr (mI kQ)))))))))):Q:=h p
theorem fT {P Q:Prop} (p:P) (h:P→Q:=by intro kQ;exact da (k:=i) bh.out aM.size rfl rfl Xj Xj Xk kQ):Q:=h p
theorem xm {P Q:Prop} (p:P) (h:P→Q:=by intro kQ;exact cX hh (cs:=[_]) bh.out aM.out (aN (cO rfl) bZ) rfl rfl Xk Xk Xk rfl Xk kQ):Q:=h p
theorem sZ {P Q:Prop} (p:P) (h:P→Q:=by intro kQ;exact aF (ph a _ ha) ar.out rfl Xk kQ):Q:=h p
theorem Fu {P Q:Prop} (p:P) (h:P→Q:=by intro kQ;exact aF (ph b _ hb) ar.out rfl Xk kQ):Q:=h p
theorem Ji {P Q:Prop} (p:P) (h:P→Q:=by intro kQ;exact bA hh (DV _ _ _ _ _ _ (aZ 18446744073709551616 (bN a)) (aZ 18446744073709551616 (bN b)) _ (hh.aC (i:=1) rfl) (hh.aC (i:=0) rfl) (jr _) (jr _) (hh.fM (i:=1) rfl) (hh.fM (i:=0) rfl) Xj Xj) rfl kQ):Q:=h p
theorem EK {P Q:Prop} (p:P) (h:P→Q:=by intro kQ;exact bf (aa (ah (cF (a6 (aE (aE (bq (ai (sr (aI (aa (aw kQ))))))))))))):Q:=h p
theorem dT {P Q:Prop} (p:P) (h:P→Q:=by intro kQ;exact bf (aa (ah (cT (aq (ai (ah (ao (sr kQ))))))))):Q:=h p
theorem kM {P Q:Prop} (p:P) (h:P→Q:=by intro kQ;exact aL (aA (bz (ai (al kQ))))):Q:=h p
theorem j7 {P Q:Prop} (p:P) (h:P→Q:=by intro kQ;exact rS bh.out rfl rfl Xj (by assumption) Xk kQ):Q:=h p
theorem pP {P Q:Prop} (p:P) (h:P→Q:=by intro kQ;exact Nk (eC rfl (eF (vs:=[_,_]) aM.out (hh.bY (i:=0) (n:=2) rfl rfl) rfl) fJ) kQ):Q:=h p
theorem LV {P Q:Prop} (p:P) (h:P→Q:=by intro kQ;exact aj (N:=13) (l:=[.agg #[.bool s,.string m]]) Tryz.func117 rfl rfl (by simp) kQ):Q:=h p
theorem FH {P Q:Prop} (p:P) (h:P→Q:=by intro kQ;exact aB (aa (cT (sr (aI (aa (aw (cf (aK kQ))))))))):Q:=h p
theorem FP {P Q:Prop} (p:P) (h:P→Q:=by intro kQ;exact N8 bh.out rfl rfl (by first|rfl|assumption|decide) Xk kQ):Q:=h p
theorem EM {P Q:Prop} (p:P) (h:P→Q:=by intro kQ;exact aa (cF (aq (ai (ah (sr (bH kQ))))))):Q:=h p
theorem Pw {P Q:Prop} (p:P) (h:P→Q:=by intro kQ;exact aW (bm (ae v14 (ae v13 (ae v12 (ae v11 (ae v10 (ae v9 (ae v8 (ae v7 (ae v6 (ae v5 aV))))))))))) kQ):Q:=h p
theorem yc {P Q:Prop} (p:P) (h:P→Q:=by intro kQ;exact aa (ah (sr (mL (aH (mI (aa (ao kQ)))))))):Q:=h p
theorem cx {P Q:Prop} (p:P) (h:P→Q:=by intro kQ;exact cE (k:=i) bh.out aM.size rfl rfl Xj Xj Xk kQ):Q:=h p
theorem ll {P Q:Prop} (p:P) (h:P→Q:=by intro kQ;exact bf (aa (ah (cF (a6 (aE (aE (bq (ai (sr kQ)))))))))):Q:=h p
theorem EJ {P Q:Prop} (p:P) (h:P→Q:=by intro kQ;exact cX hh (cs:=[_,_,_,_]) bh.out aM.out (aN (iO rfl) (aN (iO rfl) bZ)) rfl rfl Xk Xk Xk rfl Xk kQ):Q:=h p
theorem EP {P Q:Prop} (p:P) (h:P→Q:=by intro kQ;exact a0 10 [[(2,none)],[(18,some 0)],[(1,none)],[(20,some 2)],[(19,some 1),(21,some 3)],[(2,none)],[(23,some 5)],[(22,some 4),(24,some 6)],[(25,some 7)],[]] [(9,5),(8,26),(7,25),(6,24),(5,23),(4,22),(3,21),(2,20),(1,19),(0,18)] hh mixed Xl kQ):Q:=h p
theorem Fj {P Q:Prop} (p:P) (h:P→Q:=by intro kQ;exact bj (i:=3) (fun ρ1 w1 hj hR=>Mf (show ρ1 20=Value.int _ _ from hR.1) Xj Xj) kQ):Q:=h p
theorem Gm {P Q:Prop} (p:P) (h:P→Q:=by intro kQ;exact aQ (i:=9) (dm _ 38 _) dm.ext (fun ρ1 w1 hj hR=>jz aM.out hj.bl (fun v w2 h hb=>⟨hb,h⟩)) kQ):Q:=h p
theorem E5 {P Q:Prop} (p:P) (h:P→Q:=by intro kQ;exact aW (bm (ae e5 (ae v26 (ae v25 (ae v24 (ae v23 (ae v22 (ae v21 (ae v20 (ae v19 (ae v18 aV))))))))))) kQ):Q:=h p
theorem LG {P Q:Prop} (p:P) (h:P→Q:=by intro kQ;exact aj (N:=47) (l:=[.agg #[.bool true,.string a],.int .i64 (-(m:Int))]) Tryz.func119 rfl rfl (by simp) kQ):Q:=h p
theorem oJ {P Q:Prop} (p:P) (h:P→Q:=by intro kQ;exact aa (cF (aq (ai (sr kQ))))):Q:=h p
theorem I2 {P Q:Prop} (p:P) (h:P→Q:=by intro kQ;exact aj (N:=41) (l:=[.agg #[.bool a.neg,.string a.bg,.int .i64 a.e],.agg #[.bool b.neg,.string b.bg,.int .i64 b.e]]) Tryz.func112 rfl rfl (by simp) kQ):Q:=h p
theorem Lm {P Q:Prop} (p:P) (h:P→Q:=by intro kQ;exact a0 3 [[(2,none)],[(7,some 0)],[(3,none)]] [(2,9),(1,8),(0,7)] hh mixed Xl kQ):Q:=h p
theorem LW {P Q:Prop} (p:P) (h:P→Q:=by intro kQ;exact dC (fun _ hj=>eN a _ (hT.hp hj.hp) Xj Xj Xj) kQ):Q:=h p
theorem PF {P Q:Prop} (p:P) (h:P→Q:=by intro kQ;exact aj (N:=28) (l:=[.agg #[.bool a.neg,.string a.bg,.int .i64 a.e],.agg #[.bool b.neg,.string b.bg,.int .i64 b.e]]) Tryz.func125 rfl rfl (by simp) kQ):Q:=h p
theorem wV {P Q:Prop} (p:P) (h:P→Q:=by intro kQ;exact cJ (aa (cF (aq (ai (sr kQ)))))):Q:=h p
theorem EN {P Q:Prop} (p:P) (h:P→Q:=by intro kQ;exact cq (vs:=[_,_,_]) aM.out rfl (((hr.ext hh.below).recAt NR.len hx)) rfl Xk kQ):Q:=h p
theorem sj {P Q:Prop} (p:P) (h:P→Q:=by intro kQ;exact cX hh (cs:=[_,_,_,_,_,_]) bh.out aM.out (aN (iO rfl) (aN (iO rfl) bZ)) rfl rfl Xk Xk Xk rfl Xk kQ):Q:=h p
theorem AM {P Q:Prop} (p:P) (h:P→Q:=by intro kQ;exact bA hh (ja 1 _ (hT.hp hh) Xj Xj) rfl kQ):Q:=h p
theorem EZ {P Q:Prop} (p:P) (h:P→Q:=by intro kQ;exact cE (k:=0) bh.out aM.size rfl rfl Xj Xj Xk kQ):Q:=h p
theorem iQ {P Q:Prop} (p:P) (h:P→Q:=by intro kQ;exact o7 (by first|exact tI rfl|exact ti rfl) Xk kQ):Q:=h p
theorem B1 {P Q:Prop} (p:P) (h:P→Q:=by intro kQ;exact aa (cF (aq (bz (ai (al kQ)))))):Q:=h p
theorem K8 {P Q:Prop} (p:P) (h:P→Q:=by intro kQ;exact DK (b:=1) rfl rfl (by first|assumption|omega) (by first|assumption|omega) Xk kQ):Q:=h p
theorem qM {P Q:Prop} (p:P) (h:P→Q:=by intro kQ;exact cw hh (i:=1) rfl rfl rfl (hh.aC (i:=0) rfl) bh.out aM.out rfl Xk (by first|rfl|exact dv _|exact cY _|exact bF _|exact bT NR.one _) Xj Xj Xk kQ):Q:=h p
theorem x9 {P Q:Prop} (p:P) (h:P→Q:=by intro kQ;exact aL (aA (bz (ai (al (mI kQ)))))):Q:=h p
theorem Mt {P Q:Prop} (p:P) (h:P→Q:=by intro kQ;exact dL (aa (cT (aq (ai (ah (ao (ah (sr (mL (mI kQ))))))))))):Q:=h p
theorem Bw {P Q:Prop} (p:P) (h:P→Q:=by intro kQ;exact bA hh (iY A n c j xs _ (hx.ext hh.below) hdx Xj Xj) rfl kQ):Q:=h p
theorem Ay {P Q:Prop} (p:P) (h:P→Q:=by intro kQ;exact bA hh (iY B m c' j ys _ (hy.ext hh.below) hdy Xj Xj) rfl kQ):Q:=h p
theorem sG {P Q:Prop} (p:P) (h:P→Q:=by intro kQ;exact bf (aa (cT (aq (ai (ah (ao (sr (mL (mI kQ)))))))))):Q:=h p
theorem Jh {P Q:Prop} (p:P) (h:P→Q:=by intro kQ;exact fO (n:=n) hh rfl rfl Xj Xj bh.out aM.out rfl Xj Xj Xk kQ):Q:=h p
theorem K1 {P Q:Prop} (p:P) (h:P→Q:=by intro kQ;exact bW hh (i:=0) (vs:=[_]) rfl rfl (cO rfl) rfl aM.out rfl (by rw [hll];omega) rfl kQ):Q:=h p
theorem Gp {P Q:Prop} (p:P) (h:P→Q:=by intro kQ;exact aF (eW a _ ha) ar.out rfl Xk kQ):Q:=h p
theorem Ky {P Q:Prop} (p:P) (h:P→Q:=by intro kQ;exact bf (aa (cT (aq (ai (ah (ao (al (mL (mL (mI kQ))))))))))):Q:=h p
theorem Md {P Q:Prop} (p:P) (h:P→Q:=by intro kQ;exact bA hh (iA _ _ _ (aZ 2 (bN m)) _ (hh.aC (i:=0) rfl) (lG _) (hh.fM (i:=0) rfl) Xj) rfl kQ):Q:=h p
theorem CK {P Q:Prop} (p:P) (h:P→Q:=by intro kQ;exact Nk (eC rfl (eF (vs:=[_,_]) aM.out (hh.bY (i:=1) (n:=2) rfl rfl) rfl) fJ) kQ):Q:=h p
theorem BI {P Q:Prop} (p:P) (h:P→Q:=by intro kQ;exact aa (cT (sr (aI (aa (aw (aK kQ))))))):Q:=h p
theorem EW {P Q:Prop} (p:P) (h:P→Q:=by intro kQ;exact aa (cF (aq (ai (sr (aI (aa (aw kQ)))))))):Q:=h p
theorem pQ {P Q:Prop} (p:P) (h:P→Q:=by intro kQ;exact aa (cF (aq (ai (sr (bH kQ)))))):Q:=h p
theorem Gu {P Q:Prop} (p:P) (h:P→Q:=by intro kQ;exact Nk (eC rfl (eF (vs:=[_,_,_]) aM.out (hh.bY (i:=0) (n:=3) rfl rfl) rfl) fJ) kQ):Q:=h p
theorem vh {P Q:Prop} (p:P) (h:P→Q:=by intro kQ;exact aI (aa (ah (ao (sr (bH kQ)))))):Q:=h p
theorem xN {P Q:Prop} (p:P) (h:P→Q:=by intro kQ;exact cj (mB (gT (mL (gT (aH (gT kQ))))))):Q:=h p
theorem Lt {P Q:Prop} (p:P) (h:P→Q:=by intro kQ;exact a0 7 [[(2,none)],[(0,none)],[(26,some 1)],[(27,some 2)],[(1,none)],[(29,some 4)],[(30,some 5)]] [(6,31),(5,30),(4,29),(3,28),(2,27),(1,26),(0,25)] hh mixed Xl kQ):Q:=h p
theorem Lq {P Q:Prop} (p:P) (h:P→Q:=by intro kQ;exact aW (bm (ae v31 (ae v30 (ae v29 (ae v28 (ae v27 (ae v26 (ae v25 aV)))))))) kQ):Q:=h p
theorem Ka {P Q:Prop} (p:P) (h:P→Q:=by intro kQ;exact cq (vs:=[_,_,_,_]) aM.out rfl ((hr.ext hh.below).recAt TR.len hxx) rfl Xk kQ):Q:=h p
theorem Cq {P Q:Prop} (p:P) (h:P→Q:=by intro kQ;exact cX hh (cs:=[_,_,_,_]) bh.out aM.out (aN (iO rfl) bZ) rfl rfl Xk Xk Xk rfl Xk kQ):Q:=h p
theorem Mk {P Q:Prop} (p:P) (h:P→Q:=by intro kQ;exact cq (vs:=[_,_,_,_]) aM.out rfl ((hr2.ext hh.below).recAt TR.len hyy) rfl Xk kQ):Q:=h p
theorem Bx {P Q:Prop} (p:P) (h:P→Q:=by intro kQ;exact sr (aI (aa (ah (sr (mL (aH (mI (aa (ao kQ)))))))))):Q:=h p
theorem sv {P Q:Prop} (p:P) (h:P→Q:=by intro kQ;exact bf (aa (ah (cT (aq (ai (ah (ao (sr (mI (aI (aa (sr kQ))))))))))))):Q:=h p
theorem Br {P Q:Prop} (p:P) (h:P→Q:=by intro kQ;exact uu hh bh.out aM.out Xk kQ):Q:=h p
theorem sy {P Q:Prop} (p:P) (h:P→Q:=by intro kQ;exact da (k:=j) bh.out aM.size rfl rfl Xj Xj Xk kQ):Q:=h p
theorem rQ {P Q:Prop} (p:P) (h:P→Q:=by intro kQ;exact aa (cF (aq (bz (ai (al (mI kQ))))))):Q:=h p
theorem xO {P Q:Prop} (p:P) (h:P→Q:=by intro kQ;exact Pt (eC rfl (eF (vs:=[_,_]) aM.out (hh.bY (i:=0) (n:=2) rfl rfl) rfl) (ju (kf rfl) fJ)) kQ):Q:=h p
theorem K3 {P Q:Prop} (p:P) (h:P→Q:=by intro kQ;exact bW hh (i:=0) (vs:=[_,_,_]) rfl rfl (iO rfl) rfl aM.out rfl Xj rfl kQ):Q:=h p
theorem Gb {P Q:Prop} (p:P) (h:P→Q:=by intro kQ;exact Pt (eC rfl (eF (vs:=[_,_]) aM.out (hh.bY (i:=1) (n:=2) rfl rfl) rfl) (ju (kf rfl) fJ)) kQ):Q:=h p
theorem uP {P Q:Prop} (p:P) (h:P→Q:=by intro kQ;exact Ca bh.out aM.size rfl rfl Xj Xj Xk kQ):Q:=h p
theorem KR {P Q:Prop} (p:P) (h:P→Q:=by intro kQ;exact aj (N:=45) (l:=[.string a,.string b,.func (.func g) #[] #[]]) Tryz.func231 rfl rfl (by simp) kQ):Q:=h p
theorem vD {P Q:Prop} (p:P) (h:P→Q:=by intro kQ;exact da bh.out aM.size rfl rfl rfl Xj Xk kQ):Q:=h p
theorem JF {P Q:Prop} (p:P) (h:P→Q:=by intro kQ;exact bU aM.out rfl (hh.eH (i:=1) rfl (by first|assumption|(simp only [XK];assumption))) Xk kQ):Q:=h p
theorem I9 {P Q:Prop} (p:P) (h:P→Q:=by intro kQ;exact aj (N:=58) (l:=[.agg #[.int .i64 v,.slice A n c]]) Tryz.func53 rfl rfl (by simp) kQ):Q:=h p
theorem qP {P Q:Prop} (p:P) (h:P→Q:=by intro kQ;exact cq (vs:=[_,_,_,_]) aM.out rfl ((hr.ext hh.below).recAt TR.len hx) rfl Xk kQ):Q:=h p
theorem CF {P Q:Prop} (p:P) (h:P→Q:=by intro kQ;exact lT (i:=9) rfl (fun ρ1 w1 hj hR=>(show ρ1 27=Value.bool _ from hR.2.1)) (fun ρ1 w1 hj hR=>aJ ar.out (av (show ρ1 29=Value.agg (List.toArray _) from hR.1) aU)) (fun w1 hj=>hsg _) kQ):Q:=h p
theorem Fh {P Q:Prop} (p:P) (h:P→Q:=by intro kQ;exact lT (i:=15) rfl (fun ρ1 w1 hj hR=>(show ρ1 33=Value.bool _ from hR.2.1)) (fun ρ1 w1 hj hR=>aJ ar.out (av (show ρ1 35=Value.agg (List.toArray _) from hR.1) aU)) (fun w1 hj=>hfo _ (hT.hp hj.hp)) kQ):Q:=h p
theorem Ly {P Q:Prop} (p:P) (h:P→Q:=by intro kQ;exact zw (i:=18) rfl (fun ρ1 w1 hj hR=>(show ρ1 33=Value.bool _ from hR.2.2.1)) (fun ρ1 w1 hj hR=>GJ (show ρ1 36=Value.agg (List.toArray _) from hR.1) (show ρ1 38=Value.agg (List.toArray _) from hR.2.1) (by first|assumption|rfl)) kQ):Q:=h p
theorem F4 {P Q:Prop} (p:P) (h:P→Q:=by intro kQ;exact aW (bm (ae v53 (ae v52 (ae v51 (ae v50 (ae v49 (ae v48 (ae v47 (ae v46 (ae v45 (ae v44 (ae v43 (ae v42 (ae v41 (ae v40 (ae v39 (ae v38 (ae v37 (ae v36 (ae v35 (ae v34 (ae v33 (ae v32 (ae v31 (ae v30 (ae v29 (ae v28 (ae v27 (ae v26 (ae v25 (ae v24 (ae v23 (ae v22 (ae v21 aV)))))))))))))))))))))))))))))))))) kQ):Q:=h p
theorem Fo {P Q:Prop} (p:P) (h:P→Q:=by intro kQ;exact aj (N:=25) (l:=[.int .i64 v,.slice A n c]) Tryz.func90 rfl rfl (by simp) kQ):Q:=h p
theorem sa {P Q:Prop} (p:P) (h:P→Q:=by intro kQ;exact vS rfl (av (DR rfl) aU) Xk kQ):Q:=h p
theorem Qu {P Q:Prop} (p:P) (h:P→Q:=by intro kQ;exact a0 6 [[(2,none)],[(4,some 0)],[(1,none)],[(6,some 2)],[(7,some 3)],[(8,some 4)]] [(5,9),(4,8),(3,7),(2,6),(1,5),(0,4)] hh mixed Xl kQ):Q:=h p
theorem KA {P Q:Prop} (p:P) (h:P→Q:=by intro kQ;exact cq (vs:=[_,_]) aM.out rfl ((hr.ext hh.below).recAt PX.len hx) rfl Xk kQ):Q:=h p
theorem Kk {P Q:Prop} (p:P) (h:P→Q:=by intro kQ;exact bf (aa (ah (cF (a6 (aE (aE (bq (ai (ah (sr kQ))))))))))):Q:=h p
theorem vy {P Q:Prop} (p:P) (h:P→Q:=by intro kQ;exact bU aM.out rfl ((hr.ext hh.below).wj hgi) Xk kQ):Q:=h p
theorem x8 {P Q:Prop} (p:P) (h:P→Q:=by intro kQ;exact aj (N:=29) (l:=[.agg #[.slice A n c,.slice B m c2]]) Tryz.func13 rfl rfl (by simp) kQ):Q:=h p
theorem GC {P Q:Prop} (p:P) (h:P→Q:=by intro kQ;exact bA hh (eI A n c ds _ (hS.ext hh.below) hn) rfl kQ):Q:=h p
theorem Km {P Q:Prop} (p:P) (h:P→Q:=by intro kQ;exact a0 6 [[(1,none)],[(19,some 0)],[(20,some 1)],[(1,none)],[(22,some 3)],[(23,some 4)]] [(5,24),(4,23),(3,22),(2,21),(1,20),(0,19)] hh mixed Xl kQ):Q:=h p
theorem LK {P Q:Prop} (p:P) (h:P→Q:=by intro kQ;exact aW (bm (ae v24 (ae v23 (ae v22 (ae v21 (ae v20 (ae v19 aV))))))) kQ):Q:=h p
theorem oF {P Q:Prop} (p:P) (h:P→Q:=by intro kQ;exact cX hh (cs:=[_,_,_]) bh.out aM.out (aN (iO rfl) bZ) rfl rfl Xk Xk Xk rfl Xk kQ):Q:=h p
theorem B8 {P Q:Prop} (p:P) (h:P→Q:=by intro kQ;exact bf (aa (ah (cF (a6 (aE (aE (bq (bz (ai (al kQ))))))))))):Q:=h p
theorem kz {P Q:Prop} (p:P) (h:P→Q:=by intro kQ;exact y6 fQ.out rfl Xk kQ):Q:=h p
theorem eu {P Q:Prop} (p:P) (h:P→Q:=by intro kQ;exact bA hh (hck _ (hT.hp hh) hh.below) rfl kQ):Q:=h p
theorem IW {P Q:Prop} (p:P) (h:P→Q:=by intro kQ;exact cq (vs:=[_,_,_,_,_,_]) aM.out rfl ((hr.ext hh.below).recAt SR.len hs) rfl Xk kQ):Q:=h p
theorem Pq {P Q:Prop} (p:P) (h:P→Q:=by intro kQ;exact cX hh (cs:=[_,_,_,_,_,_]) bh.out aM.out (aN (iO rfl) bZ) rfl rfl Xk Xk Xk rfl Xk kQ):Q:=h p
theorem Fq {P Q:Prop} (p:P) (h:P→Q:=by intro kQ;exact cw hh (i:=2) rfl rfl rfl (hh.aC (i:=0) rfl) bh.out aM.out rfl Xk (by first|rfl|exact dv _|exact cY _|exact bF _|exact bT NR.one _) Xj Xj Xk kQ):Q:=h p
theorem Bp {P Q:Prop} (p:P) (h:P→Q:=by intro kQ;exact aj (N:=58) (l:=[.agg #[.int .i64 p.v,.slice p.A p.n p.c],.slice L n c,.slice M m mc]) Tryz.func43 rfl rfl (by simp) kQ):Q:=h p
theorem vT {P Q:Prop} (p:P) (h:P→Q:=by intro kQ;exact cJ (aa (cF (aq (ai (ah (sr (mL kQ)))))))):Q:=h p
theorem n9 {P Q:Prop} (p:P) (h:P→Q:=by intro kQ;exact cJ (aa (cF (aq (ai (ah (sr (mL (aH (bH kQ)))))))))):Q:=h p
theorem BF {P Q:Prop} (p:P) (h:P→Q:=by intro kQ;exact bU aM.out rfl ((hr.ext hh.below).wj hy2) Xk kQ):Q:=h p
theorem Fk {P Q:Prop} (p:P) (h:P→Q:=by intro kQ;exact aa (cT (sr (aI (aa (aw (cf (aK (aK (cf (aK kQ))))))))))):Q:=h p
theorem Q5 {P Q:Prop} (p:P) (h:P→Q:=by intro kQ;exact cw hh (i:=3) rfl rfl rfl (hh.aC (i:=0) rfl) bh.out aM.out rfl Xk (by first|rfl|exact dv _|exact cY _|exact bF _|exact bT NR.one _) Xj Xj Xk kQ):Q:=h p
theorem JM {P Q:Prop} (p:P) (h:P→Q:=by intro kQ;exact Pt (eC rfl (eF (vs:=[_,_]) aM.out (hh.bY (i:=3) (n:=2) rfl rfl) rfl) (ju (kf rfl) fJ)) kQ):Q:=h p
theorem Ks {P Q:Prop} (p:P) (h:P→Q:=by intro kQ;exact bf (aa (ah (cF (a6 (aE (aE (bq (ai (sr (bH kQ))))))))))):Q:=h p
theorem qH {P Q:Prop} (p:P) (h:P→Q:=by intro kQ;exact Pt (eC rfl (eF (vs:=[_,_]) aM.out (hh.bY (i:=2) (n:=2) rfl rfl) rfl) (ju (kf rfl) fJ)) kQ):Q:=h p
theorem B5 {P Q:Prop} (p:P) (h:P→Q:=by intro kQ;exact sr (aB (aa (ah (sr (mL (aH (mL (aH kQ))))))))):Q:=h p
theorem IZ {P Q:Prop} (p:P) (h:P→Q:=by intro kQ;exact cJ (aa (cF (aq (ai (ah (sr (aI (aa (ao kQ)))))))))):Q:=h p
theorem yh {P Q:Prop} (p:P) (h:P→Q:=by intro kQ;exact bf (aa (cT (aq (ai (ah (ao (ah kQ)))))))):Q:=h p
theorem AZ {P Q:Prop} (p:P) (h:P→Q:=by intro kQ;exact a0 8 [[(0,none)],[(5,none)],[(17,some 0),(18,some 1)],[(19,some 2)],[(1,none)],[(5,none)],[(21,some 4),(22,some 5)],[(23,some 6)]] [(7,24),(6,23),(5,22),(4,21),(3,20),(2,19),(1,18),(0,17)] hh mixed Xl kQ):Q:=h p
theorem PU {P Q:Prop} (p:P) (h:P→Q:=by intro kQ;exact bj (i:=2) (fun ρ1 w1 hj hR=>dA bh.out aM.size (show ρ1 17=Value.slice _ _ _ from hR.1) (show ρ1 18=Value.int _ _ from hR.2.1) Xj Xj) kQ):Q:=h p
theorem QC {P Q:Prop} (p:P) (h:P→Q:=by intro kQ;exact bj (i:=6) (fun ρ1 w1 hj hR=>dA bh.out aM.size (show ρ1 21=Value.slice _ _ _ from hR.1) (show ρ1 22=Value.int _ _ from hR.2.1) Xj Xj) kQ):Q:=h p
theorem Bi {P Q:Prop} (p:P) (h:P→Q:=by intro kQ;exact aW (bm (ae v24 (ae v23 (ae v22 (ae v21 (ae v20 (ae v19 (ae v18 (ae v17 aV))))))))) kQ):Q:=h p
theorem CB {P Q:Prop} (p:P) (h:P→Q:=by intro kQ;exact bf (aa (cF (a6 (aE (aE (bq (ai (sr (aB (aa (aw kQ)))))))))))):Q:=h p
theorem Fy {P Q:Prop} (p:P) (h:P→Q:=by intro kQ;exact aj (N:=34) (l:=[.int .i64 v,.int .i64 x]) Tryz.func83 rfl rfl (by simp) kQ):Q:=h p
theorem P1 {P Q:Prop} (p:P) (h:P→Q:=by intro kQ;exact aj (N:=17) (l:=[.agg #[.int .i64 p.v,.slice p.A p.n p.c],.agg #[.int .i64 q.v,.slice q.A q.n q.c]]) Tryz.func32 rfl rfl (by simp) kQ):Q:=h p
theorem Pn {P Q:Prop} (p:P) (h:P→Q:=by intro kQ;exact aj (N:=42) (l:=[.agg #[.int .i64 p.v,.slice p.A p.n p.c],.agg #[.bool c.neg,.string c.bg,.int .i64 c.e]]) Tryz.func104 rfl rfl (by simp) kQ):Q:=h p
theorem Jl {P Q:Prop} (p:P) (h:P→Q:=by intro kQ;exact bU aM.out rfl (((hr.ext hh.below).recAt TR.len hx).cell (i:=0) rfl) Xk kQ):Q:=h p
theorem od {P Q:Prop} (p:P) (h:P→Q:=by intro kQ;exact bU aM.out rfl ((hh.below.cell (jL hp)).trans hp) Xk kQ):Q:=h p
theorem Rg {P Q:Prop} (p:P) (h:P→Q:=by intro kQ;exact a0 8 [[(0,none)],[(5,none)],[(13,some 0),(14,some 1)],[(15,some 2)],[(1,none)],[(5,none)],[(17,some 4),(18,some 5)],[(19,some 6)]] [(7,20),(6,19),(5,18),(4,17),(3,16),(2,15),(1,14),(0,13)] hh mixed Xl kQ):Q:=h p
theorem PZ {P Q:Prop} (p:P) (h:P→Q:=by intro kQ;exact bj (i:=2) (fun ρ1 w1 hj hR=>lX bh.out aM.size (show ρ1 13=Value.slice _ _ _ from hR.1) (show ρ1 14=Value.int _ _ from hR.2.1) rfl Xj) kQ):Q:=h p
theorem Qc {P Q:Prop} (p:P) (h:P→Q:=by intro kQ;exact bj (i:=3) (fun ρ1 w1 hj hR=>jN aM.out (show ρ1 15=Value.pointer _ from hR.1) (hj.hp.eH (i:=0) rfl (by rw [XK];exact hx2))) kQ):Q:=h p
theorem Qn {P Q:Prop} (p:P) (h:P→Q:=by intro kQ;exact bj (i:=6) (fun ρ1 w1 hj hR=>dA bh.out aM.size (show ρ1 17=Value.slice _ _ _ from hR.1) (show ρ1 18=Value.int _ _ from hR.2.1) Xj Xj) kQ):Q:=h p
theorem Pp {P Q:Prop} (p:P) (h:P→Q:=by intro kQ;exact aW (bm (ae v20 (ae v19 (ae v18 (ae v17 (ae v16 (ae v15 (ae v14 (ae v13 aV))))))))) kQ):Q:=h p
theorem Ju {P Q:Prop} (p:P) (h:P→Q:=by intro kQ;exact cq (vs:=[_,_,_]) aM.out rfl ((hr.ext hh.below).recAt NR.len hxn) rfl Xk kQ):Q:=h p
theorem QJ {P Q:Prop} (p:P) (h:P→Q:=by intro kQ;exact cq (vs:=[_,_,_]) aM.out rfl (hh.fV (f:=NR.cells) (x:=nR (nD (bin (d-i) j))) (l:=la (d-i)) (i:=0) rfl NR.len Xk hbn) rfl Xk kQ):Q:=h p
theorem J2 {P Q:Prop} (p:P) (h:P→Q:=by intro kQ;exact aW (bm (ae v25 (ae v24 (ae v23 (ae v22 (ae v21 (ae v20 aV))))))) kQ):Q:=h p
theorem EL {P Q:Prop} (p:P) (h:P→Q:=by intro kQ;exact aj (N:=20) (l:=[.agg #[.slice fx.A fx.n fx.a,.slice fx.B fx.m fx.b],.int .i64 ax]) Tryz.func66 rfl rfl (by simp) kQ):Q:=h p
theorem mU {P Q:Prop} (p:P) (h:P→Q:=by intro kQ;exact cJ (aa (cF (aq (ai (ah (sr (mI kQ)))))))):Q:=h p
theorem P3 {P Q:Prop} (p:P) (h:P→Q:=by intro kQ;exact a0 6 [[(8,none)],[(3,none)],[(21,some 1)],[(20,some 0),(22,some 2)],[(3,none)],[(24,some 4)]] [(5,25),(4,24),(3,23),(2,22),(1,21),(0,20)] hh mixed Xl kQ):Q:=h p
theorem Qs {P Q:Prop} (p:P) (h:P→Q:=by intro kQ;exact bj (i:=3) (fun ρ1 w1 hj hR=>pr (show ρ1 20=Value.int _ _ from hR.1) (show ρ1 22=Value.int _ _ from hR.2.1) Xj Xj Xj) kQ):Q:=h p
theorem Cs {P Q:Prop} (p:P) (h:P→Q:=by intro kQ;exact bA hh (hhas _ (hT.hp hh) hh.below) rfl kQ):Q:=h p
theorem Js {P Q:Prop} (p:P) (h:P→Q:=by intro kQ;exact da (k:=a) bh.out aM.size rfl rfl Xj Xj Xk kQ):Q:=h p
theorem QE {P Q:Prop} (p:P) (h:P→Q:=by intro kQ;exact cq (vs:=[_,_,_]) aM.out rfl (hh.fV (f:=NR.cells) (x:=nR x) (l:=Y.map nR) (i:=1) rfl NR.len Xk hxn) rfl Xk kQ):Q:=h p
theorem P6 {P Q:Prop} (p:P) (h:P→Q:=by intro kQ;exact a0 12 [[(9,none)],[(7,none)],[(58,some 1)],[(57,some 0),(59,some 2)],[(7,none)],[(61,some 4)],[(60,some 3),(62,some 5)],[(2,none)],[(64,some 7)],[(1,none)],[(65,some 8),(66,some 9)],[(67,some 10)]] [(11,68),(10,67),(9,66),(8,65),(7,64),(6,63),(5,62),(4,61),(3,60),(2,59),(1,58),(0,57)] hh mixed Xl kQ):Q:=h p
theorem QP {P Q:Prop} (p:P) (h:P→Q:=by intro kQ;exact bj (i:=3) (fun ρ1 w1 hj hR=>pr (show ρ1 57=Value.int _ _ from hR.1) (show ρ1 59=Value.int _ _ from hR.2.1) Xj Xj Xj) kQ):Q:=h p
theorem P0 {P Q:Prop} (p:P) (h:P→Q:=by intro kQ;exact bj (i:=6) (fun ρ1 w1 hj hR=>mJ (show ρ1 60=Value.int _ _ from hR.1) (show ρ1 62=Value.int _ _ from hR.2.1) Xj Xj) kQ):Q:=h p
theorem EU {P O Q:Prop} (p:P) (o:O) (h:P→O→Q:=by intro kQ lQ;exact aQ (i:=10) (Is (.pointer (some (ad0.add (a*1))))) (Is.ext) kQ lQ):Q:=h p o
theorem Q9 {P Q:Prop} (p:P) (h:P→Q:=by intro kQ;exact aW (bm (ae v68 (ae v67 (ae v66 (ae v65 (ae v64 (ae v63 (ae v62 (ae v61 (ae v60 (ae v59 (ae v58 (ae v57 aV))))))))))))) kQ):Q:=h p
theorem FZ {P Q:Prop} (p:P) (h:P→Q:=by intro kQ;exact aj (N:=165) (l:=[.agg #[.slice fx.A fx.n fx.a,.slice fx.B fx.m fx.b],.slice L n c]) Tryz.func28 rfl rfl (by simp) kQ):Q:=h p
theorem KE {P Q:Prop} (p:P) (h:P→Q:=by intro kQ;exact It (N:=58) (l:=[.agg #[.slice fx.A fx.n fx.a,.slice fx.B fx.m fx.b],.slice L m2 c2]) Tryz.func10 rfl rfl (by simp) kQ):Q:=h p
theorem Le {P Q:Prop} (p:P) (h:P→Q:=by intro kQ;exact aQ (i:=8) (dm _ 40 _) dm.ext (fun ρ1 w1 hj hR=>jz aM.out hj.bl (fun v w2 h hb=>⟨hb,h⟩)) kQ):Q:=h p
theorem E0 {P Q:Prop} (p:P) (h:P→Q:=by intro kQ;exact aj (N:=18) (l:=[.agg #[.bool a.neg,.string a.bg,.int .i64 a.e]]) Tryz.func36 rfl rfl (by simp) kQ):Q:=h p
theorem Lp {P Q:Prop} (p:P) (h:P→Q:=by intro kQ;exact aj (N:=46) (l:=[.slice A n c,.slice B m d]) Tryz.func7 rfl rfl (by simp) kQ):Q:=h p
theorem K4 {P Q:Prop} (p:P) (h:P→Q:=by intro kQ;exact aj (N:=52) (l:=[.agg #[.slice fx.A fx.n fx.a,.slice fx.B fx.m fx.b],.int .i64 bits]) Tryz.func14 rfl rfl (by simp) kQ):Q:=h p
theorem JP {P Q:Prop} (p:P) (h:P→Q:=by intro kQ;exact cq (vs:=[_,_,_]) aM.out rfl ((sC.ext hh.below).recAt NR.len hx) rfl Xk kQ):Q:=h p
theorem Ft {P Q:Prop} (p:P) (h:P→Q:=by intro kQ;exact aj (N:=23) (l:=[.int .i64 i,.agg s.cells.toArray,.pointer (some p)]) Tryz.func65 rfl rfl (by simp) kQ):Q:=h p
theorem GO {P Q:Prop} (p:P) (h:P→Q:=by intro kQ;exact qS (fun _ hj=>hE.ld (hj.hp.sub (.cons _ (.cons _ (Yo _))))) kQ):Q:=h p
theorem PC {P Q:Prop} (p:P) (h:P→Q:=by intro kQ;exact a0 14 [[(11,none)],[(9,none)],[(48,some 1)],[(47,some 0),(49,some 2)],[(9,none)],[(51,some 4)],[(50,some 3),(52,some 5)],[(3,none)],[(54,some 7)],[(1,none)],[(55,some 8),(56,some 9)],[(57,some 10)],[(2,none)],[(58,some 11),(59,some 12)]] [(13,60),(12,59),(11,58),(10,57),(9,56),(8,55),(7,54),(6,53),(5,52),(4,51),(3,50),(2,49),(1,48),(0,47)] hh mixed Xl kQ):Q:=h p
theorem Qi {P Q:Prop} (p:P) (h:P→Q:=by intro kQ;exact bj (i:=3) (fun ρ1 w1 hj hR=>pr (show ρ1 47=Value.int _ _ from hR.1) (show ρ1 49=Value.int _ _ from hR.2.1) Xj Xj Xj) kQ):Q:=h p
theorem P8 {P Q:Prop} (p:P) (h:P→Q:=by intro kQ;exact bj (i:=6) (fun ρ1 w1 hj hR=>mJ (show ρ1 50=Value.int _ _ from hR.1) (show ρ1 52=Value.int _ _ from hR.2.1) Xj Xj) kQ):Q:=h p
theorem PD {P Q:Prop} (p:P) (h:P→Q:=by intro kQ;exact aW (bm (ae v60 (ae v59 (ae v58 (ae v57 (ae v56 (ae v55 (ae v54 (ae v53 (ae v52 (ae v51 (ae v50 (ae v49 (ae v48 (ae v47 aV))))))))))))))) kQ):Q:=h p
theorem JR {P Q:Prop} (p:P) (h:P→Q:=by intro kQ;exact bf (aa (ah (cF (a6 (aE (aE (bq (ai (sr (mL (aL (aa (aw kQ)))))))))))))):Q:=h p
theorem QR {p:Prop} (h:p:=by
  refine ⟨⟨i+1,Xj,rfl,hh⟩,by show (n-m/64)-(i+1)<(n-m/64)-i;omega, ?_⟩;exact dV):p:=h
theorem PO {p:Prop} (h:p:=by
  refine aa (sr (mI ?_));refine bk (mL (aH ?_));refine bf (mB ?_);refine gS (gS (gS ?_));refine ez ?_;exact PQ):p:=h
theorem Qg {p:Prop} (h:p:=by
  refine ff ?_;refine gi (i:=2) Xl rfl ?_;refine bR hh 3 [_,_] ?_;intro ws hh;replace hh:Hp _ (_::_::_::.blk _ _ [_,_] _::_) _:=hh;exact Qr):p:=h
theorem Po {p:Prop} (h:p:=by
  refine da (k:=(i+j)) bh.out aM.size rfl rfl Xj Xj Xk ?_;refine bW hh (i:=3) (vs:=[_,_,_]) rfl rfl (iO rfl) rfl aM.out rfl Xj rfl ?_;intro ws hh;simp only [XC,X6] at hh;rw [show cm (ay NR.cells (S.map nR)) ((i+j)*3) [.bool (nR (o+y)).neg,.string (nR (o+y)).bg,.int .i64 (nR (o+y)).e]=ay NR.cells ((S.map nR).set (i+j) (nR (o+y))) from il NR.len Xj,←Zv,hset] at hh;refine fp ?_;refine bk (mI (aA (ai ?_)));replace hh:=hh.sub (Xv _ (Xq _ (Xq _ (Xq _ XU))));refine ⟨⟨j+1,Xj,rfl,hh⟩,by show d-i+1-(j+1)<d-i+1-j;omega, ?_⟩;exact dV):p:=h
theorem Pv {p:Prop} (h:p:=by
  refine sV bh.out bh.out bh.out rfl (hh.aC (i:=0) rfl) Xk ?_;exact HK):p:=h
theorem Pr {p:Prop} (h:p:=by
  refine ⟨⟨i+1,_,Xj,rfl,hS3.symm,hh⟩,by show n-(i+1)<n-i;omega, ?_⟩;exact dV):p:=h
theorem Ri {p:Prop} (h:p:=by
  refine aa (cT (sr ?_));refine bA hh (jP _ (hT.hp hh)) rfl ?_;intro w53 hh;exact Ue):p:=h
theorem QW {p:Prop} (h:p:=by
  refine aa (cT (sr ?_));refine bA hh (jP _ (hT.hp hh)) rfl ?_;intro w37 hh;exact Ue):p:=h
theorem KK {p:Prop} (h:p:=by
  exact ⟨none,0,rfl,World.ownsRow_nil _ _ _ _,hh.below⟩):p:=h
theorem Qh {p:Prop} (h:p:=by
  rw [Yn] at hun ⊢;rw [Zy hiL] at hun ⊢;simpa using hun):p:=h
theorem Q8 {p:Prop} (h:p:=by
  refine aI (aa (sr (mI ?_)));refine cJ (aa (cT (sr ?_)));refine fP [_,_] (mI ?_);exact Uu):p:=h
theorem QQ {p:Prop} (h:p:=by
  refine aI (aa (sr (mI ?_)));refine cJ (aa (cT (sr ?_)));refine fP [_,_,_] (mI ?_);exact Oz):p:=h
theorem JI {p:Prop} (h:p:=by
  rw [ho] at ho';injection ho' with ho';subst ho';exact hed):p:=h
theorem Ra {p:Prop} (h:p:=by
  refine aa (cT (sr (aB (aa (aw (aK (cf (aK (aK (cf (aK ?_)))))))))));exact BE):p:=h
theorem QU {p:Prop} (h:p:=by
  rw [XA];exact XV (aaQ _ _) (by rw [YO];exact Xr _)):p:=h
theorem QD {p:Prop} (h:p:=by
  refine pP ?_;exact ⟨rfl,hh.below⟩):p:=h
theorem PM {p:Prop} (h:p:=by
  refine CK ?_;exact ⟨rfl,hh.below⟩):p:=h
theorem Px {p:Prop} (h:p:=by
  refine Gu ?_;exact ⟨rfl,hh.below⟩):p:=h
theorem PN {p:Prop} (h:p:=by
  refine ⟨⟨i,_,_,Xj,rfl,by rw [d1];rfl,by rw [d1];exact hh⟩,by show ((i:Int)-1+1).toNat<((i:Int)+1).toNat;omega, ?_⟩;exact dV):p:=h
theorem Pz {p:Prop} (h:p:=by
  refine Pt (eC rfl (eF (vs:=[_,_,_]) aM.out (hh.bY (i:=0) (n:=3) rfl rfl) rfl) (ju (kf rfl) fJ)) ?_;exact ⟨rfl,hh.below⟩):p:=h
theorem P4 {p:Prop} (h:p:=by
  rintro e_ w7 ⟨A7,c7,rfl,hown_,hb_⟩;refine ⟨_,rfl, ?_⟩;replace hh:=hh.aX (x:=.row _ _ _ _ _ _) hb_ hown_;refine aL (aa (aw ?_));exact Ux):p:=h
theorem Kc {p:Prop} (h:p:=by
  exact Xm):p:=h
theorem QH {p:Prop} (h:p:=by
  refine oQ ?_;refine dS (dS (dS (dS (dS ?_))));refine yU (i:=18) rfl (fun ρ1 w1 hj hR=>(show ρ1 33=Value.bool _ from hR.2.2.1)) Xk ?_;refine Hf ?_;exact VS):p:=h
theorem Qt {p:Prop} (h:p:=by
  refine ff ?_;refine gi (i:=2) Xl rfl ?_;refine bR hh 4 [_,_] ?_;intro ws hh;replace hh:Hp _ (_::_::_::_::.blk _ _ [_,_] _::_) _:=hh;exact T9):p:=h
theorem Kl {p:Prop} (h:p:=by
  refine aa (cT (sr (aB (aa (aw (cf (aK (aK (cf (aK ?_))))))))));exact BE):p:=h
theorem PV {p:Prop} (h:p:=by
  refine aj (N:=9) (l:=[.int .i64 v]) Tryz.func109 rfl rfl (by simp) ?_;refine sr (aB (aa (sr (mI ?_))));refine dL (mB (gT (mI (gT ?_))));refine LM ?_;refine eR ?_;exact zr):p:=h
theorem FM {p:Prop} (h:p:=by
  refine dL (aB (aa (aw ?_)));refine df ?_;exact ⟨rfl,hh.below⟩):p:=h
theorem F1 {p:Prop} (h:p:=by
  exact ⟨g,og,rfl,hh.sub (Xq _ (YE _))⟩):p:=h
theorem PS {p:Prop} (h:p:=by
  refine mB ?_;refine gS (gS ?_);refine gy ?_;refine gS (gS (gS ?_));refine ez ?_;refine oJ ?_;refine cg hh 0 [_,_] ?_;exact LH):p:=h
theorem QF {p:Prop} (h:p:=by
  refine mB ?_;refine gS ?_;refine gy ?_;refine gy ?_;refine gS ?_;refine ez ?_;refine aB (aa (aw ?_));exact BE):p:=h
theorem Qa {p:Prop} (h:p:=by
  intro ρ1 w1 hj hR;exact db rfl (fC (k:=a) bh.out aM.size ((show ρ1 55=Value.slice _ _ _ from hR.1).trans si) (show ρ1 56=Value.int _ _ from hR.2.1) Xj Xj) ⟨Below.refl _ _,rfl⟩):p:=h
theorem P9 {p:Prop} (h:p:=by
  simp only [Za,YF,XF,Z1];refine ⟨h2,aaf.2 fun e he=> ?_⟩
  cases hb:Region.binds .any e with
  |false=>simp
  |true=>simpa [hb] using h3 e he hb):p:=h
theorem Qp {p:Prop} (h:p:=by
  refine aF (hpu _ (hT.hp hh) hh.below) ar.out rfl Xk ?_;rintro e_ w51 ⟨g,og,rfl,h3⟩;refine ⟨_,rfl, ?_⟩;replace hh:=hh.join h3;simp only [Xw,Xu] at hh;refine dn ?_;refine dn ?_;exact TL):p:=h
theorem QM {p:Prop} (h:p:=by
  have h3:=hdep (i-m) Xj;rw [show m+(i-m)=i by omega] at h3;have h4:(i-m==0)=false:=by simp;omega
  rw [h4,X2] at h3;have:=fW hM hI.cl i m hed' h3;rw [hI.tl m (Xr _)] at this
  cases this):p:=h
theorem Qv {p:Prop} (h:p:=by
  have hik:i=k:=by
   rcases Yb i k with h|h
   ·exact absurd ⟨i,h,h2,h3⟩ hex
   ·omega
  subst hik;refine ⟨i,h2,h3,fun j hj=> ?_⟩
  cases hc2:L.getD j false with
  |true=>rfl
  |false=>exact absurd ⟨j,hj,Xj,hc2⟩ hex):p:=h
theorem Rc {p:Prop} (h:p:=by
  have h1:L.toList.countP (fun b=>b)=L.toList.length:=by
   have:=hI.ls;simp only [aas];omega
  have h2:=List.countP_eq_length.1 h1;have h3:i<L.size:=by rw [hI.ls,hnn];exact hi
  have:=h2 L[i] (by simp);simpa [h3] using this):p:=h
theorem J9 {p:Prop} (h:p:=by
  refine bR hh 0 [_,_,_] ?_;intro ws hh;replace hh:Hp _ (.blk _ _ [_,_,_] _::_) _:=hh;refine aa (aw (aK ?_));exact Vy):p:=h
theorem J5 {p:Prop} (h:p:=by
  intro A7 c7 w7 hh;simp only [XC] at hh;rw [XJ] at hh ⊢;rw [Xu] at hh;refine aL (aa (aw ?_));exact Ux):p:=h
theorem KG {p:Prop} (h:p:=by
  refine ⟨⟨i+1,Xj,rfl,hh⟩,by show n-(i+1)<n-i;omega, ?_⟩;exact dV):p:=h
theorem QV {p:Prop} (h:p:=by
  refine mB ?_;refine gy ?_;refine gS ?_;refine gy ?_;refine gy ?_;refine gS ?_;refine ez ?_;refine pQ ?_;refine cg hh 1 [_,_,_] ?_;exact Mc):p:=h
theorem PJ {p:Prop} (h:p:=by
  refine bR hh 1 [_,_] ?_;intro ws hh;replace hh:Hp _ (_::.blk _ _ [_,_] _::_) _:=hh;refine fp ?_;refine bk (mI (aA (ai ?_)));replace hh:=hh.sub (X9 _ _);refine ⟨⟨i+1,_,_,Xj,rfl,hS3.symm,hpl,by unfold IR.v at hba ⊢;omega,hh⟩,by show n-(i+1)<n-i;omega, ?_⟩;exact dV):p:=h
theorem GL {p:Prop} (h:p:=by
  refine bR hh 0 [_,_] ?_;intro ws hh;replace hh:Hp _ (.blk _ _ [_,_] _::_) _:=hh;refine aa (aw (aK ?_));exact Vu):p:=h
theorem E8 {p:Prop} (h:p:=by
  refine bR hh 1 [_,_] ?_;intro ws hh;replace hh:Hp _ (_::.blk _ _ [_,_] _::_) _:=hh;refine aI (aa (aw ?_));exact Rn):p:=h
theorem PY {p:Prop} (h:p:=by
  obtain rfl:j=d-i+1:=Xj;rw [Hk Xj] at hh;refine sr ?_;refine B8 ?_;refine bk (mI (aA (ai ?_)));replace hh:=hh.sub (Xv _ (Xv _ (Xq _ XU)));refine ⟨⟨i+1,Xj,rfl,hh⟩,by show n-(i+1)<n-i;omega, ?_⟩;exact dV):p:=h
theorem PQ {p:Prop} (h:p:=by
  refine B1 ?_;refine bk (mI (aA (ai ?_)));rw [e1,hac,←hnew] at hh;exact QR):p:=h
theorem Qb {p:Prop} (h:p:=by
  have hil:i<l.length:=Xj;have hE:=hedge i hil;have ho:l.toArray[i]?=some l[i]:=by simp [hil]
  rw [ho] at hE;have hmem:i∈Region.ready .any l.toArray L:=(hready_spec i).2 ⟨hil,by
   have h3:i<L.size:=by rw [hI.ls,hnn];exact hil
   rw [Yn] at hu ⊢;rw [Zy h3] at hu ⊢;simpa using hu,l[i],ho,fun e he hb=>by
   have:=aaf.1 hE e he;simp only [hb,aaq,X2,XN] at this;exact hlow _ this⟩
  rw [hnil] at hmem
  cases hmem):p:=h
theorem PE {p:Prop} (h:p:=by
  refine K8 ?_;refine fT ?_;refine K1 ?_;intro ws hh;simp only [XC] at hh;rw [hand,es,XK,cM (by rw [hll];omega),qa,←b1,hfk] at hh;refine aa (al (mI ?_));refine l5 (s:=1) (m:=2) rfl rfl Xk Xk Xk ?_;refine aI (aA (bz (ai (al (mI ?_)))));refine bk (aI (aA (ai ?_)));rw [es];refine ⟨⟨i+1,Xj,rfl,by rw [b2];rfl,hh⟩,by show K-(i+1)<K-i;omega, ?_⟩;exact dV):p:=h
theorem Qr {p:Prop} (h:p:=by
  refine ff ?_;refine jH 3 Xk Xl Xk Xl Xl ?_;refine bR hh 2 [_,_] ?_;intro ws hh;replace hh:Hp _ (_::_::.blk _ _ [_,_] _::_) _:=hh;refine aB (aa (aw ?_));refine VY (eC rfl (eF (vs:=[_,_]) aM.out (hh.bY (i:=3) (n:=2) rfl rfl) rfl) (eC rfl (eF (vs:=[_,_]) aM.out (hh.bY (i:=2) (n:=2) rfl rfl) rfl) (ju (mD rfl) fJ))) ?_;exact ⟨rfl,hh.below⟩):p:=h
theorem Fc {p:Prop} (h:p:=by
  refine fI (hc _ hh.below) ar.out rfl rfl Xk ?_;rintro e_ w16 ⟨rfl,hb_⟩;refine ⟨_,rfl, ?_⟩;replace hh:=hh.ext hb_;refine B1 ?_;refine bk (mI (aA (ai ?_)));refine ⟨⟨i+1,Xj,rfl,by rw [az hz,aag,hall,aao,aaj,gz];rfl,hh⟩,by show n-(i+1)<n-i;omega, ?_⟩;exact dV):p:=h
theorem Qd {p:Prop} (h:p:=by
  refine ff ?_;refine gi (i:=8) Xl rfl ?_;refine fI (hsm _ (hT.hp hh)) ar.out rfl rfl Xk ?_;rintro e_ w41 ⟨rfl,hb_⟩;refine ⟨_,rfl, ?_⟩;replace hh:=hh.ext hb_;refine ff ?_;refine gi (i:=9) Xl rfl ?_;refine Cq ?_;intro b42 w42 hh;refine ff ?_;refine gi (i:=10) Xl rfl ?_;refine qM ?_;intro A43 c43 w43 hh;simp only [XC,X6] at hh;replace hh:=hh.sub (X9 _ _);refine ff ?_;refine jH 15 Xk Xl Xk Xl Xl ?_;refine aL (aL (aL (aA (bz (bz (ai ?_))))));replace hh:=hh.sub (Xq _ XU);refine ⟨⟨_,n-1,c-1,X,_,m-1,c2-1,Y,O++[⟨x.m,nR (x.c.d+y.c.d)⟩],A43,c43,rfl,rfl, ?_,Xj,Xj,hSt,hSt2,hmg.both h1 h2 hk, ?_⟩,by show (n-1)+(m-1)<n+m;omega, ?_⟩
  ·exact Uy
  ·rw [Xy,bD];exact hh
  ·exact dV):p:=h
theorem QS {p:Prop} (h:p:=by
  have zy:=zx.mul zu;have hm2:=fun A cc w1 hT1 hS1=>dW A 2 cc [nR x,nR u] w1 hT1 hS1 (by simpa using ⟨zx.ok Xj,zu.ok Xj⟩) 600000 (by simpa [bI] using ⟨zx.mono Xj,zu.mono Xj⟩) Xj Xj;rw [show fU ([nR x,nR u].map NR.d)=x*u by simp only [XQ,Ye,bI];show 1*x*_=_;rw [Zi]] at hm2;generalize x*u=y at*;have hsum:=fun A cc w1 hT1 hS1=>fY A 2 cc [nR o,nR y] w1 hT1 hS1 (by simpa using ⟨zo.ok Xj,zy.ok Xj⟩) 2000000 (by simpa [bI] using ⟨zo.mono Xj,zy.mono Xj⟩) Xj;rw [show l4 ([nR o,nR y].map NR.d)=o+y by simp only [XQ,Ye,bI,jA]] at hsum;have hrl:=dY NR.len (S.map nR);refine a0 16 [[(4,none)],[(5,none)],[(7,none)],[(38,some 1),(39,some 2)],[(4,none)],[(5,none)],[(7,none)],[(42,some 5),(43,some 6)],[(41,some 4),(44,some 7)],[(45,some 8)],[(6,none)],[(8,none)],[(47,some 10),(48,some 11)],[(49,some 12)],[(46,some 9),(50,some 13)],[(51,some 14)]] [(15,52),(14,51),(13,50),(12,49),(11,48),(10,47),(9,46),(8,45),(7,44),(6,43),(5,42),(4,41),(3,40),(2,39),(1,38),(0,37)] hh mixed Xl ?_;refine fS ?_;refine dJ ?_;refine dJ ?_;refine rL ?_
  refine fS ?_;refine dJ ?_;refine dJ ?_;refine rL ?_;refine LC ((i+j)) ?_;refine so [_,_,_] (fun _ hj=>hj.hp.fV (f:=NR.cells) (x:=nR o) (l:=S.map nR) (i:=3) rfl NR.len Xk hon) ?_;refine fG 2 [_,_,_] ?_;refine fG 0 [_,_,_] ?_;refine rD [_,_,_,_,_,_] ?_;refine aQ (i:=13) (Is (.agg #[.bool (nR y).neg,.string (nR y).bg,.int .i64 (nR y).e])) Is.ext ?_ ?_
  ·exact VE
  refine rD [_,_,_,_,_,_] ?_;refine aQ (i:=15) (Is (.agg #[.bool (nR (o+y)).neg,.string (nR (o+y)).bg,.int .i64 (nR (o+y)).e])) Is.ext ?_ ?_
  ·exact Vp
  refine aO ?_;intro f W hJ hV;have hb_11:=hJ.bl;obtain ⟨v52,v51,v50,v49,v48,v47,v46,v45,v44,v43,v42,v41,v40,v39,v38,v37,_⟩:=hV;obtain ⟨A49,c49,e49,f49⟩:Rows _ _ _ (f 12) W:=v49;obtain ⟨A51,c51,e51,f51⟩:Rows _ _ _ (f 14) W:=v51;replace hh:=hJ.hp;refine aW (bm (ae v52 (ae e51 (ae v50 (ae e49 (ae v48 (ae v47 (ae v46 (ae v45 (ae v44 (ae v43 (ae v42 (ae v41 (ae v40 (ae v39 (ae v38 (ae v37 aV))))))))))))))))) ?_;dsimp only [cd];clear e49 e51 hJ;exact Po):p:=h
theorem PW {p:Prop} (h:p:=by
  clear hh;rintro ρ' w' ⟨m,A,c,hm0,hm1,hh⟩;have hcell:=hE.ld (hh.sub (.cons _ (.cons _ (Yo _))));obtain ⟨q,rfl⟩:∃q,m=q+1:=⟨m-1,Xj⟩;refine ah (sr (mP ?_));refine kr rfl Xk ?_;refine kz ?_;refine bU aM.out rfl (hcell) Xk ?_;by_cases hmn:q+1≤n
  ·have hdm:=fun A cc w1 hT1 hS1=>dW A 2 cc [nR (x.d^q),x] w1 hT1 hS1 (by simpa using ⟨(hpow q Xj).ok Xk,hx.1⟩) 128000 (by simpa [bI] using ⟨hpow q Xj,hx.2.mono Xj⟩) Xk Xk;rw [show fU ([nR (x.d^q),x].map NR.d)=x.d^(q+1) by show 1*(nR (x.d^q)).d*x.d=_;rw [bI,Zi,aah]] at hdm;have hq0:=Kz (x:=x.d) (show q<q+1 by omega);obtain ⟨gq,rfl⟩:=hh.cn (i:=3) rfl Xj;refine aH (mI ?_);refine LM (aa (cT (aq (ai (ao ?_)))))
   refine dy [] [0] [0,0,2,6,14,0,32,96,224,0,512,1536,3584,7680,15872,32736,65504,0,262112,524256,1048544,2097150,4194303,8388607,16777215] 21 [[(0,none)],[(0,none)],[(31,some 1)],[(32,some 2)],[(33,some 3)],[(0,none)],[(35,some 5)],[(36,some 6)],[(37,some 7)],[(0,none)],[(39,some 9)],[(40,some 10)],[(41,some 11)],[(42,some 12)],[(43,some 13)],[(38,some 8),(44,some 14)],[(45,some 15)],[(4,none)],[(46,some 16),(47,some 17)],[(48,some 18)],[(49,some 19)]] [(20,50),(19,49),(18,48),(17,47),(16,46),(15,45),(14,44),(13,43),(12,42),(11,41),(10,40),(9,39),(8,38),(7,37),(6,36),(5,35),(4,34),(3,33),(2,32),(1,31),(0,30)] hh mixed Xl dO rfl (by repeat (first|exact cu|refine bQ ?_|refine ct ?_)) ?_;refine Tf ?_;refine Tf ?_;refine UO ?_;refine IU ?_;refine GO ?_;refine Tf ?_;refine UO ?_;refine IU ?_;refine GO ?_;refine Tf ?_;refine UO ?_;refine IU ?_;refine GO ?_;refine AU ?_;refine vx ?_;refine LC (q) ?_;refine so [_,_,_] (fun _ hj=>hj.hp.fV (f:=NR.cells) (x:=nR (x.d^q)) (l:=xj x.d (q+1)) (i:=3) rfl NR.len Xk hq0) ?_;refine fG 1 [_,_,_] ?_
   refine rD [_,_,_,_,_,_] ?_;refine aQ (i:=19) (Is (.agg #[.bool (nR (x.d^(q+1))).neg,.string (nR (x.d^(q+1))).bg,.int .i64 (nR (x.d^(q+1))).e])) Is.ext ?_ ?_
   ·exact Va
   refine rD [_,_,_] ?_;refine aO ?_;intro f W hJ hV _;have hb_4:=hJ.bl;obtain ⟨v50,v49,v48,v47,v46,v45,v44,v43,v42,v41,v40,v39,v38,v37,v36,v35,v34,v33,v32,v31,v30,_⟩:=hV;obtain ⟨A48,c48,e48,f48⟩:Rows _ _ _ (f 18) W:=v48;obtain ⟨A50,c50,e50,f50⟩:Rows _ _ _ (f 20) W:=v50;replace hh:=hJ.hp;refine aW (bm (ae e50 (ae v49 (ae e48 (ae v47 (ae v46 (ae v45 (ae v44 (ae v43 (ae v42 (ae v41 (ae v40 (ae v39 (ae v38 (ae v37 (ae v36 (ae v35 (ae v34 (ae v33 (ae v32 (ae v31 (ae v30 aV)))))))))))))))))))))) ?_;dsimp only [cd];clear e48 e50 hJ;refine cw hh (i:=3) rfl rfl rfl (f50) bh.out aM.out rfl Xk (by first|rfl|exact dv _|exact cY _|exact bF _|exact bT NR.one _) Xj Xj Xk ?_;intro A51 c51 w51 hh;simp only [XC,X6] at hh;refine kr rfl Xk ?_;refine kz ?_;replace hh:=hh.perm (XX (l₁:=[_,_]));simp only [Xw,Xu] at hh;refine hE.st (v':=.slice A51 (q+1+1) c51) hh rfl rfl rfl aM.out rfl ?_;intro ws hh;replace hh:=hh.perm (XX (l₁:=[_,_]));simp only [Xw,Xu] at hh;replace hh:=hh.perm (XX (l₁:=[_,_]))
   simp only [Xw,Xu] at hh;refine aA (bz (ai ?_));have e1:ay NR.cells (xj x.d (q+1))++[.bool (nR (x.d^(q+1))).neg,.string (nR (x.d^(q+1))).bg,.int .i64 (nR (x.d^(q+1))).e]=ay NR.cells (xj x.d (q+1+1)):=by rw [show xj x.d (q+1+1)=xj x.d (q+1)++[nR (x.d^(q+1))] from BW _ _,bD,iC];rfl
   rw [e1] at hh;have hcell2:=hE.ld (hh.sub (.cons _ (.cons _ (Yo _))));refine ⟨⟨q+1+1,_,_,Xj,Xj,hh⟩, ?_, ?_⟩
   ·unfold KT;rw [hcell,hcell2];show n+1-(q+1+1)<n+1-(q+1);omega
   ·exact dV
  ·exact Vw):p:=h
theorem QT {p:Prop} (h:p:=by
  refine cJ (aB (aa (aw ?_)));refine df ?_;exact ⟨by rw [XH hg],hh.below⟩):p:=h
theorem QK {p:Prop} (h:p:=by
  have h1:bN m≠0:=fun h=>h0 (by rw [h,np]);rw [XH h1];exact ⟨rfl,hh.below⟩):p:=h
theorem PB {p:Prop} (h:p:=by
  rw [e3,Ym];refine (YZ fun x _=> ?_).trans (aaw _);exact bI x):p:=h
theorem Q0 {p:Prop} (h:p:=by
  refine aS (aB (aa (aw ?_)));refine ML ?_;rw [XH Xj];exact ⟨rfl,hh.below⟩):p:=h
theorem Jc {p:Prop} (h:p:=by
  rw [Xx,Yh Xj]
  rfl):p:=h
theorem Q7 {p:Prop} (h:p:=by
  refine cJ (aB (aa (aw ?_)));refine df ?_;exact ⟨by rw [XM Xj],hh.below⟩):p:=h
theorem JE {p:Prop} (h:p:=by
  exact ⟨0,Xs _,rfl,fun t ht=>(nomatch ht),hh⟩):p:=h
theorem P5 {p:Prop} (h:p:=by
  rw [Zk];split
  ·exact List.nodup_nil
  ·exact Zs.2 ⟨by simp,List.nodup_nil⟩):p:=h
theorem P2 {p:Prop} (h:p:=by
  obtain ⟨cs,h6,h7⟩:=h5 i Xj;rw [hc] at h6;obtain ⟨a,rfl,h8⟩:=one _ _ _ h7;exact ⟨a,h6,h8⟩):p:=h
theorem Rk {p:Prop} (h:p:=by
  exact ⟨⟨Xj,(hcp.my o ho).2,by rw [e2];exact po.ok,by rw [e2];exact po.sz⟩,by rw [e2];exact pl⟩):p:=h
theorem Qy {p:Prop} (h:p:=by
  unfold sS;split
  ·rename_i hpe;have:=gK.1 (cK hpe).1;rw [fq];omega
  ·exact Xs _):p:=h
theorem Qq {p:Prop} (h:p:=by
  refine df ?_;rw [←hcut,Xy,XP,Ys Xj];exact ⟨rfl,hh.below⟩):p:=h
theorem Re {p:Prop} (h:p:=by
  have:=hp t (kj t ht) (i+1) (by rw [XR];omega);rwa [show j+1+i=j+(i+1) by omega]):p:=h
theorem Qo {p:Prop} (h:p:=by
  exact ⟨0,0,none,[],[],Xs _,rfl,rfl,rfl,⟨fun j g o _ h=>(nomatch h),fun o h=>(nomatch h)⟩,hh⟩):p:=h
theorem Ql {p:Prop} (h:p:=by
  have h1:bN m=0:=by rw [←np] at h0;exact Lx h0
  rw [XM Xj];exact ⟨rfl,hh.below⟩):p:=h
theorem Pu {p:Prop} (h:p:=by
  induction xs generalizing ys c with
  |nil=>exact Dg.nil
  |cons x xs ih=>exact Dg.cons (XW _ hB) (ih _ _)):p:=h
theorem QN {p:Prop} (h:p:=by
  cases p with
  |nil=>show Sz k (nR 0).d;rw [bI];exact Sz.zero k
  |cons t p=>exact (hok t XB).2):p:=h
theorem Qk {p:Prop} (h:p:=by
  refine aS (aa (aw ?_));refine df ?_;rw [Xz Xj] at hT;rw [hT];exact ⟨rfl,hh.below⟩):p:=h
theorem QG {p:Prop} (h:p:=by
  rw [show (18446744073709551616:Nat)=2^64 from rfl,←Yi];exact Yf Xj Xj):p:=h
theorem KF {p:Prop} (h:p:=by
  rw [ie Xj (gk Xj _ _),dq hbd]):p:=h
theorem Lb {p:Prop} (h:p:=by
  exact ⟨PX.nil,fF.err he,rfl,(hh.sub (YE _)).D8⟩):p:=h
theorem Uy {p:Prop} (h:p:=by
  show Value.slice _ (O.length+1) _=Value.slice _ (O++[(⟨x.m,nR (x.c.d+y.c.d)⟩:TR)]).length _;rw [Xy]
  rfl):p:=h
theorem E9 {p:Prop} (h:p:=by
  rw [hd] at h1;rw [hd];exact ⟨_,_,rfl,h1,hh.below⟩):p:=h
theorem Ti {p:Prop} (h:p:=by
  unfold Program.cellsOf at hc
  cases hi:P.info? fd.type with
  |none=>simp [hi] at hc
  |some i=>exact ⟨i,rfl,by simpa [hi] using hc⟩):p:=h
theorem RD {p:Prop} (h:p:=by
  cases rest with
  |nil=>simp at hlen;omega
  |cons x r=>exact ⟨x,r,rfl⟩):p:=h
theorem Sk {p:Prop} (h:p:=by
  have:=hready (k-m) Xj;rwa [show m+(k-m)=k by omega] at this):p:=h
theorem Uf {p:Prop} (h:p:=by
  have h2:=hD (i+1) e (by simpa using he);refine ⟨h2.1,fun t ht=> ?_⟩;have h3:=h2.2 t (kj t ht);rwa [show j+1+i=j+(i+1) by omega]):p:=h
theorem UG {p:Prop} (h:p:=by
  unfold j8 at hx;obtain ⟨i,_,rfl⟩:=XG.1 hx
  cases h:X[i]? with
  |none=>exact Sz.zero _
  |some y=>exact s3 y (Xt h)):p:=h
theorem TC {p:Prop} (h:p:=by
  unfold co;split
  ·cases h:X[eh ds ((cZ ds p).set a i)]? with
   |none=>exact Sz.zero k
   |some y=>exact hx y (Xt h)
  ·exact Sz.zero k):p:=h
theorem TQ {p:Prop} (h:p:=by
  refine ⟨Xj, ?_⟩;by_cases hc:x0+2^i*(x1 % 2)<y0+2^i*(y1 % 2)
  ·rw [Xo hc];rw [hlt] at hc;omega
  ·rw [Xp hc];rw [hlt] at hc;omega):p:=h
theorem SG {p:Prop} (h:p:=by
  rcases Y3 n with h|h
  ·exact h
  ·obtain ⟨_,h1,_⟩:=hS.2 h;cases h1):p:=h
theorem Ty {p:Prop} (h:p:=by
  refine Fk ?_;refine df ?_;rw [hbad (by simp [cH];omega),Xo rfl];exact ⟨rfl,hh.below⟩):p:=h
theorem Uo {p:Prop} (h:p:=by
  have e:ns=ns.take i++d::ns.drop (i+1):=by rw [←gm h,Yg]
  conv=>lhs;rw [e]
  rw [ZV,ZP,Ya]
  rfl):p:=h
theorem Up {p:Prop} (h:p:=by
  refine bf (aa (cT (sr (aS (aB (aa (aw (aK ?_))))))));refine ML ?_;rw [Nat.sub_eq_zero_of_le Xj,XM Xj,np];exact ⟨rfl,hh.below⟩):p:=h
theorem Va {p:Prop} (h:p:=by
  intro ρ1 w1 hj hR;obtain ⟨A48,c48,h48,s48⟩:=hR.1;exact aY rfl (aJ ar.out (av h48 aU)) (hdm A48 c48 _ (hT.hp hj.hp) s48) (fun _ _ hq=>⟨_,hq.1,hq.2,rfl⟩)):p:=h
theorem VE {p:Prop} (h:p:=by
  intro ρ1 w1 hj hR;obtain ⟨A49,c49,h49,s49⟩:=hR.1;exact aY rfl (aJ ar.out (av h49 aU)) (hm2 A49 c49 _ (hT.hp hj.hp) s49) (fun _ _ hq=>⟨_,hq.1,hq.2,rfl⟩)):p:=h
theorem Vp {p:Prop} (h:p:=by
  intro ρ1 w1 hj hR;obtain ⟨A51,c51,h51,s51⟩:=hR.1;exact aY rfl (aJ ar.out (av h51 aU)) (hsum A51 c51 _ (hT.hp hj.hp) s51) (fun _ _ hq=>⟨_,hq.1,hq.2,rfl⟩)):p:=h
theorem R3 {p:Prop} (h:p:=by
  intro ρ1 w1 hj hR;exact let ⟨g,u,e1,e2⟩:=hR.1;db rfl (dF e1) ⟨Below.refl _ _,g,u,rfl,e2⟩):p:=h
theorem Tv {p:Prop} (h:p:=by
  have e1:(O++X++Y).length=O.length+n+m:=by rw [Xy,Xy];omega
  exact ⟨O++X++Y,A74,c74,hd,by rw [e1],by rw [e1,bD,bD];exact hh⟩):p:=h
theorem Ts {p:Prop} (h:p:=by
  have z1:Sz 124 (nD s):=by rcases hss with rfl|rfl<;>exact (Jz (show _<2^2 by decide)).mono Xk
  exact ⟨Val.of (z1.mono Xk) Xk,Sz.sub (Sz.one.mono Xk) z1⟩):p:=h
theorem Tq {p:Prop} (h:p:=by
  refine aa (cT (sr (aS (aI (aa (aw (aK (cf (aK (aK (cf (aK ?_))))))))))));refine ML ?_;obtain ⟨e1,e2⟩:=Sp hx (by simp [cH];omega);rw [e1,e2];exact ⟨rfl,hh.below⟩):p:=h
theorem Ug {p:Prop} (h:p:=by
  intro ρ1 w1 hj hR;exact db rfl (fC (k:=a) bh.out aM.size ((show ρ1 65=Value.slice _ _ _ from hR.1).trans si) (show ρ1 66=Value.int _ _ from hR.2.1) Xj Xj) ⟨Below.refl _ _,rfl⟩):p:=h
theorem Uj {p:Prop} (h:p:=by
  refine sr ?_;refine JR ?_;refine df ?_;exact ⟨_,_,rfl,hh.sub (Xq _ (YE _))⟩):p:=h
theorem Tr {p:Prop} (h:p:=by
  have h3:au fx.ns=au (fx.ns.take (a+1))*au (fx.ns.drop (a+1)):=by rw [←de,Yg]
  have:=aaW (au (fx.ns.drop (a+1))) (cC (fx.ns.take (a+1)));omega):p:=h
theorem R1 {p:Prop} (h:p:=by
  intro ρ1 w1 hj hR;exact let ⟨g,u,e1,e2⟩:=hR.1;db rfl (fB (vs:=[_,_]) e1 rfl) ⟨Below.refl _ _,rfl⟩):p:=h
theorem UN {p:Prop} (h:p:=by
  refine vS rfl (av (DR rfl) (av (DR rfl) aU)) Xk ?_;refine j9 (by first|exact tI rfl|exact ti rfl) Xk ?_;refine aa (aw ?_);refine df ?_;exact ⟨_,_,rfl,hh⟩):p:=h
theorem TX {p:Prop} (h:p:=by
  have h1:(Op.equal 40 (.agg #[.bool s,.string a,.int .i64 e]) (.agg #[.bool s',.string a',.int .i64 e'])).run Tryz.prog w=.ok r w:=by rw [←hr];exact IX 9997 s s' a a' e e' w
  simp only [execOp,hx,hy];simp [eqGuard,binOp,h1]):p:=h
theorem RA {p:Prop} (h:p:=by
  intro ρ1 w1 hj hR;exact let ⟨g,u,e1,e2⟩:=hR.1;db rfl (fB (vs:=[_,_]) e1 rfl) ⟨Below.refl _ _,g,u,rfl,e2⟩):p:=h
theorem Tb {p:Prop} (h:p:=by
  have:=uY n zc;rw [hzl] at this;unfold madeCells;rw [hzc];have e2:zc.toArray.size=sz:=by simpa using hzl
  rw [e2,this]):p:=h
theorem Un {p:Prop} (h:p:=by
  have h1:M<256^(aZ 256 M).length:=p6 Xj M;rw [KW Xj h1,Yq,aay,XZ,H5 (fun d hd=>(ea (B:=256) Xj M).1 d (Zt.1 hd)),sb,List.map_reverse]):p:=h
theorem Uc {p:Prop} (h:p:=by
  obtain rfl:i=n:=Xj;rw [Xz Xj] at hh;refine ah (sr (mI (mL (aH ?_))));refine bf (aa (cF (a6 (aE (aE (bq (ai (sr (mL (aL (aa (aw ?_))))))))))));refine df ?_;exact ⟨_,_,rfl,hh⟩):p:=h
theorem Uv {p:Prop} (h:p:=by
  rintro e a' w' ⟨ρ',hf',hq⟩;have e1:(fun i=>a.tmps.getD i undef)=ρ:=funext hf.at_;have e2:(fun i=>a'.tmps.getD i undef)=ρ':=funext hf'.at_
  cases e with
  |normal=>exact ⟨⟨ρ',hf',hq.1⟩,by rw [e1,e2];exact hq.2⟩
  |_=>exact ⟨ρ',hf',hq⟩):p:=h
theorem RW {p:Prop} (h:p:=by
  refine aI (aa (sr (mI ?_)));refine cJ (aa (cT (sr (mI (aI (aa (aw (aK ?_))))))));refine df ?_;exact ⟨rfl,hh.below⟩):p:=h
theorem UA {p:Prop} (h:p:=by
  have h1:z.natAbs=y.natAbs*2^j:=by rw [←hyz,Zz,Z7];rfl
  have h2:y.natAbs*1≤y.natAbs*2^j:=X4 _ (X7 Xj);have h3:bG y.natAbs≤8*a.size:=dK Xj;rw [ma];omega):p:=h
theorem S7 {p:Prop} (h:p:=by
  refine aa (cT (sr (aI (aa (aw (aK (cf (aK (aK (cf (aK ?_)))))))))));refine df ?_;exact ⟨by rw [hc],hh.below⟩):p:=h
theorem Tm {p:Prop} (h:p:=by
  rw [Yq,aay,XZ] at hh;refine ah (sr (mI (mL (aH ?_))));refine bf (aa (cF (a6 (aE (aE (bq (ai (sr (mL (aL (aa (aw ?_))))))))))));refine df ?_;exact ⟨_,rfl,hh.at_ (i:=0) rfl,hh.below⟩):p:=h
theorem TJ {p:Prop} (h:p:=by
  exact Qh):p:=h
theorem Tw {p:Prop} (h:p:=by
  refine bR hh 0 [_,_,_,_,_,_] ?_;intro ws hh;replace hh:Hp _ (.blk _ _ [_,_,_,_,_,_] _::_) _:=hh;refine aa (aw ?_);refine Nk (eC rfl (eF (vs:=[_,_,_,_,_,_]) aM.out (hh.bY (i:=0) (n:=6) rfl rfl) rfl) fJ) ?_;exact ⟨rfl,hh.below⟩):p:=h
theorem TB {p:Prop} (h:p:=by
  refine bR hh 0 [_,_] ?_;intro ws hh;replace hh:Hp _ (.blk _ _ [_,_] _::_) _:=hh;refine aI (aa (aw (aK ?_)));refine xO ?_;exact ⟨rfl,hh.below⟩):p:=h
theorem Rp {p:Prop} (h:p:=by
  refine Zn fun hn=>hall fun i hi=> ?_
  cases hc2:L.getD i false with
  |true=>rfl
  |false=>exact absurd ⟨i,hi,hc2⟩ hn):p:=h
theorem SK {p:Prop} (h:p:=by
  refine full L a w (fuel+1) hI hall ?_;have hL:L=gR l.length m:=pW (by rw [hI.ls,hnn]) hml hall hI.tl;rw [hL,ED] at hc;omega):p:=h
theorem Ui {p:Prop} (h:p:=by
  have hr0:rest=[]:=Y0 Xj;subst hr0;refine sr ?_;refine bf (aa (ah (cF (a6 (aE (aE (bq ?_)))))));refine Rm (by first|exact .inr rfl|exact .inl rfl) rfl  ?_;rw [XZ,im,XZ] at*;rw [←heq];exact ⟨rfl,hh⟩):p:=h
theorem TO {p:Prop} (h:p:=by
  rw [hu];refine bR hh 1 [_,_] ?_;intro ws hh;replace hh:Hp _ (_::.blk _ _ [_,_] _::_) _:=hh;refine aa (aw ?_);refine CK ?_;rw [Xz Xj] at hS2;rw [hS2];exact ⟨rfl,hh.below⟩):p:=h
theorem Ue {p:Prop} (h:p:=by
  refine aB (aa (aw (aK ?_)));refine df ?_;exact ⟨rfl,hh.below⟩):p:=h
theorem S4 {p:Prop} (h:p:=by
  intro w9 hh;refine ⟨(eC rfl (eF (vs:=[_,_,_]) aM.out (hh.bY (i:=0) (n:=3) rfl rfl) rfl) (ju (kf rfl) fJ)), ?_⟩;exact ⟨rfl,hh.below⟩):p:=h
theorem SH {p:Prop} (h:p:=by
  refine sr ?_;refine JR ?_;refine df ?_;exact ⟨_,_,rfl,hh⟩):p:=h
theorem OO {p:Prop} (h:p:=by
  exact Xn):p:=h
theorem HK {p:Prop} (h:p:=by
  refine aS (aa (aw ?_));refine df ?_;exact ⟨rfl,hh.below⟩):p:=h
theorem MJ {p:Prop} (h:p:=by
  refine BI ?_;refine df ?_;exact ⟨rfl,hh.below⟩):p:=h
theorem Rt {p:Prop} (h:p:=by
  refine aa (cT (sr (aL (aa (aw (aK (cf (aK (aK (cf (aK ?_)))))))))));refine df ?_;simp only [zF,hf];exact KK):p:=h
theorem Ag {p:Prop} (h:p:=by
  refine aI (aa (aw ?_));refine df ?_;exact ⟨rfl,hh.below⟩):p:=h
theorem Th {p:Prop} (h:p:=by
  have hL:=pW hsz hml hall htail;have hρ:ρ1=jT ρ (fun i=>ρ1 (dst i)) ds:=Lo (f:=fun i=>ρ1 (dst i)) (fun p hp=>by rw [(hds p hp).2]) (fun s hs2=>hag s fun j hj _=>hs2 _ (hds2 j hj)) hnd;refine jH m hml hL (by have:=DB hall;omega) hrd hend ?_;have:=hfin (fun i=>ρ1 (dst i)) R w1 (fun i hi=>hS i hi (hall i hi)) hh;rwa [←hρ] at this):p:=h
theorem Ux {p:Prop} (h:p:=by
  refine df ?_;exact ⟨_,_,rfl,hh.at_ (i:=0) rfl,hh.below⟩):p:=h
theorem Tz {p:Prop} (h:p:=by
  refine aI (aa (sr (mI ?_)));refine cJ (aa (cT (sr ?_)));refine fP [_,_] (mI ?_);refine bR hh 0 [_,_] ?_;intro ws hh;replace hh:Hp _ (.blk _ _ [_,_] _::_) _:=hh;refine aI (aa (aw (aK ?_)));refine xO ?_;exact ⟨FX.nil,Out.err hE,rfl,(hh.sub (YE _)).UB⟩):p:=h
theorem TE {p:Prop} (h:p:=by
  obtain ⟨d,t,ty,pos,af,n,ag,by',zc,hi1,_⟩:=hfr.at i hi;obtain ⟨e,t',ty',pos',af',n',ag',by'',zc',hj1,_⟩:=hfr.at j hj;have hi2:(l.toArray[i]?).bind (·.dst)=some d:=by rw [ZI,hi1];rfl
  have hj2:(l.toArray[j]?).bind (·.dst)=some e:=by rw [ZI,hj1];rfl
  rw [hi2,hj2];exact hI.fd i hi j hj hij (hall i (hfm' i hi)) (hall j (hfm' j hj)) d e hi2 hj2):p:=h
theorem Sg {p:Prop} (h:p:=by
  refine sr (aL (aa (ah (sr (mL ?_)))));refine tu bh.out rfl rfl Xk ?_;refine aa (cT (sr (aL (aa (aw (aK ?_))))));refine df ?_;exact ⟨_,_,rfl,World.ownsRow_nil _ _ _ _,hh.below⟩):p:=h
theorem Uk {p:Prop} (h:p:=by
  refine sr ?_;refine ll ?_;refine cg hh 0 [_,_,_] ?_;refine bR hh 1 [_,_,_] ?_;intro ws hh;replace hh:Hp _ (_::.blk _ _ [_,_,_] _::_) _:=hh;refine aa (aw ?_);refine Nk (eC rfl (eF (vs:=[_,_,_]) aM.out (hh.bY (i:=1) (n:=3) rfl rfl) rfl) fJ) ?_;rw [Xz Xj] at hS2;rw [hS2];exact ⟨rfl,hh.below⟩):p:=h
theorem RH {p:Prop} (h:p:=by
  refine ⟨hI.nd,hI.sz,fun s=> ?_⟩;by_cases hs:∃i,(i,s)∈ds
  ·obtain ⟨i,hi⟩:=hs;rw [(kG _ ds s hnd).1 i hi,(hdsm i s hi).2]
  ·rw [(kG _ ds s hnd).2 fun i hi=>hs ⟨i,hi⟩];exact hI.Hx s fun i hi _ hd=>hs ⟨i,hpre i s hi hd⟩):p:=h
theorem UC {p:Prop} (h:p:=by
  refine aa (cF (a6 (aE (aE (bq (ai (ah (sr (mI ?_)))))))));refine cJ (aa (cT (sr ?_)));refine fP [_,_] (mI ?_);refine bR hh 2 [_,_] ?_;intro ws hh;replace hh:Hp _ (_::_::.blk _ _ [_,_] _::_) _:=hh;refine aI (aa (aw (aK ?_)));refine qH ?_;exact ⟨PX.nil,fF.err he0,rfl,(hh.sub (YE _)).D8⟩):p:=h
theorem Uw {p:Prop} (h:p:=by
  obtain ⟨a,ha⟩:=h n Xj;refine ⟨l++[a],by simp [h1],fun i b hb=> ?_⟩
  rcases Yb i l.length with hi|hi
  ·rw [ZN hi] at hb;exact h2 i b hb
  ·rw [YD hi] at hb;have h3:i-l.length=0:=by
    rcases Y3 (i-l.length) with h|h
    ·exact h
    ·rw [X1 (by simp;omega)] at hb;cases hb
   rw [h3] at hb;simp only [Z6,Y9] at hb;subst hb;rw [show i=n by omega];exact ha):p:=h
theorem TN {p:Prop} (h:p:=by
  simp only [cm];rw [←htake];have h5:o+vs.length≤m*sz:=Xj;have h6:m*sz≤cur.toList.length:=by rw [←hcl,hcur];exact hle
  rw [aan,Ys Xj,List.drop_take,Ya,Ya,List.take_append,List.take_append];simp only [XP,Ys (show o≤cur.toList.length by omega)];rw [Xz (l:=cur.toList.take o) (by simp;omega),Xz (l:=vs) Xj];congr 2;congr 1;omega):p:=h
theorem BE {p:Prop} (h:p:=by
  refine df ?_;exact ⟨_,rfl,fun h=>(by cases h),hh.below⟩):p:=h
theorem NK {p:Prop} (h:p:=by
  rw [hds,Zt,Yx];refine ⟨(some d,i), ?_,rfl⟩;rw [List.mem_zipIdx_iff_getElem?];rw [Xx,Yh hi];simp only [Za,hd]):p:=h
theorem SL {p:Prop} (h:p:=by
  rw [Xz Xj] at hall;refine sr ?_;refine EK ?_;refine df ?_;exact ⟨_,rfl,⟨fun h=>absurd h Xk,fun h=>by rw [hall] at h;cases h⟩,hh.below⟩):p:=h
theorem N4 {p:Prop} (h:p:=by
  refine sr ?_;refine JR ?_;refine df ?_;exact ⟨_,_,rfl,hh.at_ (i:=0) rfl,hh.below⟩):p:=h
theorem TW {p:Prop} (h:p:=by
  have hdm:j/sz*sz+j % sz=j:=by rw [XY];exact Y8 j sz
  have hmod:j % sz<sz:=XW _ h0;have hj:j/sz<l.length:=by
   have:=(XE.1 hu).1;rw [dY hf] at this;exact Nat.div_lt_of_lt_mul (by rw [XY];exact this)
  obtain ⟨x,hx⟩:=ak hj;have h6:=qo hf hx;have h7:(f x)[j % sz]?=some u:=by
   rw [←h6,YL,Xo hmod,Y4,hdm];exact hu
  have h8:=(World.cells?_some (hp _ _ hx).1).2.2 (j % sz) hmod;rw [h7,jU,hdm] at h8;exact h8):p:=h
theorem Tn {p:Prop} (h:p:=by
  have hfb:=fun w1 hT1 ha=>Jb f0 ax sd 47000 w1 hT1 ha hlim hfE;generalize sW f0 ax sd=FE at*;refine bA hh (hfb _ (hT.hp hh) ⟨hh.aC (i:=4) rfl,hh.aC (i:=3) rfl⟩) rfl ?_;intro w124 hh;refine mT ?_;refine dn ?_;refine dn ?_;refine bP hh ?_;intro b22 w22 hh;refine bR hh 0 [_,_] ?_;intro ws hh;replace hh:Hp _ (.blk _ _ [_,_] _::_) _:=hh;refine aI (aa (ah (sr (mI ?_))));refine cJ (aa (cT (sr ?_)));refine bA hh (jP _ (hT.hp hh)) rfl ?_;intro w129 hh;refine aB (aa (aw (aK ?_)));refine df ?_;exact ⟨rfl,hh.below⟩):p:=h
theorem zr {p:Prop} (h:p:=by
  refine aB (aa (aw ?_));refine df ?_;exact ⟨rfl,hh.below⟩):p:=h
theorem Pg {p:Prop} (h:p:=by
  have p1:=hpre i d hi h1;have p2:=hpre j d hj h2;have e1:=((kG (ρ:=ρ) (fun i=>.int .i64 i) ds d hnd).1 i p1).symm.trans ((kG (ρ:=ρ) (fun i=>.int .i64 i) ds d hnd).1 j p2);injection e1 with _ e1
  omega):p:=h
theorem Uu {p:Prop} (h:p:=by
  refine bR hh 0 [_,_] ?_;intro ws hh;replace hh:Hp _ (.blk _ _ [_,_] _::_) _:=hh;refine aI (aa (aw (aK ?_)));refine xO ?_;exact ⟨PX.nil,fF.err Xj,rfl,(hh.sub (YE _)).D8⟩):p:=h
theorem TL {p:Prop} (h:p:=by
  refine bR hh 2 [_,_] ?_;intro ws hh;replace hh:Hp _ (_::_::.blk _ _ [_,_] _::_) _:=hh;refine aI (aa (aw ?_));refine qH ?_;exact F1):p:=h
theorem SQ {p:Prop} (h:p:=by
  refine fI (hc _ hh.below) ar.out rfl rfl Xk ?_;rintro e_ w16 ⟨rfl,hb_⟩;refine ⟨_,rfl, ?_⟩;replace hh:=hh.ext hb_;refine aa (cT (sr (mI (aI (aa (aw (cf (aK (aK (cf (aK ?_)))))))))));refine df ?_;exact ⟨_,rfl,⟨fun _=>Zb.2 ⟨z,Xt hz,gz⟩,fun _=>by omega⟩,hh.below⟩):p:=h
theorem Rz {p:Prop} (h:p:=by
  rintro e_ w7 ⟨v_,rfl,hv_,hb_⟩;refine ⟨_,rfl, ?_⟩;replace hh:=hh.ext hb_
  cases ga:l.any p with
  |true=>
   have h0:=hv_.2 ga;exact FM
  |false=>
   have h0:¬0≤v_:=fun h=>by rw [hv_.1 h] at ga;cases ga
   exact FM):p:=h
theorem Uh {p:Prop} (h:p:=by
  exact Qv):p:=h
theorem TT {p:Prop} (h:p:=by
  unfold ByteArray.toList;have:∀(n i:Nat) (r:List UInt8),s.size-i=n→ByteArray.toList.loop s i r=r.reverse++s.data.toList.drop i:=by
   intro n
   induction n with
   |zero=>
    intro i r h;rw [ByteArray.toList.loop,Xp Xj,Zj (by rw [aas];show s.size≤i;omega)];simp
   |succ n ih=>
    intro i r h;have hi:i<s.size:=Xj;rw [ByteArray.toList.loop,Xo hi,ih (i+1) _ Xj];have hi2:i<s.data.toList.length:=by rw [aas];exact hi
    rw [YH hi2];have:s.get! i=s.data.toList[i]:=by
     show s.data[i]! =_;rw [getElem!_pos s.data i (by simpa using hi2)];simp
    simp [this]
  simpa using this (s.size-0) 0 [] rfl):p:=h
theorem Sb {p:Prop} (h:p:=by
  simp only [GQ]
  rcases Yb i l.length with hi|hi
  ·rw [Yn,Array.getElem?_append_left (by simpa using hi)];simp [YM]
  ·rw [Yn,Array.getElem?_append_right (by simpa using hi)];simp only [YM,X1 hi,Option.getD_none,aaY];split<;>rfl):p:=h
theorem T9 {p:Prop} (h:p:=by
  refine ff ?_;refine jH 3 Xk Xl Xk Xl Xl ?_;refine bR hh 3 [_,_] ?_;intro ws hh;replace hh:Hp _ (_::_::_::.blk _ _ [_,_] _::_) _:=hh;refine aB (aa (aw ?_));refine VY (eC rfl (eF (vs:=[_,_]) aM.out (hh.bY (i:=4) (n:=2) rfl rfl) rfl) (eC rfl (eF (vs:=[_,_]) aM.out (hh.bY (i:=3) (n:=2) rfl rfl) rfl) (ju (mD rfl) fJ))) ?_;exact ⟨rfl,hh.below⟩):p:=h
theorem Rn {p:Prop} (h:p:=by
  refine Gb ?_;exact F1):p:=h
theorem Vw {p:Prop} (h:p:=by
  have hn0:=Kz (x:=x.d) (m:=q+1) (i:=n) Xj;obtain ⟨gq,rfl⟩:=hh.cn (i:=3) rfl Xj;refine aH (mI ?_);refine LM (aa (cF (a6 (aE (aE (bq (ai (sr (mP ?_)))))))));refine kr rfl Xk ?_;refine kz ?_;refine bU aM.out rfl (hE.ld (hh.sub (.cons _ (.cons _ (Yo _))))) Xk ?_;refine mI ?_;refine da (k:=n) bh.out aM.size rfl rfl Xj Xj Xk ?_;refine cq (vs:=[_,_,_]) aM.out rfl (hh.fV (f:=NR.cells) (x:=nR (x.d^n)) (l:=xj x.d (q+1)) (i:=3) rfl NR.len Xk hn0) rfl Xk ?_;refine bR hh 0 [_,_,_] ?_;intro ws hh;replace hh:Hp _ (.blk _ _ [_,_,_] _::_) _:=hh;refine aa (aw ?_);refine Gu ?_;exact ⟨rfl,_,_,_,hm1,hh.sub (.cons _ (.cons _ (Yo _)))⟩):p:=h
theorem Lk {p:Prop} (h:p:=by
  refine bR hh 1 [_,_,_] ?_;intro ws hh;replace hh:Hp _ (_::.blk _ _ [_,_,_] _::_) _:=hh;refine aa (aw ?_);refine Nk (eC rfl (eF (vs:=[_,_,_]) aM.out (hh.bY (i:=1) (n:=3) rfl rfl) rfl) fJ) ?_;exact ⟨rfl,hh.below⟩):p:=h
theorem Sw {p:Prop} (h:p:=by
  intro L a w hI hc;have hall:∀i,i<l.length→L.getD i false=true:=fun i hi=>by
   exact Rc
  have hmn:l.length≤0+m:=by
   rcases Yb m l.length with h|h
   ·have h1:=hall m h;rw [hI.tl m (Xr _)] at h1
    cases h1
   ·omega
  exact full L a w 0 hI (fun i hi=>hall i Xj) hmn):p:=h
theorem Oh {p:Prop} (h:p:=by
  have h16:¬2^24<len*sz:=Xj;have hf':=y9 _ _ _ hf;rw [←uY,hzl] at hf';have hzs:zc.toArray.size=sz:=by simpa using hzl
  have hp':=FU parts hp;simp only [execOp,hp',Instr.buildSlice,Sem.run_bind,run_underlying ht,Result.andThen_ok,eM hte,gt_iff_lt,Xp h16,Xp h0,hz,hzc,Sem.run_pure,hzs,hf'];simp [newRow]):p:=h
theorem Oz {p:Prop} (h:p:=by
  refine bR hh 0 [_,_,_] ?_;intro ws hh;replace hh:Hp _ (.blk _ _ [_,_,_] _::_) _:=hh;refine aI (aa (aw (aK ?_)));exact Pz):p:=h
theorem S9 {p:Prop} (h:p:=by
  have hJ0:J ({ w with drawn:=w.drawn+1 }:World):=hJ w _ h0 ⟨rfl,rfl,rfl,Xr _,fun _ _=>rfl⟩;have hr0:∀i,(Array.replicate l.toArray.size false).getD i false=false:=fun i=>by
   rw [Yn,aaY];split<;>rfl
  refine key _ _ _ _ ⟨hf.nd,hf.sz,hJ0,by simp,fun k o _ hk=> ?_,fun k _=>hr0 k,fun i d _ hi=> ?_,fun s _=>hf.at_ s,fun i _ hi=> ?_,fun i _ j _ _ hi=> ?_⟩ ?_
  ·rw [hr0] at hk;cases hk
  ·rw [hr0] at hi;cases hi
  ·rw [hr0] at hi;cases hi
  ·rw [hr0] at hi;cases hi
  ·simp [List.countP_replicate]):p:=h
theorem LH {p:Prop} (h:p:=by
  refine bR hh 1 [_,_] ?_;intro ws hh;replace hh:Hp _ (_::.blk _ _ [_,_] _::_) _:=hh;refine aa (aw ?_);exact PM):p:=h
theorem Nb {p:Prop} (h:p:=by
  refine aI (aa (sr (mI ?_)));refine cJ (aa (cT (sr ?_)));refine fP [_,_] (mI ?_);refine bR hh 0 [_,_] ?_;intro ws hh;replace hh:Hp _ (.blk _ _ [_,_] _::_) _:=hh;refine aI (aa (aw (aK ?_)));refine xO ?_;exact ⟨PX.nil,fF.err h0,rfl,(hh.sub (YE _)).D8⟩):p:=h
theorem Vu {p:Prop} (h:p:=by
  exact QD):p:=h
theorem TV {p:Prop} (h:p:=by
  exact Qb):p:=h
theorem BM {p:Prop} (h:p:=by
  refine bR hh 0 [_,_] ?_;intro ws hh;replace hh:Hp _ (.blk _ _ [_,_] _::_) _:=hh;refine aa (aw ?_);exact QD):p:=h
theorem OR {p:Prop} (h:p:=by
  rw [hds,Zt,Yx] at hp;obtain ⟨⟨x,k⟩,hx,hxe⟩:=hp;rw [List.mem_zipIdx_iff_getElem?] at hx
  cases x with
  |none=>simp at hxe
  |some d'=>
   simp only [Za,Y9,Prod.mk.injEq] at hxe;obtain ⟨rfl,rfl⟩:=hxe;rw [Xx] at hx
   cases hr:(List.range m)[k]? with
   |none=>rw [hr] at hx;simp at hx
   |some y=>
    have hkm:k<m:=by
     have:=(XE.1 hr).1;simpa using this
    rw [Yh hkm] at hx;simp only [Za,Y9] at hx;exact ⟨hkm,hx⟩):p:=h
theorem Vy {p:Prop} (h:p:=by
  exact Px):p:=h
theorem Bm {p:Prop} (h:p:=by
  refine rS (c:=cc) bh.out rfl rfl Xj hcc Xk ?_;skip;refine BT ?_;refine bk (aI (aa (aw ?_)));refine df ?_;refine ⟨?_,Below.refl _ _⟩;congr 2;rw [hcv];omega):p:=h
theorem NO {p:Prop} (h:p:=by
  unfold Region.ready;rw [YC,XT,hnn];constructor
  ·rintro ⟨h1,h2⟩;have ho:l.toArray[i]?=some l[i]:=by simp [h1]
   rw [ho] at h2;simp only [Za,YF,XF,Z1] at h2;refine ⟨h1,h2.1,l[i],ho,fun e he hb=> ?_⟩;have:=aaf.1 h2.2 e he;simpa [hb] using this
  ·rintro ⟨h1,h2,o,ho,h3⟩;refine ⟨h1, ?_⟩;rw [ho];exact P9):p:=h
theorem VS {p:Prop} (h:p:=by
  refine oQ ?_;refine dS (dS (dS (dU (dU (dU (dU ?_))))));refine AP (i:=28) rfl (fun ρ1 w1 hj hR=>(show ρ1 44=undef from hR.2.2.1)) ?_;refine dU (dU (dU (dU ?_)));refine aO ?_;intro f W hJ hV _;have hb_8:=hJ.bl;obtain ⟨v53,v52,v51,v50,v49,v48,v47,v46,v45,v44,v43,v42,v41,v40,v39,v38,v37,v36,v35,v34,v33,v32,v31,v30,v29,v28,v27,v26,v25,v24,v23,v22,v21,_⟩:=hV;replace hh:=hJ.hp;refine F4 ?_;dsimp only [cd];clear hJ;refine gV (gS ?_);refine eR ?_;refine Fk ?_;refine df ?_;exact ⟨rfl,hh.below⟩):p:=h
theorem V8 {p:Prop} (h:p:=by
  intro w40 hh;rw [fh];refine bf (aa (cF (aq (ai (ah ?_)))));refine nO hh mixed fun w_ hj_=> ?_;replace hh:=hj_.hp;clear hj_;refine vj (i:=0) (i2:=1) Xl rfl rfl ?_ ?_
  ·refine cg hh 1 [_,_] ?_;refine ff ?_;refine vj (i:=1) (i2:=2) Xl rfl rfl ?_ ?_
   ·refine cg hh 0 [_,_] ?_;exact Qg
   ·refine bR hh 3 [_,_] ?_;intro ws hh;replace hh:Hp _ (_::_::_::.blk _ _ [_,_] _::_) _:=hh;refine ff ?_;refine gi (i:=1) Xl rfl ?_;refine cg hh 0 [_,_] ?_;exact Qr
  ·refine cg hh 0 [_,_] ?_;refine ff ?_;refine gi (i:=0) Xl rfl ?_;refine cg hh 1 [_,_] ?_;exact Qg):p:=h
theorem Mc {p:Prop} (h:p:=by
  refine bR hh 0 [_,_,_] ?_;intro ws hh;replace hh:Hp _ (.blk _ _ [_,_,_] _::_) _:=hh;refine aa (aw ?_);exact Px):p:=h
theorem Pd {p:Prop} (h:p:=by
  refine fP [_,_] ?_;refine bR hh 0 [_,_] ?_;intro ws hh;replace hh:Hp _ (.blk _ _ [_,_] _::_) _:=hh;refine aI (aa (aw (aK ?_)));refine xO ?_;exact ⟨PX.nil,fF.err Xk,rfl,(hh.sub (YE _)).D8⟩):p:=h
theorem U5 {p:Prop} (h:p:=by
  rw [hs];refine mI ?_;refine fP [_,_,_,_,_] ?_;refine bP hh ?_;intro b6 w6 hh;refine bR hh 0 [_,_,_,_,_] ?_;intro ws hh;replace hh:Hp _ (.blk _ _ [_,_,_,_,_] _::_) _:=hh;refine aa (ah ?_);refine a0 9 [[(6,none)],[(30,some 0)],[(2,none)],[(31,some 1),(32,some 2)],[(6,none)],[(34,some 4)],[(3,none)],[(35,some 5),(36,some 6)],[(6,none)]] [(8,38),(7,37),(6,36),(5,35),(4,34),(3,33),(2,32),(1,31),(0,30)] hh mixed Xl ?_;refine ej ?_;refine fN 0 ?_;refine fG 3 [_,_,_] ?_;refine dC (fun _ hj=>hcx _ (hT.hp hj.hp)) ?_;refine ej ?_;refine fN 0 ?_;refine fG 2 [_,_,_] ?_;refine dC (fun _ hj=>hcy _ (hT.hp hj.hp)) ?_;refine ej ?_;refine aO ?_;intro f W hJ hV;have hb_8:=hJ.bl;obtain ⟨v38,v37,v36,v35,v34,v33,v32,v31,v30,_⟩:=hV;replace hh:=hJ.hp;refine aW (bm (ae v38 (ae v37 (ae v36 (ae v35 (ae v34 (ae v33 (ae v32 (ae v31 (ae v30 aV)))))))))) ?_;dsimp only [cd];clear hJ;refine bR hh 0 [_,_] ?_;intro ws hh;replace hh:Hp _ (.blk _ _ [_,_,_,_,_] _::_) _:=hh;refine bH ?_;refine bR hh 0 [_,_] ?_;intro ws hh;replace hh:Hp _ (.blk _ _ [_,_,_,_,_] _::_) _:=hh;refine aa (sr ?_);refine cg hh 0 [_,_,_,_,_] ?_
  refine bR hh 1 [_,_,_,_,_] ?_;intro ws hh;replace hh:Hp _ (_::.blk _ _ [_,_,_,_,_] _::_) _:=hh;refine aa (aw ?_);refine Nk (eC rfl (eF (vs:=[_,_,_,_,_]) aM.out (hh.bY (i:=1) (n:=5) rfl rfl) rfl) fJ) ?_;exact ⟨rfl,hh.below⟩):p:=h
theorem Wi {p:Prop} (h:p:=by
  by_cases hnf:∀i,i<m→i∉fl→L.getD i false=true
  ·obtain ⟨i,him,hun'⟩:=hsome;have hif:i∈fl:=Zn fun h=>by
    have h2:=hnf i him h;rw [hun'] at h2
    cases h2
   obtain ⟨hfree,hedf,d,op,ty,pos,af,hlo,hpu⟩:=hfl i hif;have ho:l.toArray[i]?=some ⟨some d,op,ty,pos,af,none⟩:=by rw [ZI];exact hlo
   have hed:∀e∈af,Region.binds .any e=true→L.getD e.on false=true:=fun e he hb=>by
    obtain ⟨h1,h2⟩:=hedf _ hlo e he hb;exact hnf e.on h1 h2
   have hil:i<l.length:=Xj;have hiL:i<L.size:=by rw [hI.ls,hnn];exact hil
   have hunt:L.getD i true=false:=by
    rw [Yn] at hun' ⊢;rw [Zy hiL] at hun' ⊢;simpa using hun'
   obtain ⟨hog,hnext⟩:=both i him _ ho hun' hed;obtain ⟨v,hv,hk⟩:=BR hpu hog a (by rw [hI.sz];exact hdN (i,d) (hpre i d him (by rw [ho];rfl))) fun _=>rfl;refine wpAny_first (v:=v) ho (Region.noSelect_spec hns) (fun c a w ⟨ρ',_,hq⟩=>(hQp c ρ' w hq).elim) fuel L a w (fun j oj hj hji hjl hno=> ?_) ((hready_spec i).2 ⟨hil,hunt,_,ho,hed⟩) (.inl ⟨by simp [Region.wanted],hv⟩) (hnext v w hk fun hfr'=> ?_)
   ·refine Region.free_spec ho hfree j oj hj hji ?_ hno;have hjlen:j<l.length:=by have:=(aam.1 hj).1;omega
    rw [Mj hjlen];rw [Z3];rintro ⟨h1,h2⟩;have h3:=hnf j h1 h2;have hjL:j<L.size:=by rw [hI.ls,hnn];exact hjlen
    rw [Yn] at h3 hjl;rw [Zy hjL] at h3 hjl;simp only [YF] at h3 hjl;rw [h3] at hjl
    cases hjl
   ·obtain ⟨d',t,ty',pos',af',n,ag,by',zc,hi1,_⟩:=hfr.at i hfr';rw [hlo] at hi1;injection hi1 with hi1
    injection hi1 with _ hi1
    subst hi1
    cases hpu
  have hsome2:∃i,i<m∧i∉fl∧L.getD i false=false:=by
   refine Zn fun hn=>hnf fun i hi hif=> ?_
   cases hc2:L.getD i false with
   |true=>rfl
   |false=>exact absurd ⟨i,hi,hif,hc2⟩ hn
  refine ⟨fun hnil=> ?_,fun i hi=> ?_⟩
  ·exfalso;have hmin:∀k,(∃i,i<k∧i<m∧L.getD i false=false)→∃i,i<m∧L.getD i false=false∧∀j,j<i→L.getD j false=true:=by
    intro k
    induction k with
    |zero=>rintro ⟨i,h,_⟩;omega
    |succ k ihk=>
     rintro ⟨i,h1,h2,h3⟩;by_cases hex:∃i,i<k∧i<m∧L.getD i false=false
     ·exact ihk hex
     ·exact Qv
   obtain ⟨i0,h1,h2⟩:=hsome;obtain ⟨i,hi,hu,hlow⟩:=hmin (i0+1) ⟨i0,Xj,h1,h2⟩;exact Qb
  ·obtain ⟨hil,hun,o,ho,hed⟩:=(hready_spec i).1 hi;have hiL:i<L.size:=by rw [hI.ls,hnn];exact hil
   have hun':L.getD i false=false:=by
    exact Qh
   have hed':∀o',l.toArray[i]?=some o'→∀e∈o'.after,Region.binds .any e=true→L.getD e.on false=true:=fun o' ho'=>by
    exact JI
   have him:i<m:=by
    rcases Yb i m with h|h
    ·exact h
    ·exfalso
     rcases Yb m i with h2|h2
     ·exact QM
     ·obtain rfl:i=m:=Xj;have h4:(l.length==i)=false:=by simp;omega
      rw [h4,X2] at htail;have h5:=XI.1 htail;obtain ⟨j,hj,hjf,hju⟩:=hsome2;have h6:=h5 j (by simpa using hj);have h7:fl.contains j=false:=by simpa using hjf
      rw [h7,X2] at h6;have:=fW hM hI.cl i j hed' h6;rw [hju] at this
      cases this
   obtain ⟨hog,hnext⟩:=both i him o ho hun' hed;have hgo:if Region.wanted o (yielded l.toArray a.tmps) then (o.wp P a w (wpAny P .any l.toArray (du N D Q) fuel (L.setIfInBounds i true)) (du N D Q))∨((o.asks P a w)∧LetsOut (du N D Q)) else wpAny P .any l.toArray (du N D Q) fuel (L.setIfInBounds i true) (a.put o.dst undef) w:=by
    by_cases hif:i∈fr
    ·obtain ⟨d,t,ty,pos,af,n,ag,by',zc,hi1,ht⟩:=hfr.at i hif;have ho2:o=⟨some d,.alloc t,ty,pos,af,none⟩:=by
      have h7:=ho;rw [ZI,hi1] at h7;injection h7 with h7
      exact h7.symm
     have hds:d<a.tmps.size:=by
      rw [hI.sz];exact hdN (i,d) (hpre i d him (by rw [ho,ho2];rfl))
     subst ho2;exact J1 ht hog a hds _ _ (fun _=>rfl) fun v w' hk hb=>hnext v w' hk fun _=>hb
    ·exact hog.out a _ _ (fun _=>rfl) fun v w2 hv=>hnext v w2 hv fun h=>absurd h hif
   unfold wpOp;rw [ho];exact hgo):p:=h
theorem Wf {p:Prop} (h:p:=by
  intro A140 c140 w140 hh;simp only [XC] at hh;rw [XJ] at hh ⊢;rw [Xu] at hh;obtain ⟨gs,rfl⟩:=hh.cn (i:=0) rfl Xj;have hsi: -9223372036854775808≤(s:Int)∧(s:Int)≤9223372036854775807:=Xj;refine aL (aa (sr (mL (mI (mI ?_)))));refine bA hh (ja (s:Int) _ (hT.hp hh) hsi.1 hsi.2) rfl ?_;intro w144 hh;have hrl2:=dY NR.len t;refine Js ?_;refine K3 ?_;intro ws hh;simp only [XC] at hh;rw [show cm (ay NR.cells t) (a*3) [.bool (nR ((s:Int):Dyadic)).neg,.string (nR ((s:Int):Dyadic)).bg,.int .i64 (nR ((s:Int):Dyadic)).e]=ay NR.cells (t.set a (nR (nD s))) from il NR.len Xj] at hh;have hsl:∀A w1,Sl w1 A (a+(m-(a+1))) 3 ((ay NR.cells t).take (a*3)++(ay NR.cells t).drop ((a+1)*3))→Sl w1 A (a+(m-(a+1))) 3 (ay NR.cells (t.take a++t.drop (a+1))):=fun A w1 h=>by rw [her] at h;exact h
  refine aa (ah ?_);refine HN [15] [14] [0,0,0,0,12,30,0,0,128,448,1022,2047,4095,8191,8191,0,49151,131071] 16 10 [1,5] [0,2,3,4,6,7,8,9,15] 40 [[(22,none)],[],[(2,none)],[(3,none)],[(149,some 2),(150,some 3)],[(148,some 1),(151,some 4)],[(2,none)],[(3,none)],[(154,some 7)],[(153,some 6),(155,some 8)],[(152,some 5),(156,some 9)],[(147,some 0),(157,some 10)],[(158,some 11)],[(146,some 12)],[(146,some 12)],[]] [(15,25),(14,160),(13,159),(12,146),(11,158),(10,157),(9,156),(8,155),(7,154),(6,153),(5,152),(4,151),(3,150),(2,149),(1,148),(0,147)] hh mixed Xl Xk (jV rfl aM.out dO) rfl (by repeat (first|exact cu|refine bQ ?_|refine ct ?_)) ?_;refine fG 1 [_,_] ?_;refine HW (i:=1) bh.out aM.out (fun w1 hj=>hj.bl.size) ?_;refine fS ?_;refine dJ ?_;refine bj (i:=4) (fun ρ1 w1 hj hR=>qE (h:=a) bh.out aM.size (show ρ1 149=Value.slice _ _ _ from hR.1) (show ρ1 150=Value.int _ _ from hR.2.1) Xj Xj) ?_
  refine Dn (i:=5) (fun ρ1 w1 hj hR=>hR.1) (fun ρ1 w1 hj hR=>⟨_,_,(show ρ1 151=Value.slice _ _ _ from hR.2.1),((hM.ext hj.hp.below).front (m:=a) Xj)⟩) bh.out aM.out rfl Xk (by first|rfl|assumption) (by unfold maxLen;omega) Xj (fun w1 hj=>hj.bl.size) ?_;refine fS ?_;refine dJ ?_;refine rL ?_;refine bj (i:=9) (fun ρ1 w1 hj hR=>gL (l:=(a+1)) bh.out aM.size (show ρ1 153=Value.slice _ _ _ from hR.1) (show ρ1 155=Value.int _ _ from hR.2.1) Xj Xj Xj) ?_;refine aO ?_;refine Ku (k:=10) _ n8.ext (fun ρ1 w1 hj hR=>DW (hR.1) ⟨_,_,(show ρ1 156=Value.slice _ _ _ from hR.2.1),((hM.ext hj.hp.below).back (l:=a+1) Xj hmc)⟩ bh.out aM.out rfl Xk (by first|rfl|assumption) (by unfold maxLen;omega) Xj hj.bl.size) ?_;refine aQ (i:=11) (Is (.tuple #[.agg #[.bool (nR V1).neg,.string (nR V1).bg,.int .i64 (nR V1).e],.int .i64 0])) (Is.ext) ?_ ?_
  ·intro ρ1 w1 hj hR;exact let ⟨A,c0,e0,o0⟩:=hR.2.1;aY rfl (aJ ar.out (av (show ρ1 147=Value.agg (List.toArray _) from hR.1) (av e0 aU))) (heu A c0 _ (hT.hp hj.hp) ⟨hj.hp.aC (i:=3) rfl,hj.hp.aC (i:=2) rfl⟩ (hsl _ _ (jM o0))) (fun _ _ hq=>⟨_,hq.1,hq.2,rfl⟩)
  refine Ur ?_;refine J4 ?_;refine J4 ?_;refine aQ (i:=15) (iK _ 40 _) iK.ext (fun ρ1 w1 hj hR=>HJ aM.out rfl hj.bl) ?_;refine aO ?_;refine ⟨(gp Is.wE (gp Is.wE (gp Is.wE (gp Is.wE (gp Is.wE (gp Is.wE (gp Is.wE (gp Is.wE (gp iK.wE J0))))))))), ?_⟩;intro f W hJ hV _;have hb_24:=hJ.bl;obtain ⟨v25,v160,v159,v146,v158,v157,v156,v155,v154,v153,v152,v151,v150,v149,v148,v147,_⟩:=hV;obtain ⟨b25,k25,e25,hl25,hn25,hc25⟩:iK _ _ _ (f 15) W:=v25;obtain ⟨k25_0,k25_1,k25_2,rfl⟩:=G9 hn25;replace hh:=hJ.newVar hh hl25 hc25;refine aW (bm (ae e25 (ae v160 (ae v159 (ae v146 (ae v158 (ae rfl (ae v156 (ae v155 (ae v154 (ae v153 (ae rfl (ae v151 (ae v150 (ae v149 (ae rfl (ae v147 aV))))))))))))))))) ?_;dsimp only [cd];clear e25 hJ;refine bR hh 0 [_,_,_] ?_;intro ws hh;replace hh:Hp _ (.blk _ _ [_,_,_] _::_) _:=hh;refine aI (aa (sr ?_));refine cg hh 7 [_,_] (mL ?_);refine bA hh (hev2 (some ⟨gs,0,none⟩) c140 _ (hT.hp hh) ⟨hh.aC (i:=9) rfl,hh.aC (i:=8) rfl⟩ (hh.aC (i:=1) rfl)) rfl ?_;intro w164 hh;refine mT ?_;refine dn ?_;refine dn ?_;refine bP hh ?_;intro b27 w27 hh;refine bR hh 0 [_,_,_] ?_;intro ws hh
  replace hh:Hp _ (.blk _ _ [_,_,_] _::_) _:=hh;refine aI (aa (sr (mI ?_)));refine cR (mB (gT (mI (gT ?_))));refine cR ?_;refine eR ?_;refine mB (gT ?_);refine cg hh 1 [_,_,_] (gT ?_);refine cg hh 0 [_,_,_] (gT ?_)
  (first|refine yx rfl rfl (by first|assumption|rfl) Xk ?_|refine tk rfl rfl (by assumption) Xk ?_)
  refine eR ?_;refine mB ?_;refine aD rfl rfl ?_;refine bA hh (jP _ (hT.hp hh)) rfl ?_;intro w179 hh;refine eR ?_;refine aB (aa (aw ?_));refine df ?_;exact ⟨rfl,hh.below⟩):p:=h
theorem dV {p:Prop} (h:p:=by
  exact Kc):p:=h
theorem Wg {p:Prop} (h:p:=by
  refine pQ ?_;refine bE hh 1 ?_;refine mI ?_;refine bA hh (hof _ hh.below) rfl ?_;intro w30 hh;refine bP hh ?_;intro b9 w9 hh;refine bR hh 0 [_,_] ?_;intro ws hh;replace hh:Hp _ (.blk _ _ [_,_] _::_) _:=hh;refine aa (sr (bH ?_));refine bE hh 2 ?_;refine aF (jI fx.A fx.n fx.a fx.ds _ (hf.dg.ext hh.below) Xj) ar.out rfl Xk ?_;rintro e_ w33 ⟨A33,c33,rfl,hown_,hb_⟩;refine ⟨_,rfl, ?_⟩;replace hh:=hh.aX (x:=.row _ _ _ _ _ _) hb_ hown_;obtain ⟨gd,rfl⟩:=hh.cn (i:=0) rfl Xj;refine mI (mI ?_);refine bk ?_;refine aF (IM gd fx.n c33 a fx.ds _ hh hln Xj Xj) ar.out rfl Xk ?_;rintro e_ w37 ⟨rfl,hh2⟩;refine ⟨_,rfl, ?_⟩;replace hh:=hh2;clear hh2;refine fP [_,_] ?_;refine bP hh ?_;intro b10 w10 hh;refine bR hh 0 [_,_] ?_;intro ws hh;replace hh:Hp _ (.blk _ _ [_,_] _::_) _:=hh;refine aa (ah (sr (bH ?_)));refine bE hh 4 ?_;refine aH (mI (aa (ao ?_)));replace hh:=hh.cU 40 3;refine aR [11,12,42,43,44,45,46,47,48,49,50,51,52,53,54,55,56,57,58,59,60,61,62,63,64,65,66,67,68] 42
   (fun v w'=>∃(i c1:Nat) (B:Option Addr),i≤fx.m∧v=.int .i64 i∧Hp w [.row B (j8 ap d (d*sd) (fx.cs.map NR.d) i).length c1 40 3 (ay NR.cells ((j8 ap d (d*sd) (fx.cs.map NR.d) i).map nR)),.blk b10 33 [.slice (some ⟨gd,0,none⟩) (fx.n-1) c33,.slice B (j8 ap d (d*sd) (fx.cs.map NR.d) i).length c1] (0,0),.row (some ⟨gd,0,none⟩) (fx.n-1) c33 3 1 (bu (fx.ds.eraseIdx a)),.blk b9 83 [.int .i64 ((d:Int)+1),.int .i64 (ap:Int)] (0,0),.blk b6 33 [.slice none 0 0,.slice none 0 0] (0,0),.blk b3 33 [.slice fx.A fx.n fx.a,.slice fx.B fx.m fx.b] (0,0)] w')
   (fun v _=>fx.m-(intOf v).toNat) ?_ ?_
  ·exact ⟨0,0,none,Xs _,rfl,hh⟩
  ·clear hh;rintro ρ' v w' ⟨i,c1,B,hi,rfl,hh⟩;by_cases hlt:i<fx.m
   ·obtain ⟨x,hx⟩:=ak (l:=fx.cs) (k:=i) Xj;obtain ⟨adC,hAC,sC⟩:=hf.nm.at_ Xj;have hevC:Value.slice fx.B fx.m fx.b=.slice (some adC) fx.m fx.b:=by rw [hAC]
    have hxd:((fx.cs.map NR.d)[i]?).getD 0=x.d:=by rw [Xx,hx];rfl
    have hxn:nR x.d=x:=by
     have:((fx.cs.map NR.d).map nR)[i]?=some x:=by rw [←hnum];exact hx
     rw [Xx,Xx,hx] at this;exact Yd this
    have hcast:((i:Int)/(ap:Int)) % ((d:Int)+1)=((i/ap % (d+1):Nat):Int):=by norm_cast
    have hq0:(0:Int)≤(i:Int)/(ap:Int):=Int.ediv_nonneg Xj Xj;have hst:=G3 ap d (d*sd) (fx.cs.map NR.d) i;rw [hxd] at hst;have hfl:(j8 ap d (d*sd) (fx.cs.map NR.d) i).length≤i:=by
     unfold j8;exact QU
    generalize hF:j8 ap d (d*sd) (fx.cs.map NR.d) i=F at*;by_cases hdg2:i/ap % (d+1)=d*sd
    ·rw [Xo hdg2] at hst;refine sr ?_;refine dR ?_;refine cE (k:=i) bh.out aM.size hevC rfl Xj Xj Xk ?_;refine JP ?_;refine bP hh ?_;intro b12 w12 hh;refine aI ?_;refine bR hh 0 [_,_,_] ?_;intro ws hh;replace hh:Hp _ (.blk _ _ [_,_,_] _::_) _:=hh;refine aa (ah ?_);refine PC ?_;refine dJ ?_;refine ej ?_;refine fN 4 ?_;refine Qi ?_;refine ej ?_;refine fN 4 ?_;refine P8 ?_;refine ej ?_;refine fN 6 ?_;refine dJ ?_;refine EU ?_ ?_
     ·exact Qa
     refine qS (fun _ hj=>(sD.ext hj.hp.below).wj hgd) ?_;refine dJ ?_;refine Nq ?_;refine aO ?_;intro f W hJ hV;have hb_11:=hJ.bl;obtain ⟨v60,v59,v58,v57,v56,v55,v54,v53,v52,v51,v50,v49,v48,v47,_⟩:=hV;replace hh:=hJ.hp;refine PD ?_;dsimp only [cd];clear hJ;refine cR (aa (cT (al (bH ?_))));refine bE hh 2 ?_;refine cg hh 0 [_,_,_] ?_;refine oF ?_;intro b65 w65 hh;refine Fq ?_;intro A66 c66 w66 hh;simp only [XC,X6] at hh;replace hh:=hh.sub (X9 _ _);refine bH ?_;refine bR hh 2 [_] ?_;intro ws hh;replace hh:Hp _ (_::_::.blk _ _ [_,_] _::_) _:=hh;refine fp ?_;refine bk (mI (aA (ai ?_)));replace hh:=hh.sub (Xv _ (Xq _ (Xq _ (Xq _ (Xq _ (Xq _ (Xq _ XU)))))));refine ⟨⟨i+1,c66,A66,Xj,rfl, ?_⟩,by show fx.m-(i+1)<fx.m-i;omega, ?_⟩
     ·rw [hst,Xy,Yc,bD,show [x.d].map nR=[x] by rw [XQ,Ye,hxn]];exact hh
     ·exact Kc
    ·rw [Xp hdg2,XZ] at hst;refine sr ?_;refine dR ?_;refine cE (k:=i) bh.out aM.size hevC rfl Xj Xj Xk ?_;refine JP ?_;refine bP hh ?_;intro b12 w12 hh;refine aI ?_;refine bR hh 0 [_,_,_] ?_;intro ws hh;replace hh:Hp _ (.blk _ _ [_,_,_] _::_) _:=hh;refine aa (ah ?_);refine PC ?_;refine dJ ?_;refine ej ?_;refine fN 4 ?_;refine Qi ?_;refine ej ?_;refine fN 4 ?_;refine P8 ?_;refine ej ?_;refine fN 6 ?_;refine dJ ?_;refine EU ?_ ?_
     ·exact Qa
     refine qS (fun _ hj=>(sD.ext hj.hp.below).wj hgd) ?_;refine dJ ?_;refine Nq ?_;refine aO ?_;intro f W hJ hV;have hb_11:=hJ.bl;obtain ⟨v60,v59,v58,v57,v56,v55,v54,v53,v52,v51,v50,v49,v48,v47,_⟩:=hV;replace hh:=hJ.hp;refine PD ?_;dsimp only [cd];clear hJ;refine cR (aa (cF (aq (bz (ai (al ?_))))));refine bk (mI (aA (ai ?_)));replace hh:=hh.sub (Xv _ (Xq _ (Xq _ (Xq _ (Xq _ (Xq _ (Xq _ XU)))))));refine ⟨⟨i+1,c1,B,Xj,rfl,by rw [hst];exact hh⟩,by show fx.m-(i+1)<fx.m-i;omega, ?_⟩;exact Kc
   ·obtain rfl:i=fx.m:=Xj;refine sr ?_;refine ll ?_;refine cg hh 1 [_,_] ?_;refine bR hh 4 [_,_] ?_;intro ws hh;replace hh:Hp _ (_::_::_::_::.blk _ _ [_,_] _::_) _:=hh;refine aI (aa (aw ?_));replace hh:=hh.sub (Xq _ (Xv _ (Xq _ (Xv _ (Xq _ (Xv _ XU))))));refine qH ?_;refine ⟨⟨some ⟨gd,0,none⟩,fx.n-1,c33,B,(j8 ap d (d*sd) (fx.cs.map NR.d) fx.m).length,c1,fx.ds.eraseIdx a,(j8 ap d (d*sd) (fx.cs.map NR.d) fx.m).map nR⟩,rfl,rfl,by show fx.n-1≤100000;omega, ?_,rfl,hh.sub (ZJ [_,_] _)⟩;show (j8 ap d (d*sd) (fx.cs.map NR.d) fx.m).length≤1000000;unfold j8;rw [XA];exact XV (aaQ _ _) (by rw [YO];omega)):p:=h
section
variable {H:Type}{enc:TypeId×Value→H}{P:Program}
theorem oB (hl:laidOutB P=true) {W W':World} (hb:Below W.heap.size W W') (sp:Nat→Bool):∀(ts:List TypeId) (vs:List Value) (ds:List (DataW H)) (ps:List MemPlace),(∀t∈ts,P.readableRec t=true∧t<P.types.size)→
  (∀x∈ps,x.block<W.heap.size)→(∀x∈ps,sp x.block=true)→DataW.TrodAll enc P W 0 (fun _=>true) true ts vs ds ps→DataW.TrodAll enc P W' 0 sp true ts vs ds ps
 |[],vs,ds,ps,_,_,_,h=>by
  obtain ⟨rfl,rfl,rfl⟩:=trodAll_nil h;exact trodAll_mk0
 |t::ts,vs,ds,ps,hr,hlt,hsp,h=>by
  obtain ⟨v,vs',d,ds',p,q,rfl,rfl,rfl,h0,r0⟩:=trodAll_cons h;refine trodAll_cons_mk (WideElems.Trod_stays hl (hr t XB).1 (hr t XB).2 h0 (fun x hx=>hb.same (hlt x (Y7 _ hx))) (fun x hx=>hsp x (Y7 _ hx)))
   (oB hl hb sp ts vs' ds' q (fun t ht=>hr t (XD _ ht)) (fun x hx=>hlt x (Y2 _ hx)) (fun x hx=>hsp x (Y2 _ hx)) r0)
theorem Lg {f:Func}{s:ChangeSpec}{W W':World}{args:Array Value}{ds:List (DataW H)}{before:List MemPlace}{tb:TypeId}
  (hW:DataW.Whole enc P f.params.toList s.vars false W args.toList ds [] before) (hv:s.vars=[]) (hl:laidOutB P=true) (hr:∀t∈f.params.toList,P.readableRec t=true∧t<P.types.size)
  (hres:f.resultTypes= #[tb]) (hbool:P.underlying tb=some .bool) (hs1:(s.fn H (ds++[])).results=[.lit (.bool true)]) (hs2:(s.fn H (ds++[])).args=ds) (hs3:(s.fn H (ds++[])).vars=[]) (hb:Below W.heap.size W W'):
  s.post enc P f false true false false W args (.bool true) W':=by
 have hlt:∀p∈before,p.block<W.heap.size:=fun p hp=>by simpa using hW.lt p hp
 have hold:∀p∈before,(fun b=>decide (b<W.heap.size)) p.block=true:=fun p hp=>by simpa using hlt p hp
 have hW0:=hW;obtain ⟨pa,pv,hA,hV,hps,hz,hn⟩:=hW0;rw [hv] at hV;obtain ⟨_,rfl⟩:=trodVars_none hV;have hbp:before=pa:=by rw [hps,XZ]
 subst hbp;have hA':∀sp:Nat→Bool,(∀p∈before,sp p.block=true)→DataW.TrodAll enc P W' 0 sp true f.params.toList args.toList (s.fn H (ds++[])).args before:=fun sp hsp=>by
  rw [hs2];exact oB hl hb sp _ _ _ _ hr hlt hsp hA
 have hV':∀sp:Nat→Bool,DataW.TrodVars enc P W' sp s.vars (s.fn H (ds++[])).vars []:=fun sp=>by
  rw [hv,hs3];rfl
 have hR:∀(b:Nat) (sp:Nat→Bool) (hd:Bool),DataW.TrodAll enc P W' b sp hd f.resultTypes.toList ((Value.bool true).resultList f.resultTypes.size) (s.fn H (ds++[])).results []:=fun b sp hd=>by
  rw [hres,hs1];exact trodAll_cons_mk (shut_bool hbool _) trodAll_mk0
 refine ⟨ds,[],before,[],before,[],hW,hR _ _ _,hA' _ hold,hV' _,World.keptBut_mono (fun p hp=>⟨hp, ?_⟩) (hb.frame (· ∈before)),fun _=> ?_⟩
 ·exact .inr (.inl hp)
 ·refine ⟨ok_one hres rfl (okWide_bool_mk hbool _),_,_,([]++before)++[],⟨[]++before,[],trodAll_append (hA' _ (fun _ _=>rfl)) (hR _ _ _),hV' _,rfl, ?_, ?_⟩, ?_⟩
  ·intro b off hp;have hp2:=hz b off (by simpa using hp);rw [hb.frozen (hlt _ (by simpa using hp))];exact hp2
  ·intro ha
   cases ha
  ·intro p hp _;simpa using hp
end
end Go.Proofs.YtolamocnngihpaaGreatDoor
