/- Lemmas for bernOf, part 1. -/
import Derived.KernelRfl
import Derived.Test.YteeckcbbnegmcaaGreatDoorRows
import Derived.WalkKit
import Derived.ProofKit
import Derived.OpenShut
import Derived.Carry
namespace Go.Proofs.YteeckcbbnegmcaaGreatDoor
open Go.ChangeShapes Go.WideShapes Go.ChangeAt Go.RowKit
theorem V2:type_of% @if_pos:=@if_pos
theorem V3:type_of% @if_neg:=@if_neg
theorem V4:type_of% @List.Sublist.cons_cons:=@List.Sublist.cons_cons
theorem V5:type_of% @Nat.zero_le:=@Nat.zero_le
theorem V6:type_of% @List.Sublist.cons:=@List.Sublist.cons
theorem V7:type_of% @List.mem_of_getElem?:=@List.mem_of_getElem?
theorem V8:type_of% @Nat.le_refl:=@Nat.le_refl
theorem V9:type_of% @List.nil_append:=@List.nil_append
theorem Wa:type_of% @List.take_of_length_le:=@List.take_of_length_le
theorem Wb:type_of% @List.cons_append:=@List.cons_append
theorem Wc:type_of% @List.length_append:=@List.length_append
theorem Wd:type_of% @List.set_cons_zero:=@List.set_cons_zero
theorem We:type_of% @List.mem_cons_self:=@List.mem_cons_self
theorem Wf:type_of% @List.getElem?_map:=@List.getElem?_map
theorem Wg:type_of% @List.mem_cons_of_mem:=@List.mem_cons_of_mem
theorem Wh:type_of% @List.length_map:=@List.length_map
theorem Wi:type_of% @List.getElem?_eq_some_iff:=@List.getElem?_eq_some_iff
theorem Wj:type_of% @List.mem_singleton:=@List.mem_singleton
theorem Wk:type_of% @List.mem_cons:=@List.mem_cons
theorem Wl:type_of% @Bool.and_eq_true:=@Bool.and_eq_true
theorem Wm:type_of% @decide_eq_true:=@decide_eq_true
theorem Wn:type_of% @List.mem_map:=@List.mem_map
theorem Wo:type_of% @Nat.mul_one:=@Nat.mul_one
theorem Wp:type_of% @List.length_take:=@List.length_take
theorem Wq:type_of% @List.Sublist.slnil:=@List.Sublist.slnil
theorem Wr:type_of% @Nat.zero_add:=@Nat.zero_add
theorem Ws:type_of% @Nat.pow_add:=@Nat.pow_add
theorem Wt:type_of% @decide_eq_true_eq:=@decide_eq_true_eq
theorem Wu:type_of% @decide_eq_false:=@decide_eq_false
theorem Wv:type_of% @List.map_cons:=@List.map_cons
theorem Ww:type_of% @List.all_eq_true:=@List.all_eq_true
theorem Wx:type_of% @List.length_cons:=@List.length_cons
theorem Wy:type_of% @Nat.mod_lt:=@Nat.mod_lt
theorem Wz:type_of% @Nat.le_trans:=@Nat.le_trans
theorem WB:type_of% @Nat.mul_comm:=@Nat.mul_comm
theorem WE:type_of% @List.sublist_cons_self:=@List.sublist_cons_self
theorem WG:type_of% @List.append_nil:=@List.append_nil
theorem WH:type_of% @List.set_cons_succ:=@List.set_cons_succ
theorem WI:type_of% @List.mem_append:=@List.mem_append
theorem WJ:type_of% @Nat.pow_pos:=@Nat.pow_pos
theorem WK:type_of% @List.getElem?_eq_none:=@List.getElem?_eq_none
theorem WM:type_of% @Nat.pow_le_pow_right:=@Nat.pow_le_pow_right
theorem WN:type_of% @List.nil_sublist:=@List.nil_sublist
theorem WO:type_of% @List.perm_middle:=@List.perm_middle
theorem WQ:type_of% @List.append_assoc:=@List.append_assoc
theorem WS:type_of% @Nat.mul_le_mul_left:=@Nat.mul_le_mul_left
theorem WT:type_of% @List.map_append:=@List.map_append
theorem WU:type_of% @Nat.mod_eq_of_lt:=@Nat.mod_eq_of_lt
theorem WV:type_of% @List.map_nil:=@List.map_nil
theorem WW:type_of% @Nat.pow_mul:=@Nat.pow_mul
theorem WX:type_of% @Nat.lt_or_ge:=@Nat.lt_or_ge
theorem WY:type_of% @Nat.pow_succ:=@Nat.pow_succ
theorem WZ:type_of% @Option.some.inj:=@Option.some.inj
theorem W0:type_of% @Nat.mul_add:=@Nat.mul_add
theorem W3:type_of% @List.length_reverse:=@List.length_reverse
theorem W4:type_of% @List.take_append_drop:=@List.take_append_drop
theorem W5:type_of% @List.map_map:=@List.map_map
theorem W6:type_of% @Nat.mul_assoc:=@Nat.mul_assoc
theorem W7:type_of% @Bool.false_or:=@Bool.false_or
theorem W8:type_of% @congrArg:=@congrArg
theorem W9:type_of% @Nat.sub_self:=@Nat.sub_self
theorem Xa:type_of% @Nat.lt_of_lt_of_le:=@Nat.lt_of_lt_of_le
theorem Xb:type_of% @Nat.lt_of_le_of_lt:=@Nat.lt_of_le_of_lt
theorem Xc:type_of% @List.getElem?_range:=@List.getElem?_range
theorem Xd:type_of% @Nat.min_eq_left:=@Nat.min_eq_left
theorem Xe:type_of% @List.mem_filterMap:=@List.mem_filterMap
theorem Xf:type_of% @Array.getD_eq_getD_getElem?:=@Array.getD_eq_getD_getElem?
theorem Xg:type_of% @Nat.div_eq_of_lt:=@Nat.div_eq_of_lt
theorem Xh:type_of% @List.Sublist.refl:=@List.Sublist.refl
theorem Xi:type_of% @Nat.mul_le_mul_right:=@Nat.mul_le_mul_right
theorem Xj:type_of% @Nat.succ_mul:=@Nat.succ_mul
theorem Xk:type_of% @List.length_drop:=@List.length_drop
theorem Xl:type_of% @List.drop_eq_getElem_cons:=@List.drop_eq_getElem_cons
theorem Xm:type_of% @List.getElem?_append_right:=@List.getElem?_append_right
theorem Xn:type_of% @Int.natCast_mul:=@Int.natCast_mul
theorem Xo:type_of% @List.length_replicate:=@List.length_replicate
theorem Xp:type_of% @List.getElem?_eq_getElem:=@List.getElem?_eq_getElem
theorem Xq:type_of% @Option.getD_some:=@Option.getD_some
theorem Xr:type_of% @List.mem_iff_getElem?:=@List.mem_iff_getElem?
theorem Xs:type_of% @Int.toNat_natCast:=@Int.toNat_natCast
theorem Xt:type_of% @List.eq_nil_of_length_eq_zero:=@List.eq_nil_of_length_eq_zero
theorem Xu:type_of% @List.pairwise_cons:=@List.pairwise_cons
theorem Xv:type_of% @Nat.div_lt_iff_lt_mul:=@Nat.div_lt_iff_lt_mul
theorem Xw:type_of% @List.getD_eq_getElem?_getD:=@List.getD_eq_getElem?_getD
theorem Xx:type_of% @List.mem_range:=@List.mem_range
theorem Xy:type_of% @List.mem_filter:=@List.mem_filter
theorem Xz:type_of% @of_decide_eq_true:=@of_decide_eq_true
theorem XA:type_of% @List.mem_append_right:=@List.mem_append_right
theorem XB:type_of% @List.drop_of_length_le:=@List.drop_of_length_le
theorem XC:type_of% @Nat.add_mul_div_left:=@Nat.add_mul_div_left
theorem XD:type_of% @List.any_eq_false:=@List.any_eq_false
theorem XE:type_of% @List.getElem?_reverse:=@List.getElem?_reverse
theorem XF:type_of% @Int.sign_eq_one_of_pos:=@Int.sign_eq_one_of_pos
theorem XG:type_of% @Int.sign_eq_neg_one_of_neg:=@Int.sign_eq_neg_one_of_neg
theorem XH:type_of% @Nat.div_add_mod:=@Nat.div_add_mod
theorem XI:type_of% @Nat.mul_succ:=@Nat.mul_succ
theorem XJ:type_of% @Option.map_some:=@Option.map_some
theorem XK:type_of% @beq_iff_eq:=@beq_iff_eq
theorem XL:type_of% @List.getElem?_take:=@List.getElem?_take
theorem XM:type_of% @Nat.mul_le_mul:=@Nat.mul_le_mul
theorem XN:type_of% @List.ext_getElem?:=@List.ext_getElem?
theorem XO:type_of% @Option.some.injEq:=@Option.some.injEq
theorem XP:type_of% @Nat.eq_zero_or_pos:=@Nat.eq_zero_or_pos
theorem XQ:type_of% @Nat.div_div_eq_div_mul:=@Nat.div_div_eq_div_mul
theorem XR:type_of% @List.any_eq_true:=@List.any_eq_true
theorem XS:type_of% @List.filterMap_cons:=@List.filterMap_cons
theorem XT:type_of% @Nat.add_zero:=@Nat.add_zero
theorem XU:type_of% @List.getElem?_drop:=@List.getElem?_drop
theorem XV:type_of% @List.take_zero:=@List.take_zero
theorem XW:type_of% @Int.natAbs_mul:=@Int.natAbs_mul
theorem XX:type_of% @List.mem_append_left:=@List.mem_append_left
theorem XY:type_of% @Nat.add_comm:=@Nat.add_comm
theorem XZ:type_of% @List.map_congr_left:=@List.map_congr_left
theorem X1:type_of% @List.mem_of_mem_take:=@List.mem_of_mem_take
theorem X2:type_of% @List.nodup_cons:=@List.nodup_cons
theorem X3:type_of% @Bool.and_eq_true_iff:=@Bool.and_eq_true_iff
theorem X4:type_of% @List.set_append_right:=@List.set_append_right
theorem X5:type_of% @Nat.one_mul:=@Nat.one_mul
theorem X6:type_of% @Int.natCast_add:=@Int.natCast_add
theorem X7:type_of% @List.mem_flatMap:=@List.mem_flatMap
theorem X8:type_of% @Dyadic.add_zero:=@Dyadic.add_zero
theorem X9:type_of% @Dyadic.zero_add:=@Dyadic.zero_add
theorem Ya:type_of% @Nat.add_mul:=@Nat.add_mul
theorem Yb:type_of% @Option.bind_some:=@Option.bind_some
theorem Yc:type_of% @List.filter_append:=@List.filter_append
theorem Yd:type_of% @Bool.or_eq_true:=@Bool.or_eq_true
theorem Ye:type_of% @Dyadic.one_mul:=@Dyadic.one_mul
theorem Yf:type_of% @List.getElem?_set:=@List.getElem?_set
theorem Yg:type_of% @Array.getElem?_eq_getElem:=@Array.getElem?_eq_getElem
theorem Yh:type_of% @Nat.add_mul_mod_self_left:=@Nat.add_mul_mod_self_left
theorem Yi:type_of% @List.replicate_succ:=@List.replicate_succ
theorem Yj:type_of% @List.getElem?_toArray:=@List.getElem?_toArray
theorem Yk:type_of% @Option.map_eq_some_iff:=@Option.map_eq_some_iff
theorem Yl:type_of% @List.size_toArray:=@List.size_toArray
theorem Ym:type_of% @List.any_append:=@List.any_append
theorem Yn:type_of% @Int.natAbs_pow:=@Int.natAbs_pow
theorem Yo:type_of% @List.sublist_append_left:=@List.sublist_append_left
theorem Yp:type_of% @List.getElem?_append_left:=@List.getElem?_append_left
theorem Yq:type_of% @Classical.byContradiction:=@Classical.byContradiction
theorem Yr:type_of% @Nat.mul_lt_mul_of_pos_right:=@Nat.mul_lt_mul_of_pos_right
theorem Ys:type_of% @List.flatMap_cons:=@List.flatMap_cons
theorem Yt:type_of% @Nat.div_le_self:=@Nat.div_le_self
theorem Yu:type_of% @List.filterMap_append:=@List.filterMap_append
theorem Yv:type_of% @Bool.eq_false_iff:=@Bool.eq_false_iff
theorem Yw:type_of% @List.any_cons:=@List.any_cons
theorem Yx:type_of% @Classical.not_not:=@Classical.not_not
theorem Yy:type_of% @List.any_nil:=@List.any_nil
theorem Yz:type_of% @List.reverse_append:=@List.reverse_append
theorem YA:type_of% @Nat.zero_mul:=@Nat.zero_mul
theorem YB:type_of% @List.getElem?_cons_succ:=@List.getElem?_cons_succ
theorem YC:type_of% @List.map_singleton:=@List.map_singleton
theorem YD:type_of% @List.reverse_reverse:=@List.reverse_reverse
theorem YE:type_of% @List.mem_reverse:=@List.mem_reverse
theorem YF:type_of% @Nat.pow_zero:=@Nat.pow_zero
theorem YG:type_of% @List.map_drop:=@List.map_drop
theorem YH:type_of% @List.length_range:=@List.length_range
theorem YI:type_of% @List.map_set:=@List.map_set
theorem YJ:type_of% @Nat.mod_add_div:=@Nat.mod_add_div
theorem YK:type_of% @List.map_toArray:=@List.map_toArray
theorem YL:type_of% @Int.mul_le_mul:=@Int.mul_le_mul
theorem YM:type_of% @List.flatMap_append:=@List.flatMap_append
theorem YN:type_of% @List.getElem?_cons_zero:=@List.getElem?_cons_zero
theorem YO:type_of% @List.length_finRange:=@List.length_finRange
theorem YP:type_of% @UInt8.toNat_inj:=@UInt8.toNat_inj
theorem YQ:type_of% @Array.getElem?_eq_none:=@Array.getElem?_eq_none
theorem YR:type_of% @Nat.lt_of_not_le:=@Nat.lt_of_not_le
theorem YS:type_of% @List.length_nil:=@List.length_nil
theorem YT:type_of% @Array.getElem?_eq_some_iff:=@Array.getElem?_eq_some_iff
theorem YU:type_of% @List.length_set:=@List.length_set
theorem YV:type_of% @List.take_length:=@List.take_length
theorem YW:type_of% @Int.lt_trichotomy:=@Int.lt_trichotomy
theorem YX:type_of% @List.not_mem_nil:=@List.not_mem_nil
theorem YY:type_of% @List.map_take:=@List.map_take
theorem YZ:type_of% @List.range_succ:=@List.range_succ
theorem Y0:type_of% @List.nodup_append:=@List.nodup_append
theorem Y1:type_of% @List.map_id':=@List.map_id'
theorem Y2:type_of% @Bool.false_eq_true:=@Bool.false_eq_true
theorem Y3:type_of% @Int.eq_ofNat_of_zero_le:=@Int.eq_ofNat_of_zero_le
theorem Y4:type_of% @Nat.mul_left_comm:=@Nat.mul_left_comm
theorem Y5:type_of% @Bool.not_eq_true':=@Bool.not_eq_true'
theorem Y6:type_of% @List.reverse_cons:=@List.reverse_cons
theorem Y7:type_of% @List.foldl_cons:=@List.foldl_cons
theorem Y8:type_of% @List.replicate_zero:=@List.replicate_zero
theorem Y9:type_of% @UInt8.toNat_ofNat':=@UInt8.toNat_ofNat'
theorem Za:type_of% @List.length_pos_iff:=@List.length_pos_iff
theorem Zb:type_of% @List.mem_of_mem_drop:=@List.mem_of_mem_drop
theorem Zc:type_of% @List.foldl_append:=@List.foldl_append
theorem Zd:type_of% @List.sublist_append_right:=@List.sublist_append_right
theorem Ze:type_of% @List.length_eq_zero_iff:=@List.length_eq_zero_iff
theorem Zf:type_of% @Array.all_eq_true':=@Array.all_eq_true'
theorem Zg:type_of% @List.set_eq_take_append_cons_drop:=@List.set_eq_take_append_cons_drop
theorem Zh:type_of% @decide_eq_false_iff_not:=@decide_eq_false_iff_not
theorem Zi:type_of% @List.Pairwise.nil:=@List.Pairwise.nil
theorem Zj:type_of% @List.length_filter_le:=@List.length_filter_le
theorem Zk:type_of% @List.filter_cons_of_neg:=@List.filter_cons_of_neg
theorem Zl:type_of% @Nat.pow_lt_pow_iff_right:=@Nat.pow_lt_pow_iff_right
theorem Zm:type_of% @Int.natAbs_ediv_le_natAbs:=@Int.natAbs_ediv_le_natAbs
theorem Zn:type_of% @Nat.le_mul_of_pos_right:=@Nat.le_mul_of_pos_right
theorem Zo:type_of% @List.pairwise_singleton:=@List.pairwise_singleton
theorem Zp:type_of% @List.take_append_of_le_length:=@List.take_append_of_le_length
theorem Zq:type_of% @Bool.and_eq_false_iff:=@Bool.and_eq_false_iff
def zL0:List (List (Nat×Option Nat)):=[[(4,none)],[(21,some 0)],[(1,none)],[(23,some 2)],[(22,some 1),(24,some 3)],[(25,some 4)],[(26,some 5)],[(4,none),(27,some 6)],[(28,some 7),(27,some 6)],[(29,some 8),(27,some 6)],[(30,some 9),(27,some 6)],[(27,some 6),(31,some 10)],[(32,some 11)],[(4,none),(33,some 12)],[(34,some 13),(33,some 12)],[(35,some 14),(33,some 12)],[(4,none),(33,some 12)],[(37,some 16),(33,some 12)],[(36,some 15),(38,some 17),(33,some 12)],[(33,some 12),(39,some 18)],[(40,some 19)],[(3,none),(41,some 20)],[(42,some 21),(41,some 20)],[(43,some 22),(41,some 20)],[(1,none),(44,some 23)],[(45,some 24),(44,some 23)],[(3,none),(44,some 23)],[(47,some 26),(44,some 23)],[(46,some 25),(48,some 27),(44,some 23)],[(49,some 28),(44,some 23)],[(50,some 29),(44,some 23)],[(4,none),(44,some 23)],[(52,some 31),(44,some 23)]]
def zL1:List Nat:=[0,1,0,4,15,31,63,127,255,511,1023,2047,4095,8191,16383,32767,8191,73727,262143,524287,1048575,2097151,4194303,8388607,16777215,33554431,16777215,83886079,268435455,536870911,1073741823,16777215,2164260863,8589934591,17179869183,34359738367]
def zL2:List (List (Nat×Option Nat)):=[[(4,none)],[(29,some 0)],[(1,none)],[(31,some 2)],[(30,some 1),(32,some 3)],[(33,some 4)],[(34,some 5)],[(4,none),(35,some 6)],[(36,some 7),(35,some 6)],[(37,some 8),(35,some 6)],[(38,some 9),(35,some 6)],[(35,some 6),(39,some 10)],[(40,some 11)],[(4,none),(41,some 12)],[(42,some 13),(41,some 12)],[(43,some 14),(41,some 12)],[(4,none),(41,some 12)],[(45,some 16),(41,some 12)]]
def zL3:List (List (Nat×Option Nat)):=[[(3,none)],[(49,some 0)],[(50,some 1)],[(1,none),(51,some 2)],[(52,some 3),(51,some 2)],[(3,none),(51,some 2)],[(54,some 5),(51,some 2)],[(53,some 4),(55,some 6),(51,some 2)],[(56,some 7),(51,some 2)],[(57,some 8),(51,some 2)],[(4,none),(51,some 2)],[(59,some 10),(51,some 2)]]
def zL4:List Nat:=[0,1,0,4,15,31,63,127,255,511,1023,2047,4095,8191,16383,32767,8191,73727,262143,524287]
def zL5:List Nat:=[14,53,54,55,56,57,58,59,60,61,62,63,64,65,66,67,68,69]
theorem VX {p:Prop} (h:p:=by omega):p:=h
theorem VY {p:Prop} (h:p:=by decide):p:=h
theorem VZ {p:Prop} (h:p:=by kernel_rfl):p:=h
theorem Ik {P Q:Prop} (p:P) (h:P→Q:=by intro kQ;exact DS (b:=4294967295) rfl rfl (by first|assumption|omega) (by first|assumption|omega) VY kQ):Q:=h p
theorem wZ {P Q:Prop} (p:P) (h:P→Q:=by intro kQ;exact md (s:=32) (m:=4294967296) rfl rfl VY VY VY kQ):Q:=h p
theorem FA {P Q:Prop} (p:P) (h:P→Q:=by intro kQ;exact md (s:=8) (m:=256) rfl rfl VY VY VY kQ):Q:=h p
theorem mH {P Q:Prop} (p:P) (h:P→Q:=by intro kQ;exact D9 bj.out bj.out rfl (by first|assumption|omega) VY kQ):Q:=h p
theorem Ff {P Q:Prop} (p:P) (h:P→Q:=by intro kQ;exact dJ (aa (cF (ao (ai (sr (mI (mI kQ)))))))):Q:=h p
theorem qb {P Q:Prop} (p:P) (h:P→Q:=by intro kQ;exact El bj.out bj.out rfl VX VX VY kQ):Q:=h p
theorem ic {P Q:Prop} (p:P) (h:P→Q:=by intro kQ;exact ld VY rfl rfl VY kQ):Q:=h p
theorem k8 {P Q:Prop} (p:P) (h:P→Q:=by intro kQ;exact dp (k:=j) bj.out aO.size rfl rfl VX VX VY kQ):Q:=h p
theorem gZ {P Q:Prop} (p:P) (h:P→Q:=by intro kQ;exact bX aO.out rfl ((hr.ext hh.below).su (by assumption)) VY kQ):Q:=h p
theorem oJ {P Q:Prop} (p:P) (h:P→Q:=by intro kQ;exact Qs rfl rfl VX VX VX VY kQ):Q:=h p
theorem Gc {P Q:Prop} (p:P) (h:P→Q:=by intro kQ;exact Tj rfl rfl (by first|assumption|omega) (by first|assumption|omega) VY kQ):Q:=h p
theorem Ij {P Q:Prop} (p:P) (h:P→Q:=by intro kQ;exact cd hh (i:=0) (vs:=[_]) rfl rfl (cR rfl) rfl aO.out rfl (by rw [bq,aZ];omega) rfl kQ):Q:=h p
theorem gy {P Q:Prop} (p:P) (h:P→Q:=by intro kQ;exact aA (bF (ai (al kQ)))):Q:=h p
theorem oP {P Q:Prop} (p:P) (h:P→Q:=by intro kQ;exact aW (aa (ah (cF (aU (aD (aD (bk (ai (sr (mL kQ))))))))))):Q:=h p
theorem xB {P Q:Prop} (p:P) (h:P→Q:=by intro kQ;exact cB (aa (cT (sr (aI (aa (au (aE kQ)))))))):Q:=h p
theorem rY {P Q:Prop} (p:P) (h:P→Q:=by intro kQ;exact Rm rfl rfl VX VX VY kQ):Q:=h p
theorem EA {P Q:Prop} (p:P) (h:P→Q:=by intro kQ;exact cJ (aa (cF (ao (ai (ah (sr (mL (aF kQ))))))))):Q:=h p
theorem Jn {P Q:Prop} (p:P) (h:P→Q:=by intro kQ;exact dJ (aa (cT (ao (ai (ah (aq (aq (ah kQ))))))))):Q:=h p
theorem JB {P Q:Prop} (p:P) (h:P→Q:=by intro kQ;exact aT 8 [[(0,none)],[(5,none)],[(28,some 0),(29,some 1)],[(30,some 2)],[(1,none)],[(5,none)],[(32,some 4),(33,some 5)],[(34,some 6)]] [(7,35),(6,34),(5,33),(4,32),(3,31),(2,30),(1,29),(0,28)] hh mixed VZ kQ):Q:=h p
theorem Am {P Q:Prop} (p:P) (h:P→Q:=by intro kQ;exact mO (fun _ hj=>(hr.ext hj.hp.below).su hx3) kQ):Q:=h p
theorem zZ {P Q:Prop} (p:P) (h:P→Q:=by intro kQ;exact mO (fun _ hj=>(hs.ext hj.hp.below).su hy3) kQ):Q:=h p
theorem IP {P Q:Prop} (p:P) (h:P→Q:=by intro kQ;exact aR (a8 (ae v35 (ae v34 (ae v33 (ae v32 (ae v31 (ae v30 (ae v29 (ae v28 aQ))))))))) kQ):Q:=h p
theorem Ot {P Q:Prop} (p:P) (h:P→Q:=by intro kQ;exact aT 8 [[(0,none)],[(5,none)],[(38,some 0),(39,some 1)],[(40,some 2)],[(1,none)],[(5,none)],[(42,some 4),(43,some 5)],[(44,some 6)]] [(7,45),(6,44),(5,43),(4,42),(3,41),(2,40),(1,39),(0,38)] hh mixed VZ kQ):Q:=h p
theorem Pr {P Q:Prop} (p:P) (h:P→Q:=by intro kQ;exact aR (a8 (ae v45 (ae v44 (ae v43 (ae v42 (ae v41 (ae v40 (ae v39 (ae v38 aQ))))))))) kQ):Q:=h p
theorem xA {P Q:Prop} (p:P) (h:P→Q:=by intro kQ;exact aW (aa (ah (cT (ao (ai (ah (aq (sr (mI (aI (aa (sr (aI (aa (ah (sr (mI (mL (aF kQ)))))))))))))))))))):Q:=h p
theorem JD {P Q:Prop} (p:P) (h:P→Q:=by intro kQ;exact dp (k:=done.length) bj.out aO.size rfl rfl VX VX VY kQ):Q:=h p
theorem jO {P Q:Prop} (p:P) (h:P→Q:=by intro kQ;exact bX aO.out rfl (hh.fM (i:=0) rfl (by first|assumption|(simp only [Wo];assumption))) VY kQ):Q:=h p
theorem oH {P Q:Prop} (p:P) (h:P→Q:=by intro kQ;exact pf (k:=done.length) bj.out aO.size rfl rfl VX VX VY kQ):Q:=h p
theorem wy {P Q:Prop} (p:P) (h:P→Q:=by intro kQ;exact cd hh (i:=0) (vs:=[_]) rfl rfl (cR rfl) rfl aO.out rfl (by rw [bq];simp only [Wc,Wx];omega) rfl kQ):Q:=h p
theorem wh {P Q:Prop} (p:P) (h:P→Q:=by intro kQ;exact aI (aA (bF (ai (al kQ))))):Q:=h p
theorem rZ {P Q:Prop} (p:P) (h:P→Q:=by intro kQ;exact aL (aa (ah (sr (mL (aF (mI (aa (aq kQ))))))))):Q:=h p
theorem eH {P Q:Prop} (p:P) (h:P→Q:=by intro kQ;exact aW (aa (ah (cT (ao (ai (ah (aq (sr (mI kQ)))))))))):Q:=h p
theorem gh {P Q:Prop} (p:P) (h:P→Q:=by intro kQ;exact cX (k:=i) bj.out aO.size rfl rfl VX VX VY kQ):Q:=h p
theorem se {P Q:Prop} (p:P) (h:P→Q:=by intro kQ;exact cZ hh (cs:=[_]) bj.out aO.out (aX (cR rfl) ct) rfl rfl VY VY VY rfl VY kQ):Q:=h p
theorem so {P Q:Prop} (p:P) (h:P→Q:=by intro kQ;exact aG (pD a _ ha) ar.out rfl VY kQ):Q:=h p
theorem EG {P Q:Prop} (p:P) (h:P→Q:=by intro kQ;exact aG (pD b _ hb) ar.out rfl VY kQ):Q:=h p
theorem Ju {P Q:Prop} (p:P) (h:P→Q:=by intro kQ;exact br hh (Dm _ _ _ _ _ _ (a0 18446744073709551616 (bN a)) (a0 18446744073709551616 (bN b)) _ (hh.aC (i:=1) rfl) (hh.aC (i:=0) rfl) (jF _) (jF _) (hh.fJ (i:=1) rfl) (hh.fJ (i:=0) rfl) VX VX) rfl kQ):Q:=h p
theorem F3 {P Q:Prop} (p:P) (h:P→Q:=by intro kQ;exact bX aO.out rfl (hh.fM (i:=2) rfl (by first|assumption|(simp only [Wo];assumption))) VY kQ):Q:=h p
theorem Fk {P Q:Prop} (p:P) (h:P→Q:=by intro kQ;exact aW (aa (ah (cF (aU (aD (aD (bk (ai (sr (aI (aa (au kQ))))))))))))):Q:=h p
theorem dZ {P Q:Prop} (p:P) (h:P→Q:=by intro kQ;exact aW (aa (ah (cT (ao (ai (ah (aq (sr kQ))))))))):Q:=h p
theorem lR {P Q:Prop} (p:P) (h:P→Q:=by intro kQ;exact aL (aA (bF (ai (al kQ))))):Q:=h p
theorem hH {P Q:Prop} (p:P) (h:P→Q:=by intro kQ;exact sl bj.out rfl rfl VX (by assumption) VY kQ):Q:=h p
theorem qJ {P Q:Prop} (p:P) (h:P→Q:=by intro kQ;exact Nm (ej rfl (ek (vs:=[_,_]) aO.out (hh.bZ (i:=0) (n:=2) rfl rfl) rfl) fF) kQ):Q:=h p
theorem Ln {P Q:Prop} (p:P) (h:P→Q:=by intro kQ;exact aj (N:=13) (l:=[.agg #[.bool s,.string m]]) Tryz.func195 rfl rfl (by simp) kQ):Q:=h p
theorem Fq {P Q:Prop} (p:P) (h:P→Q:=by intro kQ;exact aB (aa (cT (sr (aI (aa (au (bI (aE kQ))))))))):Q:=h p
theorem FM {P Q:Prop} (p:P) (h:P→Q:=by intro kQ;exact Nz bj.out rfl rfl (by first|rfl|assumption|decide) VY kQ):Q:=h p
theorem Bw {P Q:Prop} (p:P) (h:P→Q:=by intro kQ;exact aa (cF (ao (ai (ah (sr (bE kQ))))))):Q:=h p
theorem Iv {P Q:Prop} (p:P) (h:P→Q:=by intro kQ;exact aT 10 [[(2,none)],[(5,some 0)],[(3,none)],[(7,some 2)],[(6,some 1),(8,some 3)],[(2,none)],[(10,some 5)],[(3,none)],[(12,some 7)],[(11,some 6),(13,some 8)]] [(9,14),(8,13),(7,12),(6,11),(5,10),(4,9),(3,8),(2,7),(1,6),(0,5)] hh mixed VZ kQ):Q:=h p
theorem Et {P Q:Prop} (p:P) (h:P→Q:=by intro kQ;exact aR (a8 (ae v14 (ae v13 (ae v12 (ae v11 (ae v10 (ae v9 (ae v8 (ae v7 (ae v6 (ae v5 aQ))))))))))) kQ):Q:=h p
theorem vY {P Q:Prop} (p:P) (h:P→Q:=by intro kQ;exact aa (ah (sr (mL (aF (mI (aa (aq kQ)))))))):Q:=h p
theorem bY {P Q:Prop} (p:P) (h:P→Q:=by intro kQ;exact dp (k:=i) bj.out aO.size rfl rfl VX VX VY kQ):Q:=h p
theorem mY {P Q:Prop} (p:P) (h:P→Q:=by intro kQ;exact aW (aa (ah (cF (aU (aD (aD (bk (ai (sr kQ)))))))))):Q:=h p
theorem Jy {P Q:Prop} (p:P) (h:P→Q:=by intro kQ;exact aT 3 [[(2,none)],[(3,none)],[(6,some 1)]] [(2,7),(1,6),(0,5)] hh mixed VZ kQ):Q:=h p
theorem uJ {P Q:Prop} (p:P) (h:P→Q:=by intro kQ;exact aR (a8 (ae v7 (ae v6 (ae v5 aQ)))) kQ):Q:=h p
theorem xr {P Q:Prop} (p:P) (h:P→Q:=by intro kQ;exact cZ hh (cs:=[_,_,_,_]) bj.out aO.out (aX (iV rfl) (aX (iV rfl) ct)) rfl rfl VY VY VY rfl VY kQ):Q:=h p
theorem FJ {P Q:Prop} (p:P) (h:P→Q:=by intro kQ;exact aT 10 [[(2,none)],[(18,some 0)],[(1,none)],[(20,some 2)],[(19,some 1),(21,some 3)],[(2,none)],[(23,some 5)],[(22,some 4),(24,some 6)],[(25,some 7)],[]] [(9,5),(8,26),(7,25),(6,24),(5,23),(4,22),(3,21),(2,20),(1,19),(0,18)] hh mixed VZ kQ):Q:=h p
theorem EW {P Q:Prop} (p:P) (h:P→Q:=by intro kQ;exact bm (i:=3) (fun ρ1 w1 hj hR=>KB (show ρ1 20=Value.int _ _ from hR.1) VX VX) kQ):Q:=h p
theorem Fu {P Q:Prop} (p:P) (h:P→Q:=by intro kQ;exact aN (i:=9) (cO _ 63 _) cO.ext (fun ρ1 w1 hj hR=>g8 aO.out hj.bl (fun v w2 h hb=>⟨hb,h⟩)) kQ):Q:=h p
theorem FK {P Q:Prop} (p:P) (h:P→Q:=by intro kQ;exact aR (a8 (ae e5 (ae v26 (ae v25 (ae v24 (ae v23 (ae v22 (ae v21 (ae v20 (ae v19 (ae v18 aQ))))))))))) kQ):Q:=h p
theorem Ie {P Q:Prop} (p:P) (h:P→Q:=by intro kQ;exact aj (N:=47) (l:=[.agg #[.bool true,.string a],.int .i64 (-(m:Int))]) Tryz.func197 rfl rfl (by simp) kQ):Q:=h p
theorem tF {P Q:Prop} (p:P) (h:P→Q:=by intro kQ;exact aa (cF (ao (ai (sr kQ))))):Q:=h p
theorem O1 {P Q:Prop} (p:P) (h:P→Q:=by intro kQ;exact aT 5 [[(1,none)],[(3,some 0)],[(4,some 1)],[(1,none)],[(6,some 3)]] [(4,7),(3,6),(2,5),(1,4),(0,3)] hh mixed VZ kQ):Q:=h p
theorem Ii {P Q:Prop} (p:P) (h:P→Q:=by intro kQ;exact aj (N:=41) (l:=[.agg #[.bool a.neg,.string a.bf,.int .i64 a.e],.agg #[.bool b.neg,.string b.bf,.int .i64 b.e]]) Tryz.func136 rfl rfl (by simp) kQ):Q:=h p
theorem Jt {P Q:Prop} (p:P) (h:P→Q:=by intro kQ;exact aT 3 [[(2,none)],[(7,some 0)],[(3,none)]] [(2,9),(1,8),(0,7)] hh mixed VZ kQ):Q:=h p
theorem Jq {P Q:Prop} (p:P) (h:P→Q:=by intro kQ;exact dC (fun _ hj=>eY a _ (hT.hp hj.hp) VX VX VX) kQ):Q:=h p
theorem P3 {P Q:Prop} (p:P) (h:P→Q:=by intro kQ;exact aj (N:=28) (l:=[.agg #[.bool a.neg,.string a.bf,.int .i64 a.e],.agg #[.bool b.neg,.string b.bf,.int .i64 b.e]]) Tryz.func184 rfl rfl (by simp) kQ):Q:=h p
theorem rQ {P Q:Prop} (p:P) (h:P→Q:=by intro kQ;exact cJ (aa (cF (ao (ai (sr kQ)))))):Q:=h p
theorem FP {P Q:Prop} (p:P) (h:P→Q:=by intro kQ;exact cA (vs:=[_,_,_]) aO.out rfl (((hr.ext hh.below).recAt NR.len hx)) rfl VY kQ):Q:=h p
theorem wQ {P Q:Prop} (p:P) (h:P→Q:=by intro kQ;exact cZ hh (cs:=[_,_,_,_,_,_]) bj.out aO.out (aX (iV rfl) (aX (iV rfl) ct)) rfl rfl VY VY VY rfl VY kQ):Q:=h p
theorem Bi {P Q:Prop} (p:P) (h:P→Q:=by intro kQ;exact br hh (lN 1 _ (hT.hp hh) VX VX) rfl kQ):Q:=h p
theorem Cj {P Q:Prop} (p:P) (h:P→Q:=by intro kQ;exact dp (k:=0) bj.out aO.size rfl rfl VX VX VY kQ):Q:=h p
theorem jh {P Q:Prop} (p:P) (h:P→Q:=by intro kQ;exact qZ (by first|exact te rfl|exact sP rfl) VY kQ):Q:=h p
theorem An {P Q:Prop} (p:P) (h:P→Q:=by intro kQ;exact aa (cF (ao (bF (ai (al kQ)))))):Q:=h p
theorem J2 {P Q:Prop} (p:P) (h:P→Q:=by intro kQ;exact DS (b:=1) rfl rfl (by first|assumption|omega) (by first|assumption|omega) VY kQ):Q:=h p
theorem mF {P Q:Prop} (p:P) (h:P→Q:=by intro kQ;exact bK hh (i:=1) rfl rfl rfl (hh.aC (i:=0) rfl) bj.out aO.out rfl VY (by first|rfl|exact cQ _|exact cD _|exact a7 _|exact bu NR.one _) VX VX VY kQ):Q:=h p
theorem jK {P Q:Prop} (p:P) (h:P→Q:=by intro kQ;exact aL (aA (bF (ai (al (mI kQ)))))):Q:=h p
theorem KA {P Q:Prop} (p:P) (h:P→Q:=by intro kQ;exact aW (aa (cF (aU (aD (aD (bk (bF (ai (al (mI kQ))))))))))):Q:=h p
theorem EK {P Q:Prop} (p:P) (h:P→Q:=by intro kQ;exact aL (aa (ah (sr (aI (aa (aq kQ))))))):Q:=h p
theorem F7 {P Q:Prop} (p:P) (h:P→Q:=by intro kQ;exact aW (aa (cT (ao (ai (ah (aq kQ))))))):Q:=h p
theorem xM {P Q:Prop} (p:P) (h:P→Q:=by intro kQ;exact aA (bF (ai (al (mI kQ))))):Q:=h p
theorem Ar {P Q:Prop} (p:P) (h:P→Q:=by intro kQ;exact aW (aa (cF (aU (aD (aD (bk (ai (sr (mL kQ)))))))))):Q:=h p
theorem JI {P Q:Prop} (p:P) (h:P→Q:=by intro kQ;exact dJ (aa (cT (ao (ai (ah (aq (ah (sr (mL (mI kQ))))))))))):Q:=h p
theorem As {P Q:Prop} (p:P) (h:P→Q:=by intro kQ;exact br hh (jA A n c j xs _ (hx.ext hh.below) hdx VX VX) rfl kQ):Q:=h p
theorem Af {P Q:Prop} (p:P) (h:P→Q:=by intro kQ;exact br hh (jA B m c' j ys _ (hy.ext hh.below) hdy VX VX) rfl kQ):Q:=h p
theorem je {P Q:Prop} (p:P) (h:P→Q:=by intro kQ;exact aW (aa (cT (ao (ai (ah (aq (sr (mL (mI kQ)))))))))):Q:=h p
theorem JT {P Q:Prop} (p:P) (h:P→Q:=by intro kQ;exact gj (n:=n) hh rfl rfl VX VX bj.out aO.out rfl VX VX VY kQ):Q:=h p
theorem Gp {P Q:Prop} (p:P) (h:P→Q:=by intro kQ;exact cd hh (i:=0) (vs:=[_]) rfl rfl (cR rfl) rfl aO.out rfl (by rw [hll];omega) rfl kQ):Q:=h p
theorem xf {P Q:Prop} (p:P) (h:P→Q:=by intro kQ;exact aG (iy a _ ha) ar.out rfl VY kQ):Q:=h p
theorem E1 {P Q:Prop} (p:P) (h:P→Q:=by intro kQ;exact aG (iy b _ hb) ar.out rfl VY kQ):Q:=h p
theorem B5 {P Q:Prop} (p:P) (h:P→Q:=by intro kQ;exact aW (aa (cT (ao (ai (ah (aq (al (mL (mL (mI kQ))))))))))):Q:=h p
theorem Lh {P Q:Prop} (p:P) (h:P→Q:=by intro kQ;exact br hh (fG _ _ _ (a0 2 (bN m)) _ (hh.aC (i:=0) rfl) (jZ _) (hh.fJ (i:=0) rfl) VX) rfl kQ):Q:=h p
theorem wE {P Q:Prop} (p:P) (h:P→Q:=by intro kQ;exact Nm (ej rfl (ek (vs:=[_,_]) aO.out (hh.bZ (i:=1) (n:=2) rfl rfl) rfl) fF) kQ):Q:=h p
theorem Fg {P Q:Prop} (p:P) (h:P→Q:=by intro kQ;exact cB (aa (cF (ao (ai (ah (sr (bE kQ)))))))):Q:=h p
theorem BV {P Q:Prop} (p:P) (h:P→Q:=by intro kQ;exact aa (cT (sr (aI (aa (au (aE kQ))))))):Q:=h p
theorem Gu {P Q:Prop} (p:P) (h:P→Q:=by intro kQ;exact aa (cF (ao (ai (sr (aI (aa (au kQ)))))))):Q:=h p
theorem tV {P Q:Prop} (p:P) (h:P→Q:=by intro kQ;exact aa (cF (ao (ai (sr (bE kQ)))))):Q:=h p
theorem A5 {P Q:Prop} (p:P) (h:P→Q:=by intro kQ;exact Nm (ej rfl (ek (vs:=[_,_,_]) aO.out (hh.bZ (i:=0) (n:=3) rfl rfl) rfl) fF) kQ):Q:=h p
theorem E3 {P Q:Prop} (p:P) (h:P→Q:=by intro kQ;exact aj (N:=38) (l:=[.agg #[.bool a.neg,.string a.bf,.int .i64 a.e],.agg #[.bool b.neg,.string b.bf,.int .i64 b.e]]) Tryz.func114 rfl rfl (by simp) kQ):Q:=h p
theorem F9 {P Q:Prop} (p:P) (h:P→Q:=by intro kQ;exact aT 3 [[(2,none)],[(5,some 0)],[(3,none)]] [(2,7),(1,6),(0,5)] hh mixed VZ kQ):Q:=h p
theorem GC {P Q:Prop} (p:P) (h:P→Q:=by intro kQ;exact dC (fun _ hj=>kU a _ VX VX VX) kQ):Q:=h p
theorem FD {P Q:Prop} (p:P) (h:P→Q:=by intro kQ;exact br hh (kU b _ VX VX VX) rfl kQ):Q:=h p
theorem vm {P Q:Prop} (p:P) (h:P→Q:=by intro kQ;exact aI (aa (ah (aq (sr (bE kQ)))))):Q:=h p
theorem wU {P Q:Prop} (p:P) (h:P→Q:=by intro kQ;exact bM (mB (gT (mL (gT (aF (gT kQ))))))):Q:=h p
theorem JK {P Q:Prop} (p:P) (h:P→Q:=by intro kQ;exact aT 7 [[(2,none)],[(0,none)],[(26,some 1)],[(27,some 2)],[(1,none)],[(29,some 4)],[(30,some 5)]] [(6,31),(5,30),(4,29),(3,28),(2,27),(1,26),(0,25)] hh mixed VZ kQ):Q:=h p
theorem Kx {P Q:Prop} (p:P) (h:P→Q:=by intro kQ;exact aR (a8 (ae v31 (ae v30 (ae v29 (ae v28 (ae v27 (ae v26 (ae v25 aQ)))))))) kQ):Q:=h p
theorem K3 {P Q:Prop} (p:P) (h:P→Q:=by intro kQ;exact cA (vs:=[_,_,_,_]) aO.out rfl ((hr.ext hh.below).recAt TR.len hxx) rfl VY kQ):Q:=h p
theorem tf {P Q:Prop} (p:P) (h:P→Q:=by intro kQ;exact cZ hh (cs:=[_,_,_,_]) bj.out aO.out (aX (iV rfl) ct) rfl rfl VY VY VY rfl VY kQ):Q:=h p
theorem J6 {P Q:Prop} (p:P) (h:P→Q:=by intro kQ;exact cA (vs:=[_,_,_,_]) aO.out rfl ((hr2.ext hh.below).recAt TR.len hyy) rfl VY kQ):Q:=h p
theorem Bg {P Q:Prop} (p:P) (h:P→Q:=by intro kQ;exact sr (aI (aa (ah (sr (mL (aF (mI (aa (aq kQ)))))))))):Q:=h p
theorem rN {P Q:Prop} (p:P) (h:P→Q:=by intro kQ;exact aW (aa (ah (cT (ao (ai (ah (aq (sr (mI (aI (aa (sr kQ))))))))))))):Q:=h p
theorem r7 {P Q:Prop} (p:P) (h:P→Q:=by intro kQ;exact ua hh bj.out aO.out VY kQ):Q:=h p
theorem lW {P Q:Prop} (p:P) (h:P→Q:=by intro kQ;exact cX (k:=j) bj.out aO.size rfl rfl VX VX VY kQ):Q:=h p
theorem oN {P Q:Prop} (p:P) (h:P→Q:=by intro kQ;exact aa (cF (ao (bF (ai (al (mI kQ))))))):Q:=h p
theorem Lw {P Q:Prop} (p:P) (h:P→Q:=by intro kQ;exact qo (h:=i) bj.out aO.size rfl rfl VX VX VY kQ):Q:=h p
theorem mW {P Q:Prop} (p:P) (h:P→Q:=by intro kQ;exact Ly (ej rfl (ek (vs:=[_,_]) aO.out (hh.bZ (i:=0) (n:=2) rfl rfl) rfl) (jg (jM rfl) fF)) kQ):Q:=h p
theorem tU {P Q:Prop} (p:P) (h:P→Q:=by intro kQ;exact Ly (ej rfl (ek (vs:=[_,_]) aO.out (hh.bZ (i:=1) (n:=2) rfl rfl) rfl) (jg (jM rfl) fF)) kQ):Q:=h p
theorem EH {P Q:Prop} (p:P) (h:P→Q:=by intro kQ;exact aW (aa (cT (ao (ai (ah (aq (sr (mS (mI kQ)))))))))):Q:=h p
theorem fp {P Q:Prop} (p:P) (h:P→Q:=by intro kQ;exact Az bj.out aO.size rfl rfl VX VX VY kQ):Q:=h p
theorem uu {P Q:Prop} (p:P) (h:P→Q:=by intro kQ;exact bX aO.out rfl (gm hr (cw hx) rfl) VY kQ):Q:=h p
theorem KY {P Q:Prop} (p:P) (h:P→Q:=by intro kQ;exact aj (N:=45) (l:=[.string a,.string b,.func (.func g) #[] #[]]) Tryz.func206 rfl rfl (by simp) kQ):Q:=h p
theorem tm {P Q:Prop} (p:P) (h:P→Q:=by intro kQ;exact cX bj.out aO.size rfl rfl rfl VX VY kQ):Q:=h p
theorem Jo {P Q:Prop} (p:P) (h:P→Q:=by intro kQ;exact bX aO.out rfl (hh.fM (i:=1) rfl (by first|assumption|(simp only [Wo];assumption))) VY kQ):Q:=h p
theorem K1 {P Q:Prop} (p:P) (h:P→Q:=by intro kQ;exact aj (N:=58) (l:=[.agg #[.int .i64 v,.slice A n c]]) Tryz.func142 rfl rfl (by simp) kQ):Q:=h p
theorem kZ {P Q:Prop} (p:P) (h:P→Q:=by intro kQ;exact cA (vs:=[_,_,_,_]) aO.out rfl ((hr.ext hh.below).recAt TR.len hx) rfl VY kQ):Q:=h p
theorem At {P Q:Prop} (p:P) (h:P→Q:=by intro kQ;exact iZ (i:=9) rfl (fun ρ1 w1 hj hR=>(show ρ1 27=Value.bool _ from hR.2.1)) (fun ρ1 w1 hj hR=>aP ar.out (av (show ρ1 29=Value.agg (List.toArray _) from hR.1) a6)) (fun w1 hj=>hsg _) kQ):Q:=h p
theorem Gx {P Q:Prop} (p:P) (h:P→Q:=by intro kQ;exact iZ (i:=15) rfl (fun ρ1 w1 hj hR=>(show ρ1 33=Value.bool _ from hR.2.1)) (fun ρ1 w1 hj hR=>aP ar.out (av (show ρ1 35=Value.agg (List.toArray _) from hR.1) a6)) (fun w1 hj=>hfo _ (hT.hp hj.hp)) kQ):Q:=h p
theorem Io {P Q:Prop} (p:P) (h:P→Q:=by intro kQ;exact yi (i:=18) rfl (fun ρ1 w1 hj hR=>(show ρ1 33=Value.bool _ from hR.2.2.1)) (fun ρ1 w1 hj hR=>Gm (show ρ1 36=Value.agg (List.toArray _) from hR.1) (show ρ1 38=Value.agg (List.toArray _) from hR.2.1) (by first|assumption|rfl)) kQ):Q:=h p
theorem ES {P Q:Prop} (p:P) (h:P→Q:=by intro kQ;exact aR (a8 (ae v53 (ae v52 (ae v51 (ae v50 (ae v49 (ae v48 (ae v47 (ae v46 (ae v45 (ae v44 (ae v43 (ae v42 (ae v41 (ae v40 (ae v39 (ae v38 (ae v37 (ae v36 (ae v35 (ae v34 (ae v33 (ae v32 (ae v31 (ae v30 (ae v29 (ae v28 (ae v27 (ae v26 (ae v25 (ae v24 (ae v23 (ae v22 (ae v21 aQ)))))))))))))))))))))))))))))))))) kQ):Q:=h p
theorem FZ {P Q:Prop} (p:P) (h:P→Q:=by intro kQ;exact dG (mO (fun _ hj=>((hr.ext hj.hp.below).recAt TR.len hp).cell (i:=0) rfl) kQ)):Q:=h p
theorem Ft {P Q:Prop} (p:P) (h:P→Q:=by intro kQ;exact aj (N:=25) (l:=[.int .i64 v,.slice A n c]) Tryz.func72 rfl rfl (by simp) kQ):Q:=h p
theorem wW {P Q:Prop} (p:P) (h:P→Q:=by intro kQ;exact tk rfl (av (CN rfl) a6) VY kQ):Q:=h p
theorem PA {P Q:Prop} (p:P) (h:P→Q:=by intro kQ;exact aT 6 [[(2,none)],[(4,some 0)],[(1,none)],[(6,some 2)],[(7,some 3)],[(8,some 4)]] [(5,9),(4,8),(3,7),(2,6),(1,5),(0,4)] hh mixed VZ kQ):Q:=h p
theorem Ac {P Q:Prop} (p:P) (h:P→Q:=by intro kQ;exact cA (vs:=[_,_]) aO.out rfl ((hr.ext hh.below).recAt PX.len hx) rfl VY kQ):Q:=h p
theorem Il {P Q:Prop} (p:P) (h:P→Q:=by intro kQ;exact aW (aa (ah (cF (aU (aD (aD (bk (ai (ah (sr kQ))))))))))):Q:=h p
theorem tI {P Q:Prop} (p:P) (h:P→Q:=by intro kQ;exact bX aO.out rfl ((hr.ext hh.below).su hgi) VY kQ):Q:=h p
theorem xR {P Q:Prop} (p:P) (h:P→Q:=by intro kQ;exact aj (N:=29) (l:=[.agg #[.slice A n c,.slice B m c2]]) Tryz.func41 rfl rfl (by simp) kQ):Q:=h p
theorem FH {P Q:Prop} (p:P) (h:P→Q:=by intro kQ;exact br hh (eU A n c ds _ (hS.ext hh.below) hn) rfl kQ):Q:=h p
theorem KS {P Q:Prop} (p:P) (h:P→Q:=by intro kQ;exact aT 6 [[(1,none)],[(19,some 0)],[(20,some 1)],[(1,none)],[(22,some 3)],[(23,some 4)]] [(5,24),(4,23),(3,22),(2,21),(1,20),(0,19)] hh mixed VZ kQ):Q:=h p
theorem JY {P Q:Prop} (p:P) (h:P→Q:=by intro kQ;exact aR (a8 (ae v24 (ae v23 (ae v22 (ae v21 (ae v20 (ae v19 aQ))))))) kQ):Q:=h p
theorem qK {P Q:Prop} (p:P) (h:P→Q:=by intro kQ;exact cZ hh (cs:=[_,_,_]) bj.out aO.out (aX (iV rfl) ct) rfl rfl VY VY VY rfl VY kQ):Q:=h p
theorem Bf {P Q:Prop} (p:P) (h:P→Q:=by intro kQ;exact aW (aa (ah (cF (aU (aD (aD (bk (bF (ai (al kQ))))))))))):Q:=h p
theorem jY {P Q:Prop} (p:P) (h:P→Q:=by intro kQ;exact yG fB.out rfl VY kQ):Q:=h p
theorem gi {P Q:Prop} (p:P) (h:P→Q:=by intro kQ;exact br hh (hck _ (hT.hp hh) hh.below) rfl kQ):Q:=h p
theorem Lk {P Q:Prop} (p:P) (h:P→Q:=by intro kQ;exact cA (vs:=[_,_,_,_,_,_]) aO.out rfl ((hr.ext hh.below).recAt SR.len hs) rfl VY kQ):Q:=h p
theorem Qd {P Q:Prop} (p:P) (h:P→Q:=by intro kQ;exact cZ hh (cs:=[_,_,_,_,_,_]) bj.out aO.out (aX (iV rfl) ct) rfl rfl VY VY VY rfl VY kQ):Q:=h p
theorem OT {P Q:Prop} (p:P) (h:P→Q:=by intro kQ;exact bK hh (i:=2) rfl rfl rfl (hh.aC (i:=0) rfl) bj.out aO.out rfl VY (by first|rfl|exact cQ _|exact cD _|exact a7 _|exact bu NR.one _) VX VX VY kQ):Q:=h p
theorem Bp {P Q:Prop} (p:P) (h:P→Q:=by intro kQ;exact aj (N:=58) (l:=[.agg #[.int .i64 p.v,.slice p.A p.n p.c],.slice L n c,.slice M m mc]) Tryz.func87 rfl rfl (by simp) kQ):Q:=h p
theorem nA {P Q:Prop} (p:P) (h:P→Q:=by intro kQ;exact cJ (aa (cF (ao (ai (ah (sr (mL kQ)))))))):Q:=h p
theorem k6 {P Q:Prop} (p:P) (h:P→Q:=by intro kQ;exact cJ (aa (cF (ao (ai (ah (sr (mL (aF (bE kQ)))))))))):Q:=h p
theorem Ab {P Q:Prop} (p:P) (h:P→Q:=by intro kQ;exact bX aO.out rfl ((hr.ext hh.below).su hy2) VY kQ):Q:=h p
theorem Gg {P Q:Prop} (p:P) (h:P→Q:=by intro kQ;exact aa (cT (sr (aI (aa (au (bI (aE (aE (bI (aE kQ))))))))))):Q:=h p
theorem Ls {P Q:Prop} (p:P) (h:P→Q:=by intro kQ;exact bK hh (i:=3) rfl rfl rfl (hh.aC (i:=0) rfl) bj.out aO.out rfl VY (by first|rfl|exact cQ _|exact cD _|exact a7 _|exact bu NR.one _) VX VX VY kQ):Q:=h p
theorem KC {P Q:Prop} (p:P) (h:P→Q:=by intro kQ;exact Ly (ej rfl (ek (vs:=[_,_]) aO.out (hh.bZ (i:=3) (n:=2) rfl rfl) rfl) (jg (jM rfl) fF)) kQ):Q:=h p
theorem mE {P Q:Prop} (p:P) (h:P→Q:=by intro kQ;exact Ly (ej rfl (ek (vs:=[_,_]) aO.out (hh.bZ (i:=2) (n:=2) rfl rfl) rfl) (jg (jM rfl) fF)) kQ):Q:=h p
theorem xg {P Q:Prop} (p:P) (h:P→Q:=by intro kQ;exact aW (aa (cT (ao (ai (ah (aq (ah (sr (mL (mI kQ))))))))))):Q:=h p
theorem Ir {P Q:Prop} (p:P) (h:P→Q:=by intro kQ;exact aj (N:=42) (l:=[.string a,.string b]) Tryz.func221 rfl rfl (by simp) kQ):Q:=h p
theorem xu {P Q:Prop} (p:P) (h:P→Q:=by intro kQ;exact sr (aB (aa (ah (sr (mL (aF (mL (aF kQ))))))))):Q:=h p
theorem Fm {P Q:Prop} (p:P) (h:P→Q:=by intro kQ;exact cJ (aa (cF (ao (ai (ah (sr (aI (aa (aq kQ)))))))))):Q:=h p
theorem jW {P Q:Prop} (p:P) (h:P→Q:=by intro kQ;exact aW (aa (cT (ao (ai (ah (aq (ah kQ)))))))):Q:=h p
theorem xQ {P Q:Prop} (p:P) (h:P→Q:=by intro kQ;exact aT 8 [[(0,none)],[(5,none)],[(17,some 0),(18,some 1)],[(19,some 2)],[(1,none)],[(5,none)],[(21,some 4),(22,some 5)],[(23,some 6)]] [(7,24),(6,23),(5,22),(4,21),(3,20),(2,19),(1,18),(0,17)] hh mixed VZ kQ):Q:=h p
theorem Qi {P Q:Prop} (p:P) (h:P→Q:=by intro kQ;exact bm (i:=2) (fun ρ1 w1 hj hR=>dv bj.out aO.size (show ρ1 17=Value.slice _ _ _ from hR.1) (show ρ1 18=Value.int _ _ from hR.2.1) VX VX) kQ):Q:=h p
theorem NU {P Q:Prop} (p:P) (h:P→Q:=by intro kQ;exact bm (i:=6) (fun ρ1 w1 hj hR=>dv bj.out aO.size (show ρ1 21=Value.slice _ _ _ from hR.1) (show ρ1 22=Value.int _ _ from hR.2.1) VX VX) kQ):Q:=h p
theorem xx {P Q:Prop} (p:P) (h:P→Q:=by intro kQ;exact aR (a8 (ae v24 (ae v23 (ae v22 (ae v21 (ae v20 (ae v19 (ae v18 (ae v17 aQ))))))))) kQ):Q:=h p
theorem B1 {P Q:Prop} (p:P) (h:P→Q:=by intro kQ;exact cJ (aa (cF (ao (bF (ai (al (mI kQ)))))))):Q:=h p
theorem BF {P Q:Prop} (p:P) (h:P→Q:=by intro kQ;exact aW (aa (cF (aU (aD (aD (bk (ai (sr (aB (aa (au kQ)))))))))))):Q:=h p
theorem EY {P Q:Prop} (p:P) (h:P→Q:=by intro kQ;exact aj (N:=63) (l:=[.agg #[.int .i64 v,.slice A n c]]) Tryz.func103 rfl rfl (by simp) kQ):Q:=h p
theorem Jr {P Q:Prop} (p:P) (h:P→Q:=by intro kQ;exact bM (aa (cF (ao (ai (ah (sr (aI (aa (aq kQ)))))))))):Q:=h p
theorem vh {P Q:Prop} (p:P) (h:P→Q:=by intro kQ;exact aW (aa (cT (ao (ai (ah (aq (sr (bE kQ))))))))):Q:=h p
theorem IX {P Q:Prop} (p:P) (h:P→Q:=by intro kQ;exact iZ (i:=9) rfl (fun ρ1 w1 hj hR=>(show ρ1 35=Value.bool _ from hR.2.1)) (fun ρ1 w1 hj hR=>aP ar.out (av (show ρ1 37=Value.agg (List.toArray _) from hR.1) a6)) (fun w1 hj=>hsg _) kQ):Q:=h p
theorem On {P Q:Prop} (p:P) (h:P→Q:=by intro kQ;exact iZ (i:=15) rfl (fun ρ1 w1 hj hR=>(show ρ1 41=Value.bool _ from hR.2.1)) (fun ρ1 w1 hj hR=>aP ar.out (av (show ρ1 43=Value.agg (List.toArray _) from hR.1) a6)) (fun w1 hj=>hfo _) kQ):Q:=h p
theorem II {P Q:Prop} (p:P) (h:P→Q:=by intro kQ;exact aR (a8 (ae v46 (ae v45 (ae v44 (ae v43 (ae v42 (ae v41 (ae v40 (ae v39 (ae v38 (ae v37 (ae v36 (ae v35 (ae v34 (ae v33 (ae v32 (ae v31 (ae v30 (ae v29 aQ))))))))))))))))))) kQ):Q:=h p
theorem Bj {P Q:Prop} (p:P) (h:P→Q:=by intro kQ;exact aa (cF (ao (ai (ah kQ))))):Q:=h p
theorem IB {P Q:Prop} (p:P) (h:P→Q:=by intro kQ;exact aR (a8 (ae v60 (ae v59 (ae v58 (ae v57 (ae v56 (ae v55 (ae v54 (ae v53 (ae v52 (ae v51 (ae v50 (ae v49 aQ))))))))))))) kQ):Q:=h p
theorem KU {P Q:Prop} (p:P) (h:P→Q:=by intro kQ;exact aT 12 [[(5,none)],[(0,none)],[(8,some 1)],[(7,some 0),(9,some 2)],[(10,some 3)],[(0,none),(11,some 4)],[(5,none),(11,some 4)],[(12,some 5),(13,some 6),(11,some 4)],[(14,some 7),(11,some 4)],[(15,some 8),(11,some 4)],[(3,none),(11,some 4)],[(17,some 10),(11,some 4)]] [(11,18),(10,17),(9,16),(8,15),(7,14),(6,13),(5,12),(4,11),(3,10),(2,9),(1,8),(0,7)] hh mixed VZ kQ):Q:=h p
theorem EP {P Q:Prop} (p:P) (h:P→Q:=by intro kQ;exact dG (mO (fun _ hj=>((hr.ext hj.hp.below).recAt TR.len ht).cell (i:=0) rfl) kQ)):Q:=h p
theorem Lc {P Q:Prop} (p:P) (h:P→Q:=by intro kQ;exact aR (a8 (ae v18 (ae v17 (ae v16 (ae v15 (ae v14 (ae v13 (ae v12 (ae v11 (ae v10 (ae v9 (ae v8 (ae v7 aQ))))))))))))) kQ):Q:=h p
theorem Iz {P Q:Prop} (p:P) (h:P→Q:=by intro kQ;exact aT 12 [[(5,none)],[(0,none)],[(29,some 1)],[(28,some 0),(30,some 2)],[(31,some 3)],[(0,none),(32,some 4)],[(5,none),(32,some 4)],[(33,some 5),(34,some 6),(32,some 4)],[(35,some 7),(32,some 4)],[(36,some 8),(32,some 4)],[(3,none),(32,some 4)],[(38,some 10),(32,some 4)]] [(11,39),(10,38),(9,37),(8,36),(7,35),(6,34),(5,33),(4,32),(3,31),(2,30),(1,29),(0,28)] hh mixed VZ kQ):Q:=h p
theorem IA {P Q:Prop} (p:P) (h:P→Q:=by intro kQ;exact aR (a8 (ae v39 (ae v38 (ae v37 (ae v36 (ae v35 (ae v34 (ae v33 (ae v32 (ae v31 (ae v30 (ae v29 (ae v28 aQ))))))))))))) kQ):Q:=h p
theorem P4 {P Q:Prop} (p:P) (h:P→Q:=by intro kQ;exact aT 8 [[(6,none)],[(3,none)],[(63,some 1)],[(3,none)],[(65,some 3)],[(66,some 4)],[(64,some 2),(67,some 5)],[(68,some 6)]] [(7,69),(6,68),(5,67),(4,66),(3,65),(2,64),(1,63),(0,62)] hh mixed VZ kQ):Q:=h p
theorem OA {P Q:Prop} (p:P) (h:P→Q:=by intro kQ;exact aR (a8 (ae e69 (ae v68 (ae v67 (ae v66 (ae v65 (ae v64 (ae v63 (ae v62 aQ))))))))) kQ):Q:=h p
theorem Pf {P Q:Prop} (p:P) (h:P→Q:=by intro kQ;exact bK hh (i:=0) rfl rfl rfl (f69) bj.out aO.out rfl VY (by first|rfl|exact cQ _|exact cD _|exact a7 _|exact bu NR.one _) VX VX VY kQ):Q:=h p
theorem PC {P Q:Prop} (p:P) (h:P→Q:=by intro kQ;exact cA (vs:=[_,_,_]) aO.out rfl ((hh.fY (f:=TR.cells) (x:=t) (l:=G) (i:=1) rfl TR.len VY ht).drop 1) rfl VY kQ):Q:=h p
theorem ED {P Q:Prop} (p:P) (h:P→Q:=by intro kQ;exact aW (aa (cF (aU (aD (aD (bk (ai (ah (sr (mL (aF kQ)))))))))))):Q:=h p
theorem K4 {P Q:Prop} (p:P) (h:P→Q:=by intro kQ;exact aW (aa (cF (aU (aD (aD (bk (ai (ah (sr (aI (aa (aq kQ))))))))))))):Q:=h p
theorem Pq {P Q:Prop} (p:P) (h:P→Q:=by intro kQ;exact aT 9 [[(0,none)],[(5,none)],[(26,some 0),(27,some 1)],[(28,some 2)],[(29,some 3)],[(0,none)],[(31,some 5)],[(32,some 6)],[(33,some 7)]] [(8,34),(7,33),(6,32),(5,31),(4,30),(3,29),(2,28),(1,27),(0,26)] hh mixed VZ kQ):Q:=h p
theorem Oe {P Q:Prop} (p:P) (h:P→Q:=by intro kQ;exact aR (a8 (ae v34 (ae v33 (ae v32 (ae v31 (ae v30 (ae v29 (ae v28 (ae v27 (ae v26 aQ)))))))))) kQ):Q:=h p
theorem Pc {P Q:Prop} (p:P) (h:P→Q:=by intro kQ;exact aT 17 [[(2,none)],[(35,some 0)],[(7,none)],[(36,some 1),(37,some 2)],[(38,some 3)],[(39,some 4)],[(3,none)],[(41,some 6)],[(8,none)],[(42,some 7),(43,some 8)],[(44,some 9)],[(45,some 10)],[(40,some 5),(46,some 11)],[(47,some 12)],[(34,some 13)],[(34,some 13)],[(48,some 14)]] [(16,9),(15,49),(14,48),(13,34),(12,47),(11,46),(10,45),(9,44),(8,43),(7,42),(6,41),(5,40),(4,39),(3,38),(2,37),(1,36),(0,35)] hh mixed VZ kQ):Q:=h p
theorem Iq {P Q:Prop} (p:P) (h:P→Q:=by intro kQ;exact mO (fun _ hj=>((hr.ext hj.hp.below).recAt TR.len hx).cell (i:=0) rfl) kQ):Q:=h p
theorem Oo {P Q:Prop} (p:P) (h:P→Q:=by intro kQ;exact aR (a8 (ae v9 (ae v49 (ae v48 (ae v34 (ae v47 (ae v46 (ae v45 (ae v44 (ae v43 (ae v42 (ae v41 (ae v40 (ae v39 (ae v38 (ae v37 (ae v36 (ae v35 aQ)))))))))))))))))) kQ):Q:=h p
theorem Gi {P Q:Prop} (p:P) (h:P→Q:=by intro kQ;exact aj (N:=34) (l:=[.int .i64 v,.int .i64 x]) Tryz.func117 rfl rfl (by simp) kQ):Q:=h p
theorem Kb {P Q:Prop} (p:P) (h:P→Q:=by intro kQ;exact aj (N:=23) (l:=[.int .i64 v,.agg #[.bool c.neg,.string c.bf,.int .i64 c.e]]) Tryz.func120 rfl rfl (by simp) kQ):Q:=h p
theorem Av {P Q:Prop} (p:P) (h:P→Q:=by intro kQ;exact aj (N:=37) (l:=[.int .i64 v,.int .i64 x]) Tryz.func178 rfl rfl (by simp) kQ):Q:=h p
theorem KI {P Q:Prop} (p:P) (h:P→Q:=by intro kQ;exact cJ (aa (cF (ao (ai (sr (aL (aa (ah (sr (aI (aa (aq kQ))))))))))))):Q:=h p
theorem xd {P Q:Prop} (p:P) (h:P→Q:=by intro kQ;exact bX aO.out rfl (((hr.ext hh.below).recAt TR.len hx).cell (i:=0) rfl) VY kQ):Q:=h p
theorem Ce {P Q:Prop} (p:P) (h:P→Q:=by intro kQ;exact aW (aa (cF (aU (aD (aD (bk (ai (sr (mL (aL (aa (au kQ))))))))))))):Q:=h p
theorem Oq {P Q:Prop} (p:P) (h:P→Q:=by intro kQ;exact aj (N:=17) (l:=[.agg #[.int .i64 p.v,.slice p.A p.n p.c],.agg #[.int .i64 q.v,.slice q.A q.n q.c]]) Tryz.func15 rfl rfl (by simp) kQ):Q:=h p
theorem Ok {P Q:Prop} (p:P) (h:P→Q:=by intro kQ;exact aj (N:=42) (l:=[.agg #[.int .i64 p.v,.slice p.A p.n p.c],.agg #[.bool c.neg,.string c.bf,.int .i64 c.e]]) Tryz.func53 rfl rfl (by simp) kQ):Q:=h p
theorem IW {P Q:Prop} (p:P) (h:P→Q:=by intro kQ;exact cZ hh (cs:=[_,_]) bj.out aO.out (aX (iV rfl) ct) rfl rfl VY VY VY rfl VY kQ):Q:=h p
theorem tL {P Q:Prop} (p:P) (h:P→Q:=by intro kQ;exact sr (aB (aa (ah (sr (mL (aF kQ))))))):Q:=h p
theorem P5 {P Q:Prop} (p:P) (h:P→Q:=by intro kQ;exact aT 8 [[(0,none)],[(5,none)],[(13,some 0),(14,some 1)],[(15,some 2)],[(1,none)],[(5,none)],[(17,some 4),(18,some 5)],[(19,some 6)]] [(7,20),(6,19),(5,18),(4,17),(3,16),(2,15),(1,14),(0,13)] hh mixed VZ kQ):Q:=h p
theorem PY {P Q:Prop} (p:P) (h:P→Q:=by intro kQ;exact bm (i:=2) (fun ρ1 w1 hj hR=>mA bj.out aO.size (show ρ1 13=Value.slice _ _ _ from hR.1) (show ρ1 14=Value.int _ _ from hR.2.1) rfl VX) kQ):Q:=h p
theorem O2 {P Q:Prop} (p:P) (h:P→Q:=by intro kQ;exact bm (i:=3) (fun ρ1 w1 hj hR=>ij aO.out (show ρ1 15=Value.pointer _ from hR.1) (hj.hp.fM (i:=0) rfl (by rw [Wo];exact hx2))) kQ):Q:=h p
theorem OZ {P Q:Prop} (p:P) (h:P→Q:=by intro kQ;exact bm (i:=6) (fun ρ1 w1 hj hR=>dv bj.out aO.size (show ρ1 17=Value.slice _ _ _ from hR.1) (show ρ1 18=Value.int _ _ from hR.2.1) VX VX) kQ):Q:=h p
theorem Pu {P Q:Prop} (p:P) (h:P→Q:=by intro kQ;exact aR (a8 (ae v20 (ae v19 (ae v18 (ae v17 (ae v16 (ae v15 (ae v14 (ae v13 aQ))))))))) kQ):Q:=h p
theorem oS {P Q:Prop} (p:P) (h:P→Q:=by intro kQ;exact bX aO.out rfl (gm hr (cw hdk) rfl) VY kQ):Q:=h p
theorem JV {P Q:Prop} (p:P) (h:P→Q:=by intro kQ;exact aK rfl rfl (bX aO.out rfl (gm hr (cw hdk) rfl) VY kQ)):Q:=h p
theorem EI {P Q:Prop} (p:P) (h:P→Q:=by intro kQ;exact aj (N:=31) (l:=[.int .i64 N,.int .i64 k]) Tryz.func113 rfl rfl (by simp) kQ):Q:=h p
theorem IM {P Q:Prop} (p:P) (h:P→Q:=by intro kQ;exact cA (vs:=[_,_,_]) aO.out rfl ((hr.ext hh.below).recAt NR.len hxn) rfl VY kQ):Q:=h p
theorem P7 {P Q:Prop} (p:P) (h:P→Q:=by intro kQ;exact cA (vs:=[_,_,_]) aO.out rfl (hh.fY (f:=NR.cells) (x:=nR (nD (bin (d-i) j))) (l:=lT (d-i)) (i:=0) rfl NR.len VY hbn) rfl VY kQ):Q:=h p
theorem Fl {P Q:Prop} (p:P) (h:P→Q:=by intro kQ;exact aj (N:=20) (l:=[.agg #[.slice fx.A fx.n fx.a,.slice fx.B fx.m fx.b],.int .i64 ax]) Tryz.func144 rfl rfl (by simp) kQ):Q:=h p
theorem Og {P Q:Prop} (p:P) (h:P→Q:=by intro kQ;exact aT 6 [[(8,none)],[(3,none)],[(21,some 1)],[(20,some 0),(22,some 2)],[(3,none)],[(24,some 4)]] [(5,25),(4,24),(3,23),(2,22),(1,21),(0,20)] hh mixed VZ kQ):Q:=h p
theorem Qa {P Q:Prop} (p:P) (h:P→Q:=by intro kQ;exact bm (i:=3) (fun ρ1 w1 hj hR=>rf (show ρ1 20=Value.int _ _ from hR.1) (show ρ1 22=Value.int _ _ from hR.2.1) VX VX VX) kQ):Q:=h p
theorem Fi {P Q:Prop} (p:P) (h:P→Q:=by intro kQ;exact sr (aL (aa (sr (aL (aa (ah (sr (aI (aa (aq kQ))))))))))):Q:=h p
theorem PG {P Q:Prop} (p:P) (h:P→Q:=by intro kQ;exact cA (vs:=[_,_,_]) aO.out rfl (hh.fY (f:=NR.cells) (x:=nR x) (l:=Y.map nR) (i:=1) rfl NR.len VY hxn) rfl VY kQ):Q:=h p
theorem OI {P Q:Prop} (p:P) (h:P→Q:=by intro kQ;exact aT 12 [[(9,none)],[(7,none)],[(58,some 1)],[(57,some 0),(59,some 2)],[(7,none)],[(61,some 4)],[(60,some 3),(62,some 5)],[(2,none)],[(64,some 7)],[(1,none)],[(65,some 8),(66,some 9)],[(67,some 10)]] [(11,68),(10,67),(9,66),(8,65),(7,64),(6,63),(5,62),(4,61),(3,60),(2,59),(1,58),(0,57)] hh mixed VZ kQ):Q:=h p
theorem P2 {P Q:Prop} (p:P) (h:P→Q:=by intro kQ;exact bm (i:=3) (fun ρ1 w1 hj hR=>rf (show ρ1 57=Value.int _ _ from hR.1) (show ρ1 59=Value.int _ _ from hR.2.1) VX VX VX) kQ):Q:=h p
theorem OM {P Q:Prop} (p:P) (h:P→Q:=by intro kQ;exact bm (i:=6) (fun ρ1 w1 hj hR=>pr (show ρ1 60=Value.int _ _ from hR.1) (show ρ1 62=Value.int _ _ from hR.2.1) VX VX) kQ):Q:=h p
theorem OW {P Q:Prop} (p:P) (h:P→Q:=by intro kQ;exact aR (a8 (ae v68 (ae v67 (ae v66 (ae v65 (ae v64 (ae v63 (ae v62 (ae v61 (ae v60 (ae v59 (ae v58 (ae v57 aQ))))))))))))) kQ):Q:=h p
theorem Gd {P Q:Prop} (p:P) (h:P→Q:=by intro kQ;exact aj (N:=165) (l:=[.agg #[.slice fx.A fx.n fx.a,.slice fx.B fx.m fx.b],.slice L n c]) Tryz.func37 rfl rfl (by simp) kQ):Q:=h p
theorem I3 {P Q:Prop} (p:P) (h:P→Q:=by intro kQ;exact GL (N:=58) (l:=[.agg #[.slice fx.A fx.n fx.a,.slice fx.B fx.m fx.b],.slice L m2 c2]) Tryz.func39 rfl rfl (by simp) kQ):Q:=h p
theorem EE {P Q:Prop} (p:P) (h:P→Q:=by intro kQ;exact aj (N:=18) (l:=[.agg #[.bool a.neg,.string a.bf,.int .i64 a.e]]) Tryz.func43 rfl rfl (by simp) kQ):Q:=h p
theorem Jh {P Q:Prop} (p:P) (h:P→Q:=by intro kQ;exact aj (N:=46) (l:=[.slice A n c,.slice B m d]) Tryz.func27 rfl rfl (by simp) kQ):Q:=h p
theorem NZ {P Q:Prop} (p:P) (h:P→Q:=by intro kQ;exact aj (N:=46) (l:=[.agg #[.int .i64 p.v,.slice p.A p.n p.c],.agg #[.bool c.neg,.string c.bf,.int .i64 c.e]]) Tryz.func179 rfl rfl (by simp) kQ):Q:=h p
theorem OX {P Q:Prop} (p:P) (h:P→Q:=by intro kQ;exact aT 10 [[(0,none)],[(3,none)],[(13,some 0),(14,some 1)],[(15,some 2)],[(16,some 3)],[(0,none)],[(3,none)],[(18,some 5),(19,some 6)],[(20,some 7)],[(21,some 8)]] [(9,22),(8,21),(7,20),(6,19),(5,18),(4,17),(3,16),(2,15),(1,14),(0,13)] hh mixed VZ kQ):Q:=h p
theorem O8 {P Q:Prop} (p:P) (h:P→Q:=by intro kQ;exact aR (a8 (ae v22 (ae v21 (ae v20 (ae v19 (ae v18 (ae v17 (ae v16 (ae v15 (ae v14 (ae v13 aQ))))))))))) kQ):Q:=h p
theorem IK {P Q:Prop} (p:P) (h:P→Q:=by intro kQ;exact aT 12 [[(2,none)],[(11,none)],[(59,some 0),(60,some 1)],[(61,some 2)],[(8,none)],[(11,none)],[(63,some 4),(64,some 5)],[(65,some 6)],[(62,some 3),(66,some 7)],[(67,some 8)],[(2,none),(68,some 9)],[(11,none),(68,some 9)]] [(11,70),(10,69),(9,68),(8,67),(7,66),(6,65),(5,64),(4,63),(3,62),(2,61),(1,60),(0,59)] hh mixed VZ kQ):Q:=h p
theorem JM {P Q:Prop} (p:P) (h:P→Q:=by intro kQ;exact bm (i:=2) (fun ρ1 w1 hj hR=>dv bj.out aO.size (show ρ1 59=Value.slice _ _ _ from hR.1) (show ρ1 60=Value.int _ _ from hR.2.1) VX VX) kQ):Q:=h p
theorem J8 {P Q:Prop} (p:P) (h:P→Q:=by intro kQ;exact bm (i:=7) (fun ρ1 w1 hj hR=>ij aO.out (show ρ1 65=Value.pointer _ from hR.1) (NI (hj.hp.aC (i:=2) rfl) VX hx2)) kQ):Q:=h p
theorem JH {P Q:Prop} (p:P) (h:P→Q:=by intro kQ;exact aR (a8 (ae v70 (ae v69 (ae v68 (ae v67 (ae v66 (ae v65 (ae v64 (ae v63 (ae v62 (ae v61 (ae v60 (ae v59 aQ))))))))))))) kQ):Q:=h p
theorem Kv {P Q:Prop} (p:P) (h:P→Q:=by intro kQ;exact aW (aa (ah (cF (aU (aD (aD (bk (ai (sr (mL (aL (aa (au kQ)))))))))))))):Q:=h p
theorem Pg {p:Prop} (h:p:=by
  refine aa (cT (sr ?_));refine br hh (jv 1 _ VX VX) rfl ?_;intro w20 hh;exact PW):p:=h
theorem Je {p:Prop} (h:p:=by
  refine mB ?_;refine gS (gS ?_);refine eM ?_;exact Jd):p:=h
theorem Ou {p:Prop} (h:p:=by
  refine ⟨⟨i+1,VX,rfl,hh⟩,by show (n-m/64)-(i+1)<(n-m/64)-i;omega, ?_⟩;exact dy):p:=h
theorem PV {p:Prop} (h:p:=by
  refine aG (hpu _ (hT.hp hh) hh.below) ar.out rfl VY ?_;rintro e_ w51 ⟨g,og,rfl,h3⟩;exact Gt):p:=h
theorem Pa {p:Prop} (h:p:=by
  refine oN ?_;refine a9 (aI (aA (ai ?_)));exact Jm):p:=h
theorem OK {p:Prop} (h:p:=by
  refine aa (sr (mI ?_));refine a9 (mL (aF ?_));refine aW (mB ?_);refine gS (gS (gS ?_));refine dE ?_;exact Qk):p:=h
theorem PT {p:Prop} (h:p:=by
  refine bR hh 1 [_,_] ?_;intro ws hh;replace hh:Hp _ (_::.blk _ _ [_,_] _::_) _:=hh;refine aI (aa (au ?_));exact QF):p:=h
theorem Pe {p:Prop} (h:p:=by
  refine fk ?_;refine gp (i:=2) VZ rfl ?_;refine bR hh 3 [_,_] ?_;intro ws hh;replace hh:Hp _ (_::_::_::.blk _ _ [_,_] _::_) _:=hh;exact Qe):p:=h
theorem KH {p:Prop} (h:p:=by
  refine bR hh 0 [_,_,_] ?_;intro ws hh;replace hh:Hp _ (.blk _ _ [_,_,_] _::_) _:=hh;refine aa (au (aE ?_));exact Va):p:=h
theorem Pz {p:Prop} (h:p:=by
  refine sr ?_;refine bQ hh ?_;intro b4 w4 hh;refine aa (ah (sr (mI ?_)));refine aW (mB (gT (mI (gT (mI (gT ?_))))));refine bM ?_;refine dE ?_;refine aa (cF (ao (ai (ah (sr (mI ?_))))));refine cB (mB ?_);refine gS (gS (gS ?_));refine eM ?_;exact Pg):p:=h
theorem Py {p:Prop} (h:p:=by
  refine cX (k:=(i+j)) bj.out aO.size rfl rfl VX VX VY ?_;refine cd hh (i:=3) (vs:=[_,_,_]) rfl rfl (iV rfl) rfl aO.out rfl VX rfl ?_;intro ws hh;simp only [Wd,WH] at hh;rw [show cz (az NR.cells (S.map nR)) ((i+j)*3) [.bool (nR (o+y)).neg,.string (nR (o+y)).bf,.int .i64 (nR (o+y)).e]=az NR.cells ((S.map nR).set (i+j) (nR (o+y))) from jE NR.len VX,←YI,hset] at hh;refine gy ?_;refine a9 (mI (aA (ai ?_)));replace hh:=hh.sub (V6 _ (V4 _ (V4 _ (V4 _ Wq))));refine ⟨⟨j+1,VX,rfl,hh⟩,by show d-i+1-(j+1)<d-i+1-j;omega, ?_⟩;exact dy):p:=h
theorem P0 {p:Prop} (h:p:=by
  refine nw bj.out bj.out bj.out rfl (hh.aC (i:=0) rfl) VY ?_;exact BH):p:=h
theorem PK {p:Prop} (h:p:=by
  refine ⟨⟨i+1,_,VX,rfl,hS3.symm,hh⟩,by show n-(i+1)<n-i;omega, ?_⟩;exact dy):p:=h
theorem OQ {p:Prop} (h:p:=by
  refine aI (aa (sr (mI ?_)));refine cJ (aa (cT (sr ?_)));refine eV [_,_] (mI ?_);exact Sd):p:=h
theorem OR {p:Prop} (h:p:=by
  exact ⟨_,_,by rw [e1],by rw [e1,e2];exact hh.sub (V4 _ (WN _))⟩):p:=h
theorem Pk {p:Prop} (h:p:=by
  refine ⟨⟨i+1,VX,rfl, ?_,hh⟩,by show n-(i+1)<n-i;omega, ?_⟩
  ·exact T9
  ·exact dy):p:=h
theorem Oh {p:Prop} (h:p:=by
  refine mB ?_;refine gS ?_;refine ic ?_;refine eM ?_;exact SI):p:=h
theorem Pw {p:Prop} (h:p:=by
  exact ⟨⟨VX,(hcp.my o ho).2,by rw [e2];exact po.ok,by rw [e2];exact po.sz⟩,by rw [e2];exact pl⟩):p:=h
theorem Pd {p:Prop} (h:p:=by
  refine aa (cT (sr (aB (aa (au (aE (bI (aE (aE (bI (aE ?_)))))))))));exact Bt):p:=h
theorem J1 {p:Prop} (h:p:=by
  refine cS ?_;exact ⟨_,_,rfl,hh.at_ (i:=0) rfl,hh.below⟩):p:=h
theorem Oi {p:Prop} (h:p:=by
  refine ⟨⟨k+1,VX,rfl,by rw [hl2];rfl,VX,hstep,rfl⟩,by show n-(k+1)<n-k;omega, ?_⟩;exact dy):p:=h
theorem OV {p:Prop} (h:p:=by
  refine qJ ?_;exact ⟨rfl,hh.below⟩):p:=h
theorem PJ {p:Prop} (h:p:=by
  refine wE ?_;exact ⟨rfl,hh.below⟩):p:=h
theorem NW {p:Prop} (h:p:=by
  refine aa (cT (sr (aI (aa (au (aE (bI (aE (aE (bI (aE ?_)))))))))));refine cS ?_;exact ⟨rfl,hh.below⟩):p:=h
theorem Qf {p:Prop} (h:p:=by
  refine A5 ?_;exact ⟨rfl,hh.below⟩):p:=h
theorem KW {p:Prop} (h:p:=by
  exact ⟨g,og,rfl,hh.sub (V4 _ (WN _))⟩):p:=h
theorem IQ {p:Prop} (h:p:=by
  exact ⟨FX.nil,Out.err VY,rfl,(hh.sub (WN _)).K9⟩):p:=h
theorem KP {p:Prop} (h:p:=by
  exact ⟨PX.nil,dN.err VY,rfl,(hh.sub (WN _)).uZ⟩):p:=h
theorem N6 {p:Prop} (h:p:=by
  refine ⟨⟨k+1,VX,rfl,by rw [aw hc,Hq,hm];simpa using h8,rfl⟩,by show s.size-(k+1)<s.size-k;omega, ?_⟩;exact dy):p:=h
theorem Pb {p:Prop} (h:p:=by
  refine ⟨⟨i,_,_,VX,rfl,by rw [d1];rfl,by rw [d1];exact hh⟩,by show ((i:Int)-1+1).toNat<((i:Int)+1).toNat;omega, ?_⟩;exact dy):p:=h
theorem PU {p:Prop} (h:p:=by
  refine mB (gT (mI (gT ?_)));refine aW ?_;refine dE ?_;refine mB (gT (mI (gT (mI (gT ?_)))));refine dJ ?_;refine dE ?_;refine aa (cT (sr ?_));exact Lz):p:=h
theorem Pp {p:Prop} (h:p:=by
  refine aa (cT (sr ?_));refine br hh (qa _ (hT.hp hh)) rfl ?_;intro w29 hh;refine aB (aa (au (aE ?_)));refine cS ?_;exact ⟨rfl,hh.below⟩):p:=h
theorem ER {p:Prop} (h:p:=by
  refine aa (cF (ao (ai ?_)));refine ⟨hh, ?_⟩;exact JN):p:=h
theorem NV {p:Prop} (h:p:=by
  refine aI (aa (sr (mI ?_)));refine k6 ?_;refine bB hh 1 ?_;refine cJ (aa (cT (sr ?_)));exact Lz):p:=h
theorem OU {p:Prop} (h:p:=by
  refine jV ?_;refine dS (dS (dS (dS (dS ?_))));refine nP (i:=18) rfl (fun ρ1 w1 hj hR=>(show ρ1 33=Value.bool _ from hR.2.2.1)) VY ?_;refine Gj ?_;exact UN):p:=h
theorem PO {p:Prop} (h:p:=by
  refine fk ?_;refine gp (i:=2) VZ rfl ?_;refine bR hh 4 [_,_] ?_;intro ws hh;replace hh:Hp _ (_::_::_::_::.blk _ _ [_,_] _::_) _:=hh;exact Td):p:=h
theorem N8 {p:Prop} (h:p:=by
  refine aj (N:=9) (l:=[.int .i64 v]) Tryz.func134 rfl rfl (by simp) ?_;refine sr (aB (aa (sr (mI ?_))));refine dJ (mB (gT (mI (gT ?_))));refine RP ?_;refine eM ?_;exact vH):p:=h
theorem Fx {p:Prop} (h:p:=by
  refine dJ (aB (aa (au ?_)));refine cS ?_;exact ⟨rfl,hh.below⟩):p:=h
theorem Ps {p:Prop} (h:p:=by
  refine ⟨⟨i+1,VX,rfl,by rw [aw hx,Ym,hall,Yw,Yy,Wu VX];rfl,hh⟩,by show n-(i+1)<n-i;omega, ?_⟩;exact dy):p:=h
theorem Pt {p:Prop} (h:p:=by
  replace hh:=hh.sub (V6 _ (V4 _ Wq));refine ⟨⟨i+1,VX,rfl,hall2, ?_,hh⟩,by show n-(i+1)<n-i;omega, ?_⟩
  ·exact Sg
  ·exact dy):p:=h
theorem N4 {p:Prop} (h:p:=by
  refine mB ?_;refine gS (gS ?_);refine ic ?_;refine gS (gS (gS ?_));refine dE ?_;refine tF ?_;refine cn hh 0 [_,_] ?_;exact I2):p:=h
theorem PI {p:Prop} (h:p:=by
  refine ⟨⟨i+1,N,A2,c2,VX,rfl,rfl,by rw [rm hx,←hM,Wa VX];exact hN,fun e h=> ?_,hh⟩,by show pn-(i+1)<pn-i;omega, ?_⟩
  ·exact TO
  ·exact dy):p:=h
theorem OD {p:Prop} (h:p:=by
  replace hh:=hh.sub (V6 _ (V4 _ Wq));refine ⟨⟨i+1,VX,rfl,hall2,by rw [aw hx,h0];rfl,hh⟩,by show n-(i+1)<n-i;omega, ?_⟩;exact dy):p:=h
theorem Oc {p:Prop} (h:p:=by
  refine oN ?_;refine a9 (aI (aA (ai ?_)));refine ⟨⟨j+1,VX,rfl,fun x hx=> ?_,hh⟩,by show n-(j+1)<n-j;omega, ?_⟩
  ·exact To
  ·exact dy):p:=h
theorem N2 {p:Prop} (h:p:=by
  have hik:i=k:=by
   rcases WX i k with h|h
   ·exact absurd ⟨i,h,h2,h3⟩ hex
   ·omega
  subst hik;refine ⟨i,h2,h3,fun j hj=> ?_⟩
  cases hc2:L.getD j false with
  |true=>rfl
  |false=>exact absurd ⟨j,hj,VX,hc2⟩ hex):p:=h
theorem Ph {p:Prop} (h:p:=by
  have h1:L.toList.countP (fun b=>b)=L.toList.length:=by
   have:=hI.ls;simp only [Array.length_toList];omega
  have h2:=List.countP_eq_length.1 h1;have h3:i<L.size:=by rw [hI.ls,hnn];exact hi
  have:=h2 L[i] (by simp);simpa [h3] using this):p:=h
theorem Ob {p:Prop} (h:p:=by
  refine ⟨_,rfl, ?_⟩;replace hh:=hh.join h3;simp only [Wb,V9] at hh;refine du ?_;refine du ?_;refine bR hh 1 [_,_] ?_;intro ws hh;replace hh:Hp _ (_::.blk _ _ [_,_] _::_) _:=hh;refine aI (aa (au (aE ?_)));exact QF):p:=h
theorem FE {p:Prop} (h:p:=by
  refine aa (cT (sr (aB (aa (au (bI (aE (aE (bI (aE ?_))))))))));exact Bt):p:=h
theorem OH {p:Prop} (h:p:=by
  refine ⟨⟨j+1,N++[oV x y],_,_,VX,rfl,by rw [Wc];rfl,by rw [hN,aw hy,WT,WQ];rfl,fun e h=> ?_, ?_⟩,by show qn-(j+1)<qn-j;omega, ?_⟩
  ·exact SL
  ·rw [Wc];exact hh
  ·exact dy):p:=h
theorem PE {p:Prop} (h:p:=by
  refine sr ?_;refine cf hh [_,_] ?_;intro b2 w2 hh;refine cf hh [_,_] ?_;intro b3 w3 hh;refine bQ hh ?_;intro b4 w4 hh;refine aI (aa (ah (sr (bE ?_))));refine bB hh 2 ?_;refine aF (bE ?_);refine bB hh 1 ?_;refine aF ?_;refine mulC ?_;refine bM (aa (cT (sr ?_)));exact Lz):p:=h
theorem Jd {p:Prop} (h:p:=by
  refine mB ?_;refine gS (gS (gS ?_));refine eM ?_;refine aa (cT (sr ?_));exact Lz):p:=h
theorem P9 {p:Prop} (h:p:=by
  refine bR hh 1 [_,_] ?_;intro ws hh;replace hh:Hp _ (_::.blk _ _ [_,_] _::_) _:=hh;refine gy ?_;refine a9 (mI (aA (ai ?_)));replace hh:=hh.sub (WE _ _);refine ⟨⟨i+1,_,_,VX,rfl,hS3.symm,hpl,by unfold IR.v at hba ⊢;omega,hh⟩,by show n-(i+1)<n-i;omega, ?_⟩;exact dy):p:=h
theorem Jm {p:Prop} (h:p:=by
  refine ⟨⟨i+1,VX,rfl,hh⟩,by show n-(i+1)<n-i;omega, ?_⟩;exact dy):p:=h
theorem P6 {p:Prop} (h:p:=by
  obtain rfl:j=d-i+1:=VX;rw [Hz VX] at hh;refine sr ?_;refine Bf ?_;refine a9 (mI (aA (ai ?_)));replace hh:=hh.sub (V6 _ (V6 _ (V4 _ Wq)));refine ⟨⟨i+1,VX,rfl,hh⟩,by show n-(i+1)<n-i;omega, ?_⟩;exact dy):p:=h
theorem Qk {p:Prop} (h:p:=by
  refine An ?_;refine a9 (mI (aA (ai ?_)));rw [e1,hac,←hnew] at hh;exact Ou):p:=h
theorem B4 {p:Prop} (h:p:=by
  refine bR hh 0 [_,_] ?_;intro ws hh;replace hh:Hp _ (.blk _ _ [_,_] _::_) _:=hh;refine aa (au (aE ?_));exact Ui):p:=h
theorem Iy {p:Prop} (h:p:=by
  exact PT):p:=h
theorem Gt {p:Prop} (h:p:=by
  refine ⟨_,rfl, ?_⟩;replace hh:=hh.join h3;simp only [Wb,V9] at hh;refine du ?_;refine du ?_;exact SC):p:=h
theorem PZ {p:Prop} (h:p:=by
  have hil:i<l.length:=VX;have hE:=hedge i hil;have ho:l.toArray[i]?=some l[i]:=by simp [hil]
  rw [ho] at hE;have hmem:i∈Region.ready .any l.toArray L:=(hready_spec i).2 ⟨hil,by
   have h3:i<L.size:=by rw [hI.ls,hnn];exact hil
   rw [Xf] at hu ⊢;rw [Yg h3] at hu ⊢;simpa using hu,l[i],ho,fun e he hb=>by
   have:=Zf.1 hE e he;simp only [hb,Bool.not_true,W7,Wt] at this;exact hlow _ this⟩
  rw [hnil] at hmem
  cases hmem):p:=h
theorem Oa {p:Prop} (h:p:=by
  simp only [Wb,V9] at hh;refine dm (i:=7) (by repeat (first|exact cj|refine bP ?_|refine cg ?_|refine np_scope ?_)) rfl VZ VZ VZ (fun _=>fT (show _=Value.tuple (List.toArray _) from rfl) rfl) VY ?_;refine dm (i:=8) (by repeat (first|exact cj|refine bP ?_|refine cg ?_|refine np_scope ?_)) rfl VZ VZ VZ (fun _=>fT (show _=Value.tuple (List.toArray _) from rfl) rfl) VY ?_;refine j3 9 VY VZ VY VZ VZ ?_;exact SC):p:=h
theorem Pj {p:Prop} (h:p:=by
  refine J2 ?_;refine gh ?_;refine Gp ?_;intro ws hh;simp only [Wd] at hh;rw [hand,es,Wo,cV (by rw [hll];omega),pS,←b1,hfk] at hh;refine aa (al (mI ?_));refine md (s:=1) (m:=2) rfl rfl VY VY VY ?_;refine aI (aA (bF (ai (al (mI ?_)))));refine a9 (aI (aA (ai ?_)));rw [es];refine ⟨⟨i+1,VX,rfl,by rw [b2];rfl,hh⟩,by show K-(i+1)<K-i;omega, ?_⟩;exact dy):p:=h
theorem O5 {p:Prop} (h:p:=by
  simp only [Wb,V9] at hh;refine dm (i:=8) (by repeat (first|exact cj|refine bP ?_|refine cg ?_|refine np_scope ?_)) rfl VZ VZ VZ (fun _=>fT (show _=Value.tuple (List.toArray _) from rfl) rfl) VY ?_;refine dm (i:=9) (by repeat (first|exact cj|refine bP ?_|refine cg ?_|refine np_scope ?_)) rfl VZ VZ VZ (fun _=>fT (show _=Value.tuple (List.toArray _) from rfl) rfl) VY ?_;refine j3 10 VY VZ VY VZ VZ ?_;exact PT):p:=h
theorem PW {p:Prop} (h:p:=by
  exact KH):p:=h
theorem Ov {p:Prop} (h:p:=by
  rw [e];by_cases hz1:k<0
  ·refine EI ?_;refine sr ?_;refine bQ hh ?_;intro b4 w4 hh;refine aa (ah (sr (mI ?_)));refine aW (mB ?_);refine gS (gS (gS ?_));refine eM ?_;refine aa (cT (sr ?_));refine eV [_,_,_] ?_;exact KH
  ·refine EI ?_;refine sr ?_;refine bQ hh ?_;intro b4 w4 hh;refine aa (ah (sr (mI ?_)));refine aW (mB (gT (mI (gT (mI (gT ?_))))));refine bM ?_;refine dE ?_;refine aa (cT (sr ?_));refine eV [_,_,_] ?_;exact KH):p:=h
theorem Qe {p:Prop} (h:p:=by
  refine fk ?_;refine j3 3 VY VZ VY VZ VZ ?_;refine bR hh 2 [_,_] ?_;intro ws hh;replace hh:Hp _ (_::_::.blk _ _ [_,_] _::_) _:=hh;refine aB (aa (au ?_));refine UW (ej rfl (ek (vs:=[_,_]) aO.out (hh.bZ (i:=3) (n:=2) rfl rfl) rfl) (ej rfl (ek (vs:=[_,_]) aO.out (hh.bZ (i:=2) (n:=2) rfl rfl) rfl) (jg (nj rfl) fF))) ?_;exact ⟨rfl,hh.below⟩):p:=h
theorem O3 {p:Prop} (h:p:=by
  refine aT 13 [[(2,none)],[(24,some 0)],[(2,none)],[(26,some 2)],[(3,none)],[(28,some 4)],[(27,some 3),(29,some 5)],[(25,some 1),(30,some 6)],[(3,none)],[(32,some 8)],[(31,some 7),(33,some 9)],[(3,none)],[(35,some 11)]] [(12,36),(11,35),(10,34),(9,33),(8,32),(7,31),(6,30),(5,29),(4,28),(3,27),(2,26),(1,25),(0,24)] hh mixed VZ ?_;refine cP ?_;refine ee 2 [_,_] ?_;refine cP ?_;refine dL 2 ?_;refine cP ?_;refine dL 1 ?_;refine pE ?_;refine dC (fun _ hj=>hshl _) ?_;refine cP ?_;refine ee 1 [_,_] ?_;refine dC (fun _ hj=>hpl _) ?_;refine cP ?_;refine dL 1 ?_;refine aJ ?_;intro f W hJ hV;have hb_8:=hJ.bl;obtain ⟨v36,v35,v34,v33,v32,v31,v30,v29,v28,v27,v26,v25,v24,_⟩:=hV;replace hh:=hJ.hp;refine aR (a8 (ae v36 (ae v35 (ae v34 (ae v33 (ae v32 (ae v31 (ae v30 (ae v29 (ae v28 (ae v27 (ae v26 (ae v25 (ae v24 aQ)))))))))))))) ?_;dsimp only [bH];clear hJ;refine br hh (hmk _) rfl ?_;intro w37 hh;exact Df):p:=h
theorem FO {p:Prop} (h:p:=by
  refine gM (hc _ hh.below) ar.out rfl rfl VY ?_;rintro e_ w16 ⟨rfl,hb_⟩;refine ⟨_,rfl, ?_⟩;replace hh:=hh.ext hb_;refine An ?_;refine a9 (mI (aA (ai ?_)));refine ⟨⟨i+1,VX,rfl,by rw [aw hz,Ym,hall,Yw,Yy,gz];rfl,hh⟩,by show n-(i+1)<n-i;omega, ?_⟩;exact dy):p:=h
theorem OE {p:Prop} (h:p:=by
  refine fk ?_;refine gp (i:=8) VZ rfl ?_;refine gM (hsm _ (hT.hp hh)) ar.out rfl rfl VY ?_;rintro e_ w41 ⟨rfl,hb_⟩;refine ⟨_,rfl, ?_⟩;replace hh:=hh.ext hb_;refine fk ?_;refine gp (i:=9) VZ rfl ?_;refine tf ?_;intro b42 w42 hh;refine fk ?_;refine gp (i:=10) VZ rfl ?_;refine mF ?_;intro A43 c43 w43 hh;simp only [Wd,WH] at hh;replace hh:=hh.sub (WE _ _);refine fk ?_;refine j3 15 VY VZ VY VZ VZ ?_;refine aL (aL (aL (aA (bF (bF (ai ?_))))));replace hh:=hh.sub (V4 _ Wq);refine ⟨⟨_,n-1,c-1,X,_,m-1,c2-1,Y,O++[⟨x.m,nR (x.c.d+y.c.d)⟩],A43,c43,rfl,rfl, ?_,VX,VX,hSt,hSt2,hmg.both h1 h2 hk, ?_⟩,by show (n-1)+(m-1)<n+m;omega, ?_⟩
  ·exact Si
  ·rw [Wc,bG];exact hh
  ·exact dy):p:=h
theorem Ol {p:Prop} (h:p:=by
  have zy:=zx.mul zu;have hm2:=fun A cc w1 hT1 hS1=>fH A 2 cc [nR x,nR u] w1 hT1 hS1 (by simpa using ⟨zx.ok VX,zu.ok VX⟩) 600000 (by simpa [cm] using ⟨zx.mono VX,zu.mono VX⟩) VX VX;rw [show iD ([nR x,nR u].map NR.d)=x*u by simp only [Wv,WV,cm];show 1*x*_=_;rw [Ye]] at hm2;generalize x*u=y at*;have hsum:=fun A cc w1 hT1 hS1=>jl A 2 cc [nR o,nR y] w1 hT1 hS1 (by simpa using ⟨zo.ok VX,zy.ok VX⟩) 2000000 (by simpa [cm] using ⟨zo.mono VX,zy.mono VX⟩) VX;rw [show m6 ([nR o,nR y].map NR.d)=o+y by simp only [Wv,WV,cm,lL]] at hsum;have hrl:=fw NR.len (S.map nR);refine aT 16 [[(4,none)],[(5,none)],[(7,none)],[(38,some 1),(39,some 2)],[(4,none)],[(5,none)],[(7,none)],[(42,some 5),(43,some 6)],[(41,some 4),(44,some 7)],[(45,some 8)],[(6,none)],[(8,none)],[(47,some 10),(48,some 11)],[(49,some 12)],[(46,some 9),(50,some 13)],[(51,some 14)]] [(15,52),(14,51),(13,50),(12,49),(11,48),(10,47),(9,46),(8,45),(7,44),(6,43),(5,42),(4,41),(3,40),(2,39),(1,38),(0,37)] hh mixed VZ ?_;refine dI ?_;refine cM ?_;refine cM ?_;refine qG ?_
  refine dI ?_;refine cM ?_;refine cM ?_;refine qG ?_;refine FG ((i+j)) ?_;refine mJ [_,_,_] (fun _ hj=>hj.hp.fY (f:=NR.cells) (x:=nR o) (l:=S.map nR) (i:=3) rfl NR.len VY hon) ?_;refine ee 2 [_,_,_] ?_;refine ee 0 [_,_,_] ?_;refine oB [_,_,_,_,_,_] ?_;refine aN (i:=13) (Is (.agg #[.bool (nR y).neg,.string (nR y).bf,.int .i64 (nR y).e])) Is.ext ?_ ?_
  ·exact Uq
  refine oB [_,_,_,_,_,_] ?_;refine aN (i:=15) (Is (.agg #[.bool (nR (o+y)).neg,.string (nR (o+y)).bf,.int .i64 (nR (o+y)).e])) Is.ext ?_ ?_
  ·exact Uf
  refine aJ ?_;intro f W hJ hV;have hb_11:=hJ.bl;obtain ⟨v52,v51,v50,v49,v48,v47,v46,v45,v44,v43,v42,v41,v40,v39,v38,v37,_⟩:=hV;obtain ⟨A49,c49,e49,f49⟩:Rows _ _ _ (f 12) W:=v49;obtain ⟨A51,c51,e51,f51⟩:Rows _ _ _ (f 14) W:=v51;replace hh:=hJ.hp;refine aR (a8 (ae v52 (ae e51 (ae v50 (ae e49 (ae v48 (ae v47 (ae v46 (ae v45 (ae v44 (ae v43 (ae v42 (ae v41 (ae v40 (ae v39 (ae v38 (ae v37 aQ))))))))))))))))) ?_;dsimp only [bH];clear e49 e51 hJ;exact Py):p:=h
theorem PM {p:Prop} (h:p:=by
  refine cJ (aB (aa (au ?_)));refine cS ?_;exact ⟨by rw [Wm hg],hh.below⟩):p:=h
theorem Ki {p:Prop} (h:p:=by
  exact ⟨0,[],none,0,V5 _,rfl,rfl,rfl,hh⟩):p:=h
theorem OB {p:Prop} (h:p:=by
  have h1:bN m≠0:=fun h=>h0 (by rw [h,nL]);rw [Wm h1];exact ⟨rfl,hh.below⟩):p:=h
theorem OS {p:Prop} (h:p:=by
  rcases WX j ls.length with h|h
  ·exact h
  ·rw [XB h] at hq;cases hq):p:=h
theorem Pv {p:Prop} (h:p:=by
  refine aS (aB (aa (au ?_)));refine Gb ?_;rw [Wm VX];exact ⟨rfl,hh.below⟩):p:=h
theorem Jw {p:Prop} (h:p:=by
  rw [Wf,Xc VX]
  rfl):p:=h
theorem N9 {p:Prop} (h:p:=by
  have:=W8 List.length hq;rw [Xk] at this;simp only [YS] at this;omega):p:=h
theorem Ow {p:Prop} (h:p:=by
  refine cJ (aB (aa (au ?_)));refine cS ?_;exact ⟨by rw [Wu VX],hh.below⟩):p:=h
theorem N7 {p:Prop} (h:p:=by
  rw [XS];split
  ·exact List.nodup_nil
  ·exact X2.2 ⟨by simp,List.nodup_nil⟩):p:=h
theorem NY {p:Prop} (h:p:=by
  obtain ⟨cs,h6,h7⟩:=h5 i VX;rw [hc] at h6;obtain ⟨a,rfl,h8⟩:=one _ _ _ h7;exact ⟨a,h6,h8⟩):p:=h
theorem I4 {p:Prop} (h:p:=by
  rw [ho] at ho';injection ho' with ho';subst ho';exact hed):p:=h
theorem OJ {p:Prop} (h:p:=by
  unfold jy;split
  ·rename_i hpe;have:=dx.1 (cK hpe).1;rw [eQ];omega
  ·exact V5 _):p:=h
theorem P8 {p:Prop} (h:p:=by
  unfold vS PX.e;rw [vo.e,V2 rfl];exact ku (by rw [Wh];show VL.length≤4096;omega)):p:=h
theorem Oz {p:Prop} (h:p:=by
  refine cS ?_;rw [←hcut,Wc,Wp,Xd VX];exact ⟨rfl,hh.below⟩):p:=h
theorem Js {p:Prop} (h:p:=by
  refine cS ?_;exact ⟨by rw [V2 (.inl VX)],hh.below⟩):p:=h
theorem OO {p:Prop} (h:p:=by
  have h1:bN m=0:=by rw [←nL] at h0;exact Lq h0
  rw [Wu VX];exact ⟨rfl,hh.below⟩):p:=h
theorem Pn {p:Prop} (h:p:=by
  induction xs generalizing ys c with
  |nil=>exact Dg.nil
  |cons x xs ih=>exact Dg.cons (Wy _ hB) (ih _ _)):p:=h
theorem Qc {p:Prop} (h:p:=by
  refine aS (aa (au ?_));refine cS ?_;rw [Wa VX] at hT;rw [hT];exact ⟨rfl,hh.below⟩):p:=h
theorem To {p:Prop} (h:p:=by
  rw [aw hd] at hx
  rcases WI.1 hx with hx|hx
  ·exact hall x hx
  ·rw [Wj.1 hx];omega):p:=h
theorem OY {p:Prop} (h:p:=by
  have h1:=hall (i+1);rw [rm hx,Wc,←hM] at h1;rw [hN,Wc];simp at h1 ⊢;omega):p:=h
theorem Qb {p:Prop} (h:p:=by
  rw [show (18446744073709551616:Nat)=2^64 from rfl,←WW];exact WM VX VX):p:=h
theorem KR {p:Prop} (h:p:=by
  rw [iB VX (fm VX _ _),cN hbd]):p:=h
theorem Si {p:Prop} (h:p:=by
  show Value.slice _ (O.length+1) _=Value.slice _ (O++[(⟨x.m,nR (x.c.d+y.c.d)⟩:TR)]).length _;rw [Wc]
  rfl):p:=h
theorem Fb {p:Prop} (h:p:=by
  rw [hd] at h1;rw [hd];exact ⟨_,_,rfl,h1,hh.below⟩):p:=h
theorem SL {p:Prop} (h:p:=by
  rw [aw hy,WT,WI] at h
  rcases h with h|h
  ·exact hz2 e h
  ·rw [Wj.1 h];exact he):p:=h
theorem Oy {p:Prop} (h:p:=by
  exact let ⟨g,e,o⟩:=hR.1;eI rfl (iJ (l:=List.replicate v.toNat 0) bj.out bj.out bj.out e o) ⟨Below.refl _ _,rfl⟩):p:=h
theorem Om {p:Prop} (h:p:=by
  unfold Program.cellsOf at hc
  cases hi:P.info? fd.type with
  |none=>simp [hi] at hc
  |some i=>exact ⟨i,rfl,by simpa [hi] using hc⟩):p:=h
theorem IU {p:Prop} (h:p:=by
  cases rest with
  |nil=>simp at hlen;omega
  |cons x r=>exact ⟨x,r,rfl⟩):p:=h
theorem Qh {p:Prop} (h:p:=by
  refine cJ (aa (cT (sr (aL (aa (au (aE ?_)))))));refine cS ?_;exact ⟨none,0,rfl,(hh.sub (WN _)).ck 3 1⟩):p:=h
theorem Od {p:Prop} (h:p:=by
  refine aa ?_;rw [hge];refine cT (sr (aI (aa (au (bI (aE (aE (bI (aE ?_)))))))));refine cS ?_;exact ⟨rfl,hh.below⟩):p:=h
theorem TO {p:Prop} (h:p:=by
  rw [rm (f:=fun (x y:TR)=>lf x.m y.m) hx,WI,YV] at h
  rcases h with h|h
  ·exact hz e h
  ·exact hz2 e h):p:=h
theorem Px {p:Prop} (h:p:=by
  refine Yq fun hn=>hall fun i hi=> ?_
  cases hc2:L.getD i false with
  |true=>rfl
  |false=>exact absurd ⟨i,hi,hc2⟩ hn):p:=h
theorem NX {p:Prop} (h:p:=by
  refine full L a w (fuel+1) hI hall ?_;have hL:L=jN l.length m:=xV (by rw [hI.ls,hnn]) hml hall hI.tl;rw [hL,DA] at hc;omega):p:=h
theorem Ev {p:Prop} (h:p:=by
  exact ⟨0,V5 _,rfl,fun t ht=>(nomatch ht),hh⟩):p:=h
theorem PQ {p:Prop} (h:p:=by
  simp only [execOp,resolve,invoke,builtin,Sem.run_bind,Sem.run_pure,Result.andThen_ok,YK,Wv,WV,hs,hx,hr]):p:=h
theorem Sg {p:Prop} (h:p:=by
  rw [hq,aw hp] at hris;rw [aw hx,hq,aw hp,WQ];show sF (ts.take q++[p,x])=true;rw [wj,hris,hlp]
  rfl):p:=h
theorem Po {p:Prop} (h:p:=by
  unfold co;split
  ·cases h:X[jf ds ((dq ds p).set a i)]? with
   |none=>exact Sz.zero k
   |some y=>exact hx y (V7 h)
  ·exact Sz.zero k):p:=h
theorem Qg {p:Prop} (h:p:=by
  refine ⟨VX, ?_⟩;by_cases hc:x0+2^i*(x1 % 2)<y0+2^i*(y1 % 2)
  ·rw [V2 hc];rw [hlt] at hc;omega
  ·rw [V3 hc];rw [hlt] at hc;omega):p:=h
theorem Kc {p:Prop} (h:p:=by
  rcases XP n with h|h
  ·exact h
  ·obtain ⟨_,h1,_⟩:=hS.2 h;cases h1):p:=h
theorem Pm {p:Prop} (h:p:=by
  have:(ef b.data.toList && decide ((b.data.toList.length:Int)=a.data.toList.length))=true:=by rw [←hsa,←hsb];exact hmb
  simp only [gQ,hma,this];rfl):p:=h
theorem Sa {p:Prop} (h:p:=by
  refine Gg ?_;refine cS ?_;rw [hbad (by simp [cE];omega),V2 rfl];exact ⟨rfl,hh.below⟩):p:=h
theorem Sm {p:Prop} (h:p:=by
  have:=yv (f:=PX.ts) (B:=4096) (l:=ps.take i) fun g hg=>(cK (tQ g (X1 hg))).2.1;rwa [Wp,Xd VX] at this):p:=h
theorem MY {p:Prop} (h:p:=by
  exact ⟨PX.nil,dN.err he,rfl,(hh.sub (WN _)).uZ⟩):p:=h
theorem So {p:Prop} (h:p:=by
  refine ah (sr (mI (mL (aF ?_))));refine BF ?_;refine cS ?_;exact ⟨rfl,hh.below⟩):p:=h
theorem TG {p:Prop} (h:p:=by
  cases base2 with
  |none=>exact run_firstCells_none w.drew i.size 0 0 0
  |some a2=>exact run_firstCells_some w.drew i.size 0 a2 0 0 [] (by simp) (fun j u hu=>by simp at hu)):p:=h
theorem SQ {p:Prop} (h:p:=by
  have e:ns=ns.take i++d::ns.drop (i+1):=by rw [←gK h,W4]
  conv=>lhs;rw [e]
  rw [Yz,Y6,WQ]
  rfl):p:=h
theorem SM {p:Prop} (h:p:=by
  refine aW (aa (cT (sr (aS (aB (aa (au (aE ?_))))))));refine Gb ?_;rw [Nat.sub_eq_zero_of_le VX,Wu VX,nL];exact ⟨rfl,hh.below⟩):p:=h
theorem Uq {p:Prop} (h:p:=by
  intro ρ1 w1 hj hR;obtain ⟨A49,c49,h49,s49⟩:=hR.1;exact bh rfl (aP ar.out (av h49 a6)) (hm2 A49 c49 _ (hT.hp hj.hp) s49) (fun _ _ hq=>⟨_,hq.1,hq.2,rfl⟩)):p:=h
theorem Uf {p:Prop} (h:p:=by
  intro ρ1 w1 hj hR;obtain ⟨A51,c51,h51,s51⟩:=hR.1;exact bh rfl (aP ar.out (av h51 a6)) (hsum A51 c51 _ (hT.hp hj.hp) s51) (fun _ _ hq=>⟨_,hq.1,hq.2,rfl⟩)):p:=h
theorem Rz {p:Prop} (h:p:=by
  rw [Xf] at hun ⊢;rw [Yg hiL] at hun ⊢;simpa using hun):p:=h
theorem Tp {p:Prop} (h:p:=by
  refine Bw ?_;refine bB hh 0 ?_;refine aF ?_;refine bM (aa (cT (sr (aI (aa (au (aE ?_)))))));refine cS ?_;exact ⟨rfl,hh.below⟩):p:=h
theorem S4 {p:Prop} (h:p:=by
  have e1:(O++X++Y).length=O.length+n+m:=by rw [Wc,Wc];omega
  exact ⟨O++X++Y,A74,c74,hd,by rw [e1],by rw [e1,bG,bG];exact hh⟩):p:=h
theorem T9 {p:Prop} (h:p:=by
  rw [aw hs,Ym,hall,W7,Yw,Yy,Bool.or_false,Wm (by have:¬¬s.lo.d<s.hi.d:=fun h=>g (e.2 h);exact Yx.1 this)]
  rfl):p:=h
theorem SY {p:Prop} (h:p:=by
  intro ρ1 w1 hj hR;exact eI rfl (iE (k:=a) bj.out aO.size ((show ρ1 65=Value.slice _ _ _ from hR.1).trans tQ) (show ρ1 66=Value.int _ _ from hR.2.1) VX VX) ⟨Below.refl _ _,rfl⟩):p:=h
theorem Tb {p:Prop} (h:p:=by
  refine sr ?_;refine Kv ?_;refine cS ?_;exact ⟨_,_,rfl,hh.sub (V4 _ (WN _))⟩):p:=h
theorem Rt {p:Prop} (h:p:=by
  exact ⟨0,0,none,[],[],V5 _,rfl,rfl,rfl,⟨fun j g o _ h=>(nomatch h),fun o h=>(nomatch h)⟩,hh⟩):p:=h
theorem SP {p:Prop} (h:p:=by
  refine aI (aa (sr (mI ?_)));refine cJ (aa (cT (sr (mI (aI (aa (au (bI (aE (aE (bI (aE ?_))))))))))));refine cS ?_;refine ⟨?_,hh.below⟩;unfold ff;rw [xa hall hx (Wm he)]):p:=h
theorem TC {p:Prop} (h:p:=by
  refine tk rfl (av (CN rfl) (av (CN rfl) a6)) VY ?_;refine kB (by first|exact te rfl|exact sP rfl) VY ?_;refine aa (au ?_);refine cS ?_;exact ⟨_,_,rfl,hh⟩):p:=h
theorem Th {p:Prop} (h:p:=by
  refine bA bj.out rfl VY ?_;refine mI ?_;refine E7 rfl rfl VY ?_;refine aB (aa (au ?_));refine cS ?_;rw [Wa (by rw [←dD];omega)] at hm;rw [hm];exact ⟨rfl,Below.refl _ _⟩):p:=h
theorem Nk {p:Prop} (h:p:=by
  rw [Int.sign_eq_zero_iff_zero];exact ⟨fun h=>by unfold NR.d;rw [h];rfl,BI⟩):p:=h
theorem Tu {p:Prop} (h:p:=by
  have h3:=hdep (i-m) VX;rw [show m+(i-m)=i by omega] at h3;have h4:(i-m==0)=false:=by simp;omega
  rw [h4,W7] at h3;have:=kD hM hI.cl i m hed' h3;rw [hI.tl m (V8 _)] at this
  cases this):p:=h
theorem Sr {p:Prop} (h:p:=by
  have h1:(Op.equal 65 (.agg #[.bool s,.string a,.int .i64 e]) (.agg #[.bool s',.string a',.int .i64 e'])).run Tryz.prog w=.ok r w:=by rw [←hr];exact Eo 9997 s s' a a' e e' w
  simp only [execOp,hx,hy];simp [eqGuard,binOp,h1]):p:=h
theorem TE {p:Prop} (h:p:=by
  refine ⟨hI.nd,hI.sz,fun s=> ?_⟩;by_cases hs:∃i,(i,s)∈ds
  ·obtain ⟨i,hi⟩:=hs;rw [(lY _ ds s hnd).1 i hi,(hdsm i s hi).2]
  ·rw [(lY _ ds s hnd).2 fun i hi=>hs ⟨i,hi⟩];exact hI.LB s fun i hi _ hd=>hs ⟨i,hpre i s hi hd⟩):p:=h
theorem QI {p:Prop} (h:p:=by
  have:=qU n zc;rw [hzl] at this;unfold madeCells;rw [hzc];have e2:zc.toArray.size=sz:=by simpa using hzl
  rw [e2,this]):p:=h
theorem SF {p:Prop} (h:p:=by
  have h1:M<256^(a0 256 M).length:=qQ VX M;rw [JF VX h1,W9,Y8,WG,G3 (fun d hd=>(eb (B:=256) VX M).1 d (YE.1 hd)),sb,List.map_reverse]):p:=h
theorem TH {p:Prop} (h:p:=by
  rintro e a' w' ⟨ρ',hf',hq⟩;have e1:(fun i=>a.tmps.getD i undef)=ρ:=funext hf.at_;have e2:(fun i=>a'.tmps.getD i undef)=ρ':=funext hf'.at_
  cases e with
  |normal=>exact ⟨⟨ρ',hf',hq.1⟩,by rw [e1,e2];exact hq.2⟩
  |_=>exact ⟨ρ',hf',hq⟩):p:=h
theorem Tf {p:Prop} (h:p:=by
  have h1:(cv ps qs).length=((ps.take i).flatMap fun x=>qs.map (oV x)).length+((ps.drop i).flatMap fun x=>qs.map (oV x)).length:=by
   unfold cv;rw [←Wc,←YM,W4]
  rw [re] at h1;omega):p:=h
theorem Re {p:Prop} (h:p:=by
  refine aI (aa (sr (mI ?_)));refine cJ (aa (cT (sr (mI (aI (aa (au (aE ?_))))))));refine cS ?_;exact ⟨rfl,hh.below⟩):p:=h
theorem SK {p:Prop} (h:p:=by
  have h1:z.natAbs=y.natAbs*2^j:=by rw [←hyz,XW,Yn];rfl
  have h2:y.natAbs*1≤y.natAbs*2^j:=WS _ (WJ VX);have h3:bO y.natAbs≤8*a.size:=dO VX;rw [j7];omega):p:=h
theorem Q5 {p:Prop} (h:p:=by
  refine aa (cT (sr (aI (aa (au (aE (bI (aE (aE (bI (aE ?_)))))))))));refine cS ?_;exact ⟨by rw [hc],hh.below⟩):p:=h
theorem Te {p:Prop} (h:p:=by
  rw [W9,Y8,WG] at hh;refine ah (sr (mI (mL (aF ?_))));refine Ce ?_;refine cS ?_;exact ⟨_,rfl,hh.at_ (i:=0) rfl,hh.below⟩):p:=h
theorem Sk {p:Prop} (h:p:=by
  obtain ⟨e1,e2,e3⟩:=hcp.eq j ⟨b.length,none,Q.length,0,Q⟩ o (by rw [Wf,hx];rfl) hj;replace e2:o.ts=Q:=e2;replace e3:o.n=Q.length:=e3;exact Pw):p:=h
theorem SW {p:Prop} (h:p:=by
  refine bR hh 0 [_,_,_,_,_,_] ?_;intro ws hh;replace hh:Hp _ (.blk _ _ [_,_,_,_,_,_] _::_) _:=hh;refine aa (au ?_);refine Nm (ej rfl (ek (vs:=[_,_,_,_,_,_]) aO.out (hh.bZ (i:=0) (n:=6) rfl rfl) rfl) fF) ?_;exact ⟨rfl,hh.below⟩):p:=h
theorem Sb {p:Prop} (h:p:=by
  refine dJ (aa (cT (sr (aI (aa (au (bI (aE (aE (bI (aE ?_)))))))))));refine cS ?_;have:b.any (fun s=> !decide (s.lo.d<s.hi.d))=true:=XR.2 ⟨s,ms,by rw [Wu (e.1 g)];rfl⟩;exact ⟨by rw [jk,V2 this],hh.below⟩):p:=h
theorem Tl {p:Prop} (h:p:=by
  cases B with
  |none=>exact run_append_nothing w t t ty e i ht hi _ 0 0 (V8 _) _ (Src.ofNil w ht c')
  |some ad=>exact run_append_nothing w t t ty e i ht hi _ 0 0 (V8 _) _ (Src.ofSlice w ht ad 0 c' [] (by simp) (fun j u hu=>by simp at hu) (fun u hu=>by cases hu))):p:=h
theorem R1 {p:Prop} (h:p:=by
  have h2:=hD (i+1) e (by simpa using he);refine ⟨h2.1,fun t ht=> ?_⟩;have h3:=h2.2 t (kC t ht);rwa [show j+1+i=j+(i+1) by omega]):p:=h
theorem S3 {p:Prop} (h:p:=by
  have hr0:rest=[]:=Xt VX;subst hr0;refine sr ?_;refine aW (aa (ah (cF (aU (aD (aD (bk ?_)))))));refine Qu (by first|exact .inr rfl|exact .inl rfl) rfl  ?_;rw [WG,iC,WG] at*;rw [←heq];exact ⟨rfl,hh⟩):p:=h
theorem SX {p:Prop} (h:p:=by
  refine Fa hv hc0 (qs.map PX.ts) (j+1) (bL p j m) ds k (fun r hr=> ?_) (fun t ht=>hok t (kC t ht)) (by rw [Wh];simpa using hds) (hDs m) VX hm;obtain ⟨g,hg,rfl⟩:=Wn.1 hr;have:=hls g (Zb (by rw [hqs];exact hg));exact ⟨this.1,this.2.2.2⟩):p:=h
theorem TN {p:Prop} (h:p:=by
  rw [hu];refine bR hh 1 [_,_] ?_;intro ws hh;replace hh:Hp _ (_::.blk _ _ [_,_] _::_) _:=hh;refine aa (au ?_);refine wE ?_;rw [Wa VX] at hS2;rw [hS2];exact ⟨rfl,hh.below⟩):p:=h
theorem Q6 {p:Prop} (h:p:=by
  intro w9 hh;refine ⟨(ej rfl (ek (vs:=[_,_,_]) aO.out (hh.bZ (i:=0) (n:=3) rfl rfl) rfl) (jg (jM rfl) fF)), ?_⟩;exact ⟨rfl,hh.below⟩):p:=h
theorem RY {p:Prop} (h:p:=by
  refine sr ?_;refine Kv ?_;refine cS ?_;exact ⟨_,_,rfl,hh⟩):p:=h
theorem QH {p:Prop} (h:p:=by
  exact ⟨none,0,rfl,World.ownsRow_nil _ _ _ _,hh.below⟩):p:=h
theorem QD {p:Prop} (h:p:=by
  refine ah (sr (mI (mL (aF ?_))));refine Ce ?_;refine cS ?_;exact ⟨_,_,rfl,hh⟩):p:=h
theorem S6 {p:Prop} (h:p:=by
  have e1:(bU ns).any (fun d=> !cE d)=false:=XD.2 fun d hd=>by
   unfold bU at hd;obtain ⟨x,hx,rfl⟩:=Wn.1 hd;have:=h x hx;simp [cE];omega
  unfold sE;rw [e1,V3 VY];have h2:=AH ns 1 VY VY;have h3:Bs 1 (bU ns)=((min (1*ay ns) 4097:Nat):Int):=h2;rw [h3];omega):p:=h
theorem RQ {p:Prop} (h:p:=by
  rw [hds,YE,Xe];refine ⟨(some d,i), ?_,rfl⟩;rw [List.mem_zipIdx_iff_getElem?];rw [Wf,Xc hi];simp only [XJ,hd]):p:=h
theorem St {p:Prop} (h:p:=by
  have e2:az TR.cells (iw l x)=[]++az TR.cells (l.take i)++[.string x.m,.bool (nR x.c.d).neg,.string (nR x.c.d).bf,.int .i64 (nR x.c.d).e]++az TR.cells (l.drop i):=by rw [hput,bG,gE,V9,WQ];rfl
  exact OR):p:=h
theorem Rs {p:Prop} (h:p:=by
  refine sr ?_;refine Kv ?_;exact J1):p:=h
theorem Q8 {p:Prop} (h:p:=by
  intro A7 c7 w7 hh;simp only [Wd] at hh;rw [Wr] at hh ⊢;rw [V9] at hh;refine aL (aa (au ?_));exact J1):p:=h
theorem Sp {p:Prop} (h:p:=by
  refine aI (aa (sr (mI ?_)));refine cJ (aa (cT (sr ?_)));refine eV [_,_] (mI ?_);refine bR hh 0 [_,_] ?_;intro ws hh;replace hh:Hp _ (.blk _ _ [_,_] _::_) _:=hh;refine aI (aa (au (aE ?_)));refine mW ?_;exact ⟨FX.nil,Out.err hE,rfl,(hh.sub (WN _)).K9⟩):p:=h
theorem QA {p:Prop} (h:p:=by
  refine sr (aL (aa (ah (sr (mL ?_)))));refine sH bj.out rfl rfl VY ?_;refine aa (cT (sr (aL (aa (au (aE ?_))))));refine cS ?_;exact ⟨_,_,rfl,World.ownsRow_nil _ _ _ _,hh.below⟩):p:=h
theorem QE {p:Prop} (h:p:=by
  have p1:=hpre i d hi h1;have p2:=hpre j d hj h2;have e1:=((lY (ρ:=ρ) (fun i=>.int .i64 i) ds d hnd).1 i p1).symm.trans ((lY (ρ:=ρ) (fun i=>.int .i64 i) ds d hnd).1 j p2);injection e1 with _ e1
  omega):p:=h
theorem BH {p:Prop} (h:p:=by
  refine aS (aa (au ?_));refine cS ?_;exact ⟨rfl,hh.below⟩):p:=h
theorem Ts {p:Prop} (h:p:=by
  refine sr ?_;refine mY ?_;refine cn hh 0 [_,_,_] ?_;refine bR hh 1 [_,_,_] ?_;intro ws hh;replace hh:Hp _ (_::.blk _ _ [_,_,_] _::_) _:=hh;refine aa (au ?_);refine Nm (ej rfl (ek (vs:=[_,_,_]) aO.out (hh.bZ (i:=1) (n:=3) rfl rfl) rfl) fF) ?_;rw [Wa VX] at hS2;rw [hS2];exact ⟨rfl,hh.below⟩):p:=h
theorem HZ {p:Prop} (h:p:=by
  intro ρ1 w1 hj hR;exact let ⟨g,u,e1,e2⟩:=hR.1;eI rfl (fh e1) ⟨Below.refl _ _,g,u,rfl,e2⟩):p:=h
theorem S5 {p:Prop} (h:p:=by
  refine aa (cF (aU (aD (aD (bk (ai (ah (sr (mI ?_)))))))));refine cJ (aa (cT (sr ?_)));refine eV [_,_] (mI ?_);refine bR hh 2 [_,_] ?_;intro ws hh;replace hh:Hp _ (_::_::.blk _ _ [_,_] _::_) _:=hh;refine aI (aa (au (aE ?_)));refine mE ?_;exact ⟨PX.nil,dN.err he0,rfl,(hh.sub (WN _)).uZ⟩):p:=h
theorem vJ {p:Prop} (h:p:=by
  refine aI (aa (au ?_));refine cS ?_;exact ⟨rfl,hh.below⟩):p:=h
theorem Cu {p:Prop} (h:p:=by
  refine BV ?_;refine cS ?_;exact ⟨rfl,hh.below⟩):p:=h
theorem RO {p:Prop} (h:p:=by
  refine bR hh 1 [_,_,_] ?_;intro ws hh;replace hh:Hp _ (_::.blk _ _ [_,_,_] _::_) _:=hh;refine aa (au ?_);refine Nm (ej rfl (ek (vs:=[_,_,_]) aO.out (hh.bZ (i:=1) (n:=3) rfl rfl) rfl) fF) ?_;exact ⟨rfl,hh.below⟩):p:=h
theorem SJ {p:Prop} (h:p:=by
  simp only [cz];rw [←htake];have h5:o+vs.length≤m*sz:=VX;have h6:m*sz≤cur.toList.length:=by rw [←hcl,hcur];exact hle
  rw [List.take_take,Xd VX,List.drop_take,WQ,WQ,List.take_append,List.take_append];simp only [Wp,Xd (show o≤cur.toList.length by omega)];rw [Wa (l:=cur.toList.take o) (by simp;omega),Wa (l:=vs) VX];congr 2;congr 1;omega):p:=h
theorem SA {p:Prop} (h:p:=by
  refine bR hh 0 [_,_] ?_;intro ws hh;replace hh:Hp _ (.blk _ _ [_,_] _::_) _:=hh;refine aI (aa (ah (sr (mI ?_))));refine cJ (aa (cT (sr ?_)));refine eV [_,_] (mI ?_);refine bR hh 2 [_,_] ?_;intro ws hh;replace hh:Hp _ (_::_::.blk _ _ [_,_] _::_) _:=hh;refine aI (aa (au (aE ?_)));refine mE ?_;exact ⟨FX.nil,Out.err hE2,rfl,(hh.sub (WN _)).K9⟩):p:=h
theorem Bt {p:Prop} (h:p:=by
  refine cS ?_;exact ⟨_,rfl,fun h=>(by cases h),hh.below⟩):p:=h
theorem vH {p:Prop} (h:p:=by
  refine aB (aa (au ?_));refine cS ?_;exact ⟨rfl,hh.below⟩):p:=h
theorem QZ {p:Prop} (h:p:=by
  rw [Wa VX] at hall;refine sr ?_;refine Fk ?_;refine cS ?_;exact ⟨_,rfl,⟨fun h=>absurd h VY,fun h=>by rw [hall] at h;cases h⟩,hh.below⟩):p:=h
theorem SZ {p:Prop} (h:p:=by
  intro L a w hI hc;have hall:∀i,i<l.length→L.getD i false=true:=fun i hi=>by
   exact Ph
  have hmn:l.length≤0+m:=by
   rcases WX m l.length with h|h
   ·have h1:=hall m h;rw [hI.tl m (V8 _)] at h1
    cases h1
   ·omega
  exact full L a w 0 hI (fun i hi=>hall i VX) hmn):p:=h
theorem Sw {p:Prop} (h:p:=by
  have hdm:j/sz*sz+j % sz=j:=by rw [WB];exact XH j sz
  have hmod:j % sz<sz:=Wy _ h0;have hj:j/sz<l.length:=by
   have:=(Wi.1 hu).1;rw [fw hf] at this;exact Nat.div_lt_of_lt_mul (by rw [WB];exact this)
  obtain ⟨x,hx⟩:=ak hj;have h6:=vj hf hx;have h7:(f x)[j % sz]?=some u:=by
   rw [←h6,XL,V2 hmod,XU,hdm];exact hu
  have h8:=(World.cells?_some (hp _ _ hx).1).2.2 (j % sz) hmod;rw [h7,mf,hdm] at h8;exact h8):p:=h
theorem MM {p:Prop} (h:p:=by
  refine aa (cT (sr (aS (aI (aa (au (aE (bI (aE (aE (bI (aE ?_))))))))))));refine Gb ?_;obtain ⟨e1,e2⟩:=RB hx (by simp [cE];omega);rw [e1,e2];exact ⟨rfl,hh.below⟩):p:=h
theorem Ss {p:Prop} (h:p:=by
  have hJ0:J ({ w with drawn:=w.drawn+1 }:World):=hJ w _ h0 ⟨rfl,rfl,rfl,V8 _,fun _ _=>rfl⟩;have hr0:∀i,(Array.replicate l.toArray.size false).getD i false=false:=fun i=>by
   rw [Xf,Array.getElem?_replicate];split<;>rfl
  refine key _ _ _ _ ⟨hf.nd,hf.sz,hJ0,by simp,fun k o _ hk=> ?_,fun k _=>hr0 k,fun i d _ hi=> ?_,fun s _=>hf.at_ s,fun i _ hi=> ?_,fun i _ j _ _ hi=> ?_⟩ ?_
  ·rw [hr0] at hk;cases hk
  ·rw [hr0] at hi;cases hi
  ·rw [hr0] at hi;cases hi
  ·rw [hr0] at hi;cases hi
  ·simp [List.countP_replicate]):p:=h
theorem SI {p:Prop} (h:p:=by
  refine mB ?_;refine gS ?_;refine ic ?_;refine ic ?_;refine eM ?_;exact Pp):p:=h
theorem CD {p:Prop} (h:p:=by
  intro ρ1 w1 hj hR;exact let ⟨g,u,e1,e2⟩:=hR.1;eI rfl (fT (vs:=[_,_]) e1 rfl) ⟨Below.refl _ _,rfl⟩):p:=h
theorem Sd {p:Prop} (h:p:=by
  refine bR hh 0 [_,_] ?_;intro ws hh;replace hh:Hp _ (.blk _ _ [_,_] _::_) _:=hh;refine aI (aa (au (aE ?_)));refine mW ?_;exact ⟨PX.nil,dN.err VX,rfl,(hh.sub (WN _)).uZ⟩):p:=h
theorem Qv {p:Prop} (h:p:=by
  refine gM (hc _ hh.below) ar.out rfl rfl VY ?_;rintro e_ w16 ⟨rfl,hb_⟩;refine ⟨_,rfl, ?_⟩;replace hh:=hh.ext hb_;refine aa (cT (sr (mI (aI (aa (au (bI (aE (aE (bI (aE ?_)))))))))));refine cS ?_;exact ⟨_,rfl,⟨fun _=>XR.2 ⟨z,V7 hz,gz⟩,fun _=>by omega⟩,hh.below⟩):p:=h
theorem QT {p:Prop} (h:p:=by
  refine eV [_,_] ?_;refine bR hh 0 [_,_] ?_;intro ws hh;replace hh:Hp _ (.blk _ _ [_,_] _::_) _:=hh;refine aI (aa (au (aE ?_)));refine mW ?_;exact IQ):p:=h
theorem Rw {p:Prop} (h:p:=by
  rintro e_ w7 ⟨v_,rfl,hv_,hb_⟩;refine ⟨_,rfl, ?_⟩;replace hh:=hh.ext hb_
  cases ga:l.any p with
  |true=>
   have h0:=hv_.2 ga;exact Fx
  |false=>
   have h0:¬0≤v_:=fun h=>by rw [hv_.1 h] at ga;cases ga
   exact Fx):p:=h
theorem Du {p:Prop} (h:p:=by
  intro ρ1 w1 hj hR;exact let ⟨g,u,e1,e2⟩:=hR.1;eI rfl (fT (vs:=[_,_]) e1 rfl) ⟨Below.refl _ _,g,u,rfl,e2⟩):p:=h
theorem Lp {p:Prop} (h:p:=by
  refine aa (cT (sr (aL (aa (au (aE (bI (aE (aE (bI (aE ?_)))))))))));refine cS ?_;simp only [mN,hf];exact ⟨none,0,rfl,World.ownsRow_nil _ _ _ _,hh.below⟩):p:=h
theorem SO {p:Prop} (h:p:=by
  refine jV ?_;refine dS (dS (dS (dS (dS ?_))));refine aJ ?_;intro f W hJ hV _;have hb_9:=hJ.bl;obtain ⟨v46,v45,v44,v43,v42,v41,v40,v39,v38,v37,v36,v35,v34,v33,v32,v31,v30,v29,_⟩:=hV;replace hh:=hJ.hp;refine II ?_;dsimp only [bH];clear hJ;refine gS ?_;refine eM ?_;exact NW):p:=h
theorem Tc {p:Prop} (h:p:=by
  unfold ByteArray.toList;have:∀(n i:Nat) (r:List UInt8),s.size-i=n→ByteArray.toList.loop s i r=r.reverse++s.data.toList.drop i:=by
   intro n
   induction n with
   |zero=>
    intro i r h;rw [ByteArray.toList.loop,V3 VX,XB (by rw [Array.length_toList];show s.size≤i;omega)];simp
   |succ n ih=>
    intro i r h;have hi:i<s.size:=VX;rw [ByteArray.toList.loop,V2 hi,ih (i+1) _ VX];have hi2:i<s.data.toList.length:=by rw [Array.length_toList];exact hi
    rw [Xl hi2];have:s.get! i=s.data.toList[i]:=by
     show s.data[i]! =_;rw [getElem!_pos s.data i (by simpa using hi2)];simp
    simp [this]
  simpa using this (s.size-0) 0 [] rfl):p:=h
theorem JN {p:Prop} (h:p:=by
  exact V1):p:=h
theorem QC {p:Prop} (h:p:=by
  have h16:¬2^24<len*sz:=VX;have hf':=zl _ _ _ hf;rw [←qU,hzl] at hf';have hzs:zc.toArray.size=sz:=by simpa using hzl
  have hp':=E8 parts hp;simp only [execOp,hp',Instr.buildSlice,Sem.run_bind,run_underlying ht,Result.andThen_ok,eZ hte,gt_iff_lt,V3 h16,V3 h0,hz,hzc,Sem.run_pure,hzs,hf'];simp [newRow]):p:=h
theorem RM {p:Prop} (h:p:=by
  simp only [EM]
  rcases WX i l.length with hi|hi
  ·rw [Xf,Array.getElem?_append_left (by simpa using hi)];simp [Xw]
  ·rw [Xf,Array.getElem?_append_right (by simpa using hi)];simp only [Xw,WK hi,Option.getD_none,Array.getElem?_replicate];split<;>rfl):p:=h
theorem Td {p:Prop} (h:p:=by
  refine fk ?_;refine j3 3 VY VZ VY VZ VZ ?_;refine bR hh 3 [_,_] ?_;intro ws hh;replace hh:Hp _ (_::_::_::.blk _ _ [_,_] _::_) _:=hh;refine aB (aa (au ?_));refine UW (ej rfl (ek (vs:=[_,_]) aO.out (hh.bZ (i:=4) (n:=2) rfl rfl) rfl) (ej rfl (ek (vs:=[_,_]) aO.out (hh.bZ (i:=3) (n:=2) rfl rfl) rfl) (jg (nj rfl) fF))) ?_;exact ⟨rfl,hh.below⟩):p:=h
theorem Qy {p:Prop} (h:p:=by
  exact KW):p:=h
theorem Qr {p:Prop} (h:p:=by
  rw [hds,YE,Xe] at hp;obtain ⟨⟨x,k⟩,hx,hxe⟩:=hp;rw [List.mem_zipIdx_iff_getElem?] at hx
  cases x with
  |none=>simp at hxe
  |some d'=>
   simp only [XJ,XO,Prod.mk.injEq] at hxe;obtain ⟨rfl,rfl⟩:=hxe;rw [Wf] at hx
   cases hr:(List.range m)[k]? with
   |none=>rw [hr] at hx;simp at hx
   |some y=>
    have hkm:k<m:=by
     have:=(Wi.1 hr).1;simpa using this
    rw [Xc hkm] at hx;simp only [XJ,XO] at hx;exact ⟨hkm,hx⟩):p:=h
theorem I2 {p:Prop} (h:p:=by
  refine bR hh 1 [_,_] ?_;intro ws hh;replace hh:Hp _ (_::.blk _ _ [_,_] _::_) _:=hh;refine aa (au ?_);exact PJ):p:=h
theorem Tk {p:Prop} (h:p:=by
  exfalso;have hmin:∀k,(∃i,i<k∧i<m∧L.getD i false=false)→∃i,i<m∧L.getD i false=false∧∀j,j<i→L.getD j false=true:=by
   intro k
   induction k with
   |zero=>rintro ⟨i,h,_⟩;omega
   |succ k ihk=>
    rintro ⟨i,h1,h2,h3⟩;by_cases hex:∃i,i<k∧i<m∧L.getD i false=false
    ·exact ihk hex
    ·exact N2
  obtain ⟨i0,h1,h2⟩:=hsome;obtain ⟨i,hi,hu,hlow⟩:=hmin (i0+1) ⟨i0,VX,h1,h2⟩;exact PZ):p:=h
theorem RD {p:Prop} (h:p:=by
  unfold Region.ready;rw [Xy,Xx,hnn];constructor
  ·rintro ⟨h1,h2⟩;have ho:l.toArray[i]?=some l[i]:=by simp [h1]
   rw [ho] at h2;simp only [XJ,Xq,Wl,Y5] at h2;refine ⟨h1,h2.1,l[i],ho,fun e he hb=> ?_⟩;have:=Zf.1 h2.2 e he;simpa [hb] using this
  ·rintro ⟨h1,h2,o,ho,h3⟩;refine ⟨h1, ?_⟩;rw [ho];simp only [XJ,Xq,Wl,Y5];refine ⟨h2,Zf.2 fun e he=> ?_⟩
   cases hb:Region.binds .any e with
   |false=>simp
   |true=>simpa [hb] using h3 e he hb):p:=h
theorem QF {p:Prop} (h:p:=by
  refine tU ?_;exact KW):p:=h
theorem Ui {p:Prop} (h:p:=by
  exact OV):p:=h
theorem Cg {p:Prop} (h:p:=by
  refine sl (c:=cc) bj.out rfl rfl VX hcc VY ?_;skip;refine qb ?_;refine a9 (aI (aa (au ?_)));refine cS ?_;refine ⟨?_,Below.refl _ _⟩;congr 2;rw [hcv];omega):p:=h
theorem SC {p:Prop} (h:p:=by
  refine bR hh 2 [_,_] ?_;intro ws hh;replace hh:Hp _ (_::_::.blk _ _ [_,_] _::_) _:=hh;refine aI (aa (au ?_));refine mE ?_;exact KW):p:=h
theorem LA {p:Prop} (h:p:=by
  refine bR hh 0 [_,_] ?_;intro ws hh;replace hh:Hp _ (.blk _ _ [_,_] _::_) _:=hh;refine aa (au ?_);exact OV):p:=h
theorem UN {p:Prop} (h:p:=by
  refine jV ?_;refine dS (dS (dS (dU (dU (dU (dU ?_))))));refine zY (i:=28) rfl (fun ρ1 w1 hj hR=>(show ρ1 44=undef from hR.2.2.1)) ?_;refine dU (dU (dU (dU ?_)));refine aJ ?_;intro f W hJ hV _;have hb_8:=hJ.bl;obtain ⟨v53,v52,v51,v50,v49,v48,v47,v46,v45,v44,v43,v42,v41,v40,v39,v38,v37,v36,v35,v34,v33,v32,v31,v30,v29,v28,v27,v26,v25,v24,v23,v22,v21,_⟩:=hV;replace hh:=hJ.hp;refine ES ?_;dsimp only [bH];clear hJ;refine gV (gS ?_);refine eM ?_;refine Gg ?_;refine cS ?_;exact ⟨rfl,hh.below⟩):p:=h
theorem U1 {p:Prop} (h:p:=by
  intro w40 hh;rw [fD];refine aW (aa (cF (ao (ai (ah ?_)))));refine qz hh mixed fun w_ hj_=> ?_;replace hh:=hj_.hp;clear hj_;refine uM (i:=0) (i2:=1) VZ rfl rfl ?_ ?_
  ·refine cn hh 1 [_,_] ?_;refine fk ?_;refine uM (i:=1) (i2:=2) VZ rfl rfl ?_ ?_
   ·refine cn hh 0 [_,_] ?_;exact Pe
   ·refine bR hh 3 [_,_] ?_;intro ws hh;replace hh:Hp _ (_::_::_::.blk _ _ [_,_] _::_) _:=hh;refine fk ?_;refine gp (i:=1) VZ rfl ?_;refine cn hh 0 [_,_] ?_;exact Qe
  ·refine cn hh 0 [_,_] ?_;refine fk ?_;refine gp (i:=0) VZ rfl ?_;refine cn hh 1 [_,_] ?_;exact Pe):p:=h
theorem R3 {p:Prop} (h:p:=by
  refine aI (aa (sr (mI ?_)));refine cJ (aa (cT (sr ?_)));refine eV [_,_] (mI ?_);refine bR hh 0 [_,_] ?_;intro ws hh;replace hh:Hp _ (.blk _ _ [_,_] _::_) _:=hh;refine aI (aa (au (aE ?_)));refine mW ?_;exact ⟨PX.nil,dN.err h0,rfl,(hh.sub (WN _)).uZ⟩):p:=h
theorem Va {p:Prop} (h:p:=by
  exact Qf):p:=h
theorem Uk {p:Prop} (h:p:=by
  rw [hs];refine mI ?_;refine eV [_,_,_,_,_] ?_;refine bQ hh ?_;intro b6 w6 hh;refine bR hh 0 [_,_,_,_,_] ?_;intro ws hh;replace hh:Hp _ (.blk _ _ [_,_,_,_,_] _::_) _:=hh;refine aa (ah ?_);refine aT 9 [[(6,none)],[(30,some 0)],[(2,none)],[(31,some 1),(32,some 2)],[(6,none)],[(34,some 4)],[(3,none)],[(35,some 5),(36,some 6)],[(6,none)]] [(8,38),(7,37),(6,36),(5,35),(4,34),(3,33),(2,32),(1,31),(0,30)] hh mixed VZ ?_;refine cP ?_;refine dL 0 ?_;refine ee 3 [_,_,_] ?_;refine dC (fun _ hj=>hcx _ (hT.hp hj.hp)) ?_;refine cP ?_;refine dL 0 ?_;refine ee 2 [_,_,_] ?_;refine dC (fun _ hj=>hcy _ (hT.hp hj.hp)) ?_;refine cP ?_;refine aJ ?_;intro f W hJ hV;have hb_8:=hJ.bl;obtain ⟨v38,v37,v36,v35,v34,v33,v32,v31,v30,_⟩:=hV;replace hh:=hJ.hp;refine aR (a8 (ae v38 (ae v37 (ae v36 (ae v35 (ae v34 (ae v33 (ae v32 (ae v31 (ae v30 aQ)))))))))) ?_;dsimp only [bH];clear hJ;refine bR hh 0 [_,_] ?_;intro ws hh;replace hh:Hp _ (.blk _ _ [_,_,_,_,_] _::_) _:=hh;refine bE ?_;refine bR hh 0 [_,_] ?_;intro ws hh;replace hh:Hp _ (.blk _ _ [_,_,_,_,_] _::_) _:=hh;refine aa (sr ?_);refine cn hh 0 [_,_,_,_,_] ?_
  refine bR hh 1 [_,_,_,_,_] ?_;intro ws hh;replace hh:Hp _ (_::.blk _ _ [_,_,_,_,_] _::_) _:=hh;refine aa (au ?_);refine Nm (ej rfl (ek (vs:=[_,_,_,_,_]) aO.out (hh.bZ (i:=1) (n:=5) rfl rfl) rfl) fF) ?_;exact ⟨rfl,hh.below⟩):p:=h
theorem Df {p:Prop} (h:p:=by
  refine bR hh 0 [_,_,_] ?_;intro ws hh;replace hh:Hp _ (.blk _ _ [_,_,_] _::_) _:=hh;refine aa (au ?_);exact Qf):p:=h
theorem Lz {p:Prop} (h:p:=by
  refine eV [_,_] ?_;refine bR hh 0 [_,_] ?_;intro ws hh;replace hh:Hp _ (.blk _ _ [_,_] _::_) _:=hh;refine aI (aa (au (aE ?_)));refine mW ?_;exact KP):p:=h
theorem dy {p:Prop} (h:p:=by
  exact V0):p:=h
section
variable {H:Type}{enc:TypeId×Value→H}{P:Program}
theorem oO (hl:laidOutB P=true) {W W':World} (hb:Below W.heap.size W W') (sp:Nat→Bool):∀(ts:List TypeId) (vs:List Value) (ds:List (DataW H)) (ps:List MemPlace),(∀t∈ts,P.readableRec t=true∧t<P.types.size)→
  (∀x∈ps,x.block<W.heap.size)→(∀x∈ps,sp x.block=true)→DataW.TrodAll enc P W 0 (fun _=>true) true ts vs ds ps→DataW.TrodAll enc P W' 0 sp true ts vs ds ps
 |[],vs,ds,ps,_,_,_,h=>by
  obtain ⟨rfl,rfl,rfl⟩:=trodAll_nil h;exact trodAll_mk0
 |t::ts,vs,ds,ps,hr,hlt,hsp,h=>by
  obtain ⟨v,vs',d,ds',p,q,rfl,rfl,rfl,h0,r0⟩:=trodAll_cons h;refine trodAll_cons_mk (WideElems.Trod_stays hl (hr t We).1 (hr t We).2 h0 (fun x hx=>hb.same (hlt x (XX _ hx))) (fun x hx=>hsp x (XX _ hx)))
   (oO hl hb sp ts vs' ds' q (fun t ht=>hr t (Wg _ ht)) (fun x hx=>hlt x (XA _ hx)) (fun x hx=>hsp x (XA _ hx)) r0)
theorem Li {f:Func}{s:ChangeSpec}{W W':World}{args:Array Value}{ds:List (DataW H)}{before:List MemPlace}{tb:TypeId}
  (hW:DataW.Whole enc P f.params.toList s.vars false W args.toList ds [] before) (hv:s.vars=[]) (hl:laidOutB P=true) (hr:∀t∈f.params.toList,P.readableRec t=true∧t<P.types.size)
  (hres:f.resultTypes= #[tb]) (hbool:P.underlying tb=some .bool) (hs1:(s.fn H (ds++[])).results=[.lit (.bool true)]) (hs2:(s.fn H (ds++[])).args=ds) (hs3:(s.fn H (ds++[])).vars=[]) (hb:Below W.heap.size W W'):
  s.post enc P f false true false false W args (.bool true) W':=by
 have hlt:∀p∈before,p.block<W.heap.size:=fun p hp=>by simpa using hW.lt p hp
 have hold:∀p∈before,(fun b=>decide (b<W.heap.size)) p.block=true:=fun p hp=>by simpa using hlt p hp
 have hW0:=hW;obtain ⟨pa,pv,hA,hV,hps,hz,hn⟩:=hW0;rw [hv] at hV;obtain ⟨_,rfl⟩:=trodVars_none hV;have hbp:before=pa:=by rw [hps,WG]
 subst hbp;have hA':∀sp:Nat→Bool,(∀p∈before,sp p.block=true)→DataW.TrodAll enc P W' 0 sp true f.params.toList args.toList (s.fn H (ds++[])).args before:=fun sp hsp=>by
  rw [hs2];exact oO hl hb sp _ _ _ _ hr hlt hsp hA
 have hV':∀sp:Nat→Bool,DataW.TrodVars enc P W' sp s.vars (s.fn H (ds++[])).vars []:=fun sp=>by
  rw [hv,hs3];rfl
 have hR:∀(b:Nat) (sp:Nat→Bool) (hd:Bool),DataW.TrodAll enc P W' b sp hd f.resultTypes.toList ((Value.bool true).resultList f.resultTypes.size) (s.fn H (ds++[])).results []:=fun b sp hd=>by
  rw [hres,hs1];exact trodAll_cons_mk (shut_bool hbool _) trodAll_mk0
 refine ⟨ds,[],before,[],before,[],hW,hR _ _ _,hA' _ hold,hV' _,World.keptBut_mono (fun p hp=>⟨hp, ?_⟩) (hb.frame (· ∈before)),fun _=> ?_⟩
 ·exact .inr (.inl hp)
 ·refine ⟨ok_one hres rfl (okWide_bool_mk hbool _),_,_,([]++before)++[],⟨[]++before,[],trodAll_append (hA' _ (fun _ _=>rfl)) (hR _ _ _),hV' _,rfl, ?_, ?_⟩, ?_⟩
  ·intro b off hp;have hp2:=hz b off (by simpa using hp);rw [hb.frozen (hlt _ (by simpa using hp))];exact hp2
  ·intro ha
   cases ha
  ·intro p hp _;simpa using hp
end
end Go.Proofs.YteeckcbbnegmcaaGreatDoor
