/- Lemmas for bernParts, part 1. -/
import Derived.KernelRfl
import Derived.Test.YtolamocnngihpaaGreatDoorRows
import Derived.WalkKit
import Derived.ProofKit
import Derived.OpenShut
import Derived.Carry
namespace Go.Proofs.YtolamocnngihpaaGreatDoor
open Go.ChangeShapes Go.WideShapes Go.ChangeAt Go.RowKit
theorem V5:type_of% @if_pos:=@if_pos
theorem V6:type_of% @if_neg:=@if_neg
theorem V7:type_of% @List.Sublist.cons_cons:=@List.Sublist.cons_cons
theorem V8:type_of% @Nat.zero_le:=@Nat.zero_le
theorem V9:type_of% @Nat.le_refl:=@Nat.le_refl
theorem Wa:type_of% @List.Sublist.cons:=@List.Sublist.cons
theorem Wb:type_of% @List.mem_of_getElem?:=@List.mem_of_getElem?
theorem Wc:type_of% @List.take_of_length_le:=@List.take_of_length_le
theorem Wd:type_of% @List.nil_append:=@List.nil_append
theorem We:type_of% @List.length_append:=@List.length_append
theorem Wf:type_of% @List.cons_append:=@List.cons_append
theorem Wg:type_of% @List.getElem?_map:=@List.getElem?_map
theorem Wh:type_of% @List.set_cons_zero:=@List.set_cons_zero
theorem Wi:type_of% @List.length_map:=@List.length_map
theorem Wj:type_of% @List.mem_cons_self:=@List.mem_cons_self
theorem Wk:type_of% @List.getElem?_eq_some_iff:=@List.getElem?_eq_some_iff
theorem Wl:type_of% @List.mem_cons_of_mem:=@List.mem_cons_of_mem
theorem Wm:type_of% @Bool.and_eq_true:=@Bool.and_eq_true
theorem Wn:type_of% @Nat.mul_one:=@Nat.mul_one
theorem Wo:type_of% @List.mem_map:=@List.mem_map
theorem Wp:type_of% @List.mem_cons:=@List.mem_cons
theorem Wq:type_of% @List.all_eq_true:=@List.all_eq_true
theorem Wr:type_of% @decide_eq_true:=@decide_eq_true
theorem Ws:type_of% @Nat.zero_add:=@Nat.zero_add
theorem Wt:type_of% @decide_eq_true_eq:=@decide_eq_true_eq
theorem Wu:type_of% @List.mem_singleton:=@List.mem_singleton
theorem Wv:type_of% @List.map_cons:=@List.map_cons
theorem Ww:type_of% @List.length_take:=@List.length_take
theorem Wx:type_of% @List.Sublist.slnil:=@List.Sublist.slnil
theorem Wy:type_of% @Nat.pow_add:=@Nat.pow_add
theorem Wz:type_of% @Nat.mul_comm:=@Nat.mul_comm
theorem WB:type_of% @Nat.mod_lt:=@Nat.mod_lt
theorem WE:type_of% @List.length_reverse:=@List.length_reverse
theorem WG:type_of% @decide_eq_false:=@decide_eq_false
theorem WH:type_of% @List.length_cons:=@List.length_cons
theorem WI:type_of% @List.set_cons_succ:=@List.set_cons_succ
theorem WJ:type_of% @List.append_nil:=@List.append_nil
theorem WK:type_of% @Nat.le_trans:=@Nat.le_trans
theorem WM:type_of% @Nat.mul_le_mul_left:=@Nat.mul_le_mul_left
theorem WN:type_of% @List.getElem?_eq_none:=@List.getElem?_eq_none
theorem WO:type_of% @List.sublist_cons_self:=@List.sublist_cons_self
theorem WQ:type_of% @Nat.pow_pos:=@Nat.pow_pos
theorem WS:type_of% @Nat.pow_le_pow_right:=@Nat.pow_le_pow_right
theorem WT:type_of% @Option.some.inj:=@Option.some.inj
theorem WU:type_of% @Nat.mod_eq_of_lt:=@Nat.mod_eq_of_lt
theorem WV:type_of% @List.map_nil:=@List.map_nil
theorem WW:type_of% @Nat.lt_or_ge:=@Nat.lt_or_ge
theorem WX:type_of% @List.map_append:=@List.map_append
theorem WY:type_of% @List.append_assoc:=@List.append_assoc
theorem WZ:type_of% @List.perm_middle:=@List.perm_middle
theorem W0:type_of% @Nat.pow_succ:=@Nat.pow_succ
theorem W3:type_of% @List.mem_append:=@List.mem_append
theorem W4:type_of% @Bool.false_or:=@Bool.false_or
theorem W5:type_of% @Nat.pow_mul:=@Nat.pow_mul
theorem W6:type_of% @List.map_map:=@List.map_map
theorem W7:type_of% @Nat.mul_add:=@Nat.mul_add
theorem W8:type_of% @List.getElem?_range:=@List.getElem?_range
theorem W9:type_of% @List.take_append_drop:=@List.take_append_drop
theorem Xa:type_of% @Nat.div_eq_of_lt:=@Nat.div_eq_of_lt
theorem Xb:type_of% @Nat.mul_assoc:=@Nat.mul_assoc
theorem Xc:type_of% @Nat.sub_self:=@Nat.sub_self
theorem Xd:type_of% @Int.toNat_natCast:=@Int.toNat_natCast
theorem Xe:type_of% @Nat.lt_of_lt_of_le:=@Nat.lt_of_lt_of_le
theorem Xf:type_of% @List.Sublist.refl:=@List.Sublist.refl
theorem Xg:type_of% @Nat.min_eq_left:=@Nat.min_eq_left
theorem Xh:type_of% @List.getElem?_reverse:=@List.getElem?_reverse
theorem Xi:type_of% @Nat.lt_of_le_of_lt:=@Nat.lt_of_le_of_lt
theorem Xj:type_of% @Option.getD_some:=@Option.getD_some
theorem Xk:type_of% @Int.natCast_mul:=@Int.natCast_mul
theorem Xl:type_of% @List.getD_eq_getElem?_getD:=@List.getD_eq_getElem?_getD
theorem Xm:type_of% @congrArg:=@congrArg
theorem Xn:type_of% @List.mem_range:=@List.mem_range
theorem Xo:type_of% @Array.getD_eq_getD_getElem?:=@Array.getD_eq_getD_getElem?
theorem Xp:type_of% @List.mem_filterMap:=@List.mem_filterMap
theorem Xq:type_of% @List.nil_sublist:=@List.nil_sublist
theorem Xr:type_of% @Nat.mul_le_mul_right:=@Nat.mul_le_mul_right
theorem Xs:type_of% @Nat.succ_mul:=@Nat.succ_mul
theorem Xt:type_of% @List.getElem?_append_right:=@List.getElem?_append_right
theorem Xu:type_of% @List.length_drop:=@List.length_drop
theorem Xv:type_of% @List.drop_eq_getElem_cons:=@List.drop_eq_getElem_cons
theorem Xw:type_of% @Nat.add_mul_div_left:=@Nat.add_mul_div_left
theorem Xx:type_of% @Option.map_some:=@Option.map_some
theorem Xy:type_of% @beq_iff_eq:=@beq_iff_eq
theorem Xz:type_of% @List.getElem?_eq_getElem:=@List.getElem?_eq_getElem
theorem XA:type_of% @List.eq_nil_of_length_eq_zero:=@List.eq_nil_of_length_eq_zero
theorem XB:type_of% @List.getElem?_set:=@List.getElem?_set
theorem XC:type_of% @Nat.mul_succ:=@Nat.mul_succ
theorem XD:type_of% @List.length_replicate:=@List.length_replicate
theorem XE:type_of% @List.filterMap_cons:=@List.filterMap_cons
theorem XF:type_of% @List.getElem?_take:=@List.getElem?_take
theorem XG:type_of% @Nat.div_div_eq_div_mul:=@Nat.div_div_eq_div_mul
theorem XH:type_of% @Nat.div_lt_iff_lt_mul:=@Nat.div_lt_iff_lt_mul
theorem XI:type_of% @List.mem_filter:=@List.mem_filter
theorem XJ:type_of% @List.pairwise_cons:=@List.pairwise_cons
theorem XK:type_of% @List.ext_getElem?:=@List.ext_getElem?
theorem XL:type_of% @Int.sign_eq_one_of_pos:=@Int.sign_eq_one_of_pos
theorem XM:type_of% @Nat.eq_zero_or_pos:=@Nat.eq_zero_or_pos
theorem XN:type_of% @Option.some.injEq:=@Option.some.injEq
theorem XO:type_of% @Int.sign_eq_neg_one_of_neg:=@Int.sign_eq_neg_one_of_neg
theorem XP:type_of% @Nat.one_mul:=@Nat.one_mul
theorem XQ:type_of% @of_decide_eq_true:=@of_decide_eq_true
theorem XR:type_of% @List.nodup_cons:=@List.nodup_cons
theorem XS:type_of% @List.take_zero:=@List.take_zero
theorem XT:type_of% @Nat.div_add_mod:=@Nat.div_add_mod
theorem XU:type_of% @List.mem_append_right:=@List.mem_append_right
theorem XV:type_of% @Nat.add_mul_mod_self_left:=@Nat.add_mul_mod_self_left
theorem XW:type_of% @List.map_congr_left:=@List.map_congr_left
theorem XX:type_of% @List.drop_of_length_le:=@List.drop_of_length_le
theorem XY:type_of% @List.getElem?_drop:=@List.getElem?_drop
theorem XZ:type_of% @Nat.add_zero:=@Nat.add_zero
theorem X1:type_of% @List.sublist_append_left:=@List.sublist_append_left
theorem X2:type_of% @Option.bind_some:=@Option.bind_some
theorem X4:type_of% @Bool.or_eq_true:=@Bool.or_eq_true
theorem X5:type_of% @List.mem_append_left:=@List.mem_append_left
theorem X6:type_of% @Nat.add_comm:=@Nat.add_comm
theorem X7:type_of% @Int.natCast_add:=@Int.natCast_add
theorem X8:type_of% @List.length_set:=@List.length_set
theorem X9:type_of% @Int.natAbs_mul:=@Int.natAbs_mul
theorem Ya:type_of% @List.any_eq_false:=@List.any_eq_false
theorem Yb:type_of% @List.any_eq_true:=@List.any_eq_true
theorem Yc:type_of% @List.mem_iff_getElem?:=@List.mem_iff_getElem?
theorem Yd:type_of% @List.mem_of_mem_take:=@List.mem_of_mem_take
theorem Ye:type_of% @List.length_range:=@List.length_range
theorem Yf:type_of% @List.set_append_right:=@List.set_append_right
theorem Yg:type_of% @Classical.not_not:=@Classical.not_not
theorem Yh:type_of% @List.getElem?_append_left:=@List.getElem?_append_left
theorem Yi:type_of% @Bool.and_eq_true_iff:=@Bool.and_eq_true_iff
theorem Yj:type_of% @List.size_toArray:=@List.size_toArray
theorem Yk:type_of% @Dyadic.zero_add:=@Dyadic.zero_add
theorem Yl:type_of% @Nat.add_mul:=@Nat.add_mul
theorem Ym:type_of% @Option.map_eq_some_iff:=@Option.map_eq_some_iff
theorem Yn:type_of% @List.map_toArray:=@List.map_toArray
theorem Yo:type_of% @decide_eq_false_iff_not:=@decide_eq_false_iff_not
theorem Yp:type_of% @List.replicate_succ:=@List.replicate_succ
theorem Yq:type_of% @List.mem_flatMap:=@List.mem_flatMap
theorem Yr:type_of% @Nat.mul_le_mul:=@Nat.mul_le_mul
theorem Ys:type_of% @List.getElem?_toArray:=@List.getElem?_toArray
theorem Yt:type_of% @Dyadic.one_mul:=@Dyadic.one_mul
theorem Yu:type_of% @List.flatMap_append:=@List.flatMap_append
theorem Yv:type_of% @Array.getElem?_eq_getElem:=@Array.getElem?_eq_getElem
theorem Yw:type_of% @Nat.div_le_self:=@Nat.div_le_self
theorem Yx:type_of% @Dyadic.add_zero:=@Dyadic.add_zero
theorem Yy:type_of% @List.map_drop:=@List.map_drop
theorem Yz:type_of% @List.filterMap_append:=@List.filterMap_append
theorem YA:type_of% @Nat.pow_zero:=@Nat.pow_zero
theorem YB:type_of% @List.flatMap_cons:=@List.flatMap_cons
theorem YC:type_of% @List.map_set:=@List.map_set
theorem YD:type_of% @Classical.byContradiction:=@Classical.byContradiction
theorem YE:type_of% @Nat.mul_lt_mul_of_pos_right:=@Nat.mul_lt_mul_of_pos_right
theorem YF:type_of% @List.any_cons:=@List.any_cons
theorem YG:type_of% @Nat.div_one:=@Nat.div_one
theorem YH:type_of% @Int.natAbs_pow:=@Int.natAbs_pow
theorem YI:type_of% @List.getElem?_cons_zero:=@List.getElem?_cons_zero
theorem YJ:type_of% @List.range_succ:=@List.range_succ
theorem YK:type_of% @Bool.eq_false_iff:=@Bool.eq_false_iff
theorem YL:type_of% @List.map_singleton:=@List.map_singleton
theorem YM:type_of% @List.reverse_reverse:=@List.reverse_reverse
theorem YN:type_of% @List.any_append:=@List.any_append
theorem YO:type_of% @Array.getElem?_eq_none:=@Array.getElem?_eq_none
theorem YP:type_of% @Nat.mod_add_div:=@Nat.mod_add_div
theorem YQ:type_of% @Array.ext':=@Array.ext'
theorem YR:type_of% @Int.mul_le_mul:=@Int.mul_le_mul
theorem YS:type_of% @List.any_nil:=@List.any_nil
theorem YT:type_of% @List.getElem?_cons_succ:=@List.getElem?_cons_succ
theorem YU:type_of% @List.filter_append:=@List.filter_append
theorem YV:type_of% @List.map_take:=@List.map_take
theorem YW:type_of% @Nat.zero_mul:=@Nat.zero_mul
theorem YX:type_of% @List.mem_reverse:=@List.mem_reverse
theorem YY:type_of% @Array.getElem?_eq_some_iff:=@Array.getElem?_eq_some_iff
theorem YZ:type_of% @List.length_nil:=@List.length_nil
theorem Y0:type_of% @Nat.lt_of_not_le:=@Nat.lt_of_not_le
theorem Y1:type_of% @Bool.not_true:=@Bool.not_true
theorem Y2:type_of% @UInt8.toNat_inj:=@UInt8.toNat_inj
theorem Y3:type_of% @List.take_length:=@List.take_length
theorem Y4:type_of% @List.mem_of_mem_drop:=@List.mem_of_mem_drop
theorem Y5:type_of% @Bool.false_eq_true:=@Bool.false_eq_true
theorem Y6:type_of% @List.set_eq_take_append_cons_drop:=@List.set_eq_take_append_cons_drop
theorem Y7:type_of% @Nat.add_assoc:=@Nat.add_assoc
theorem Y8:type_of% @List.reverse_append:=@List.reverse_append
theorem Y9:type_of% @List.length_finRange:=@List.length_finRange
theorem Za:type_of% @Bool.not_eq_true':=@Bool.not_eq_true'
theorem Zb:type_of% @Int.lt_trichotomy:=@Int.lt_trichotomy
theorem Zc:type_of% @List.nodup_append:=@List.nodup_append
theorem Zd:type_of% @List.take_take:=@List.take_take
theorem Ze:type_of% @Int.mul_comm:=@Int.mul_comm
theorem Zf:type_of% @UInt8.toNat_ofNat':=@UInt8.toNat_ofNat'
theorem Zg:type_of% @List.reverse_cons:=@List.reverse_cons
theorem Zh:type_of% @List.sublist_append_right:=@List.sublist_append_right
theorem Zi:type_of% @Array.all_eq_true':=@Array.all_eq_true'
theorem Zj:type_of% @List.foldl_cons:=@List.foldl_cons
theorem Zk:type_of% @List.foldl_append:=@List.foldl_append
theorem Zl:type_of% @List.replicate_zero:=@List.replicate_zero
theorem Zm:type_of% @Int.natCast_pow:=@Int.natCast_pow
theorem Zn:type_of% @Bool.and_eq_false_iff:=@Bool.and_eq_false_iff
theorem Zo:type_of% @Array.length_toList:=@Array.length_toList
theorem Zp:type_of% @Nat.mul_left_comm:=@Nat.mul_left_comm
theorem Zq:type_of% @List.Pairwise.nil:=@List.Pairwise.nil
theorem Zr:type_of% @List.take_succ_cons:=@List.take_succ_cons
theorem Zs:type_of% @Int.eq_ofNat_of_zero_le:=@Int.eq_ofNat_of_zero_le
theorem Zt:type_of% @List.length_zipWith:=@List.length_zipWith
theorem Zu:type_of% @Int.natAbs_ediv_le_natAbs:=@Int.natAbs_ediv_le_natAbs
theorem Zv:type_of% @List.getElem?_replicate:=@List.getElem?_replicate
theorem Zw:type_of% @List.take_append_of_le_length:=@List.take_append_of_le_length
theorem Zx:type_of% @List.pairwise_singleton:=@List.pairwise_singleton
theorem Zy:type_of% @List.length_filter_le:=@List.length_filter_le
theorem Zz:type_of% @List.length_eq_zero_iff:=@List.length_eq_zero_iff
theorem ZA:type_of% @List.filter_cons_of_neg:=@List.filter_cons_of_neg
theorem ZB:type_of% @Int.sign_eq_zero_iff_zero:=@Int.sign_eq_zero_iff_zero
theorem ZC:type_of% @Nat.le_mul_of_pos_right:=@Nat.le_mul_of_pos_right
theorem ZD:type_of% @List.contains_eq_mem:=@List.contains_eq_mem
theorem ZE:type_of% @List.filter_eq_nil_iff:=@List.filter_eq_nil_iff
theorem ZF:type_of% @Array.toList_setIfInBounds:=@Array.toList_setIfInBounds
def zL0:List (List (Nat×Option Nat)):=[[(4,none)],[(21,some 0)],[(1,none)],[(23,some 2)],[(22,some 1),(24,some 3)],[(25,some 4)],[(26,some 5)],[(4,none),(27,some 6)],[(28,some 7),(27,some 6)],[(29,some 8),(27,some 6)],[(30,some 9),(27,some 6)],[(27,some 6),(31,some 10)],[(32,some 11)],[(4,none),(33,some 12)],[(34,some 13),(33,some 12)],[(35,some 14),(33,some 12)],[(4,none),(33,some 12)],[(37,some 16),(33,some 12)],[(36,some 15),(38,some 17),(33,some 12)],[(33,some 12),(39,some 18)],[(40,some 19)],[(3,none),(41,some 20)],[(42,some 21),(41,some 20)],[(43,some 22),(41,some 20)],[(1,none),(44,some 23)],[(45,some 24),(44,some 23)],[(3,none),(44,some 23)],[(47,some 26),(44,some 23)],[(46,some 25),(48,some 27),(44,some 23)],[(49,some 28),(44,some 23)],[(50,some 29),(44,some 23)],[(4,none),(44,some 23)],[(52,some 31),(44,some 23)]]
def zL1:List Nat:=[0,1,0,4,15,31,63,127,255,511,1023,2047,4095,8191,16383,32767,8191,73727,262143,524287,1048575,2097151,4194303,8388607,16777215,33554431,16777215,83886079,268435455,536870911,1073741823,16777215,2164260863,8589934591,17179869183,34359738367]
def zL2:List Nat:=[14,53,54,55,56,57,58,59,60,61,62,63,64,65,66,67,68,69]
theorem VZ {p:Prop} (h:p:=by omega):p:=h
theorem V0 {p:Prop} (h:p:=by decide):p:=h
theorem V2 {p:Prop} (h:p:=by kernel_rfl):p:=h
theorem Jt {P Q:Prop} (p:P) (h:P→Q:=by intro kQ;exact DM (b:=4294967295) rfl rfl (by first|assumption|omega) (by first|assumption|omega) V0 kQ):Q:=h p
theorem xr {P Q:Prop} (p:P) (h:P→Q:=by intro kQ;exact l8 (s:=32) (m:=4294967296) rfl rfl V0 V0 V0 kQ):Q:=h p
theorem EC {P Q:Prop} (p:P) (h:P→Q:=by intro kQ;exact l8 (s:=8) (m:=256) rfl rfl V0 V0 V0 kQ):Q:=h p
theorem kV {P Q:Prop} (p:P) (h:P→Q:=by intro kQ;exact DP a9.out a9.out rfl (by first|assumption|omega) V0 kQ):Q:=h p
theorem E9 {P Q:Prop} (p:P) (h:P→Q:=by intro kQ;exact dP (aa (cF (ao (ai (sr (mI (mI kQ)))))))):Q:=h p
theorem wH {P Q:Prop} (p:P) (h:P→Q:=by intro kQ;exact Dn a9.out a9.out rfl VZ VZ V0 kQ):Q:=h p
theorem jg {P Q:Prop} (p:P) (h:P→Q:=by intro kQ;exact kP V0 rfl rfl V0 kQ):Q:=h p
theorem kx {P Q:Prop} (p:P) (h:P→Q:=by intro kQ;exact cK (k:=j) a9.out aJ.size rfl rfl VZ VZ V0 kQ):Q:=h p
theorem gP {P Q:Prop} (p:P) (h:P→Q:=by intro kQ;exact bX aJ.out rfl ((hr.ext hh.below).wN (by assumption)) V0 kQ):Q:=h p
theorem me {P Q:Prop} (p:P) (h:P→Q:=by intro kQ;exact Ra rfl rfl VZ VZ VZ V0 kQ):Q:=h p
theorem Gp {P Q:Prop} (p:P) (h:P→Q:=by intro kQ;exact TB rfl rfl (by first|assumption|omega) (by first|assumption|omega) V0 kQ):Q:=h p
theorem Ij {P Q:Prop} (p:P) (h:P→Q:=by intro kQ;exact cf hh (i:=0) (vs:=[_]) rfl rfl (cP rfl) rfl aJ.out rfl (by rw [bm,aX];omega) rfl kQ):Q:=h p
theorem fN {P Q:Prop} (p:P) (h:P→Q:=by intro kQ;exact az (bF (ai (ak kQ)))):Q:=h p
theorem oE {P Q:Prop} (p:P) (h:P→Q:=by intro kQ;exact a0 (aa (ah (cF (aZ (aC (aC (br (ai (sr (mL kQ))))))))))):Q:=h p
theorem Eo {P Q:Prop} (p:P) (h:P→Q:=by intro kQ;exact ct (aa (cT (sr (aI (aa (av (aK kQ)))))))):Q:=h p
theorem oB {P Q:Prop} (p:P) (h:P→Q:=by intro kQ;exact RC rfl rfl VZ VZ V0 kQ):Q:=h p
theorem II {P Q:Prop} (p:P) (h:P→Q:=by intro kQ;exact dP (aa (cT (ao (ai (ah (aq (aq (ah kQ))))))))):Q:=h p
theorem Ie {P Q:Prop} (p:P) (h:P→Q:=by intro kQ;exact aN 8 [[(0,none)],[(5,none)],[(28,some 0),(29,some 1)],[(30,some 2)],[(1,none)],[(5,none)],[(32,some 4),(33,some 5)],[(34,some 6)]] [(7,35),(6,34),(5,33),(4,32),(3,31),(2,30),(1,29),(0,28)] hh mixed V2 kQ):Q:=h p
theorem AY {P Q:Prop} (p:P) (h:P→Q:=by intro kQ;exact uF (fun _ hj=>(hr.ext hj.hp.below).wN hx3) kQ):Q:=h p
theorem z4 {P Q:Prop} (p:P) (h:P→Q:=by intro kQ;exact uF (fun _ hj=>(hs.ext hj.hp.below).wN hy3) kQ):Q:=h p
theorem JQ {P Q:Prop} (p:P) (h:P→Q:=by intro kQ;exact aU (bg (ae v35 (ae v34 (ae v33 (ae v32 (ae v31 (ae v30 (ae v29 (ae v28 aT))))))))) kQ):Q:=h p
theorem PS {P Q:Prop} (p:P) (h:P→Q:=by intro kQ;exact aN 8 [[(0,none)],[(5,none)],[(38,some 0),(39,some 1)],[(40,some 2)],[(1,none)],[(5,none)],[(42,some 4),(43,some 5)],[(44,some 6)]] [(7,45),(6,44),(5,43),(4,42),(3,41),(2,40),(1,39),(0,38)] hh mixed V2 kQ):Q:=h p
theorem O6 {P Q:Prop} (p:P) (h:P→Q:=by intro kQ;exact aU (bg (ae v45 (ae v44 (ae v43 (ae v42 (ae v41 (ae v40 (ae v39 (ae v38 aT))))))))) kQ):Q:=h p
theorem wF {P Q:Prop} (p:P) (h:P→Q:=by intro kQ;exact a0 (aa (ah (cT (ao (ai (ah (aq (sr (mI (aI (aa (sr (aI (aa (ah (sr (mI (mL (aF kQ)))))))))))))))))))):Q:=h p
theorem LF {P Q:Prop} (p:P) (h:P→Q:=by intro kQ;exact cK (k:=done.length) a9.out aJ.size rfl rfl VZ VZ V0 kQ):Q:=h p
theorem ji {P Q:Prop} (p:P) (h:P→Q:=by intro kQ;exact bX aJ.out rfl (hh.eK (i:=0) rfl (by first|assumption|(simp only [Wn];assumption))) V0 kQ):Q:=h p
theorem oe {P Q:Prop} (p:P) (h:P→Q:=by intro kQ;exact pg (k:=done.length) a9.out aJ.size rfl rfl VZ VZ V0 kQ):Q:=h p
theorem wE {P Q:Prop} (p:P) (h:P→Q:=by intro kQ;exact cf hh (i:=0) (vs:=[_]) rfl rfl (cP rfl) rfl aJ.out rfl (by rw [bm];simp only [We,WH];omega) rfl kQ):Q:=h p
theorem wU {P Q:Prop} (p:P) (h:P→Q:=by intro kQ;exact aI (az (bF (ai (ak kQ))))):Q:=h p
theorem sa {P Q:Prop} (p:P) (h:P→Q:=by intro kQ;exact aL (aa (ah (sr (mL (aF (mI (aa (aq kQ))))))))):Q:=h p
theorem dY {P Q:Prop} (p:P) (h:P→Q:=by intro kQ;exact a0 (aa (ah (cT (ao (ai (ah (aq (sr (mI kQ)))))))))):Q:=h p
theorem fP {P Q:Prop} (p:P) (h:P→Q:=by intro kQ;exact dq (k:=i) a9.out aJ.size rfl rfl VZ VZ V0 kQ):Q:=h p
theorem ub {P Q:Prop} (p:P) (h:P→Q:=by intro kQ;exact cV hh (cs:=[_]) a9.out aJ.out (aV (cP rfl) bW) rfl rfl V0 V0 V0 rfl V0 kQ):Q:=h p
theorem se {P Q:Prop} (p:P) (h:P→Q:=by intro kQ;exact aE (oP a _ ha) au.out rfl V0 kQ):Q:=h p
theorem Gc {P Q:Prop} (p:P) (h:P→Q:=by intro kQ;exact aE (oP b _ hb) au.out rfl V0 kQ):Q:=h p
theorem Jk {P Q:Prop} (p:P) (h:P→Q:=by intro kQ;exact bq hh (Cv _ _ _ _ _ _ (aY 18446744073709551616 (bN a)) (aY 18446744073709551616 (bN b)) _ (hh.aD (i:=1) rfl) (hh.aD (i:=0) rfl) (jm _) (jm _) (hh.fm (i:=1) rfl) (hh.fm (i:=0) rfl) VZ VZ) rfl kQ):Q:=h p
theorem Ce {P Q:Prop} (p:P) (h:P→Q:=by intro kQ;exact bX aJ.out rfl (hh.eK (i:=2) rfl (by first|assumption|(simp only [Wn];assumption))) V0 kQ):Q:=h p
theorem Gm {P Q:Prop} (p:P) (h:P→Q:=by intro kQ;exact a0 (aa (ah (cF (aZ (aC (aC (br (ai (sr (aI (aa (av kQ))))))))))))):Q:=h p
theorem eb {P Q:Prop} (p:P) (h:P→Q:=by intro kQ;exact a0 (aa (ah (cT (ao (ai (ah (aq (sr kQ))))))))):Q:=h p
theorem lf {P Q:Prop} (p:P) (h:P→Q:=by intro kQ;exact aL (az (bF (ai (ak kQ))))):Q:=h p
theorem kW {P Q:Prop} (p:P) (h:P→Q:=by intro kQ;exact rY a9.out rfl rfl VZ (by assumption) V0 kQ):Q:=h p
theorem pw {P Q:Prop} (p:P) (h:P→Q:=by intro kQ;exact LO (dT rfl (dW (vs:=[_,_]) aJ.out (hh.bP (i:=0) (n:=2) rfl rfl) rfl) e8) kQ):Q:=h p
theorem J9 {P Q:Prop} (p:P) (h:P→Q:=by intro kQ;exact aj (N:=13) (l:=[.agg #[.bool s,.string m]]) Tryz.func117 rfl rfl (by simp) kQ):Q:=h p
theorem EP {P Q:Prop} (p:P) (h:P→Q:=by intro kQ;exact aB (aa (cT (sr (aI (aa (av (cm (aK kQ))))))))):Q:=h p
theorem Gb {P Q:Prop} (p:P) (h:P→Q:=by intro kQ;exact L7 a9.out rfl rfl (by first|rfl|assumption|decide) V0 kQ):Q:=h p
theorem E5 {P Q:Prop} (p:P) (h:P→Q:=by intro kQ;exact aa (cF (ao (ai (ah (sr (bC kQ))))))):Q:=h p
theorem I8 {P Q:Prop} (p:P) (h:P→Q:=by intro kQ;exact aN 10 [[(2,none)],[(5,some 0)],[(3,none)],[(7,some 2)],[(6,some 1),(8,some 3)],[(2,none)],[(10,some 5)],[(3,none)],[(12,some 7)],[(11,some 6),(13,some 8)]] [(9,14),(8,13),(7,12),(6,11),(5,10),(4,9),(3,8),(2,7),(1,6),(0,5)] hh mixed V2 kQ):Q:=h p
theorem F3 {P Q:Prop} (p:P) (h:P→Q:=by intro kQ;exact aU (bg (ae v14 (ae v13 (ae v12 (ae v11 (ae v10 (ae v9 (ae v8 (ae v7 (ae v6 (ae v5 aT))))))))))) kQ):Q:=h p
theorem xw {P Q:Prop} (p:P) (h:P→Q:=by intro kQ;exact aa (ah (sr (mL (aF (mI (aa (aq kQ)))))))):Q:=h p
theorem cA {P Q:Prop} (p:P) (h:P→Q:=by intro kQ;exact cK (k:=i) a9.out aJ.size rfl rfl VZ VZ V0 kQ):Q:=h p
theorem mf {P Q:Prop} (p:P) (h:P→Q:=by intro kQ;exact a0 (aa (ah (cF (aZ (aC (aC (br (ai (sr kQ)))))))))):Q:=h p
theorem Jc {P Q:Prop} (p:P) (h:P→Q:=by intro kQ;exact aN 3 [[(2,none)],[(3,none)],[(6,some 1)]] [(2,7),(1,6),(0,5)] hh mixed V2 kQ):Q:=h p
theorem tK {P Q:Prop} (p:P) (h:P→Q:=by intro kQ;exact aU (bg (ae v7 (ae v6 (ae v5 aT)))) kQ):Q:=h p
theorem Fq {P Q:Prop} (p:P) (h:P→Q:=by intro kQ;exact cV hh (cs:=[_,_,_,_]) a9.out aJ.out (aV (g6 rfl) (aV (g6 rfl) bW)) rfl rfl V0 V0 V0 rfl V0 kQ):Q:=h p
theorem EV {P Q:Prop} (p:P) (h:P→Q:=by intro kQ;exact aN 10 [[(2,none)],[(18,some 0)],[(1,none)],[(20,some 2)],[(19,some 1),(21,some 3)],[(2,none)],[(23,some 5)],[(22,some 4),(24,some 6)],[(25,some 7)],[]] [(9,5),(8,26),(7,25),(6,24),(5,23),(4,22),(3,21),(2,20),(1,19),(0,18)] hh mixed V2 kQ):Q:=h p
theorem E4 {P Q:Prop} (p:P) (h:P→Q:=by intro kQ;exact a6 (i:=3) (fun ρ1 w1 hj hR=>K2 (show ρ1 20=Value.int _ _ from hR.1) VZ VZ) kQ):Q:=h p
theorem Eh {P Q:Prop} (p:P) (h:P→Q:=by intro kQ;exact aP (i:=9) (cu _ 38 _) cu.ext (fun ρ1 w1 hj hR=>gL aJ.out hj.bl (fun v w2 h hb=>⟨hb,h⟩)) kQ):Q:=h p
theorem Fm {P Q:Prop} (p:P) (h:P→Q:=by intro kQ;exact aU (bg (ae e5 (ae v26 (ae v25 (ae v24 (ae v23 (ae v22 (ae v21 (ae v20 (ae v19 (ae v18 aT))))))))))) kQ):Q:=h p
theorem K8 {P Q:Prop} (p:P) (h:P→Q:=by intro kQ;exact aj (N:=47) (l:=[.agg #[.bool true,.string a],.int .i64 (-(m:Int))]) Tryz.func119 rfl rfl (by simp) kQ):Q:=h p
theorem uk {P Q:Prop} (p:P) (h:P→Q:=by intro kQ;exact aa (cF (ao (ai (sr kQ))))):Q:=h p
theorem Ou {P Q:Prop} (p:P) (h:P→Q:=by intro kQ;exact aN 5 [[(1,none)],[(3,some 0)],[(4,some 1)],[(1,none)],[(6,some 3)]] [(4,7),(3,6),(2,5),(1,4),(0,3)] hh mixed V2 kQ):Q:=h p
theorem JA {P Q:Prop} (p:P) (h:P→Q:=by intro kQ;exact aj (N:=41) (l:=[.agg #[.bool a.neg,.string a.bk,.int .i64 a.e],.agg #[.bool b.neg,.string b.bk,.int .i64 b.e]]) Tryz.func112 rfl rfl (by simp) kQ):Q:=h p
theorem Lg {P Q:Prop} (p:P) (h:P→Q:=by intro kQ;exact aN 3 [[(2,none)],[(7,some 0)],[(3,none)]] [(2,9),(1,8),(0,7)] hh mixed V2 kQ):Q:=h p
theorem Io {P Q:Prop} (p:P) (h:P→Q:=by intro kQ;exact dC (fun _ hj=>eF a _ (hT.hp hj.hp) VZ VZ VZ) kQ):Q:=h p
theorem P4 {P Q:Prop} (p:P) (h:P→Q:=by intro kQ;exact aj (N:=28) (l:=[.agg #[.bool a.neg,.string a.bk,.int .i64 a.e],.agg #[.bool b.neg,.string b.bk,.int .i64 b.e]]) Tryz.func125 rfl rfl (by simp) kQ):Q:=h p
theorem te {P Q:Prop} (p:P) (h:P→Q:=by intro kQ;exact cY (aa (cF (ao (ai (sr kQ)))))):Q:=h p
theorem FN {P Q:Prop} (p:P) (h:P→Q:=by intro kQ;exact cz (vs:=[_,_,_]) aJ.out rfl (((hr.ext hh.below).recAt NR.len hx)) rfl V0 kQ):Q:=h p
theorem xI {P Q:Prop} (p:P) (h:P→Q:=by intro kQ;exact cV hh (cs:=[_,_,_,_,_,_]) a9.out aJ.out (aV (g6 rfl) (aV (g6 rfl) bW)) rfl rfl V0 V0 V0 rfl V0 kQ):Q:=h p
theorem Cd {P Q:Prop} (p:P) (h:P→Q:=by intro kQ;exact bq hh (lj 1 _ (hT.hp hh) VZ VZ) rfl kQ):Q:=h p
theorem D9 {P Q:Prop} (p:P) (h:P→Q:=by intro kQ;exact cK (k:=0) a9.out aJ.size rfl rfl VZ VZ V0 kQ):Q:=h p
theorem iJ {P Q:Prop} (p:P) (h:P→Q:=by intro kQ;exact rm (by first|exact sP rfl|exact sH rfl) V0 kQ):Q:=h p
theorem BZ {P Q:Prop} (p:P) (h:P→Q:=by intro kQ;exact aa (cF (ao (bF (ai (ak kQ)))))):Q:=h p
theorem Ir {P Q:Prop} (p:P) (h:P→Q:=by intro kQ;exact DM (b:=1) rfl rfl (by first|assumption|omega) (by first|assumption|omega) V0 kQ):Q:=h p
theorem nj {P Q:Prop} (p:P) (h:P→Q:=by intro kQ;exact cv hh (i:=1) rfl rfl rfl (hh.aD (i:=0) rfl) a9.out aJ.out rfl V0 (by first|rfl|exact dz _|exact cX _|exact bB _|exact bU NR.one _) VZ VZ V0 kQ):Q:=h p
theorem pQ {P Q:Prop} (p:P) (h:P→Q:=by intro kQ;exact aL (az (bF (ai (ak (mI kQ)))))):Q:=h p
theorem xi {P Q:Prop} (p:P) (h:P→Q:=by intro kQ;exact aL (aa (ah (sr (aI (aa (aq kQ))))))):Q:=h p
theorem EB {P Q:Prop} (p:P) (h:P→Q:=by intro kQ;exact a0 (aa (cT (ao (ai (ah (aq kQ))))))):Q:=h p
theorem xB {P Q:Prop} (p:P) (h:P→Q:=by intro kQ;exact az (bF (ai (ak (mI kQ))))):Q:=h p
theorem Ku {P Q:Prop} (p:P) (h:P→Q:=by intro kQ;exact a0 (aa (cF (aZ (aC (aC (br (ai (sr (mL kQ)))))))))):Q:=h p
theorem Kc {P Q:Prop} (p:P) (h:P→Q:=by intro kQ;exact dP (aa (cT (ao (ai (ah (aq (ah (sr (mL (mI kQ))))))))))):Q:=h p
theorem z6 {P Q:Prop} (p:P) (h:P→Q:=by intro kQ;exact bq hh (iL A n c j xs _ (hx.ext hh.below) hdx VZ VZ) rfl kQ):Q:=h p
theorem BR {P Q:Prop} (p:P) (h:P→Q:=by intro kQ;exact bq hh (iL B m c' j ys _ (hy.ext hh.below) hdy VZ VZ) rfl kQ):Q:=h p
theorem kT {P Q:Prop} (p:P) (h:P→Q:=by intro kQ;exact a0 (aa (cT (ao (ai (ah (aq (sr (mL (mI kQ)))))))))):Q:=h p
theorem K4 {P Q:Prop} (p:P) (h:P→Q:=by intro kQ;exact gB (n:=n) hh rfl rfl VZ VZ a9.out aJ.out rfl VZ VZ V0 kQ):Q:=h p
theorem LG {P Q:Prop} (p:P) (h:P→Q:=by intro kQ;exact cf hh (i:=0) (vs:=[_]) rfl rfl (cP rfl) rfl aJ.out rfl (by rw [hll];omega) rfl kQ):Q:=h p
theorem Ai {P Q:Prop} (p:P) (h:P→Q:=by intro kQ;exact aI (az (bF (ai (ak (mI kQ)))))):Q:=h p
theorem xD {P Q:Prop} (p:P) (h:P→Q:=by intro kQ;exact aE (hZ a _ ha) au.out rfl V0 kQ):Q:=h p
theorem FJ {P Q:Prop} (p:P) (h:P→Q:=by intro kQ;exact aE (hZ b _ hb) au.out rfl V0 kQ):Q:=h p
theorem JE {P Q:Prop} (p:P) (h:P→Q:=by intro kQ;exact a0 (aa (cT (ao (ai (ah (aq (ak (mL (mL (mI kQ))))))))))):Q:=h p
theorem Iy {P Q:Prop} (p:P) (h:P→Q:=by intro kQ;exact bq hh (fa _ _ _ (aY 2 (bN m)) _ (hh.aD (i:=0) rfl) (jH _) (hh.fm (i:=0) rfl) VZ) rfl kQ):Q:=h p
theorem xc {P Q:Prop} (p:P) (h:P→Q:=by intro kQ;exact LO (dT rfl (dW (vs:=[_,_]) aJ.out (hh.bP (i:=1) (n:=2) rfl rfl) rfl) e8) kQ):Q:=h p
theorem EO {P Q:Prop} (p:P) (h:P→Q:=by intro kQ;exact ct (aa (cF (ao (ai (ah (sr (bC kQ)))))))):Q:=h p
theorem Aq {P Q:Prop} (p:P) (h:P→Q:=by intro kQ;exact aa (cT (sr (aI (aa (av (aK kQ))))))):Q:=h p
theorem EM {P Q:Prop} (p:P) (h:P→Q:=by intro kQ;exact aa (cF (ao (ai (sr (aI (aa (av kQ)))))))):Q:=h p
theorem rV {P Q:Prop} (p:P) (h:P→Q:=by intro kQ;exact aa (cF (ao (ai (sr (bC kQ)))))):Q:=h p
theorem z8 {P Q:Prop} (p:P) (h:P→Q:=by intro kQ;exact LO (dT rfl (dW (vs:=[_,_,_]) aJ.out (hh.bP (i:=0) (n:=3) rfl rfl) rfl) e8) kQ):Q:=h p
theorem Ep {P Q:Prop} (p:P) (h:P→Q:=by intro kQ;exact aj (N:=38) (l:=[.agg #[.bool a.neg,.string a.bk,.int .i64 a.e],.agg #[.bool b.neg,.string b.bk,.int .i64 b.e]]) Tryz.func99 rfl rfl (by simp) kQ):Q:=h p
theorem F4 {P Q:Prop} (p:P) (h:P→Q:=by intro kQ;exact aN 3 [[(2,none)],[(5,some 0)],[(3,none)]] [(2,7),(1,6),(0,5)] hh mixed V2 kQ):Q:=h p
theorem El {P Q:Prop} (p:P) (h:P→Q:=by intro kQ;exact dC (fun _ hj=>nc a _ VZ VZ VZ) kQ):Q:=h p
theorem Fz {P Q:Prop} (p:P) (h:P→Q:=by intro kQ;exact bq hh (nc b _ VZ VZ VZ) rfl kQ):Q:=h p
theorem Bq {P Q:Prop} (p:P) (h:P→Q:=by intro kQ;exact sr (aI (aa (ah (sr (mL (aF (mI (aa (aq kQ)))))))))):Q:=h p
theorem rG {P Q:Prop} (p:P) (h:P→Q:=by intro kQ;exact a0 (aa (ah (cT (ao (ai (ah (aq (sr (mI (aI (aa (sr kQ))))))))))))):Q:=h p
theorem s9 {P Q:Prop} (p:P) (h:P→Q:=by intro kQ;exact bX aJ.out rfl ((hr.ext hh.below).wN hgi) V0 kQ):Q:=h p
theorem EU {P Q:Prop} (p:P) (h:P→Q:=by intro kQ;exact NM rfl rfl (by first|assumption|rfl) V0 kQ):Q:=h p
theorem xj {P Q:Prop} (p:P) (h:P→Q:=by intro kQ;exact aj (N:=29) (l:=[.agg #[.slice A n c,.slice B m c2]]) Tryz.func13 rfl rfl (by simp) kQ):Q:=h p
theorem uM {P Q:Prop} (p:P) (h:P→Q:=by intro kQ;exact aI (aa (ah (aq (sr (bC kQ)))))):Q:=h p
theorem FI {P Q:Prop} (p:P) (h:P→Q:=by intro kQ;exact bq hh (ef A n c ds _ (hS.ext hh.below) hn) rfl kQ):Q:=h p
theorem KQ {P Q:Prop} (p:P) (h:P→Q:=by intro kQ;exact aN 6 [[(1,none)],[(19,some 0)],[(20,some 1)],[(1,none)],[(22,some 3)],[(23,some 4)]] [(5,24),(4,23),(3,22),(2,21),(1,20),(0,19)] hh mixed V2 kQ):Q:=h p
theorem Lt {P Q:Prop} (p:P) (h:P→Q:=by intro kQ;exact aU (bg (ae v24 (ae v23 (ae v22 (ae v21 (ae v20 (ae v19 aT))))))) kQ):Q:=h p
theorem mG {P Q:Prop} (p:P) (h:P→Q:=by intro kQ;exact cV hh (cs:=[_,_,_]) a9.out aJ.out (aV (g6 rfl) bW) rfl rfl V0 V0 V0 rfl V0 kQ):Q:=h p
theorem wA {P Q:Prop} (p:P) (h:P→Q:=by intro kQ;exact sr (aL (aa (ah (sr (mL (aF kQ))))))):Q:=h p
theorem rL {P Q:Prop} (p:P) (h:P→Q:=by intro kQ;exact dq (k:=j) a9.out aJ.size rfl rfl VZ VZ V0 kQ):Q:=h p
theorem Al {P Q:Prop} (p:P) (h:P→Q:=by intro kQ;exact a0 (aa (ah (cF (aZ (aC (aC (br (bF (ai (ak kQ))))))))))):Q:=h p
theorem oH {P Q:Prop} (p:P) (h:P→Q:=by intro kQ;exact a0 (aa (cT (ao (ai (ah (aq (ah kQ)))))))):Q:=h p
theorem pH {P Q:Prop} (p:P) (h:P→Q:=by intro kQ;exact aa (cF (ao (bF (ai (ak (mI kQ))))))):Q:=h p
theorem jt {P Q:Prop} (p:P) (h:P→Q:=by intro kQ;exact BN a9.out aJ.size rfl rfl VZ VZ V0 kQ):Q:=h p
theorem JU {P Q:Prop} (p:P) (h:P→Q:=by intro kQ;exact aj (N:=45) (l:=[.string a,.string b,.func (.func g) #[] #[]]) Tryz.func231 rfl rfl (by simp) kQ):Q:=h p
theorem rH {P Q:Prop} (p:P) (h:P→Q:=by intro kQ;exact dq a9.out aJ.size rfl rfl rfl VZ V0 kQ):Q:=h p
theorem Lz {P Q:Prop} (p:P) (h:P→Q:=by intro kQ;exact bX aJ.out rfl (hh.eK (i:=1) rfl (by first|assumption|(simp only [Wn];assumption))) V0 kQ):Q:=h p
theorem KN {P Q:Prop} (p:P) (h:P→Q:=by intro kQ;exact cf hh (i:=1) (vs:=[_]) rfl rfl (cP rfl) rfl aJ.out rfl VZ rfl kQ):Q:=h p
theorem Au {P Q:Prop} (p:P) (h:P→Q:=by intro kQ;exact sr (aB (aa (ah (sr (mL (aF (mL (aF kQ))))))))):Q:=h p
theorem Fp {P Q:Prop} (p:P) (h:P→Q:=by intro kQ;exact cY (aa (cF (ao (ai (ah (sr (aI (aa (aq kQ)))))))))):Q:=h p
theorem BL {P Q:Prop} (p:P) (h:P→Q:=by intro kQ;exact aN 8 [[(0,none)],[(5,none)],[(17,some 0),(18,some 1)],[(19,some 2)],[(1,none)],[(5,none)],[(21,some 4),(22,some 5)],[(23,some 6)]] [(7,24),(6,23),(5,22),(4,21),(3,20),(2,19),(1,18),(0,17)] hh mixed V2 kQ):Q:=h p
theorem O1 {P Q:Prop} (p:P) (h:P→Q:=by intro kQ;exact a6 (i:=2) (fun ρ1 w1 hj hR=>du a9.out aJ.size (show ρ1 17=Value.slice _ _ _ from hR.1) (show ρ1 18=Value.int _ _ from hR.2.1) VZ VZ) kQ):Q:=h p
theorem Qf {P Q:Prop} (p:P) (h:P→Q:=by intro kQ;exact a6 (i:=6) (fun ρ1 w1 hj hR=>du a9.out aJ.size (show ρ1 21=Value.slice _ _ _ from hR.1) (show ρ1 22=Value.int _ _ from hR.2.1) VZ VZ) kQ):Q:=h p
theorem zY {P Q:Prop} (p:P) (h:P→Q:=by intro kQ;exact aU (bg (ae v24 (ae v23 (ae v22 (ae v21 (ae v20 (ae v19 (ae v18 (ae v17 aT))))))))) kQ):Q:=h p
theorem Ft {P Q:Prop} (p:P) (h:P→Q:=by intro kQ;exact a0 (aa (cF (aZ (aC (aC (br (ai (sr (aB (aa (av kQ)))))))))))):Q:=h p
theorem uH {P Q:Prop} (p:P) (h:P→Q:=by intro kQ;exact sr (aB (aa (ah (sr (mL (aF kQ))))))):Q:=h p
theorem O4 {P Q:Prop} (p:P) (h:P→Q:=by intro kQ;exact aN 8 [[(0,none)],[(5,none)],[(13,some 0),(14,some 1)],[(15,some 2)],[(1,none)],[(5,none)],[(17,some 4),(18,some 5)],[(19,some 6)]] [(7,20),(6,19),(5,18),(4,17),(3,16),(2,15),(1,14),(0,13)] hh mixed V2 kQ):Q:=h p
theorem PZ {P Q:Prop} (p:P) (h:P→Q:=by intro kQ;exact a6 (i:=2) (fun ρ1 w1 hj hR=>lW a9.out aJ.size (show ρ1 13=Value.slice _ _ _ from hR.1) (show ρ1 14=Value.int _ _ from hR.2.1) rfl VZ) kQ):Q:=h p
theorem Pt {P Q:Prop} (p:P) (h:P→Q:=by intro kQ;exact a6 (i:=3) (fun ρ1 w1 hj hR=>fj aJ.out (show ρ1 15=Value.pointer _ from hR.1) (hj.hp.eK (i:=0) rfl (by rw [Wn];exact hx2))) kQ):Q:=h p
theorem OA {P Q:Prop} (p:P) (h:P→Q:=by intro kQ;exact a6 (i:=6) (fun ρ1 w1 hj hR=>du a9.out aJ.size (show ρ1 17=Value.slice _ _ _ from hR.1) (show ρ1 18=Value.int _ _ from hR.2.1) VZ VZ) kQ):Q:=h p
theorem Qn {P Q:Prop} (p:P) (h:P→Q:=by intro kQ;exact aU (bg (ae v20 (ae v19 (ae v18 (ae v17 (ae v16 (ae v15 (ae v14 (ae v13 aT))))))))) kQ):Q:=h p
theorem oa {P Q:Prop} (p:P) (h:P→Q:=by intro kQ;exact bX aJ.out rfl (gh hr (bR hdk) rfl) V0 kQ):Q:=h p
theorem J7 {P Q:Prop} (p:P) (h:P→Q:=by intro kQ;exact a0 (aa (cT (ao (ai (ah (aq (ah (sr (mL (mI kQ))))))))))):Q:=h p
theorem Lk {P Q:Prop} (p:P) (h:P→Q:=by intro kQ;exact aH rfl rfl (bX aJ.out rfl (gh hr (bR hdk) rfl) V0 kQ)):Q:=h p
theorem IF {P Q:Prop} (p:P) (h:P→Q:=by intro kQ;exact cV hh (cs:=[_]) a9.out aJ.out (aV rfl bW) rfl rfl V0 V0 V0 rfl V0 kQ):Q:=h p
theorem F9 {P Q:Prop} (p:P) (h:P→Q:=by intro kQ;exact a0 (aa (cF (aZ (aC (aC (br (ai (sr (mL (aL (aa (av kQ))))))))))))):Q:=h p
theorem B0 {P Q:Prop} (p:P) (h:P→Q:=by intro kQ;exact aj (N:=40) (l:=[.agg #[.slice A n c,.slice B m c2]]) Tryz.func31 rfl rfl (by simp) kQ):Q:=h p
theorem As {P Q:Prop} (p:P) (h:P→Q:=by intro kQ;exact bq hh (jb A n c ds _ (hS.ext hh.below) hn) rfl kQ):Q:=h p
theorem vU {P Q:Prop} (p:P) (h:P→Q:=by intro kQ;exact aa (cF (ao (ai (ah (sr (mI kQ))))))):Q:=h p
theorem PV {P Q:Prop} (p:P) (h:P→Q:=by intro kQ;exact aN 11 [[(1,none)],[(28,some 0)],[(4,none)],[(29,some 1),(30,some 2)],[(31,some 3)],[(32,some 4)],[(1,none)],[(34,some 6)],[(4,none)],[(35,some 7),(36,some 8)],[(37,some 9)]] [(10,38),(9,37),(8,36),(7,35),(6,34),(5,33),(4,32),(3,31),(2,30),(1,29),(0,28)] hh mixed V2 kQ):Q:=h p
theorem PN {P Q:Prop} (p:P) (h:P→Q:=by intro kQ;exact a6 (i:=3) (fun ρ1 w1 hj hR=>du a9.out aJ.size (show ρ1 29=Value.slice _ _ _ from hR.1) (show ρ1 30=Value.int _ _ from hR.2.1) VZ VZ) kQ):Q:=h p
theorem Em {P Q:Prop} (p:P) (h:P→Q:=by intro kQ;exact qK [_,_,_] (fun _ hj=>(hr.ext hj.hp.below).recAt NR.len hx) kQ):Q:=h p
theorem OT {P Q:Prop} (p:P) (h:P→Q:=by intro kQ;exact a6 (i:=9) (fun ρ1 w1 hj hR=>du a9.out aJ.size (show ρ1 35=Value.slice _ _ _ from hR.1) (show ρ1 36=Value.int _ _ from hR.2.1) VZ VZ) kQ):Q:=h p
theorem Pn {P Q:Prop} (p:P) (h:P→Q:=by intro kQ;exact aU (bg (ae v38 (ae v37 (ae v36 (ae v35 (ae v34 (ae v33 (ae v32 (ae v31 (ae v30 (ae v29 (ae v28 aT)))))))))))) kQ):Q:=h p
theorem B2 {P Q:Prop} (p:P) (h:P→Q:=by intro kQ;exact aa (cT (sr (aI (aa (av (cm (aK (aK (cm (aK kQ))))))))))):Q:=h p
theorem Eg {P Q:Prop} (p:P) (h:P→Q:=by intro kQ;exact aj (N:=31) (l:=[.int .i64 N,.int .i64 k]) Tryz.func79 rfl rfl (by simp) kQ):Q:=h p
theorem Jq {P Q:Prop} (p:P) (h:P→Q:=by intro kQ;exact cz (vs:=[_,_,_]) aJ.out rfl ((hr.ext hh.below).recAt NR.len hxn) rfl V0 kQ):Q:=h p
theorem Qd {P Q:Prop} (p:P) (h:P→Q:=by intro kQ;exact cz (vs:=[_,_,_]) aJ.out rfl (hh.iF (f:=NR.cells) (x:=nR (nD (bin (d-i) j))) (l:=lk (d-i)) (i:=0) rfl NR.len V0 hbn) rfl V0 kQ):Q:=h p
theorem Je {P Q:Prop} (p:P) (h:P→Q:=by intro kQ;exact aU (bg (ae v25 (ae v24 (ae v23 (ae v22 (ae v21 (ae v20 aT))))))) kQ):Q:=h p
theorem F8 {P Q:Prop} (p:P) (h:P→Q:=by intro kQ;exact aj (N:=20) (l:=[.agg #[.slice fx.A fx.n fx.a,.slice fx.B fx.m fx.b],.int .i64 ax]) Tryz.func66 rfl rfl (by simp) kQ):Q:=h p
theorem eQ {P Q:Prop} (p:P) (h:P→Q:=by intro kQ;exact bq hh (hck _ (hT.hp hh) hh.below) rfl kQ):Q:=h p
theorem OB {P Q:Prop} (p:P) (h:P→Q:=by intro kQ;exact aN 6 [[(8,none)],[(3,none)],[(21,some 1)],[(20,some 0),(22,some 2)],[(3,none)],[(24,some 4)]] [(5,25),(4,24),(3,23),(2,22),(1,21),(0,20)] hh mixed V2 kQ):Q:=h p
theorem Qe {P Q:Prop} (p:P) (h:P→Q:=by intro kQ;exact a6 (i:=3) (fun ρ1 w1 hj hR=>oV (show ρ1 20=Value.int _ _ from hR.1) (show ρ1 22=Value.int _ _ from hR.2.1) VZ VZ VZ) kQ):Q:=h p
theorem Bd {P Q:Prop} (p:P) (h:P→Q:=by intro kQ;exact bq hh (hhas _ (hT.hp hh) hh.below) rfl kQ):Q:=h p
theorem I2 {P Q:Prop} (p:P) (h:P→Q:=by intro kQ;exact cK (k:=a) a9.out aJ.size su rfl VZ VZ V0 kQ):Q:=h p
theorem Fa {P Q:Prop} (p:P) (h:P→Q:=by intro kQ;exact bX aJ.out rfl ((sD.ext hh.below).wN hgd) V0 kQ):Q:=h p
theorem px {P Q:Prop} (p:P) (h:P→Q:=by intro kQ;exact LN (dT rfl (dW (vs:=[_,_]) aJ.out (hh.bP (i:=2) (n:=2) rfl rfl) rfl) (iB (jh rfl) e8)) kQ):Q:=h p
theorem xM {P Q:Prop} (p:P) (h:P→Q:=by intro kQ;exact dq (k:=a) a9.out aJ.size rfl rfl VZ VZ V0 kQ):Q:=h p
theorem Oj {P Q:Prop} (p:P) (h:P→Q:=by intro kQ;exact cz (vs:=[_,_,_]) aJ.out rfl (hh.iF (f:=NR.cells) (x:=nR x) (l:=Y.map nR) (i:=1) rfl NR.len V0 hxn) rfl V0 kQ):Q:=h p
theorem Pd {P Q:Prop} (p:P) (h:P→Q:=by intro kQ;exact aN 12 [[(9,none)],[(7,none)],[(58,some 1)],[(57,some 0),(59,some 2)],[(7,none)],[(61,some 4)],[(60,some 3),(62,some 5)],[(2,none)],[(64,some 7)],[(1,none)],[(65,some 8),(66,some 9)],[(67,some 10)]] [(11,68),(10,67),(9,66),(8,65),(7,64),(6,63),(5,62),(4,61),(3,60),(2,59),(1,58),(0,57)] hh mixed V2 kQ):Q:=h p
theorem OR {P Q:Prop} (p:P) (h:P→Q:=by intro kQ;exact a6 (i:=3) (fun ρ1 w1 hj hR=>oV (show ρ1 57=Value.int _ _ from hR.1) (show ρ1 59=Value.int _ _ from hR.2.1) VZ VZ VZ) kQ):Q:=h p
theorem Ph {P Q:Prop} (p:P) (h:P→Q:=by intro kQ;exact a6 (i:=6) (fun ρ1 w1 hj hR=>mU (show ρ1 60=Value.int _ _ from hR.1) (show ρ1 62=Value.int _ _ from hR.2.1) VZ VZ) kQ):Q:=h p
theorem Fi {P O Q:Prop} (p:P) (o:O) (h:P→O→Q:=by intro kQ lQ;exact aP (i:=10) (Is (.pointer (some (ad0.add (a*1))))) (Is.ext) kQ lQ):Q:=h p o
theorem xN {P Q:Prop} (p:P) (h:P→Q:=by intro kQ;exact uF (fun _ hj=>(sD.ext hj.hp.below).wN hgd) kQ):Q:=h p
theorem OD {P Q:Prop} (p:P) (h:P→Q:=by intro kQ;exact aU (bg (ae v68 (ae v67 (ae v66 (ae v65 (ae v64 (ae v63 (ae v62 (ae v61 (ae v60 (ae v59 (ae v58 (ae v57 aT))))))))))))) kQ):Q:=h p
theorem Bb {P Q:Prop} (p:P) (h:P→Q:=by intro kQ;exact cv hh (i:=2) rfl rfl rfl (hh.aD (i:=0) rfl) a9.out aJ.out rfl V0 (by first|rfl|exact dz _|exact cX _|exact bB _|exact bU NR.one _) VZ VZ V0 kQ):Q:=h p
theorem vV {P Q:Prop} (p:P) (h:P→Q:=by intro kQ;exact bH (mB (gT (mL (gT (aF (gT kQ))))))):Q:=h p
theorem JY {P Q:Prop} (p:P) (h:P→Q:=by intro kQ;exact aN 7 [[(2,none)],[(0,none)],[(26,some 1)],[(27,some 2)],[(1,none)],[(29,some 4)],[(30,some 5)]] [(6,31),(5,30),(4,29),(3,28),(2,27),(1,26),(0,25)] hh mixed V2 kQ):Q:=h p
theorem K5 {P Q:Prop} (p:P) (h:P→Q:=by intro kQ;exact aU (bg (ae v31 (ae v30 (ae v29 (ae v28 (ae v27 (ae v26 (ae v25 aT)))))))) kQ):Q:=h p
theorem KM {P Q:Prop} (p:P) (h:P→Q:=by intro kQ;exact cz (vs:=[_,_,_,_]) aJ.out rfl ((hr.ext hh.below).recAt TR.len hxx) rfl V0 kQ):Q:=h p
theorem Ch {P Q:Prop} (p:P) (h:P→Q:=by intro kQ;exact cV hh (cs:=[_,_,_,_]) a9.out aJ.out (aV (g6 rfl) bW) rfl rfl V0 V0 V0 rfl V0 kQ):Q:=h p
theorem Jf {P Q:Prop} (p:P) (h:P→Q:=by intro kQ;exact cz (vs:=[_,_,_,_]) aJ.out rfl ((hr2.ext hh.below).recAt TR.len hyy) rfl V0 kQ):Q:=h p
theorem xm {P Q:Prop} (p:P) (h:P→Q:=by intro kQ;exact LN (dT rfl (dW (vs:=[_,_]) aJ.out (hh.bP (i:=0) (n:=2) rfl rfl) rfl) (iB (jh rfl) e8)) kQ):Q:=h p
theorem Fj {P Q:Prop} (p:P) (h:P→Q:=by intro kQ;exact LN (dT rfl (dW (vs:=[_,_]) aJ.out (hh.bP (i:=1) (n:=2) rfl rfl) rfl) (iB (jh rfl) e8)) kQ):Q:=h p
theorem Iv {P Q:Prop} (p:P) (h:P→Q:=by intro kQ;exact aj (N:=58) (l:=[.agg #[.int .i64 v,.slice A n c]]) Tryz.func53 rfl rfl (by simp) kQ):Q:=h p
theorem r6 {P Q:Prop} (p:P) (h:P→Q:=by intro kQ;exact cz (vs:=[_,_,_,_]) aJ.out rfl ((hr.ext hh.below).recAt TR.len hx) rfl V0 kQ):Q:=h p
theorem z3 {P Q:Prop} (p:P) (h:P→Q:=by intro kQ;exact l5 (i:=9) rfl (fun ρ1 w1 hj hR=>(show ρ1 27=Value.bool _ from hR.2.1)) (fun ρ1 w1 hj hR=>aQ au.out (aw (show ρ1 29=Value.agg (List.toArray _) from hR.1) a8)) (fun w1 hj=>hsg _) kQ):Q:=h p
theorem EY {P Q:Prop} (p:P) (h:P→Q:=by intro kQ;exact l5 (i:=15) rfl (fun ρ1 w1 hj hR=>(show ρ1 33=Value.bool _ from hR.2.1)) (fun ρ1 w1 hj hR=>aQ au.out (aw (show ρ1 35=Value.agg (List.toArray _) from hR.1) a8)) (fun w1 hj=>hfo _ (hT.hp hj.hp)) kQ):Q:=h p
theorem Im {P Q:Prop} (p:P) (h:P→Q:=by intro kQ;exact x9 (i:=18) rfl (fun ρ1 w1 hj hR=>(show ρ1 33=Value.bool _ from hR.2.2.1)) (fun ρ1 w1 hj hR=>Fx (show ρ1 36=Value.agg (List.toArray _) from hR.1) (show ρ1 38=Value.agg (List.toArray _) from hR.2.1) (by first|assumption|rfl)) kQ):Q:=h p
theorem Ea {P Q:Prop} (p:P) (h:P→Q:=by intro kQ;exact aU (bg (ae v53 (ae v52 (ae v51 (ae v50 (ae v49 (ae v48 (ae v47 (ae v46 (ae v45 (ae v44 (ae v43 (ae v42 (ae v41 (ae v40 (ae v39 (ae v38 (ae v37 (ae v36 (ae v35 (ae v34 (ae v33 (ae v32 (ae v31 (ae v30 (ae v29 (ae v28 (ae v27 (ae v26 (ae v25 (ae v24 (ae v23 (ae v22 (ae v21 aT)))))))))))))))))))))))))))))))))) kQ):Q:=h p
theorem E8 {P Q:Prop} (p:P) (h:P→Q:=by intro kQ;exact aj (N:=25) (l:=[.int .i64 v,.slice A n c]) Tryz.func90 rfl rfl (by simp) kQ):Q:=h p
theorem wh {P Q:Prop} (p:P) (h:P→Q:=by intro kQ;exact vg rfl (aw (Ci rfl) a8) V0 kQ):Q:=h p
theorem PJ {P Q:Prop} (p:P) (h:P→Q:=by intro kQ;exact aN 6 [[(2,none)],[(4,some 0)],[(1,none)],[(6,some 2)],[(7,some 3)],[(8,some 4)]] [(5,9),(4,8),(3,7),(2,6),(1,5),(0,4)] hh mixed V2 kQ):Q:=h p
theorem Km {P Q:Prop} (p:P) (h:P→Q:=by intro kQ;exact cz (vs:=[_,_]) aJ.out rfl ((hr.ext hh.below).recAt PX.len hx) rfl V0 kQ):Q:=h p
theorem KP {P Q:Prop} (p:P) (h:P→Q:=by intro kQ;exact a0 (aa (ah (cF (aZ (aC (aC (br (ai (ah (sr kQ))))))))))):Q:=h p
theorem s7 {P Q:Prop} (p:P) (h:P→Q:=by intro kQ;exact zi fQ.out rfl V0 kQ):Q:=h p
theorem Ja {P Q:Prop} (p:P) (h:P→Q:=by intro kQ;exact cz (vs:=[_,_,_,_,_,_]) aJ.out rfl ((hr.ext hh.below).recAt SR.len hs) rfl V0 kQ):Q:=h p
theorem Oq {P Q:Prop} (p:P) (h:P→Q:=by intro kQ;exact cV hh (cs:=[_,_,_,_,_,_]) a9.out aJ.out (aV (g6 rfl) bW) rfl rfl V0 V0 V0 rfl V0 kQ):Q:=h p
theorem Bg {P Q:Prop} (p:P) (h:P→Q:=by intro kQ;exact aj (N:=58) (l:=[.agg #[.int .i64 p.v,.slice p.A p.n p.c],.slice L n c,.slice M m mc]) Tryz.func43 rfl rfl (by simp) kQ):Q:=h p
theorem ue {P Q:Prop} (p:P) (h:P→Q:=by intro kQ;exact cY (aa (cF (ao (ai (ah (sr (mL kQ)))))))):Q:=h p
theorem rB {P Q:Prop} (p:P) (h:P→Q:=by intro kQ;exact cY (aa (cF (ao (ai (ah (sr (mL (aF (bC kQ)))))))))):Q:=h p
theorem Am {P Q:Prop} (p:P) (h:P→Q:=by intro kQ;exact bX aJ.out rfl ((hr.ext hh.below).wN hy2) V0 kQ):Q:=h p
theorem Ql {P Q:Prop} (p:P) (h:P→Q:=by intro kQ;exact cv hh (i:=3) rfl rfl rfl (hh.aD (i:=0) rfl) a9.out aJ.out rfl V0 (by first|rfl|exact dz _|exact cX _|exact bB _|exact bU NR.one _) VZ VZ V0 kQ):Q:=h p
theorem KZ {P Q:Prop} (p:P) (h:P→Q:=by intro kQ;exact LN (dT rfl (dW (vs:=[_,_]) aJ.out (hh.bP (i:=3) (n:=2) rfl rfl) rfl) (iB (jh rfl) e8)) kQ):Q:=h p
theorem LL {P Q:Prop} (p:P) (h:P→Q:=by intro kQ;exact a0 (aa (ah (cF (aZ (aC (aC (br (ai (sr (bC kQ))))))))))):Q:=h p
theorem Ek {P Q:Prop} (p:P) (h:P→Q:=by intro kQ;exact aj (N:=34) (l:=[.int .i64 v,.int .i64 x]) Tryz.func83 rfl rfl (by simp) kQ):Q:=h p
theorem Ok {P Q:Prop} (p:P) (h:P→Q:=by intro kQ;exact aj (N:=17) (l:=[.agg #[.int .i64 p.v,.slice p.A p.n p.c],.agg #[.int .i64 q.v,.slice q.A q.n q.c]]) Tryz.func32 rfl rfl (by simp) kQ):Q:=h p
theorem Pv {P Q:Prop} (p:P) (h:P→Q:=by intro kQ;exact aj (N:=42) (l:=[.agg #[.int .i64 p.v,.slice p.A p.n p.c],.agg #[.bool c.neg,.string c.bk,.int .i64 c.e]]) Tryz.func104 rfl rfl (by simp) kQ):Q:=h p
theorem IY {P Q:Prop} (p:P) (h:P→Q:=by intro kQ;exact cK (k:=j) a9.out aJ.size su rfl VZ VZ V0 kQ):Q:=h p
theorem Kl {P Q:Prop} (p:P) (h:P→Q:=by intro kQ;exact GK (N:=58) (l:=[.agg #[.slice fx.A fx.n fx.a,.slice fx.B fx.m fx.b],.slice L m2 c2]) Tryz.func10 rfl rfl (by simp) kQ):Q:=h p
theorem mg {P Q:Prop} (p:P) (h:P→Q:=by intro kQ;exact cY (aa (cF (ao (ai (ah (sr (mI kQ)))))))):Q:=h p
theorem F0 {P Q:Prop} (p:P) (h:P→Q:=by intro kQ;exact aj (N:=20) (l:=[.agg #[.slice fx.A fx.n fx.a,.slice fx.B fx.m fx.b],.int .i64 ax]) Tryz.func72 rfl rfl (by simp) kQ):Q:=h p
theorem Lq {P Q:Prop} (p:P) (h:P→Q:=by intro kQ;exact aj (N:=74) (l:=[.agg #[.slice fx.A fx.n fx.a,.slice fx.B fx.m fx.b],.int .i64 ax,.int .i64 sd]) Tryz.func21 rfl rfl (by simp) kQ):Q:=h p
theorem O3 {P Q:Prop} (p:P) (h:P→Q:=by intro kQ;exact aN 14 [[(10,none)],[(11,none)],[(48,some 0),(49,some 1)],[(50,some 2)],[(1,none)],[(51,some 3),(52,some 4)],[(53,some 5)],[(2,none)],[(3,none)],[(56,some 8)],[(1,none)],[(57,some 9),(58,some 10)],[(59,some 11)],[(55,some 7),(60,some 12)]] [(13,61),(12,60),(11,59),(10,58),(9,57),(8,56),(7,55),(6,54),(5,53),(4,52),(3,51),(2,50),(1,49),(0,48)] hh mixed V2 kQ):Q:=h p
theorem Qh {P Q:Prop} (p:P) (h:P→Q:=by intro kQ;exact a6 (i:=3) (fun ρ1 w1 hj hR=>fj aJ.out (show ρ1 50=Value.pointer _ from hR.1) (hj.hp.eK (i:=2) rfl (by simp only [Wn];assumption))) kQ):Q:=h p
theorem PC {P Q:Prop} (p:P) (h:P→Q:=by intro kQ;exact a6 (i:=5) (fun ρ1 w1 hj hR=>jq a9.out (show ρ1 51=Value.string _ from hR.1) (show ρ1 52=Value.int _ _ from hR.2.1) VZ (by assumption)) kQ):Q:=h p
theorem PW {P Q:Prop} (p:P) (h:P→Q:=by intro kQ;exact aU (bg (ae v61 (ae v60 (ae v59 (ae v58 (ae v57 (ae v56 (ae v55 (ae v54 (ae v53 (ae v52 (ae v51 (ae v50 (ae v49 (ae v48 aT))))))))))))))) kQ):Q:=h p
theorem EH {P Q:Prop} (p:P) (h:P→Q:=by intro kQ;exact aj (N:=165) (l:=[.agg #[.slice fx.A fx.n fx.a,.slice fx.B fx.m fx.b],.slice L n c]) Tryz.func28 rfl rfl (by simp) kQ):Q:=h p
theorem Ez {P Q:Prop} (p:P) (h:P→Q:=by intro kQ;exact a0 (aa (cT (ao (ai (ah (aq (ah (sr (mI kQ)))))))))):Q:=h p
theorem K6 {P Q:Prop} (p:P) (h:P→Q:=by intro kQ;exact aj (N:=52) (l:=[.agg #[.slice fx.A fx.n fx.a,.slice fx.B fx.m fx.b],.int .i64 bits]) Tryz.func14 rfl rfl (by simp) kQ):Q:=h p
theorem Fc {P Q:Prop} (p:P) (h:P→Q:=by intro kQ;exact cz (vs:=[_,_,_]) aJ.out rfl ((sC.ext hh.below).recAt NR.len hx) rfl V0 kQ):Q:=h p
theorem KD {P Q:Prop} (p:P) (h:P→Q:=by intro kQ;exact a0 (aa (cF (aZ (aC (aC (br (ai (ah (sr (mI kQ))))))))))):Q:=h p
theorem Ew {P Q:Prop} (p:P) (h:P→Q:=by intro kQ;exact aj (N:=55) (l:=[.slice A n c]) Tryz.func27 rfl rfl (by simp) kQ):Q:=h p
theorem Ei {P Q:Prop} (p:P) (h:P→Q:=by intro kQ;exact aj (N:=18) (l:=[.agg #[.bool a.neg,.string a.bk,.int .i64 a.e]]) Tryz.func36 rfl rfl (by simp) kQ):Q:=h p
theorem J6 {P Q:Prop} (p:P) (h:P→Q:=by intro kQ;exact aj (N:=46) (l:=[.slice A n c,.slice B m d]) Tryz.func7 rfl rfl (by simp) kQ):Q:=h p
theorem JS {P Q:Prop} (p:P) (h:P→Q:=by intro kQ;exact a0 (aa (ah (cF (aZ (aC (aC (br (ai (sr (mL (aL (aa (av kQ)))))))))))))):Q:=h p
theorem OC {P Q:Prop} (p:P) (h:P→Q:=by intro kQ;exact aN 14 [[(11,none)],[(9,none)],[(48,some 1)],[(47,some 0),(49,some 2)],[(9,none)],[(51,some 4)],[(50,some 3),(52,some 5)],[(3,none)],[(54,some 7)],[(1,none)],[(55,some 8),(56,some 9)],[(57,some 10)],[(2,none)],[(58,some 11),(59,some 12)]] [(13,60),(12,59),(11,58),(10,57),(9,56),(8,55),(7,54),(6,53),(5,52),(4,51),(3,50),(2,49),(1,48),(0,47)] hh mixed V2 kQ):Q:=h p
theorem Pc {P Q:Prop} (p:P) (h:P→Q:=by intro kQ;exact a6 (i:=3) (fun ρ1 w1 hj hR=>oV (show ρ1 47=Value.int _ _ from hR.1) (show ρ1 49=Value.int _ _ from hR.2.1) VZ VZ VZ) kQ):Q:=h p
theorem PG {P Q:Prop} (p:P) (h:P→Q:=by intro kQ;exact a6 (i:=6) (fun ρ1 w1 hj hR=>mU (show ρ1 50=Value.int _ _ from hR.1) (show ρ1 52=Value.int _ _ from hR.2.1) VZ VZ) kQ):Q:=h p
theorem Pg {P Q:Prop} (p:P) (h:P→Q:=by intro kQ;exact aU (bg (ae v60 (ae v59 (ae v58 (ae v57 (ae v56 (ae v55 (ae v54 (ae v53 (ae v52 (ae v51 (ae v50 (ae v49 (ae v48 (ae v47 aT))))))))))))))) kQ):Q:=h p
theorem O2 {p:Prop} (h:p:=by
  refine aa (cT (sr ?_));refine bq hh (gD 1 _ VZ VZ) rfl ?_;intro w20 hh;exact PO):p:=h
theorem Qb {p:Prop} (h:p:=by
  refine ⟨⟨i+1,VZ,rfl,hh⟩,by show (n-m/64)-(i+1)<(n-m/64)-i;omega, ?_⟩;exact dF):p:=h
theorem O9 {p:Prop} (h:p:=by
  refine ⟨⟨i+1,c1,B,VZ,rfl,by rw [hst];exact hh⟩,by show fx.m-(i+1)<fx.m-i;omega, ?_⟩;exact dF):p:=h
theorem OH {p:Prop} (h:p:=by
  refine aa (sr (mI ?_));refine bj (mL (aF ?_));refine a0 (mB ?_);refine gS (gS (gS ?_));refine dR ?_;exact PA):p:=h
theorem OP {p:Prop} (h:p:=by
  refine fw ?_;refine fV (i:=2) V2 rfl ?_;refine bL hh 3 [_,_] ?_;intro ws hh;replace hh:Hp _ (_::_::_::.blk _ _ [_,_] _::_) _:=hh;exact OL):p:=h
theorem Ix {p:Prop} (h:p:=by
  refine bL hh 0 [_,_,_] ?_;intro ws hh;replace hh:Hp _ (.blk _ _ [_,_,_] _::_) _:=hh;refine aa (av (aK ?_));exact Vs):p:=h
theorem PT {p:Prop} (h:p:=by
  refine sr ?_;refine bJ hh ?_;intro b4 w4 hh;refine aa (ah (sr (mI ?_)));refine a0 (mB (gT (mI (gT (mI (gT ?_))))));refine bH ?_;refine dR ?_;refine vU ?_;refine ct (mB ?_);refine gS (gS (gS ?_));refine fi ?_;exact O2):p:=h
theorem Pj {p:Prop} (h:p:=by
  refine dq (k:=(i+j)) a9.out aJ.size rfl rfl VZ VZ V0 ?_;refine cf hh (i:=3) (vs:=[_,_,_]) rfl rfl (g6 rfl) rfl aJ.out rfl VZ rfl ?_;intro ws hh;simp only [Wh,WI] at hh;rw [show cd (aA NR.cells (S.map nR)) ((i+j)*3) [.bool (nR (o+y)).neg,.string (nR (o+y)).bk,.int .i64 (nR (o+y)).e]=aA NR.cells ((S.map nR).set (i+j) (nR (o+y))) from jk NR.len VZ,←YC,hset] at hh;refine fN ?_;refine bj (mI (az (ai ?_)));replace hh:=hh.sub (Wa _ (V7 _ (V7 _ (V7 _ Wx))));refine ⟨⟨j+1,VZ,rfl,hh⟩,by show d-i+1-(j+1)<d-i+1-j;omega, ?_⟩;exact dF):p:=h
theorem O7 {p:Prop} (h:p:=by
  refine rK a9.out a9.out a9.out rfl (hh.aD (i:=0) rfl) V0 ?_;exact BG):p:=h
theorem Po {p:Prop} (h:p:=by
  refine ⟨⟨i+1,_,VZ,rfl,hS3.symm,hh⟩,by show n-(i+1)<n-i;omega, ?_⟩;exact dF):p:=h
theorem Lf {p:Prop} (h:p:=by
  refine aa (cT (sr ?_));refine fe [_,_] ?_;exact SV):p:=h
theorem Qj {p:Prop} (h:p:=by
  rw [Xo] at hun ⊢;rw [Yv hiL] at hun ⊢;simpa using hun):p:=h
theorem Pe {p:Prop} (h:p:=by
  refine aI (aa (sr (mI ?_)));refine cY (aa (cT (sr ?_)));refine fe [_,_] (mI ?_);exact SC):p:=h
theorem O5 {p:Prop} (h:p:=by
  refine aI (aa (sr (mI ?_)));refine cY (aa (cT (sr ?_)));refine fe [_,_,_] (mI ?_);exact Td):p:=h
theorem Jw {p:Prop} (h:p:=by
  rw [ho] at ho';injection ho' with ho';subst ho';exact hed):p:=h
theorem Kg {p:Prop} (h:p:=by
  refine cW ?_;exact ⟨_,_,rfl,hh.at_ (i:=0) rfl,hh.below⟩):p:=h
theorem Pz {p:Prop} (h:p:=by
  unfold jC;rw [Wi];exact WK (Zy _ _) (by rw [Ye];omega)):p:=h
theorem OQ {p:Prop} (h:p:=by
  refine ⟨⟨k+1,VZ,rfl,by rw [hl2];rfl,VZ,hstep,rfl⟩,by show n-(k+1)<n-k;omega, ?_⟩;exact dF):p:=h
theorem OK {p:Prop} (h:p:=by
  refine pw ?_;exact ⟨rfl,hh.below⟩):p:=h
theorem PD {p:Prop} (h:p:=by
  refine xc ?_;exact ⟨rfl,hh.below⟩):p:=h
theorem OZ {p:Prop} (h:p:=by
  refine z8 ?_;exact ⟨rfl,hh.below⟩):p:=h
theorem Ff {p:Prop} (h:p:=by
  refine aa (cT (sr ?_));refine fe [_,_,_] ?_;exact Td):p:=h
theorem OW {p:Prop} (h:p:=by
  refine ⟨⟨i,_,_,VZ,rfl,by rw [d1];rfl,by rw [d1];exact hh⟩,by show ((i:Int)-1+1).toNat<((i:Int)+1).toNat;omega, ?_⟩;exact dF):p:=h
theorem PH {p:Prop} (h:p:=by
  refine LN (dT rfl (dW (vs:=[_,_,_]) aJ.out (hh.bP (i:=0) (n:=3) rfl rfl) rfl) (iB (jh rfl) e8)) ?_;exact ⟨rfl,hh.below⟩):p:=h
theorem P7 {p:Prop} (h:p:=by
  refine od ?_;refine dS (dS (dS (dS (dS ?_))));refine yV (i:=18) rfl (fun ρ1 w1 hj hR=>(show ρ1 33=Value.bool _ from hR.2.2.1)) V0 ?_;refine G3 ?_;exact UO):p:=h
theorem Oy {p:Prop} (h:p:=by
  refine fw ?_;refine fV (i:=2) V2 rfl ?_;refine bL hh 4 [_,_] ?_;intro ws hh;replace hh:Hp _ (_::_::_::_::.blk _ _ [_,_] _::_) _:=hh;exact Sr):p:=h
theorem Qr {p:Prop} (h:p:=by
  intro w7 hh;refine aI (aa (sr (mI ?_)));refine mg ?_;refine a0 (mB ?_);refine gS (gS (gS (gS (gS ?_))));refine fi ?_;exact Ig):p:=h
theorem Ll {p:Prop} (h:p:=by
  refine aI (aa (sr (mI ?_)));refine cY (aa (cT (sr ?_)));refine fe [_,_] (mI ?_);exact SV):p:=h
theorem PY {p:Prop} (h:p:=by
  refine aj (N:=9) (l:=[.int .i64 v]) Tryz.func109 rfl rfl (by simp) ?_;refine sr (aB (aa (sr (mI ?_))));refine dP (mB (gT (mI (gT ?_))));refine RB ?_;refine fi ?_;exact vP):p:=h
theorem EK {p:Prop} (h:p:=by
  refine dP (aB (aa (av ?_)));refine cW ?_;exact ⟨rfl,hh.below⟩):p:=h
theorem Gd {p:Prop} (h:p:=by
  exact ⟨g,og,rfl,hh.sub (V7 _ (Xq _))⟩):p:=h
theorem Ps {p:Prop} (h:p:=by
  refine mB ?_;refine gS (gS ?_);refine jg ?_;refine gS (gS (gS ?_));refine dR ?_;refine uk ?_;refine bY hh 0 [_,_] ?_;exact J4):p:=h
theorem PE {p:Prop} (h:p:=by
  refine pH ?_;refine bj (aI (az (ai ?_)));refine ⟨⟨j+1,VZ,rfl,fun x hx=> ?_,hh⟩,by show n-(j+1)<n-j;omega, ?_⟩
  ·exact Ti
  ·exact dF):p:=h
theorem P6 {p:Prop} (h:p:=by
  refine aE (hpu _ (hT.hp hh) hh.below) au.out rfl V0 ?_;rintro e_ w51 ⟨g,og,rfl,h3⟩;refine ⟨_,rfl, ?_⟩;replace hh:=hh.join h3;simp only [Wf,Wd] at hh;refine dE ?_;refine dE ?_;exact Tq):p:=h
theorem Pf {p:Prop} (h:p:=by
  have h3:=hdep (i-m) VZ;rw [show m+(i-m)=i by omega] at h3;have h4:(i-m==0)=false:=by simp;omega
  rw [h4,W4] at h3;have:=gk hM hI.cl i m hed' h3;rw [hI.tl m (V9 _)] at this
  cases this):p:=h
theorem Ov {p:Prop} (h:p:=by
  intro w7 hh;refine aI (aa (sr (mI ?_)));refine mg ?_;refine a0 (mB (gT (mI (gT (bC (gT ?_))))));refine bA hh 0 ?_;refine gT (aF (gT ?_));refine dP ?_;refine dR ?_;exact Ig):p:=h
theorem Pa {p:Prop} (h:p:=by
  have hik:i=k:=by
   rcases WW i k with h|h
   ·exact absurd ⟨i,h,h2,h3⟩ hex
   ·omega
  subst hik;refine ⟨i,h2,h3,fun j hj=> ?_⟩
  cases hc2:L.getD j false with
  |true=>rfl
  |false=>exact absurd ⟨j,hj,VZ,hc2⟩ hex):p:=h
theorem PM {p:Prop} (h:p:=by
  have h1:L.toList.countP (fun b=>b)=L.toList.length:=by
   have:=hI.ls;simp only [Zo];omega
  have h2:=List.countP_eq_length.1 h1;have h3:i<L.size:=by rw [hI.ls,hnn];exact hi
  have:=h2 L[i] (by simp);simpa [h3] using this):p:=h
theorem Iq {p:Prop} (h:p:=by
  refine ⟨⟨i+1,VZ,rfl,hh⟩,by show n-(i+1)<n-i;omega, ?_⟩;exact dF):p:=h
theorem Qp {p:Prop} (h:p:=by
  refine bL hh 1 [_,_] ?_;intro ws hh;replace hh:Hp _ (_::.blk _ _ [_,_] _::_) _:=hh;refine fN ?_;refine bj (mI (az (ai ?_)));replace hh:=hh.sub (WO _ _);refine ⟨⟨i+1,_,_,VZ,rfl,hS3.symm,hpl,by unfold IR.v at hba ⊢;omega,hh⟩,by show n-(i+1)<n-i;omega, ?_⟩;exact dF):p:=h
theorem Gq {p:Prop} (h:p:=by
  refine bL hh 1 [_,_] ?_;intro ws hh;replace hh:Hp _ (_::.blk _ _ [_,_] _::_) _:=hh;refine aI (aa (av ?_));exact RG):p:=h
theorem P9 {p:Prop} (h:p:=by
  obtain rfl:j=d-i+1:=VZ;rw [G7 VZ] at hh;refine sr ?_;refine Al ?_;refine bj (mI (az (ai ?_)));replace hh:=hh.sub (Wa _ (Wa _ (V7 _ Wx)));refine ⟨⟨i+1,VZ,rfl,hh⟩,by show n-(i+1)<n-i;omega, ?_⟩;exact dF):p:=h
theorem PA {p:Prop} (h:p:=by
  refine BZ ?_;refine bj (mI (az (ai ?_)));rw [e1,hac,←hnew] at hh;exact Qb):p:=h
theorem Ak {p:Prop} (h:p:=by
  refine bL hh 0 [_,_] ?_;intro ws hh;replace hh:Hp _ (.blk _ _ [_,_] _::_) _:=hh;refine aa (av (aK ?_));exact Ug):p:=h
theorem PQ {p:Prop} (h:p:=by
  have hil:i<l.length:=VZ;have hE:=hedge i hil;have ho:l.toArray[i]?=some l[i]:=by simp [hil]
  rw [ho] at hE;have hmem:i∈Region.ready .any l.toArray L:=(hready_spec i).2 ⟨hil,by
   have h3:i<L.size:=by rw [hI.ls,hnn];exact hil
   rw [Xo] at hu ⊢;rw [Yv h3] at hu ⊢;simpa using hu,l[i],ho,fun e he hb=>by
   have:=Zi.1 hE e he;simp only [hb,Y1,W4,Wt] at this;exact hlow _ this⟩
  rw [hnil] at hmem
  cases hmem):p:=h
theorem Qg {p:Prop} (h:p:=by
  refine Ir ?_;refine fP ?_;refine LG ?_;intro ws hh;simp only [Wh] at hh;rw [hand,es,Wn,cN (by rw [hll];omega),qd,←b1,hfk] at hh;refine aa (ak (mI ?_));refine l8 (s:=1) (m:=2) rfl rfl V0 V0 V0 ?_;refine Ai ?_;refine bj (aI (az (ai ?_)));rw [es];refine ⟨⟨i+1,VZ,rfl,by rw [b2];rfl,hh⟩,by show K-(i+1)<K-i;omega, ?_⟩;exact dF):p:=h
theorem PO {p:Prop} (h:p:=by
  exact Ix):p:=h
theorem Pb {p:Prop} (h:p:=by
  rw [e];by_cases hz1:k<0
  ·refine Eg ?_;refine sr ?_;refine bJ hh ?_;intro b4 w4 hh;refine aa (ah (sr (mI ?_)));refine a0 (mB ?_);refine gS (gS (gS ?_));refine fi ?_;refine aa (cT (sr ?_));refine fe [_,_,_] ?_;exact Ix
  ·refine Eg ?_;refine sr ?_;refine bJ hh ?_;intro b4 w4 hh;refine aa (ah (sr (mI ?_)));refine a0 (mB (gT (mI (gT (mI (gT ?_))))));refine bH ?_;refine dR ?_;refine aa (cT (sr ?_));refine fe [_,_,_] ?_;exact Ix):p:=h
theorem OL {p:Prop} (h:p:=by
  refine fw ?_;refine kF 3 V0 V2 V0 V2 V2 ?_;refine bL hh 2 [_,_] ?_;intro ws hh;replace hh:Hp _ (_::_::.blk _ _ [_,_] _::_) _:=hh;refine aB (aa (av ?_));refine UY (dT rfl (dW (vs:=[_,_]) aJ.out (hh.bP (i:=3) (n:=2) rfl rfl) rfl) (dT rfl (dW (vs:=[_,_]) aJ.out (hh.bP (i:=2) (n:=2) rfl rfl) rfl) (iB (mX rfl) e8))) ?_;exact ⟨rfl,hh.below⟩):p:=h
theorem Pw {p:Prop} (h:p:=by
  refine aN 13 [[(2,none)],[(24,some 0)],[(2,none)],[(26,some 2)],[(3,none)],[(28,some 4)],[(27,some 3),(29,some 5)],[(25,some 1),(30,some 6)],[(3,none)],[(32,some 8)],[(31,some 7),(33,some 9)],[(3,none)],[(35,some 11)]] [(12,36),(11,35),(10,34),(9,33),(8,32),(7,31),(6,30),(5,29),(4,28),(3,27),(2,26),(1,25),(0,24)] hh mixed V2 ?_;refine da ?_;refine eJ 2 [_,_] ?_;refine da ?_;refine dN 2 ?_;refine da ?_;refine dN 1 ?_;refine so ?_;refine dC (fun _ hj=>hshl _) ?_;refine da ?_;refine eJ 1 [_,_] ?_;refine dC (fun _ hj=>hpl _) ?_;refine da ?_;refine dN 1 ?_;refine aG ?_;intro f W hJ hV;have hb_8:=hJ.bl;obtain ⟨v36,v35,v34,v33,v32,v31,v30,v29,v28,v27,v26,v25,v24,_⟩:=hV;replace hh:=hJ.hp;refine aU (bg (ae v36 (ae v35 (ae v34 (ae v33 (ae v32 (ae v31 (ae v30 (ae v29 (ae v28 (ae v27 (ae v26 (ae v25 (ae v24 aT)))))))))))))) ?_;dsimp only [bI];clear hJ;refine bq hh (hmk _) rfl ?_;intro w37 hh;exact Dd):p:=h
theorem Gf {p:Prop} (h:p:=by
  refine gy (hc _ hh.below) au.out rfl rfl V0 ?_;rintro e_ w16 ⟨rfl,hb_⟩;refine ⟨_,rfl, ?_⟩;replace hh:=hh.ext hb_;refine BZ ?_;refine bj (mI (az (ai ?_)));refine ⟨⟨i+1,VZ,rfl,by rw [ay hz,YN,hall,YF,YS,gz];rfl,hh⟩,by show n-(i+1)<n-i;omega, ?_⟩;exact dF):p:=h
theorem ON {p:Prop} (h:p:=by
  refine fw ?_;refine fV (i:=8) V2 rfl ?_;refine gy (hsm _ (hT.hp hh)) au.out rfl rfl V0 ?_;rintro e_ w41 ⟨rfl,hb_⟩;refine ⟨_,rfl, ?_⟩;replace hh:=hh.ext hb_;refine fw ?_;refine fV (i:=9) V2 rfl ?_;refine Ch ?_;intro b42 w42 hh;refine fw ?_;refine fV (i:=10) V2 rfl ?_;refine nj ?_;intro A43 c43 w43 hh;simp only [Wh,WI] at hh;replace hh:=hh.sub (WO _ _);refine fw ?_;refine kF 15 V0 V2 V0 V2 V2 ?_;refine aL (aL (aL (az (bF (bF (ai ?_))))));replace hh:=hh.sub (V7 _ Wx);refine ⟨⟨_,n-1,c-1,X,_,m-1,c2-1,Y,O++[⟨x.m,nR (x.c.d+y.c.d)⟩],A43,c43,rfl,rfl, ?_,VZ,VZ,hSt,hSt2,hmg.both h1 h2 hk, ?_⟩,by show (n-1)+(m-1)<n+m;omega, ?_⟩
  ·exact Tg
  ·rw [We,bK];exact hh
  ·exact dF):p:=h
theorem Pq {p:Prop} (h:p:=by
  have zy:=zx.mul zu;have hm2:=fun A cc w1 hT1 hS1=>fk A 2 cc [nR x,nR u] w1 hT1 hS1 (by simpa using ⟨zx.ok VZ,zu.ok VZ⟩) 600000 (by simpa [cj] using ⟨zx.mono VZ,zu.mono VZ⟩) VZ VZ;rw [show ik ([nR x,nR u].map NR.d)=x*u by simp only [Wv,WV,cj];show 1*x*_=_;rw [Yt]] at hm2;generalize x*u=y at*;have hsum:=fun A cc w1 hT1 hS1=>iW A 2 cc [nR o,nR y] w1 hT1 hS1 (by simpa using ⟨zo.ok VZ,zy.ok VZ⟩) 2000000 (by simpa [cj] using ⟨zo.mono VZ,zy.mono VZ⟩) VZ;rw [show mv ([nR o,nR y].map NR.d)=o+y by simp only [Wv,WV,cj,k8]] at hsum;have hrl:=fy NR.len (S.map nR);refine aN 16 [[(4,none)],[(5,none)],[(7,none)],[(38,some 1),(39,some 2)],[(4,none)],[(5,none)],[(7,none)],[(42,some 5),(43,some 6)],[(41,some 4),(44,some 7)],[(45,some 8)],[(6,none)],[(8,none)],[(47,some 10),(48,some 11)],[(49,some 12)],[(46,some 9),(50,some 13)],[(51,some 14)]] [(15,52),(14,51),(13,50),(12,49),(11,48),(10,47),(9,46),(8,45),(7,44),(6,43),(5,42),(4,41),(3,40),(2,39),(1,38),(0,37)] hh mixed V2 ?_;refine fD ?_;refine dn ?_;refine dn ?_;refine nX ?_
  refine fD ?_;refine dn ?_;refine dn ?_;refine nX ?_;refine Gn ((i+j)) ?_;refine qK [_,_,_] (fun _ hj=>hj.hp.iF (f:=NR.cells) (x:=nR o) (l:=S.map nR) (i:=3) rfl NR.len V0 hon) ?_;refine eJ 2 [_,_,_] ?_;refine eJ 0 [_,_,_] ?_;refine rh [_,_,_,_,_,_] ?_;refine aP (i:=13) (Is (.agg #[.bool (nR y).neg,.string (nR y).bk,.int .i64 (nR y).e])) Is.ext ?_ ?_
  ·exact UB
  refine rh [_,_,_,_,_,_] ?_;refine aP (i:=15) (Is (.agg #[.bool (nR (o+y)).neg,.string (nR (o+y)).bk,.int .i64 (nR (o+y)).e])) Is.ext ?_ ?_
  ·exact T6
  refine aG ?_;intro f W hJ hV;have hb_11:=hJ.bl;obtain ⟨v52,v51,v50,v49,v48,v47,v46,v45,v44,v43,v42,v41,v40,v39,v38,v37,_⟩:=hV;obtain ⟨A49,c49,e49,f49⟩:Rows _ _ _ (f 12) W:=v49;obtain ⟨A51,c51,e51,f51⟩:Rows _ _ _ (f 14) W:=v51;replace hh:=hJ.hp;refine aU (bg (ae v52 (ae e51 (ae v50 (ae e49 (ae v48 (ae v47 (ae v46 (ae v45 (ae v44 (ae v43 (ae v42 (ae v41 (ae v40 (ae v39 (ae v38 (ae v37 aT))))))))))))))))) ?_;dsimp only [bI];clear e49 e51 hJ;exact Pj):p:=h
theorem PF {p:Prop} (h:p:=by
  refine rV ?_;refine bA hh 1 ?_;refine mI ?_;refine bq hh (hof _ hh.below) rfl ?_;intro w30 hh;refine bJ hh ?_;intro b9 w9 hh;refine bL hh 0 [_,_] ?_;intro ws hh;replace hh:Hp _ (.blk _ _ [_,_] _::_) _:=hh;refine aa (sr (bC ?_));refine bA hh 2 ?_;refine aE (jK fx.A fx.n fx.a fx.ds _ (hf.dg.ext hh.below) VZ) au.out rfl V0 ?_;rintro e_ w33 ⟨A33,c33,rfl,hown_,hb_⟩;refine ⟨_,rfl, ?_⟩;replace hh:=hh.aO (x:=.row _ _ _ _ _ _) hb_ hown_;obtain ⟨gd,rfl⟩:=hh.bZ (i:=0) rfl VZ;refine mI (mI ?_);refine bj ?_;refine aE (GU gd fx.n c33 a fx.ds _ hh hln VZ VZ) au.out rfl V0 ?_;rintro e_ w37 ⟨rfl,hh2⟩;refine ⟨_,rfl, ?_⟩;replace hh:=hh2;clear hh2;refine fe [_,_] ?_;refine bJ hh ?_;intro b10 w10 hh;refine bL hh 0 [_,_] ?_;intro ws hh;replace hh:Hp _ (.blk _ _ [_,_] _::_) _:=hh;refine aa (ah (sr (bC ?_)));refine bA hh 4 ?_;refine aF (mI (aa (aq ?_)));replace hh:=hh.cx 40 3;refine aW [11,12,42,43,44,45,46,47,48,49,50,51,52,53,54,55,56,57,58,59,60,61,62,63,64,65,66,67,68] 42
   (fun v w'=>∃(i c1:Nat) (B:Option Addr),i≤fx.m∧v=.int .i64 i∧Hp w [.row B (jC ap d (d*sd) (fx.cs.map NR.d) i).length c1 40 3 (aA NR.cells ((jC ap d (d*sd) (fx.cs.map NR.d) i).map nR)),.blk b10 33 [.slice (some ⟨gd,0,none⟩) (fx.n-1) c33,.slice B (jC ap d (d*sd) (fx.cs.map NR.d) i).length c1] (0,0),.row (some ⟨gd,0,none⟩) (fx.n-1) c33 3 1 (a7 (fx.ds.eraseIdx a)),.blk b9 83 [.int .i64 ((d:Int)+1),.int .i64 (ap:Int)] (0,0),.blk b6 33 [.slice none 0 0,.slice none 0 0] (0,0),.blk b3 33 [.slice fx.A fx.n fx.a,.slice fx.B fx.m fx.b] (0,0)] w')
   (fun v _=>fx.m-(intOf v).toNat) ?_ ?_
  ·exact ⟨0,0,none,V8 _,rfl,hh⟩
  ·clear hh;rintro ρ' v w' ⟨i,c1,B,hi,rfl,hh⟩;by_cases hlt:i<fx.m
   ·obtain ⟨x,hx⟩:=al (l:=fx.cs) (k:=i) VZ;obtain ⟨adC,hAC,sC⟩:=hf.nm.at_ VZ;have hevC:Value.slice fx.B fx.m fx.b=.slice (some adC) fx.m fx.b:=by rw [hAC]
    have hxd:((fx.cs.map NR.d)[i]?).getD 0=x.d:=by rw [Wg,hx];rfl
    have hxn:nR x.d=x:=by
     exact SQ
    have hcast:((i:Int)/(ap:Int)) % ((d:Int)+1)=((i/ap % (d+1):Nat):Int):=by norm_cast
    have hq0:(0:Int)≤(i:Int)/(ap:Int):=Int.ediv_nonneg VZ VZ;have hst:=wQ ap d (d*sd) (fx.cs.map NR.d) i;rw [hxd] at hst;have hfl:(jC ap d (d*sd) (fx.cs.map NR.d) i).length≤i:=by
     unfold jC;exact RL
    generalize hF:jC ap d (d*sd) (fx.cs.map NR.d) i=F at*;by_cases hdg2:i/ap % (d+1)=d*sd
    ·rw [V5 hdg2] at hst;refine sr ?_;refine dY ?_;refine cK (k:=i) a9.out aJ.size hevC rfl VZ VZ V0 ?_;refine Fc ?_;refine bJ hh ?_;intro b12 w12 hh;refine aI ?_;refine bL hh 0 [_,_,_] ?_;intro ws hh;replace hh:Hp _ (.blk _ _ [_,_,_] _::_) _:=hh;refine aa (ah ?_);refine OC ?_;refine dn ?_;refine da ?_;refine dN 4 ?_;refine Pc ?_;refine da ?_;refine dN 4 ?_;refine PG ?_;refine da ?_;refine dN 6 ?_;refine dn ?_;refine Fi ?_ ?_
     ·exact Sv
     refine xN ?_;refine dn ?_;refine Dq ?_;refine aG ?_;intro f W hJ hV;have hb_11:=hJ.bl;obtain ⟨v60,v59,v58,v57,v56,v55,v54,v53,v52,v51,v50,v49,v48,v47,_⟩:=hV;replace hh:=hJ.hp;refine Pg ?_;dsimp only [bI];clear hJ;refine ct (aa (cT (ak (bC ?_))));refine bA hh 2 ?_;refine bY hh 0 [_,_,_] ?_;refine mG ?_;intro b65 w65 hh;refine Bb ?_;intro A66 c66 w66 hh;simp only [Wh,WI] at hh;replace hh:=hh.sub (WO _ _);refine bC ?_;refine bL hh 2 [_] ?_;intro ws hh;replace hh:Hp _ (_::_::.blk _ _ [_,_] _::_) _:=hh;refine fN ?_;refine bj (mI (az (ai ?_)));replace hh:=hh.sub (Wa _ (V7 _ (V7 _ (V7 _ (V7 _ (V7 _ (V7 _ Wx)))))));refine ⟨⟨i+1,c66,A66,VZ,rfl, ?_⟩,by show fx.m-(i+1)<fx.m-i;omega, ?_⟩
     ·exact Tk
     ·exact dF
    ·rw [V6 hdg2,WJ] at hst;refine sr ?_;refine dY ?_;refine cK (k:=i) a9.out aJ.size hevC rfl VZ VZ V0 ?_;refine Fc ?_;refine bJ hh ?_;intro b12 w12 hh;refine aI ?_;refine bL hh 0 [_,_,_] ?_;intro ws hh;replace hh:Hp _ (.blk _ _ [_,_,_] _::_) _:=hh;refine aa (ah ?_);refine OC ?_;refine dn ?_;refine da ?_;refine dN 4 ?_;refine Pc ?_;refine da ?_;refine dN 4 ?_;refine PG ?_;refine da ?_;refine dN 6 ?_;refine dn ?_;refine Fi ?_ ?_
     ·exact Sv
     refine xN ?_;refine dn ?_;refine Dq ?_;refine aG ?_;intro f W hJ hV;have hb_11:=hJ.bl;obtain ⟨v60,v59,v58,v57,v56,v55,v54,v53,v52,v51,v50,v49,v48,v47,_⟩:=hV;replace hh:=hJ.hp;refine Pg ?_;dsimp only [bI];clear hJ;refine ct (aa (cF (ao (bF (ai (ak ?_))))));refine bj (mI (az (ai ?_)));replace hh:=hh.sub (Wa _ (V7 _ (V7 _ (V7 _ (V7 _ (V7 _ (V7 _ Wx)))))));exact O9
   ·exact Uf):p:=h
theorem PI {p:Prop} (h:p:=by
  refine cY (aB (aa (av ?_)));refine cW ?_;exact ⟨by rw [Wr hg],hh.below⟩):p:=h
theorem Qm {p:Prop} (h:p:=by
  show (UInt8.ofNat ((r:Int)).toNat).toNat=r;rw [Xd,Zf];omega):p:=h
theorem P2 {p:Prop} (h:p:=by
  have h1:bN m≠0:=fun h=>h0 (by rw [h,nn]);rw [Wr h1];exact ⟨rfl,hh.below⟩):p:=h
theorem Qk {p:Prop} (h:p:=by
  refine aS (aB (aa (av ?_)));refine LP ?_;rw [Wr VZ];exact ⟨rfl,hh.below⟩):p:=h
theorem Li {p:Prop} (h:p:=by
  rw [Wg,W8 VZ]
  rfl):p:=h
theorem Pp {p:Prop} (h:p:=by
  refine cY (aB (aa (av ?_)));refine cW ?_;exact ⟨by rw [WG VZ],hh.below⟩):p:=h
theorem KH {p:Prop} (h:p:=by
  exact ⟨0,0,V8 _,rfl,rfl,rfl,Nat.one_pos,hh⟩):p:=h
theorem Qi {p:Prop} (h:p:=by
  rw [XE];split
  ·exact List.nodup_nil
  ·exact XR.2 ⟨by simp,List.nodup_nil⟩):p:=h
theorem O8 {p:Prop} (h:p:=by
  unfold vv at hb;rw [Zn,Yo,Yo] at hb;omega):p:=h
theorem OS {p:Prop} (h:p:=by
  exact ⟨⟨VZ,(hcp.my o ho).2,by rw [e2];exact po.ok,by rw [e2];exact po.sz⟩,by rw [e2];exact pl⟩):p:=h
theorem PK {p:Prop} (h:p:=by
  refine cW ?_;rw [←hcut,We,Ww,Xg VZ];exact ⟨rfl,hh.below⟩):p:=h
theorem Oz {p:Prop} (h:p:=by
  exact ⟨0,0,none,[],[],V8 _,rfl,rfl,rfl,⟨fun j g o _ h=>(nomatch h),fun o h=>(nomatch h)⟩,hh⟩):p:=h
theorem OM {p:Prop} (h:p:=by
  have h1:bN m=0:=by rw [←nn] at h0;exact J8 h0
  rw [WG VZ];exact ⟨rfl,hh.below⟩):p:=h
theorem Pm {p:Prop} (h:p:=by
  induction xs generalizing ys c with
  |nil=>exact Dg.nil
  |cons x xs ih=>exact Dg.cons (WB _ hB) (ih _ _)):p:=h
theorem Ox {p:Prop} (h:p:=by
  refine aS (aa (av ?_));refine cW ?_;rw [Wc VZ] at hT;rw [hT];exact ⟨rfl,hh.below⟩):p:=h
theorem Ti {p:Prop} (h:p:=by
  rw [ay hd] at hx
  rcases W3.1 hx with hx|hx
  ·exact hall x hx
  ·rw [Wu.1 hx];omega):p:=h
theorem Qa {p:Prop} (h:p:=by
  rw [show (18446744073709551616:Nat)=2^64 from rfl,←W5];exact WS VZ VZ):p:=h
theorem Kv {p:Prop} (h:p:=by
  rw [hU VZ (eT VZ _ _),cL hbd]):p:=h
theorem Lw {p:Prop} (h:p:=by
  exact ⟨PX.nil,fL.err he,rfl,(hh.sub (Xq _)).CU⟩):p:=h
theorem Ot {p:Prop} (h:p:=by
  refine dR ?_;refine Aq ?_;refine cW ?_;exact ⟨by rw [V5 (.inr rfl)],hh.below⟩):p:=h
theorem Tg {p:Prop} (h:p:=by
  show Value.slice _ (O.length+1) _=Value.slice _ (O++[(⟨x.m,nR (x.c.d+y.c.d)⟩:TR)]).length _;rw [We]
  rfl):p:=h
theorem Fy {p:Prop} (h:p:=by
  rw [hd] at h1;rw [hd];exact ⟨_,_,rfl,h1,hh.below⟩):p:=h
theorem Py {p:Prop} (h:p:=by
  refine fi ?_;refine Aq ?_;refine cW ?_;exact ⟨by rw [V5 (.inl VZ)],hh.below⟩):p:=h
theorem Pk {p:Prop} (h:p:=by
  unfold Program.cellsOf at hc
  cases hi:P.info? fd.type with
  |none=>simp [hi] at hc
  |some i=>exact ⟨i,rfl,by simpa [hi] using hc⟩):p:=h
theorem Lb {p:Prop} (h:p:=by
  cases rest with
  |nil=>simp at hlen;omega
  |cons x r=>exact ⟨x,r,rfl⟩):p:=h
theorem Ls {p:Prop} (h:p:=by
  have:=hready (k-m) VZ;rwa [show m+(k-m)=k by omega] at this):p:=h
theorem Tj {p:Prop} (h:p:=by
  simp only [execOp,resolve,invoke,builtin,Sem.run_bind,Sem.run_pure,Result.andThen_ok,Yn,Wv,WV,hs,hx,hr]):p:=h
theorem To {p:Prop} (h:p:=by
  have hj:=(Wk.1 hd).1;rw [nL,List.getElem?_zipWith,hd];unfold ma;rw [Wg,W8 hj]
  rfl):p:=h
theorem Si {p:Prop} (h:p:=by
  have h2:=hD (i+1) e (by simpa using he);refine ⟨h2.1,fun t ht=> ?_⟩;have h3:=h2.2 t (ll t ht);rwa [show j+1+i=j+(i+1) by omega]):p:=h
theorem SP {p:Prop} (h:p:=by
  unfold co;split
  ·cases h:X[eu ds ((cq ds p).set a i)]? with
   |none=>exact Sz.zero k
   |some y=>exact hx y (Wb h)
  ·exact Sz.zero k):p:=h
theorem TV {p:Prop} (h:p:=by
  refine ⟨VZ, ?_⟩;by_cases hc:x0+2^i*(x1 % 2)<y0+2^i*(y1 % 2)
  ·rw [V5 hc];rw [hlt] at hc;omega
  ·rw [V6 hc];rw [hlt] at hc;omega):p:=h
theorem R7 {p:Prop} (h:p:=by
  rcases XM n with h|h
  ·exact h
  ·obtain ⟨_,h1,_⟩:=hS.2 h;cases h1):p:=h
theorem TH {p:Prop} (h:p:=by
  refine B2 ?_;refine cW ?_;rw [hbad (by simp [ck];omega),V5 rfl];exact ⟨rfl,hh.below⟩):p:=h
theorem Tz {p:Prop} (h:p:=by
  cases base2 with
  |none=>exact run_firstCells_none w.drew i.size 0 0 0
  |some a2=>exact run_firstCells_some w.drew i.size 0 a2 0 0 [] (by simp) (fun j u hu=>by simp at hu)):p:=h
theorem St {p:Prop} (h:p:=by
  have e:ns=ns.take i++d::ns.drop (i+1):=by rw [←ix h,W9]
  conv=>lhs;rw [e]
  rw [Y8,Zg,WY]
  rfl):p:=h
theorem Sp {p:Prop} (h:p:=by
  refine a0 (aa (cT (sr (aS (aB (aa (av (aK ?_))))))));refine LP ?_;rw [Nat.sub_eq_zero_of_le VZ,WG VZ,nn];exact ⟨rfl,hh.below⟩):p:=h
theorem UB {p:Prop} (h:p:=by
  intro ρ1 w1 hj hR;obtain ⟨A49,c49,h49,s49⟩:=hR.1;exact bf rfl (aQ au.out (aw h49 a8)) (hm2 A49 c49 _ (hT.hp hj.hp) s49) (fun _ _ hq=>⟨_,hq.1,hq.2,rfl⟩)):p:=h
theorem T6 {p:Prop} (h:p:=by
  intro ρ1 w1 hj hR;obtain ⟨A51,c51,h51,s51⟩:=hR.1;exact bf rfl (aQ au.out (aw h51 a8)) (hsum A51 c51 _ (hT.hp hj.hp) s51) (fun _ _ hq=>⟨_,hq.1,hq.2,rfl⟩)):p:=h
theorem QO {p:Prop} (h:p:=by
  intro ρ1 w1 hj hR;exact let ⟨g,u,e1,e2⟩:=hR.1;dv rfl (eO e1) ⟨Below.refl _ _,g,u,rfl,e2⟩):p:=h
theorem Tc {p:Prop} (h:p:=by
  have e1:(O++X++Y).length=O.length+n+m:=by rw [We,We];omega
  exact ⟨O++X++Y,A74,c74,hd,by rw [e1],by rw [e1,bK,bK];exact hh⟩):p:=h
theorem TL {p:Prop} (h:p:=by
  refine aa (cT (sr (aS (aI (aa (av (aK (cm (aK (aK (cm (aK ?_))))))))))));refine LP ?_;obtain ⟨e1,e2⟩:=QA hx (by simp [ck];omega);rw [e1,e2];exact ⟨rfl,hh.below⟩):p:=h
theorem TF {p:Prop} (h:p:=by
  intro ρ1 w1 hj hR;exact dv rfl (ep (k:=a) a9.out aJ.size ((show ρ1 57=Value.slice _ _ _ from hR.1).trans su) (show ρ1 58=Value.int _ _ from hR.2.1) VZ VZ) ⟨Below.refl _ _,rfl⟩):p:=h
theorem Te {p:Prop} (h:p:=by
  intro ρ1 w1 hj hR;exact dv rfl (ep (k:=a) a9.out aJ.size ((show ρ1 65=Value.slice _ _ _ from hR.1).trans su) (show ρ1 66=Value.int _ _ from hR.2.1) VZ VZ) ⟨Below.refl _ _,rfl⟩):p:=h
theorem SY {p:Prop} (h:p:=by
  refine sr ?_;refine JS ?_;refine cW ?_;exact ⟨_,_,rfl,hh.sub (V7 _ (Xq _))⟩):p:=h
theorem SB {p:Prop} (h:p:=by
  have h3:ar fx.ns=ar (fx.ns.take (a+1))*ar (fx.ns.drop (a+1)):=by rw [←dD,W9]
  have:=Nat.le_mul_of_pos_left (ar (fx.ns.drop (a+1))) (cn (fx.ns.take (a+1)));omega):p:=h
theorem R4 {p:Prop} (h:p:=by
  intro ρ1 w1 hj hR;exact let ⟨g,u,e1,e2⟩:=hR.1;dv rfl (fK (vs:=[_,_]) e1 rfl) ⟨Below.refl _ _,rfl⟩):p:=h
theorem TQ {p:Prop} (h:p:=by
  refine vg rfl (aw (Ci rfl) (aw (Ci rfl) a8)) V0 ?_;refine ki (by first|exact sP rfl|exact sH rfl) V0 ?_;refine aa (av ?_);refine cW ?_;exact ⟨_,_,rfl,hh⟩):p:=h
theorem Tb {p:Prop} (h:p:=by
  have h1:(Op.equal 40 (.agg #[.bool s,.string a,.int .i64 e]) (.agg #[.bool s',.string a',.int .i64 e'])).run Tryz.prog w=.ok r w:=by rw [←hr];exact LI 9997 s s' a a' e e' w
  simp only [execOp,hx,hy];simp [eqGuard,binOp,h1]):p:=h
theorem Rs {p:Prop} (h:p:=by
  intro ρ1 w1 hj hR;exact let ⟨g,u,e1,e2⟩:=hR.1;dv rfl (fK (vs:=[_,_]) e1 rfl) ⟨Below.refl _ _,g,u,rfl,e2⟩):p:=h
theorem RM {p:Prop} (h:p:=by
  have:=pD n zc;rw [hzl] at this;unfold madeCells;rw [hzc];have e2:zc.toArray.size=sz:=by simpa using hzl
  rw [e2,this]):p:=h
theorem Tk {p:Prop} (h:p:=by
  rw [hst,We,WX,bK,show [x.d].map nR=[x] by rw [Wv,WV,hxn]];exact hh):p:=h
theorem Ta {p:Prop} (h:p:=by
  have h1:M<256^(aY 256 M).length:=qy VZ M;rw [JF VZ h1,Xc,Zl,WJ,Hz (fun d hd=>(dZ (B:=256) VZ M).1 d (YX.1 hd)),sb,List.map_reverse]):p:=h
theorem Tn {p:Prop} (h:p:=by
  obtain rfl:i=n:=VZ;rw [Wc VZ] at hh;refine ah (sr (mI (mL (aF ?_))));refine F9 ?_;refine cW ?_;exact ⟨_,_,rfl,hh⟩):p:=h
theorem S8 {p:Prop} (h:p:=by
  rintro e a' w' ⟨ρ',hf',hq⟩;have e1:(fun i=>a.tmps.getD i undef)=ρ:=funext hf.at_;have e2:(fun i=>a'.tmps.getD i undef)=ρ':=funext hf'.at_
  cases e with
  |normal=>exact ⟨⟨ρ',hf',hq.1⟩,by rw [e1,e2];exact hq.2⟩
  |_=>exact ⟨ρ',hf',hq⟩):p:=h
theorem TA {p:Prop} (h:p:=by
  have h1:z.natAbs=y.natAbs*2^j:=by rw [←hyz,X9,YH];rfl
  have h2:y.natAbs*1≤y.natAbs*2^j:=WM _ (WQ VZ);have h3:bG y.natAbs≤8*a.size:=dL VZ;rw [jP];omega):p:=h
theorem Ri {p:Prop} (h:p:=by
  refine aa (cT (sr (aI (aa (av (aK (cm (aK (aK (cm (aK ?_)))))))))));refine cW ?_;exact ⟨by rw [hc],hh.below⟩):p:=h
theorem Sm {p:Prop} (h:p:=by
  rw [Xc,Zl,WJ] at hh;refine ah (sr (mI (mL (aF ?_))));refine F9 ?_;refine cW ?_;exact ⟨_,rfl,hh.at_ (i:=0) rfl,hh.below⟩):p:=h
theorem Sq {p:Prop} (h:p:=by
  exact Qj):p:=h
theorem Sy {p:Prop} (h:p:=by
  refine bL hh 0 [_,_,_,_,_,_] ?_;intro ws hh;replace hh:Hp _ (.blk _ _ [_,_,_,_,_,_] _::_) _:=hh;refine aa (av ?_);refine LO (dT rfl (dW (vs:=[_,_,_,_,_,_]) aJ.out (hh.bP (i:=0) (n:=6) rfl rfl) rfl) e8) ?_;exact ⟨rfl,hh.below⟩):p:=h
theorem Rz {p:Prop} (h:p:=by
  refine YD fun hn=>hall fun i hi=> ?_
  cases hc2:L.getD i false with
  |true=>rfl
  |false=>exact absurd ⟨i,hi,hc2⟩ hn):p:=h
theorem R5 {p:Prop} (h:p:=by
  refine full L a w (fuel+1) hI hall ?_;have hL:L=iY l.length m:=sO (by rw [hI.ls,hnn]) hml hall hI.tl;rw [hL,Ck] at hc;omega):p:=h
theorem SN {p:Prop} (h:p:=by
  cases B with
  |none=>exact run_append_nothing w t t ty e i ht hi _ 0 0 (V9 _) _ (Src.ofNil w ht c')
  |some ad=>exact run_append_nothing w t t ty e i ht hi _ 0 0 (V9 _) _ (Src.ofSlice w ht ad 0 c' [] (by simp) (fun j u hu=>by simp at hu) (fun u hu=>by cases hu))):p:=h
theorem SQ {p:Prop} (h:p:=by
  have:((fx.cs.map NR.d).map nR)[i]?=some x:=by rw [←hnum];exact hx
  rw [Wg,Wg,hx] at this;exact WT this):p:=h
theorem Ts {p:Prop} (h:p:=by
  have hr0:rest=[]:=XA VZ;subst hr0;refine sr ?_;refine a0 (aa (ah (cF (aZ (aC (aC (br ?_)))))));refine Rn (by first|exact .inr rfl|exact .inl rfl) rfl  ?_;rw [WJ,hH,WJ] at*;rw [←heq];exact ⟨rfl,hh⟩):p:=h
theorem Sw {p:Prop} (h:p:=by
  rw [hu];refine bL hh 1 [_,_] ?_;intro ws hh;replace hh:Hp _ (_::.blk _ _ [_,_] _::_) _:=hh;refine aa (av ?_);refine xc ?_;rw [Wc VZ] at hS2;rw [hS2];exact ⟨rfl,hh.below⟩):p:=h
theorem Qw {p:Prop} (h:p:=by
  intro w9 hh;refine ⟨(dT rfl (dW (vs:=[_,_,_]) aJ.out (hh.bP (i:=0) (n:=3) rfl rfl) rfl) (iB (jh rfl) e8)), ?_⟩;exact ⟨rfl,hh.below⟩):p:=h
theorem Q0 {p:Prop} (h:p:=by
  refine sr ?_;refine JS ?_;refine cW ?_;exact ⟨_,_,rfl,hh⟩):p:=h
theorem Rh {p:Prop} (h:p:=by
  exact ⟨none,0,rfl,World.ownsRow_nil _ _ _ _,hh.below⟩):p:=h
theorem MV {p:Prop} (h:p:=by
  exact V4):p:=h
theorem RL {p:Prop} (h:p:=by
  rw [Wi];exact WK (Zy _ _) (by rw [Ye];exact V9 _)):p:=h
theorem KT {p:Prop} (h:p:=by
  refine aa (cT (sr (aL (aa (av (aK ?_))))));refine cW ?_;exact ⟨rfl,hh.below⟩):p:=h
theorem TJ {p:Prop} (h:p:=by
  intro w7 hh;refine aI (aa (sr (mI ?_)));refine mg ?_;refine a0 (mB (gT (mI (gT (bC (gT ?_))))));refine bA hh 0 ?_;refine gT (aF (gT ?_));refine dP ?_;refine dR ?_;refine EM ?_;refine cW ?_;exact ⟨rfl,hh.below⟩):p:=h
theorem Rj {p:Prop} (h:p:=by
  refine sr ?_;refine JS ?_;exact Kg):p:=h
theorem NL {p:Prop} (h:p:=by
  refine aI (aa (sr (mI ?_)));refine cY (aa (cT (sr (mI (aI (aa (av (aK ?_))))))));refine cW ?_;exact ⟨rfl,hh.below⟩):p:=h
theorem Sb {p:Prop} (h:p:=by
  intro A7 c7 w7 hh;simp only [Wh] at hh;rw [Ws] at hh ⊢;rw [Wd] at hh;refine aL (aa (av ?_));exact Kg):p:=h
theorem Iz {p:Prop} (h:p:=by
  refine cW ?_;exact ⟨_,rfl,fun h=>(by cases h),hh.below⟩):p:=h
theorem Sj {p:Prop} (h:p:=by
  refine aI (aa (sr (mI ?_)));refine cY (aa (cT (sr ?_)));refine fe [_,_] (mI ?_);refine bL hh 0 [_,_] ?_;intro ws hh;replace hh:Hp _ (.blk _ _ [_,_] _::_) _:=hh;refine aI (aa (av (aK ?_)));refine xm ?_;exact ⟨FX.nil,Out.err hE,rfl,(hh.sub (Xq _)).JX⟩):p:=h
theorem Sk {p:Prop} (h:p:=by
  obtain ⟨d,t,ty,pos,af,n,ag,by',zc,hi1,_⟩:=hfr.at i hi;obtain ⟨e,t',ty',pos',af',n',ag',by'',zc',hj1,_⟩:=hfr.at j hj;have hi2:(l.toArray[i]?).bind (·.dst)=some d:=by rw [Ys,hi1];rfl
  have hj2:(l.toArray[j]?).bind (·.dst)=some e:=by rw [Ys,hj1];rfl
  rw [hi2,hj2];exact hI.fd i hi j hj hij (hall i (hfm' i hi)) (hall j (hfm' j hj)) d e hi2 hj2):p:=h
theorem RH {p:Prop} (h:p:=by
  refine sr (aL (aa (ah (sr (mL ?_)))));refine sF a9.out rfl rfl V0 ?_;refine aa (cT (sr (aL (aa (av (aK ?_))))));refine cW ?_;exact ⟨_,_,rfl,World.ownsRow_nil _ _ _ _,hh.below⟩):p:=h
theorem MK {p:Prop} (h:p:=by
  refine aa (cT (sr (aB (aa (av (cm (aK (aK (cm (aK ?_))))))))));refine cW ?_;exact ⟨_,rfl,fun h=>(by cases h),hh.below⟩):p:=h
theorem BG {p:Prop} (h:p:=by
  refine aS (aa (av ?_));refine cW ?_;exact ⟨rfl,hh.below⟩):p:=h
theorem yG {p:Prop} (h:p:=by
  refine aI (aa (av ?_));refine cW ?_;exact ⟨rfl,hh.below⟩):p:=h
theorem SF {p:Prop} (h:p:=by
  refine sr ?_;refine mf ?_;refine bY hh 0 [_,_,_] ?_;refine bL hh 1 [_,_,_] ?_;intro ws hh;replace hh:Hp _ (_::.blk _ _ [_,_,_] _::_) _:=hh;refine aa (av ?_);refine LO (dT rfl (dW (vs:=[_,_,_]) aJ.out (hh.bP (i:=1) (n:=3) rfl rfl) rfl) e8) ?_;rw [Wc VZ] at hS2;rw [hS2];exact ⟨rfl,hh.below⟩):p:=h
theorem Ru {p:Prop} (h:p:=by
  refine ⟨hI.nd,hI.sz,fun s=> ?_⟩;by_cases hs:∃i,(i,s)∈ds
  ·obtain ⟨i,hi⟩:=hs;rw [(lR _ ds s hnd).1 i hi,(hdsm i s hi).2]
  ·rw [(lR _ ds s hnd).2 fun i hi=>hs ⟨i,hi⟩];exact hI.H8 s fun i hi _ hd=>hs ⟨i,hpre i s hi hd⟩):p:=h
theorem S7 {p:Prop} (h:p:=by
  refine aa (cF (aZ (aC (aC (br (ai (ah (sr (mI ?_)))))))));refine cY (aa (cT (sr ?_)));refine fe [_,_] (mI ?_);refine bL hh 2 [_,_] ?_;intro ws hh;replace hh:Hp _ (_::_::.blk _ _ [_,_] _::_) _:=hh;refine aI (aa (av (aK ?_)));refine px ?_;exact ⟨PX.nil,fL.err he0,rfl,(hh.sub (Xq _)).CU⟩):p:=h
theorem Ig {p:Prop} (h:p:=by
  refine Aq ?_;refine cW ?_;exact ⟨rfl,hh.below⟩):p:=h
theorem QG {p:Prop} (h:p:=by
  refine bL hh 1 [_,_,_] ?_;intro ws hh;replace hh:Hp _ (_::.blk _ _ [_,_,_] _::_) _:=hh;refine aa (av ?_);refine LO (dT rfl (dW (vs:=[_,_,_]) aJ.out (hh.bP (i:=1) (n:=3) rfl rfl) rfl) e8) ?_;exact ⟨rfl,hh.below⟩):p:=h
theorem Tr {p:Prop} (h:p:=by
  simp only [cd];rw [←htake];have h5:o+vs.length≤m*sz:=VZ;have h6:m*sz≤cur.toList.length:=by rw [←hcl,hcur];exact hle
  rw [Zd,Xg VZ,List.drop_take,WY,WY,List.take_append,List.take_append];simp only [Ww,Xg (show o≤cur.toList.length by omega)];rw [Wc (l:=cur.toList.take o) (by simp;omega),Wc (l:=vs) VZ];congr 2;congr 1;omega):p:=h
theorem vP {p:Prop} (h:p:=by
  refine aB (aa (av ?_));refine cW ?_;exact ⟨rfl,hh.below⟩):p:=h
theorem Mu {p:Prop} (h:p:=by
  rw [hds,YX,Xp];refine ⟨(some d,i), ?_,rfl⟩;rw [List.mem_zipIdx_iff_getElem?];rw [Wg,W8 hi];simp only [Xx,hd]):p:=h
theorem QC {p:Prop} (h:p:=by
  rw [Wc VZ] at hall;refine sr ?_;refine Gm ?_;refine cW ?_;exact ⟨_,rfl,⟨fun h=>absurd h V0,fun h=>by rw [hall] at h;cases h⟩,hh.below⟩):p:=h
theorem Sv {p:Prop} (h:p:=by
  intro ρ1 w1 hj hR;exact dv rfl (ep (k:=a) a9.out aJ.size ((show ρ1 55=Value.slice _ _ _ from hR.1).trans su) (show ρ1 56=Value.int _ _ from hR.2.1) VZ VZ) ⟨Below.refl _ _,rfl⟩):p:=h
theorem NV {p:Prop} (h:p:=by
  have p1:=hpre i d hi h1;have p2:=hpre j d hj h2;have e1:=((lR (ρ:=ρ) (fun i=>.int .i64 i) ds d hnd).1 i p1).symm.trans ((lR (ρ:=ρ) (fun i=>.int .i64 i) ds d hnd).1 j p2);injection e1 with _ e1
  omega):p:=h
theorem SC {p:Prop} (h:p:=by
  refine bL hh 0 [_,_] ?_;intro ws hh;replace hh:Hp _ (.blk _ _ [_,_] _::_) _:=hh;refine aI (aa (av (aK ?_)));refine xm ?_;exact ⟨PX.nil,fL.err VZ,rfl,(hh.sub (Xq _)).CU⟩):p:=h
theorem Tq {p:Prop} (h:p:=by
  refine bL hh 2 [_,_] ?_;intro ws hh;replace hh:Hp _ (_::_::.blk _ _ [_,_] _::_) _:=hh;refine aI (aa (av ?_));refine px ?_;exact Gd):p:=h
theorem QE {p:Prop} (h:p:=by
  refine gy (hc _ hh.below) au.out rfl rfl V0 ?_;rintro e_ w16 ⟨rfl,hb_⟩;refine ⟨_,rfl, ?_⟩;replace hh:=hh.ext hb_;refine aa (cT (sr (mI (aI (aa (av (cm (aK (aK (cm (aK ?_)))))))))));refine cW ?_;exact ⟨_,rfl,⟨fun _=>Yb.2 ⟨z,Wb hz,gz⟩,fun _=>by omega⟩,hh.below⟩):p:=h
theorem QD {p:Prop} (h:p:=by
  rintro e_ w7 ⟨v_,rfl,hv_,hb_⟩;refine ⟨_,rfl, ?_⟩;replace hh:=hh.ext hb_
  cases ga:l.any p with
  |true=>
   have h0:=hv_.2 ga;exact EK
  |false=>
   have h0:¬0≤v_:=fun h=>by rw [hv_.1 h] at ga;cases ga
   exact EK):p:=h
theorem S6 {p:Prop} (h:p:=by
  exact Pa):p:=h
theorem IW {p:Prop} (h:p:=by
  refine aa (cT (sr (aL (aa (av (aK (cm (aK (aK (cm (aK ?_)))))))))));refine cW ?_;simp only [mj,hf];exact ⟨none,0,rfl,World.ownsRow_nil _ _ _ _,hh.below⟩):p:=h
theorem TD {p:Prop} (h:p:=by
  unfold ByteArray.toList;have:∀(n i:Nat) (r:List UInt8),s.size-i=n→ByteArray.toList.loop s i r=r.reverse++s.data.toList.drop i:=by
   intro n
   induction n with
   |zero=>
    intro i r h;rw [ByteArray.toList.loop,V6 VZ,XX (by rw [Zo];show s.size≤i;omega)];simp
   |succ n ih=>
    intro i r h;have hi:i<s.size:=VZ;rw [ByteArray.toList.loop,V5 hi,ih (i+1) _ VZ];have hi2:i<s.data.toList.length:=by rw [Zo];exact hi
    rw [Xv hi2];have:s.get! i=s.data.toList[i]:=by
     show s.data[i]! =_;rw [getElem!_pos s.data i (by simpa using hi2)];simp
    simp [this]
  simpa using this (s.size-0) 0 [] rfl):p:=h
theorem RV {p:Prop} (h:p:=by
  have h16:¬2^24<len*sz:=VZ;have hf':=yg _ _ _ hf;rw [←pD,hzl] at hf';have hzs:zc.toArray.size=sz:=by simpa using hzl
  have hp':=FA parts hp;simp only [execOp,hp',Instr.buildSlice,Sem.run_bind,run_underlying ht,Result.andThen_ok,eG hte,gt_iff_lt,V6 h16,V6 h0,hz,hzc,Sem.run_pure,hzs,hf'];simp [newRow]):p:=h
theorem Rl {p:Prop} (h:p:=by
  simp only [FQ]
  rcases WW i l.length with hi|hi
  ·rw [Xo,Array.getElem?_append_left (by simpa using hi)];simp [Xl]
  ·rw [Xo,Array.getElem?_append_right (by simpa using hi)];simp only [Xl,WN hi,Option.getD_none,Array.getElem?_replicate];split<;>rfl):p:=h
theorem Sr {p:Prop} (h:p:=by
  refine fw ?_;refine kF 3 V0 V2 V0 V2 V2 ?_;refine bL hh 3 [_,_] ?_;intro ws hh;replace hh:Hp _ (_::_::_::.blk _ _ [_,_] _::_) _:=hh;refine aB (aa (av ?_));refine UY (dT rfl (dW (vs:=[_,_]) aJ.out (hh.bP (i:=4) (n:=2) rfl rfl) rfl) (dT rfl (dW (vs:=[_,_]) aJ.out (hh.bP (i:=3) (n:=2) rfl rfl) rfl) (iB (mX rfl) e8))) ?_;exact ⟨rfl,hh.below⟩):p:=h
theorem RG {p:Prop} (h:p:=by
  refine Fj ?_;exact Gd):p:=h
theorem Uf {p:Prop} (h:p:=by
  obtain rfl:i=fx.m:=VZ;refine sr ?_;refine mf ?_;refine bY hh 1 [_,_] ?_;refine bL hh 4 [_,_] ?_;intro ws hh;replace hh:Hp _ (_::_::_::_::.blk _ _ [_,_] _::_) _:=hh;refine aI (aa (av ?_));replace hh:=hh.sub (V7 _ (Wa _ (V7 _ (Wa _ (V7 _ (Wa _ Wx))))));refine px ?_;refine ⟨⟨some ⟨gd,0,none⟩,fx.n-1,c33,B,(jC ap d (d*sd) (fx.cs.map NR.d) fx.m).length,c1,fx.ds.eraseIdx a,(jC ap d (d*sd) (fx.cs.map NR.d) fx.m).map nR⟩,rfl,rfl,by show fx.n-1≤100000;omega, ?_,rfl,hh.sub (X1 [_,_] _)⟩;show (jC ap d (d*sd) (fx.cs.map NR.d) fx.m).length≤1000000;exact Pz):p:=h
theorem R1 {p:Prop} (h:p:=by
  intro L a w hI hc;have hall:∀i,i<l.length→L.getD i false=true:=fun i hi=>by
   exact PM
  have hmn:l.length≤0+m:=by
   rcases WW m l.length with h|h
   ·have h1:=hall m h;rw [hI.tl m (V9 _)] at h1
    cases h1
   ·omega
  exact full L a w 0 hI (fun i hi=>hall i VZ) hmn):p:=h
theorem Re {p:Prop} (h:p:=by
  have hJ0:J ({ w with drawn:=w.drawn+1 }:World):=hJ w _ h0 ⟨rfl,rfl,rfl,V9 _,fun _ _=>rfl⟩;have hr0:∀i,(Array.replicate l.toArray.size false).getD i false=false:=fun i=>by
   rw [Xo,Array.getElem?_replicate];split<;>rfl
  refine key _ _ _ _ ⟨hf.nd,hf.sz,hJ0,by simp,fun k o _ hk=> ?_,fun k _=>hr0 k,fun i d _ hi=> ?_,fun s _=>hf.at_ s,fun i _ hi=> ?_,fun i _ j _ _ hi=> ?_⟩ ?_
  ·rw [hr0] at hk;cases hk
  ·rw [hr0] at hi;cases hi
  ·rw [hr0] at hi;cases hi
  ·rw [hr0] at hi;cases hi
  ·simp [List.countP_replicate]):p:=h
theorem J4 {p:Prop} (h:p:=by
  refine bL hh 1 [_,_] ?_;intro ws hh;replace hh:Hp _ (_::.blk _ _ [_,_] _::_) _:=hh;refine aa (av ?_);exact PD):p:=h
theorem MU {p:Prop} (h:p:=by
  refine aI (aa (sr (mI ?_)));refine cY (aa (cT (sr ?_)));refine fe [_,_] (mI ?_);refine bL hh 0 [_,_] ?_;intro ws hh;replace hh:Hp _ (.blk _ _ [_,_] _::_) _:=hh;refine aI (aa (av (aK ?_)));refine xm ?_;exact ⟨PX.nil,fL.err h0,rfl,(hh.sub (Xq _)).CU⟩):p:=h
theorem SV {p:Prop} (h:p:=by
  refine bL hh 0 [_,_] ?_;intro ws hh;replace hh:Hp _ (.blk _ _ [_,_] _::_) _:=hh;refine aI (aa (av (aK ?_)));refine xm ?_;exact ⟨rfl,hh.below⟩):p:=h
theorem Td {p:Prop} (h:p:=by
  refine bL hh 0 [_,_,_] ?_;intro ws hh;replace hh:Hp _ (.blk _ _ [_,_,_] _::_) _:=hh;refine aI (aa (av (aK ?_)));exact PH):p:=h
theorem Ty {p:Prop} (h:p:=by
  exact PQ):p:=h
theorem Ug {p:Prop} (h:p:=by
  exact OK):p:=h
theorem NG {p:Prop} (h:p:=by
  rw [hds,YX,Xp] at hp;obtain ⟨⟨x,k⟩,hx,hxe⟩:=hp;rw [List.mem_zipIdx_iff_getElem?] at hx
  cases x with
  |none=>simp at hxe
  |some d'=>
   simp only [Xx,XN,Prod.mk.injEq] at hxe;obtain ⟨rfl,rfl⟩:=hxe;rw [Wg] at hx
   cases hr:(List.range m)[k]? with
   |none=>rw [hr] at hx;simp at hx
   |some y=>
    have hkm:k<m:=by
     have:=(Wk.1 hr).1;simpa using this
    rw [W8 hkm] at hx;simp only [Xx,XN] at hx;exact ⟨hkm,hx⟩):p:=h
theorem BC {p:Prop} (h:p:=by
  refine rY (c:=cc) a9.out rfl rfl VZ hcc V0 ?_;skip;refine wH ?_;refine bj (aI (aa (av ?_)));refine cW ?_;refine ⟨?_,Below.refl _ _⟩;congr 2;rw [hcv];omega):p:=h
theorem Nk {p:Prop} (h:p:=by
  unfold Region.ready;rw [XI,Xn,hnn];constructor
  ·rintro ⟨h1,h2⟩;have ho:l.toArray[i]?=some l[i]:=by simp [h1]
   rw [ho] at h2;simp only [Xx,Xj,Wm,Za] at h2;refine ⟨h1,h2.1,l[i],ho,fun e he hb=> ?_⟩;have:=Zi.1 h2.2 e he;simpa [hb] using this
  ·rintro ⟨h1,h2,o,ho,h3⟩;refine ⟨h1, ?_⟩;rw [ho];simp only [Xx,Xj,Wm,Za];refine ⟨h2,Zi.2 fun e he=> ?_⟩
   cases hb:Region.binds .any e with
   |false=>simp
   |true=>simpa [hb] using h3 e he hb):p:=h
theorem LM {p:Prop} (h:p:=by
  refine bL hh 0 [_,_] ?_;intro ws hh;replace hh:Hp _ (.blk _ _ [_,_] _::_) _:=hh;refine aa (av ?_);exact OK):p:=h
theorem UO {p:Prop} (h:p:=by
  refine od ?_;refine dS (dS (dS (dU (dU (dU (dU ?_))))));refine Bt (i:=28) rfl (fun ρ1 w1 hj hR=>(show ρ1 44=undef from hR.2.2.1)) ?_;refine dU (dU (dU (dU ?_)));refine aG ?_;intro f W hJ hV _;have hb_8:=hJ.bl;obtain ⟨v53,v52,v51,v50,v49,v48,v47,v46,v45,v44,v43,v42,v41,v40,v39,v38,v37,v36,v35,v34,v33,v32,v31,v30,v29,v28,v27,v26,v25,v24,v23,v22,v21,_⟩:=hV;replace hh:=hJ.hp;refine Ea ?_;dsimp only [bI];clear hJ;refine gV (gS ?_);refine fi ?_;refine B2 ?_;refine cW ?_;exact ⟨rfl,hh.below⟩):p:=h
theorem UN {p:Prop} (h:p:=by
  intro w40 hh;rw [ff];refine a0 (aa (cF (ao (ai (ah ?_)))));refine qz hh mixed fun w_ hj_=> ?_;replace hh:=hj_.hp;clear hj_;refine tf (i:=0) (i2:=1) V2 rfl rfl ?_ ?_
  ·refine bY hh 1 [_,_] ?_;refine fw ?_;refine tf (i:=1) (i2:=2) V2 rfl rfl ?_ ?_
   ·refine bY hh 0 [_,_] ?_;exact OP
   ·refine bL hh 3 [_,_] ?_;intro ws hh;replace hh:Hp _ (_::_::_::.blk _ _ [_,_] _::_) _:=hh;refine fw ?_;refine fV (i:=1) V2 rfl ?_;refine bY hh 0 [_,_] ?_;exact OL
  ·refine bY hh 0 [_,_] ?_;refine fw ?_;refine fV (i:=0) V2 rfl ?_;refine bY hh 1 [_,_] ?_;exact OP):p:=h
theorem ME {p:Prop} (h:p:=by
  refine fe [_,_] ?_;refine bL hh 0 [_,_] ?_;intro ws hh;replace hh:Hp _ (.blk _ _ [_,_] _::_) _:=hh;refine aI (aa (av (aK ?_)));refine xm ?_;exact ⟨PX.nil,fL.err V0,rfl,(hh.sub (Xq _)).CU⟩):p:=h
theorem Vs {p:Prop} (h:p:=by
  exact OZ):p:=h
theorem Uu {p:Prop} (h:p:=by
  rw [hs];refine mI ?_;refine fe [_,_,_,_,_] ?_;refine bJ hh ?_;intro b6 w6 hh;refine bL hh 0 [_,_,_,_,_] ?_;intro ws hh;replace hh:Hp _ (.blk _ _ [_,_,_,_,_] _::_) _:=hh;refine aa (ah ?_);refine aN 9 [[(6,none)],[(30,some 0)],[(2,none)],[(31,some 1),(32,some 2)],[(6,none)],[(34,some 4)],[(3,none)],[(35,some 5),(36,some 6)],[(6,none)]] [(8,38),(7,37),(6,36),(5,35),(4,34),(3,33),(2,32),(1,31),(0,30)] hh mixed V2 ?_;refine da ?_;refine dN 0 ?_;refine eJ 3 [_,_,_] ?_;refine dC (fun _ hj=>hcx _ (hT.hp hj.hp)) ?_;refine da ?_;refine dN 0 ?_;refine eJ 2 [_,_,_] ?_;refine dC (fun _ hj=>hcy _ (hT.hp hj.hp)) ?_;refine da ?_;refine aG ?_;intro f W hJ hV;have hb_8:=hJ.bl;obtain ⟨v38,v37,v36,v35,v34,v33,v32,v31,v30,_⟩:=hV;replace hh:=hJ.hp;refine aU (bg (ae v38 (ae v37 (ae v36 (ae v35 (ae v34 (ae v33 (ae v32 (ae v31 (ae v30 aT)))))))))) ?_;dsimp only [bI];clear hJ;refine bL hh 0 [_,_] ?_;intro ws hh;replace hh:Hp _ (.blk _ _ [_,_,_,_,_] _::_) _:=hh;refine bC ?_;refine bL hh 0 [_,_] ?_;intro ws hh;replace hh:Hp _ (.blk _ _ [_,_,_,_,_] _::_) _:=hh;refine aa (sr ?_);refine bY hh 0 [_,_,_,_,_] ?_
  refine bL hh 1 [_,_,_,_,_] ?_;intro ws hh;replace hh:Hp _ (_::.blk _ _ [_,_,_,_,_] _::_) _:=hh;refine aa (av ?_);refine LO (dT rfl (dW (vs:=[_,_,_,_,_]) aJ.out (hh.bP (i:=1) (n:=5) rfl rfl) rfl) e8) ?_;exact ⟨rfl,hh.below⟩):p:=h
theorem Dd {p:Prop} (h:p:=by
  refine bL hh 0 [_,_,_] ?_;intro ws hh;replace hh:Hp _ (.blk _ _ [_,_,_] _::_) _:=hh;refine aa (av ?_);exact OZ):p:=h
theorem UW {p:Prop} (h:p:=by
  by_cases hnf:∀i,i<m→i∉fl→L.getD i false=true
  ·obtain ⟨i,him,hun'⟩:=hsome;have hif:i∈fl:=YD fun h=>by
    have h2:=hnf i him h;rw [hun'] at h2
    cases h2
   obtain ⟨hfree,hedf,d,op,ty,pos,af,hlo,hpu⟩:=hfl i hif;have ho:l.toArray[i]?=some ⟨some d,op,ty,pos,af,none⟩:=by rw [Ys];exact hlo
   have hed:∀e∈af,Region.binds .any e=true→L.getD e.on false=true:=fun e he hb=>by
    obtain ⟨h1,h2⟩:=hedf _ hlo e he hb;exact hnf e.on h1 h2
   have hil:i<l.length:=VZ;have hiL:i<L.size:=by rw [hI.ls,hnn];exact hil
   have hunt:L.getD i true=false:=by
    rw [Xo] at hun' ⊢;rw [Yv hiL] at hun' ⊢;simpa using hun'
   obtain ⟨hog,hnext⟩:=both i him _ ho hun' hed;obtain ⟨v,hv,hk⟩:=Ao hpu hog a (by rw [hI.sz];exact hdN (i,d) (hpre i d him (by rw [ho];rfl))) fun _=>rfl;refine wpAny_first (v:=v) ho (Region.noSelect_spec hns) (fun c a w ⟨ρ',_,hq⟩=>(hQp c ρ' w hq).elim) fuel L a w (fun j oj hj hji hjl hno=> ?_) ((hready_spec i).2 ⟨hil,hunt,_,ho,hed⟩) (.inl ⟨by simp [Region.wanted],hv⟩) (hnext v w hk fun hfr'=> ?_)
   ·refine Region.free_spec ho hfree j oj hj hji ?_ hno;have hjlen:j<l.length:=by have:=(YY.1 hj).1;omega
    rw [Lo hjlen];rw [Yo];rintro ⟨h1,h2⟩;have h3:=hnf j h1 h2;have hjL:j<L.size:=by rw [hI.ls,hnn];exact hjlen
    rw [Xo] at h3 hjl;rw [Yv hjL] at h3 hjl;simp only [Xj] at h3 hjl;rw [h3] at hjl
    cases hjl
   ·obtain ⟨d',t,ty',pos',af',n,ag,by',zc,hi1,_⟩:=hfr.at i hfr';rw [hlo] at hi1;injection hi1 with hi1
    injection hi1 with _ hi1
    subst hi1
    cases hpu
  have hsome2:∃i,i<m∧i∉fl∧L.getD i false=false:=by
   refine YD fun hn=>hnf fun i hi hif=> ?_
   cases hc2:L.getD i false with
   |true=>rfl
   |false=>exact absurd ⟨i,hi,hif,hc2⟩ hn
  refine ⟨fun hnil=> ?_,fun i hi=> ?_⟩
  ·exfalso;have hmin:∀k,(∃i,i<k∧i<m∧L.getD i false=false)→∃i,i<m∧L.getD i false=false∧∀j,j<i→L.getD j false=true:=by
    intro k
    induction k with
    |zero=>rintro ⟨i,h,_⟩;omega
    |succ k ihk=>
     rintro ⟨i,h1,h2,h3⟩;by_cases hex:∃i,i<k∧i<m∧L.getD i false=false
     ·exact ihk hex
     ·exact Pa
   obtain ⟨i0,h1,h2⟩:=hsome;obtain ⟨i,hi,hu,hlow⟩:=hmin (i0+1) ⟨i0,VZ,h1,h2⟩;exact PQ
  ·obtain ⟨hil,hun,o,ho,hed⟩:=(hready_spec i).1 hi;have hiL:i<L.size:=by rw [hI.ls,hnn];exact hil
   have hun':L.getD i false=false:=by
    exact Qj
   have hed':∀o',l.toArray[i]?=some o'→∀e∈o'.after,Region.binds .any e=true→L.getD e.on false=true:=fun o' ho'=>by
    exact Jw
   have him:i<m:=by
    rcases WW i m with h|h
    ·exact h
    ·exfalso
     rcases WW m i with h2|h2
     ·exact Pf
     ·obtain rfl:i=m:=VZ;have h4:(l.length==i)=false:=by simp;omega
      rw [h4,W4] at htail;have h5:=Wq.1 htail;obtain ⟨j,hj,hjf,hju⟩:=hsome2;have h6:=h5 j (by simpa using hj);have h7:fl.contains j=false:=by simpa using hjf
      rw [h7,W4] at h6;have:=gk hM hI.cl i j hed' h6;rw [hju] at this
      cases this
   obtain ⟨hog,hnext⟩:=both i him o ho hun' hed;have hgo:if Region.wanted o (yielded l.toArray a.tmps) then (o.wp P a w (wpAny P .any l.toArray (dw N D Q) fuel (L.setIfInBounds i true)) (dw N D Q))∨((o.asks P a w)∧LetsOut (dw N D Q)) else wpAny P .any l.toArray (dw N D Q) fuel (L.setIfInBounds i true) (a.put o.dst undef) w:=by
    by_cases hif:i∈fr
    ·obtain ⟨d,t,ty,pos,af,n,ag,by',zc,hi1,ht⟩:=hfr.at i hif;have ho2:o=⟨some d,.alloc t,ty,pos,af,none⟩:=by
      have h7:=ho;rw [Ys,hi1] at h7;injection h7 with h7
      exact h7.symm
     have hds:d<a.tmps.size:=by
      rw [hI.sz];exact hdN (i,d) (hpre i d him (by rw [ho,ho2];rfl))
     subst ho2;exact K3 ht hog a hds _ _ (fun _=>rfl) fun v w' hk hb=>hnext v w' hk fun _=>hb
    ·exact hog.out a _ _ (fun _=>rfl) fun v w2 hv=>hnext v w2 hv fun h=>absurd h hif
   unfold wpOp;rw [ho];exact hgo):p:=h
theorem dF {p:Prop} (h:p:=by
  exact V3):p:=h
section
variable {H:Type}{enc:TypeId×Value→H}{P:Program}
theorem ow (hl:laidOutB P=true) {W W':World} (hb:Below W.heap.size W W') (sp:Nat→Bool):∀(ts:List TypeId) (vs:List Value) (ds:List (DataW H)) (ps:List MemPlace),(∀t∈ts,P.readableRec t=true∧t<P.types.size)→
  (∀x∈ps,x.block<W.heap.size)→(∀x∈ps,sp x.block=true)→DataW.TrodAll enc P W 0 (fun _=>true) true ts vs ds ps→DataW.TrodAll enc P W' 0 sp true ts vs ds ps
 |[],vs,ds,ps,_,_,_,h=>by
  obtain ⟨rfl,rfl,rfl⟩:=trodAll_nil h;exact trodAll_mk0
 |t::ts,vs,ds,ps,hr,hlt,hsp,h=>by
  obtain ⟨v,vs',d,ds',p,q,rfl,rfl,rfl,h0,r0⟩:=trodAll_cons h;refine trodAll_cons_mk (WideElems.Trod_stays hl (hr t Wj).1 (hr t Wj).2 h0 (fun x hx=>hb.same (hlt x (X5 _ hx))) (fun x hx=>hsp x (X5 _ hx)))
   (ow hl hb sp ts vs' ds' q (fun t ht=>hr t (Wl _ ht)) (fun x hx=>hlt x (XU _ hx)) (fun x hx=>hsp x (XU _ hx)) r0)
theorem Jm {f:Func}{s:ChangeSpec}{W W':World}{args:Array Value}{ds:List (DataW H)}{before:List MemPlace}{tb:TypeId}
  (hW:DataW.Whole enc P f.params.toList s.vars false W args.toList ds [] before) (hv:s.vars=[]) (hl:laidOutB P=true) (hr:∀t∈f.params.toList,P.readableRec t=true∧t<P.types.size)
  (hres:f.resultTypes= #[tb]) (hbool:P.underlying tb=some .bool) (hs1:(s.fn H (ds++[])).results=[.lit (.bool true)]) (hs2:(s.fn H (ds++[])).args=ds) (hs3:(s.fn H (ds++[])).vars=[]) (hb:Below W.heap.size W W'):
  s.post enc P f false true false false W args (.bool true) W':=by
 have hlt:∀p∈before,p.block<W.heap.size:=fun p hp=>by simpa using hW.lt p hp
 have hold:∀p∈before,(fun b=>decide (b<W.heap.size)) p.block=true:=fun p hp=>by simpa using hlt p hp
 have hW0:=hW;obtain ⟨pa,pv,hA,hV,hps,hz,hn⟩:=hW0;rw [hv] at hV;obtain ⟨_,rfl⟩:=trodVars_none hV;have hbp:before=pa:=by rw [hps,WJ]
 subst hbp;have hA':∀sp:Nat→Bool,(∀p∈before,sp p.block=true)→DataW.TrodAll enc P W' 0 sp true f.params.toList args.toList (s.fn H (ds++[])).args before:=fun sp hsp=>by
  rw [hs2];exact ow hl hb sp _ _ _ _ hr hlt hsp hA
 have hV':∀sp:Nat→Bool,DataW.TrodVars enc P W' sp s.vars (s.fn H (ds++[])).vars []:=fun sp=>by
  rw [hv,hs3];rfl
 have hR:∀(b:Nat) (sp:Nat→Bool) (hd:Bool),DataW.TrodAll enc P W' b sp hd f.resultTypes.toList ((Value.bool true).resultList f.resultTypes.size) (s.fn H (ds++[])).results []:=fun b sp hd=>by
  rw [hres,hs1];exact trodAll_cons_mk (shut_bool hbool _) trodAll_mk0
 refine ⟨ds,[],before,[],before,[],hW,hR _ _ _,hA' _ hold,hV' _,World.keptBut_mono (fun p hp=>⟨hp, ?_⟩) (hb.frame (· ∈before)),fun _=> ?_⟩
 ·exact .inr (.inl hp)
 ·refine ⟨ok_one hres rfl (okWide_bool_mk hbool _),_,_,([]++before)++[],⟨[]++before,[],trodAll_append (hA' _ (fun _ _=>rfl)) (hR _ _ _),hV' _,rfl, ?_, ?_⟩, ?_⟩
  ·intro b off hp;have hp2:=hz b off (by simpa using hp);rw [hb.frozen (hlt _ (by simpa using hp))];exact hp2
  ·intro ha
   cases ha
  ·intro p hp _;simpa using hp
end
end Go.Proofs.YtolamocnngihpaaGreatDoor
