/- Lemmas for bernBacks, part 1. -/
import Derived.KernelRfl
import Derived.Test.YtolamocnngihpaaGreatDoorRows
import Derived.WalkKit
import Derived.ProofKit
import Derived.OpenShut
import Derived.Carry
namespace Go.Proofs.YtolamocnngihpaaGreatDoor
open Go.ChangeShapes Go.WideShapes Go.ChangeAt Go.RowKit
theorem YA:type_of% @if_pos:=@if_pos
theorem YB:type_of% @if_neg:=@if_neg
theorem YC:type_of% @List.Sublist.cons_cons:=@List.Sublist.cons_cons
theorem YD:type_of% @Nat.zero_le:=@Nat.zero_le
theorem YE:type_of% @Nat.le_refl:=@Nat.le_refl
theorem YF:type_of% @List.mem_of_getElem?:=@List.mem_of_getElem?
theorem YG:type_of% @List.take_of_length_le:=@List.take_of_length_le
theorem YH:type_of% @List.nil_append:=@List.nil_append
theorem YI:type_of% @List.Sublist.cons:=@List.Sublist.cons
theorem YJ:type_of% @List.cons_append:=@List.cons_append
theorem YK:type_of% @List.length_append:=@List.length_append
theorem YL:type_of% @List.mem_cons_self:=@List.mem_cons_self
theorem YM:type_of% @List.set_cons_zero:=@List.set_cons_zero
theorem YN:type_of% @List.getElem?_map:=@List.getElem?_map
theorem YO:type_of% @List.length_map:=@List.length_map
theorem YP:type_of% @List.mem_cons_of_mem:=@List.mem_cons_of_mem
theorem YQ:type_of% @List.getElem?_eq_some_iff:=@List.getElem?_eq_some_iff
theorem YR:type_of% @List.mem_map:=@List.mem_map
theorem YS:type_of% @List.mem_cons:=@List.mem_cons
theorem YT:type_of% @List.mem_singleton:=@List.mem_singleton
theorem YU:type_of% @Bool.and_eq_true:=@Bool.and_eq_true
theorem YV:type_of% @decide_eq_true:=@decide_eq_true
theorem YW:type_of% @List.length_take:=@List.length_take
theorem YX:type_of% @Nat.mul_one:=@Nat.mul_one
theorem YY:type_of% @decide_eq_true_eq:=@decide_eq_true_eq
theorem YZ:type_of% @List.length_cons:=@List.length_cons
theorem Y0:type_of% @Nat.zero_add:=@Nat.zero_add
theorem Y1:type_of% @List.map_cons:=@List.map_cons
theorem Y2:type_of% @Nat.le_trans:=@Nat.le_trans
theorem Y3:type_of% @decide_eq_false:=@decide_eq_false
theorem Y4:type_of% @Nat.pow_add:=@Nat.pow_add
theorem Y5:type_of% @List.Sublist.slnil:=@List.Sublist.slnil
theorem Y6:type_of% @List.all_eq_true:=@List.all_eq_true
theorem Y7:type_of% @List.getElem?_eq_none:=@List.getElem?_eq_none
theorem Y8:type_of% @Nat.mod_lt:=@Nat.mod_lt
theorem Y9:type_of% @List.append_nil:=@List.append_nil
theorem Za:type_of% @Nat.mul_comm:=@Nat.mul_comm
theorem Zb:type_of% @List.mem_append:=@List.mem_append
theorem Zc:type_of% @Nat.mul_le_mul_left:=@Nat.mul_le_mul_left
theorem Zd:type_of% @Nat.pow_pos:=@Nat.pow_pos
theorem Ze:type_of% @List.append_assoc:=@List.append_assoc
theorem Zf:type_of% @Nat.pow_le_pow_right:=@Nat.pow_le_pow_right
theorem Zg:type_of% @List.set_cons_succ:=@List.set_cons_succ
theorem Zh:type_of% @List.perm_middle:=@List.perm_middle
theorem Zi:type_of% @List.sublist_cons_self:=@List.sublist_cons_self
theorem Zj:type_of% @Nat.lt_or_ge:=@Nat.lt_or_ge
theorem Zk:type_of% @Nat.mod_eq_of_lt:=@Nat.mod_eq_of_lt
theorem Zl:type_of% @Option.some.inj:=@Option.some.inj
theorem Zm:type_of% @Nat.pow_mul:=@Nat.pow_mul
theorem Zn:type_of% @Nat.pow_succ:=@Nat.pow_succ
theorem Zo:type_of% @List.getD_eq_getElem?_getD:=@List.getD_eq_getElem?_getD
theorem Zp:type_of% @List.map_nil:=@List.map_nil
theorem Zq:type_of% @List.map_append:=@List.map_append
theorem Zr:type_of% @List.nil_sublist:=@List.nil_sublist
theorem Zs:type_of% @List.length_reverse:=@List.length_reverse
theorem Zt:type_of% @Nat.mul_add:=@Nat.mul_add
theorem Zu:type_of% @Nat.sub_self:=@Nat.sub_self
theorem Zv:type_of% @List.take_append_drop:=@List.take_append_drop
theorem Zw:type_of% @Nat.mul_assoc:=@Nat.mul_assoc
theorem Zx:type_of% @List.getElem?_range:=@List.getElem?_range
theorem Zy:type_of% @List.map_map:=@List.map_map
theorem Zz:type_of% @congrArg:=@congrArg
theorem ZA:type_of% @List.mem_range:=@List.mem_range
theorem ZB:type_of% @Nat.min_eq_left:=@Nat.min_eq_left
theorem ZC:type_of% @Nat.lt_of_lt_of_le:=@Nat.lt_of_lt_of_le
theorem ZD:type_of% @Bool.false_or:=@Bool.false_or
theorem ZE:type_of% @Nat.succ_mul:=@Nat.succ_mul
theorem ZF:type_of% @Nat.lt_of_le_of_lt:=@Nat.lt_of_le_of_lt
theorem ZG:type_of% @Nat.div_eq_of_lt:=@Nat.div_eq_of_lt
theorem ZH:type_of% @Nat.mul_le_mul_right:=@Nat.mul_le_mul_right
theorem ZI:type_of% @Array.getD_eq_getD_getElem?:=@Array.getD_eq_getD_getElem?
theorem ZJ:type_of% @List.mem_filterMap:=@List.mem_filterMap
theorem ZK:type_of% @List.Sublist.refl:=@List.Sublist.refl
theorem ZL:type_of% @Int.toNat_natCast:=@Int.toNat_natCast
theorem ZM:type_of% @List.length_drop:=@List.length_drop
theorem ZN:type_of% @List.ext_getElem?:=@List.ext_getElem?
theorem ZO:type_of% @List.eq_nil_of_length_eq_zero:=@List.eq_nil_of_length_eq_zero
theorem ZP:type_of% @List.mem_filter:=@List.mem_filter
theorem ZQ:type_of% @List.getElem?_append_right:=@List.getElem?_append_right
theorem ZR:type_of% @List.drop_eq_getElem_cons:=@List.drop_eq_getElem_cons
theorem ZS:type_of% @List.take_zero:=@List.take_zero
theorem ZU:type_of% @Int.natCast_mul:=@Int.natCast_mul
theorem ZV:type_of% @Nat.mul_le_mul:=@Nat.mul_le_mul
theorem ZW:type_of% @List.pairwise_cons:=@List.pairwise_cons
theorem ZX:type_of% @List.length_replicate:=@List.length_replicate
theorem ZY:type_of% @Option.getD_some:=@Option.getD_some
theorem ZZ:type_of% @List.drop_of_length_le:=@List.drop_of_length_le
theorem Z0:type_of% @Option.map_some:=@Option.map_some
theorem Z1:type_of% @List.getElem?_eq_getElem:=@List.getElem?_eq_getElem
theorem Z2:type_of% @Nat.div_lt_iff_lt_mul:=@Nat.div_lt_iff_lt_mul
theorem Z3:type_of% @Nat.add_mul_div_left:=@Nat.add_mul_div_left
theorem Z4:type_of% @List.getElem?_reverse:=@List.getElem?_reverse
theorem Z5:type_of% @List.mem_append_right:=@List.mem_append_right
theorem Z6:type_of% @List.getElem?_drop:=@List.getElem?_drop
theorem Z7:type_of% @Int.sign_eq_neg_one_of_neg:=@Int.sign_eq_neg_one_of_neg
theorem Z8:type_of% @of_decide_eq_true:=@of_decide_eq_true
theorem Z9:type_of% @List.getElem?_take:=@List.getElem?_take
theorem aaa:type_of% @List.any_eq_false:=@List.any_eq_false
theorem aab:type_of% @Nat.add_zero:=@Nat.add_zero
theorem aac:type_of% @Int.sign_eq_one_of_pos:=@Int.sign_eq_one_of_pos
theorem aad:type_of% @Nat.mul_succ:=@Nat.mul_succ
theorem aae:type_of% @Nat.div_div_eq_div_mul:=@Nat.div_div_eq_div_mul
theorem aaf:type_of% @Option.some.injEq:=@Option.some.injEq
theorem aag:type_of% @List.any_eq_true:=@List.any_eq_true
theorem aah:type_of% @Nat.div_add_mod:=@Nat.div_add_mod
theorem aai:type_of% @List.mem_flatMap:=@List.mem_flatMap
theorem aaj:type_of% @List.mem_iff_getElem?:=@List.mem_iff_getElem?
theorem aak:type_of% @Nat.eq_zero_or_pos:=@Nat.eq_zero_or_pos
theorem aal:type_of% @List.getElem?_set:=@List.getElem?_set
theorem aam:type_of% @beq_iff_eq:=@beq_iff_eq
theorem aan:type_of% @List.mem_append_left:=@List.mem_append_left
theorem aao:type_of% @Option.map_eq_some_iff:=@Option.map_eq_some_iff
theorem aap:type_of% @List.filterMap_cons:=@List.filterMap_cons
theorem aaq:type_of% @Int.natAbs_mul:=@Int.natAbs_mul
theorem aar:type_of% @List.nodup_cons:=@List.nodup_cons
theorem aas:type_of% @List.range_succ:=@List.range_succ
theorem aat:type_of% @Nat.add_comm:=@Nat.add_comm
theorem aau:type_of% @List.mem_of_mem_take:=@List.mem_of_mem_take
theorem aav:type_of% @List.length_range:=@List.length_range
theorem aaw:type_of% @Int.natCast_add:=@Int.natCast_add
theorem aax:type_of% @List.replicate_succ:=@List.replicate_succ
theorem aay:type_of% @Nat.add_mul:=@Nat.add_mul
theorem aaz:type_of% @Dyadic.zero_add:=@Dyadic.zero_add
theorem aaA:type_of% @List.length_eq_zero_iff:=@List.length_eq_zero_iff
theorem aaB:type_of% @List.map_congr_left:=@List.map_congr_left
theorem aaC:type_of% @List.reverse_cons:=@List.reverse_cons
theorem aaD:type_of% @Nat.add_mul_mod_self_left:=@Nat.add_mul_mod_self_left
theorem aaE:type_of% @Bool.and_eq_true_iff:=@Bool.and_eq_true_iff
theorem aaF:type_of% @Classical.byContradiction:=@Classical.byContradiction
theorem aaG:type_of% @List.sublist_append_left:=@List.sublist_append_left
theorem aaH:type_of% @Nat.one_mul:=@Nat.one_mul
theorem aaI:type_of% @List.set_append_right:=@List.set_append_right
theorem aaJ:type_of% @Dyadic.one_mul:=@Dyadic.one_mul
theorem aaK:type_of% @Dyadic.add_zero:=@Dyadic.add_zero
theorem aaL:type_of% @Bool.or_eq_true:=@Bool.or_eq_true
theorem aaM:type_of% @List.getElem?_append_left:=@List.getElem?_append_left
theorem aaN:type_of% @List.getElem?_toArray:=@List.getElem?_toArray
theorem aaO:type_of% @Dyadic.pow_zero:=@Dyadic.pow_zero
theorem aaP:type_of% @Option.bind_some:=@Option.bind_some
theorem aaQ:type_of% @Array.getElem?_eq_getElem:=@Array.getElem?_eq_getElem
theorem aaR:type_of% @List.any_nil:=@List.any_nil
theorem aaS:type_of% @Classical.not_not:=@Classical.not_not
theorem aaT:type_of% @List.reverse_reverse:=@List.reverse_reverse
theorem aaU:type_of% @Nat.div_le_self:=@Nat.div_le_self
theorem aaV:type_of% @Bool.eq_false_iff:=@Bool.eq_false_iff
theorem aaW:type_of% @List.any_append:=@List.any_append
theorem aaX:type_of% @List.length_set:=@List.length_set
theorem aaY:type_of% @List.getElem?_cons_succ:=@List.getElem?_cons_succ
theorem aaZ:type_of% @Int.natAbs_pow:=@Int.natAbs_pow
theorem aa0:type_of% @List.mem_reverse:=@List.mem_reverse
theorem aa1:type_of% @List.filterMap_append:=@List.filterMap_append
theorem aa2:type_of% @List.flatMap_cons:=@List.flatMap_cons
theorem aa3:type_of% @List.map_set:=@List.map_set
theorem aa4:type_of% @List.any_cons:=@List.any_cons
theorem aa5:type_of% @Nat.mul_lt_mul_of_pos_right:=@Nat.mul_lt_mul_of_pos_right
theorem aa6:type_of% @List.filter_append:=@List.filter_append
theorem aa7:type_of% @List.map_drop:=@List.map_drop
theorem aa8:type_of% @Int.mul_le_mul:=@Int.mul_le_mul
theorem aa9:type_of% @Nat.pow_zero:=@Nat.pow_zero
theorem aba:type_of% @Nat.zero_mul:=@Nat.zero_mul
theorem abb:type_of% @List.map_singleton:=@List.map_singleton
theorem abc:type_of% @List.size_toArray:=@List.size_toArray
theorem abd:type_of% @List.getElem?_mapIdx:=@List.getElem?_mapIdx
theorem abe:type_of% @Nat.mod_add_div:=@Nat.mod_add_div
theorem abf:type_of% @List.getElem?_cons_zero:=@List.getElem?_cons_zero
theorem abg:type_of% @List.flatMap_append:=@List.flatMap_append
theorem abh:type_of% @Dyadic.pow_succ:=@Dyadic.pow_succ
theorem abi:type_of% @List.foldl_append:=@List.foldl_append
theorem abj:type_of% @List.map_take:=@List.map_take
theorem abk:type_of% @Nat.add_assoc:=@Nat.add_assoc
theorem abl:type_of% @Dyadic.mul_one:=@Dyadic.mul_one
theorem abm:type_of% @List.nodup_append:=@List.nodup_append
theorem abn:type_of% @Array.getElem?_eq_none:=@Array.getElem?_eq_none
theorem abo:type_of% @Array.getElem?_eq_some_iff:=@Array.getElem?_eq_some_iff
theorem abp:type_of% @List.length_finRange:=@List.length_finRange
theorem abq:type_of% @UInt8.toNat_inj:=@UInt8.toNat_inj
theorem abr:type_of% @List.take_length:=@List.take_length
theorem abt:type_of% @List.drop_zero:=@List.drop_zero
theorem abu:type_of% @Nat.lt_of_not_le:=@Nat.lt_of_not_le
theorem abv:type_of% @List.length_nil:=@List.length_nil
theorem abw:type_of% @Int.lt_trichotomy:=@Int.lt_trichotomy
theorem abx:type_of% @Dyadic.mul_zero:=@Dyadic.mul_zero
theorem aby:type_of% @Bool.not_eq_true':=@Bool.not_eq_true'
theorem abz:type_of% @List.foldl_cons:=@List.foldl_cons
theorem abA:type_of% @UInt8.toNat_ofNat':=@UInt8.toNat_ofNat'
theorem abB:type_of% @List.replicate_zero:=@List.replicate_zero
theorem abC:type_of% @List.mem_of_mem_drop:=@List.mem_of_mem_drop
theorem abD:type_of% @List.Pairwise.nil:=@List.Pairwise.nil
theorem abE:type_of% @List.not_mem_nil:=@List.not_mem_nil
theorem abF:type_of% @List.set_eq_take_append_cons_drop:=@List.set_eq_take_append_cons_drop
theorem abG:type_of% @Bool.false_eq_true:=@Bool.false_eq_true
theorem abH:type_of% @List.map_toArray:=@List.map_toArray
theorem abI:type_of% @List.cons.injEq:=@List.cons.injEq
theorem abJ:type_of% @List.sublist_append_right:=@List.sublist_append_right
theorem abK:type_of% @List.filter_cons_of_neg:=@List.filter_cons_of_neg
theorem abL:type_of% @Array.all_eq_true':=@Array.all_eq_true'
theorem abM:type_of% @Nat.mul_left_comm:=@Nat.mul_left_comm
theorem abN:type_of% @Int.eq_ofNat_of_zero_le:=@Int.eq_ofNat_of_zero_le
theorem abO:type_of% @decide_eq_false_iff_not:=@decide_eq_false_iff_not
theorem abP:type_of% @List.take_append_of_le_length:=@List.take_append_of_le_length
theorem abQ:type_of% @Nat.le_mul_of_pos_right:=@Nat.le_mul_of_pos_right
theorem abR:type_of% @List.filter_cons_of_pos:=@List.filter_cons_of_pos
theorem abS:type_of% @Int.natAbs_ediv_le_natAbs:=@Int.natAbs_ediv_le_natAbs
theorem abT:type_of% @List.length_filter_le:=@List.length_filter_le
theorem abU:type_of% @Bool.and_eq_false_iff:=@Bool.and_eq_false_iff
theorem abV:type_of% @List.pairwise_singleton:=@List.pairwise_singleton
def zL0:List (List (Nat×Option Nat)):=[[(4,none)],[(21,some 0)],[(1,none)],[(23,some 2)],[(22,some 1),(24,some 3)],[(25,some 4)],[(26,some 5)],[(4,none),(27,some 6)],[(28,some 7),(27,some 6)],[(29,some 8),(27,some 6)],[(30,some 9),(27,some 6)],[(27,some 6),(31,some 10)],[(32,some 11)],[(4,none),(33,some 12)],[(34,some 13),(33,some 12)],[(35,some 14),(33,some 12)],[(4,none),(33,some 12)],[(37,some 16),(33,some 12)],[(36,some 15),(38,some 17),(33,some 12)],[(33,some 12),(39,some 18)],[(40,some 19)],[(3,none),(41,some 20)],[(42,some 21),(41,some 20)],[(43,some 22),(41,some 20)],[(1,none),(44,some 23)],[(45,some 24),(44,some 23)],[(3,none),(44,some 23)],[(47,some 26),(44,some 23)],[(46,some 25),(48,some 27),(44,some 23)],[(49,some 28),(44,some 23)],[(50,some 29),(44,some 23)],[(4,none),(44,some 23)],[(52,some 31),(44,some 23)]]
def zL1:List Nat:=[0,1,0,4,15,31,63,127,255,511,1023,2047,4095,8191,16383,32767,8191,73727,262143,524287,1048575,2097151,4194303,8388607,16777215,33554431,16777215,83886079,268435455,536870911,1073741823,16777215,2164260863,8589934591,17179869183,34359738367]
def zL2:List (List (Nat×Option Nat)):=[[(4,none)],[(29,some 0)],[(1,none)],[(31,some 2)],[(30,some 1),(32,some 3)],[(33,some 4)],[(34,some 5)],[(4,none),(35,some 6)],[(36,some 7),(35,some 6)],[(37,some 8),(35,some 6)],[(38,some 9),(35,some 6)],[(35,some 6),(39,some 10)],[(40,some 11)],[(4,none),(41,some 12)],[(42,some 13),(41,some 12)],[(43,some 14),(41,some 12)],[(4,none),(41,some 12)],[(45,some 16),(41,some 12)]]
def zL3:List (List (Nat×Option Nat)):=[[(3,none)],[(49,some 0)],[(50,some 1)],[(1,none),(51,some 2)],[(52,some 3),(51,some 2)],[(3,none),(51,some 2)],[(54,some 5),(51,some 2)],[(53,some 4),(55,some 6),(51,some 2)],[(56,some 7),(51,some 2)],[(57,some 8),(51,some 2)],[(4,none),(51,some 2)],[(59,some 10),(51,some 2)]]
def zL4:List Nat:=[0,1,0,4,15,31,63,127,255,511,1023,2047,4095,8191,16383,32767,8191,73727,262143,524287]
def zL5:List Nat:=[14,53,54,55,56,57,58,59,60,61,62,63,64,65,66,67,68,69]
theorem Yv {p:Prop} (h:p:=by omega):p:=h
theorem Yw {p:Prop} (h:p:=by decide):p:=h
theorem Yx {p:Prop} (h:p:=by kernel_rfl):p:=h
theorem Lv {P Q:Prop} (p:P) (h:P→Q:=by intro kQ;exact Fm (b:=4294967295) rfl rfl (by first|assumption|omega) (by first|assumption|omega) Yw kQ):Q:=h p
theorem zf {P Q:Prop} (p:P) (h:P→Q:=by intro kQ;exact nj (s:=32) (m:=4294967296) rfl rfl Yw Yw Yw kQ):Q:=h p
theorem Hj {P Q:Prop} (p:P) (h:P→Q:=by intro kQ;exact nj (s:=8) (m:=256) rfl rfl Yw Yw Yw kQ):Q:=h p
theorem nu {P Q:Prop} (p:P) (h:P→Q:=by intro kQ;exact F1 bo.out bo.out rfl (by first|assumption|omega) Yw kQ):Q:=h p
theorem GM {P Q:Prop} (p:P) (h:P→Q:=by intro kQ;exact ej (aa (cF (au (aj (sr (mI (mI kQ)))))))):Q:=h p
theorem vP {P Q:Prop} (p:P) (h:P→Q:=by intro kQ;exact Ex bo.out bo.out rfl Yv Yv Yw kQ):Q:=h p
theorem jG {P Q:Prop} (p:P) (h:P→Q:=by intro kQ;exact l0 Yw rfl rfl Yw kQ):Q:=h p
theorem lW {P Q:Prop} (p:P) (h:P→Q:=by intro kQ;exact dm (k:=j) bo.out aU.size rfl rfl Yv Yv Yw kQ):Q:=h p
theorem iD {P Q:Prop} (p:P) (h:P→Q:=by intro kQ;exact cv aU.out rfl ((hr.ext hh.below).xv (by assumption)) Yw kQ):Q:=h p
theorem qd {P Q:Prop} (p:P) (h:P→Q:=by intro kQ;exact T8 rfl rfl Yv Yv Yv Yw kQ):Q:=h p
theorem Ic {P Q:Prop} (p:P) (h:P→Q:=by intro kQ;exact VJ rfl rfl (by first|assumption|omega) (by first|assumption|omega) Yw kQ):Q:=h p
theorem Mh {P Q:Prop} (p:P) (h:P→Q:=by intro kQ;exact cA hh (i:=0) (vs:=[_]) rfl rfl (dk rfl) rfl aU.out rfl (by rw [bq,a7];omega) rfl kQ):Q:=h p
theorem gN {P Q:Prop} (p:P) (h:P→Q:=by intro kQ;exact aE (bM (aj (ar kQ)))):Q:=h p
theorem qb {P Q:Prop} (p:P) (h:P→Q:=by intro kQ;exact a8 (aa (ai (cF (a6 (aH (aH (bB (aj (sr (mL kQ))))))))))):Q:=h p
theorem x6 {P Q:Prop} (p:P) (h:P→Q:=by intro kQ;exact di (aa (cT (sr (aI (aa (ay (aN kQ)))))))):Q:=h p
theorem ua {P Q:Prop} (p:P) (h:P→Q:=by intro kQ;exact Tw rfl rfl Yv Yv Yw kQ):Q:=h p
theorem KJ {P Q:Prop} (p:P) (h:P→Q:=by intro kQ;exact ej (aa (cT (au (aj (ai (av (av (ai kQ))))))))):Q:=h p
theorem LX {P Q:Prop} (p:P) (h:P→Q:=by intro kQ;exact aW 8 [[(0,none)],[(5,none)],[(28,some 0),(29,some 1)],[(30,some 2)],[(1,none)],[(5,none)],[(32,some 4),(33,some 5)],[(34,some 6)]] [(7,35),(6,34),(5,33),(4,32),(3,31),(2,30),(1,29),(0,28)] hh mixed Yx kQ):Q:=h p
theorem C6 {P Q:Prop} (p:P) (h:P→Q:=by intro kQ;exact pK (fun _ hj=>(hr.ext hj.hp.below).xv hx3) kQ):Q:=h p
theorem BA {P Q:Prop} (p:P) (h:P→Q:=by intro kQ;exact pK (fun _ hj=>(hs.ext hj.hp.below).xv hy3) kQ):Q:=h p
theorem MG {P Q:Prop} (p:P) (h:P→Q:=by intro kQ;exact aQ (bg (ae v35 (ae v34 (ae v33 (ae v32 (ae v31 (ae v30 (ae v29 (ae v28 aR))))))))) kQ):Q:=h p
theorem R1 {P Q:Prop} (p:P) (h:P→Q:=by intro kQ;exact aW 8 [[(0,none)],[(5,none)],[(38,some 0),(39,some 1)],[(40,some 2)],[(1,none)],[(5,none)],[(42,some 4),(43,some 5)],[(44,some 6)]] [(7,45),(6,44),(5,43),(4,42),(3,41),(2,40),(1,39),(0,38)] hh mixed Yx kQ):Q:=h p
theorem Rh {P Q:Prop} (p:P) (h:P→Q:=by intro kQ;exact aQ (bg (ae v45 (ae v44 (ae v43 (ae v42 (ae v41 (ae v40 (ae v39 (ae v38 aR))))))))) kQ):Q:=h p
theorem yB {P Q:Prop} (p:P) (h:P→Q:=by intro kQ;exact a8 (aa (ai (cT (au (aj (ai (av (sr (mI (aI (aa (sr (aI (aa (ai (sr (mI (mL (aK kQ)))))))))))))))))))):Q:=h p
theorem NB {P Q:Prop} (p:P) (h:P→Q:=by intro kQ;exact dm (k:=done.length) bo.out aU.size rfl rfl Yv Yv Yw kQ):Q:=h p
theorem jY {P Q:Prop} (p:P) (h:P→Q:=by intro kQ;exact cv aU.out rfl (hh.fU (i:=0) rfl (by first|assumption|(simp only [YX];assumption))) Yw kQ):Q:=h p
theorem pT {P Q:Prop} (p:P) (h:P→Q:=by intro kQ;exact qL (k:=done.length) bo.out aU.size rfl rfl Yv Yv Yw kQ):Q:=h p
theorem yp {P Q:Prop} (p:P) (h:P→Q:=by intro kQ;exact cA hh (i:=0) (vs:=[_]) rfl rfl (dk rfl) rfl aU.out rfl (by rw [bq];simp only [YK,YZ];omega) rfl kQ):Q:=h p
theorem yM {P Q:Prop} (p:P) (h:P→Q:=by intro kQ;exact aI (aE (bM (aj (ar kQ))))):Q:=h p
theorem tE {P Q:Prop} (p:P) (h:P→Q:=by intro kQ;exact aL (aa (ai (sr (mL (aK (mI (aa (av kQ))))))))):Q:=h p
theorem e9 {P Q:Prop} (p:P) (h:P→Q:=by intro kQ;exact a8 (aa (ai (cT (au (aj (ai (av (sr (mI kQ)))))))))):Q:=h p
theorem gD {P Q:Prop} (p:P) (h:P→Q:=by intro kQ;exact dn (k:=i) bo.out aU.size rfl rfl Yv Yv Yw kQ):Q:=h p
theorem vN {P Q:Prop} (p:P) (h:P→Q:=by intro kQ;exact cQ hh (cs:=[_]) bo.out aU.out (aX (dk rfl) cx) rfl rfl Yw Yw Yw rfl Yw kQ):Q:=h p
theorem tB {P Q:Prop} (p:P) (h:P→Q:=by intro kQ;exact aJ (qh a _ ha) aw.out rfl Yw kQ):Q:=h p
theorem Hn {P Q:Prop} (p:P) (h:P→Q:=by intro kQ;exact aJ (qh b _ hb) aw.out rfl Yw kQ):Q:=h p
theorem KX {P Q:Prop} (p:P) (h:P→Q:=by intro kQ;exact bA hh (FP _ _ _ _ _ _ (a9 18446744073709551616 (bN a)) (a9 18446744073709551616 (bN b)) _ (hh.aG (i:=1) rfl) (hh.aG (i:=0) rfl) (j1 _) (j1 _) (hh.fQ (i:=1) rfl) (hh.fQ (i:=0) rfl) Yv Yv) rfl kQ):Q:=h p
theorem DR {P Q:Prop} (p:P) (h:P→Q:=by intro kQ;exact cv aU.out rfl (hh.fU (i:=2) rfl (by first|assumption|(simp only [YX];assumption))) Yw kQ):Q:=h p
theorem Iw {P Q:Prop} (p:P) (h:P→Q:=by intro kQ;exact a8 (aa (ai (cF (a6 (aH (aH (bB (aj (sr (aI (aa (ay kQ))))))))))))):Q:=h p
theorem eC {P Q:Prop} (p:P) (h:P→Q:=by intro kQ;exact a8 (aa (ai (cT (au (aj (ai (av (sr kQ))))))))):Q:=h p
theorem mE {P Q:Prop} (p:P) (h:P→Q:=by intro kQ;exact aL (aE (bM (aj (ar kQ))))):Q:=h p
theorem j4 {P Q:Prop} (p:P) (h:P→Q:=by intro kQ;exact tT bo.out rfl rfl Yv (by assumption) Yw kQ):Q:=h p
theorem rq {P Q:Prop} (p:P) (h:P→Q:=by intro kQ;exact NJ (er rfl (ew (vs:=[_,_]) aU.out (hh.cn (i:=0) (n:=2) rfl rfl) rfl) fF) kQ):Q:=h p
theorem MK {P Q:Prop} (p:P) (h:P→Q:=by intro kQ;exact ak (N:=13) (l:=[.agg #[.bool s,.string m]]) Tryz.func117 rfl rfl (by simp) kQ):Q:=h p
theorem Gm {P Q:Prop} (p:P) (h:P→Q:=by intro kQ;exact aB (aa (cT (sr (aI (aa (ay (cm (aN kQ))))))))):Q:=h p
theorem IA {P Q:Prop} (p:P) (h:P→Q:=by intro kQ;exact Ox bo.out rfl rfl (by first|rfl|assumption|decide) Yw kQ):Q:=h p
theorem Bx {P Q:Prop} (p:P) (h:P→Q:=by intro kQ;exact aa (cF (au (aj (ai (sr (bJ kQ))))))):Q:=h p
theorem KN {P Q:Prop} (p:P) (h:P→Q:=by intro kQ;exact aW 10 [[(2,none)],[(5,some 0)],[(3,none)],[(7,some 2)],[(6,some 1),(8,some 3)],[(2,none)],[(10,some 5)],[(3,none)],[(12,some 7)],[(11,some 6),(13,some 8)]] [(9,14),(8,13),(7,12),(6,11),(5,10),(4,9),(3,8),(2,7),(1,6),(0,5)] hh mixed Yx kQ):Q:=h p
theorem G1 {P Q:Prop} (p:P) (h:P→Q:=by intro kQ;exact aQ (bg (ae v14 (ae v13 (ae v12 (ae v11 (ae v10 (ae v9 (ae v8 (ae v7 (ae v6 (ae v5 aR))))))))))) kQ):Q:=h p
theorem yS {P Q:Prop} (p:P) (h:P→Q:=by intro kQ;exact aa (ai (sr (mL (aK (mI (aa (av kQ)))))))):Q:=h p
theorem cE {P Q:Prop} (p:P) (h:P→Q:=by intro kQ;exact dm (k:=i) bo.out aU.size rfl rfl Yv Yv Yw kQ):Q:=h p
theorem oa {P Q:Prop} (p:P) (h:P→Q:=by intro kQ;exact a8 (aa (ai (cF (a6 (aH (aH (bB (aj (sr kQ)))))))))):Q:=h p
theorem Me {P Q:Prop} (p:P) (h:P→Q:=by intro kQ;exact aW 3 [[(2,none)],[(3,none)],[(6,some 1)]] [(2,7),(1,6),(0,5)] hh mixed Yx kQ):Q:=h p
theorem vv {P Q:Prop} (p:P) (h:P→Q:=by intro kQ;exact aQ (bg (ae v7 (ae v6 (ae v5 aR)))) kQ):Q:=h p
theorem vg {P Q:Prop} (p:P) (h:P→Q:=by intro kQ;exact cQ hh (cs:=[_,_,_,_]) bo.out aU.out (aX (gy rfl) (aX (gy rfl) cx)) rfl rfl Yw Yw Yw rfl Yw kQ):Q:=h p
theorem HQ {P Q:Prop} (p:P) (h:P→Q:=by intro kQ;exact aW 10 [[(2,none)],[(18,some 0)],[(1,none)],[(20,some 2)],[(19,some 1),(21,some 3)],[(2,none)],[(23,some 5)],[(22,some 4),(24,some 6)],[(25,some 7)],[]] [(9,5),(8,26),(7,25),(6,24),(5,23),(4,22),(3,21),(2,20),(1,19),(0,18)] hh mixed Yx kQ):Q:=h p
theorem HF {P Q:Prop} (p:P) (h:P→Q:=by intro kQ;exact bu (i:=3) (fun ρ1 w1 hj hR=>MY (show ρ1 20=Value.int _ _ from hR.1) Yv Yv) kQ):Q:=h p
theorem H7 {P Q:Prop} (p:P) (h:P→Q:=by intro kQ;exact aO (i:=9) (cS _ 38 _) cS.ext (fun ρ1 w1 hj hR=>gP aU.out hj.bl (fun v w2 h hb=>⟨hb,h⟩)) kQ):Q:=h p
theorem GZ {P Q:Prop} (p:P) (h:P→Q:=by intro kQ;exact aQ (bg (ae e5 (ae v26 (ae v25 (ae v24 (ae v23 (ae v22 (ae v21 (ae v20 (ae v19 (ae v18 aR))))))))))) kQ):Q:=h p
theorem LU {P Q:Prop} (p:P) (h:P→Q:=by intro kQ;exact ak (N:=47) (l:=[.agg #[.bool true,.string a],.int .i64 (-(m:Int))]) Tryz.func119 rfl rfl (by simp) kQ):Q:=h p
theorem wc {P Q:Prop} (p:P) (h:P→Q:=by intro kQ;exact aa (cF (au (aj (sr kQ))))):Q:=h p
theorem Su {P Q:Prop} (p:P) (h:P→Q:=by intro kQ;exact aW 5 [[(1,none)],[(3,some 0)],[(4,some 1)],[(1,none)],[(6,some 3)]] [(4,7),(3,6),(2,5),(1,4),(0,3)] hh mixed Yx kQ):Q:=h p
theorem L3 {P Q:Prop} (p:P) (h:P→Q:=by intro kQ;exact ak (N:=41) (l:=[.agg #[.bool a.neg,.string a.bj,.int .i64 a.e],.agg #[.bool b.neg,.string b.bj,.int .i64 b.e]]) Tryz.func112 rfl rfl (by simp) kQ):Q:=h p
theorem Kr {P Q:Prop} (p:P) (h:P→Q:=by intro kQ;exact aW 3 [[(2,none)],[(7,some 0)],[(3,none)]] [(2,9),(1,8),(0,7)] hh mixed Yx kQ):Q:=h p
theorem K1 {P Q:Prop} (p:P) (h:P→Q:=by intro kQ;exact dC (fun _ hj=>fp a _ (hT.hp hj.hp) Yv Yv Yv) kQ):Q:=h p
theorem QR {P Q:Prop} (p:P) (h:P→Q:=by intro kQ;exact ak (N:=28) (l:=[.agg #[.bool a.neg,.string a.bj,.int .i64 a.e],.agg #[.bool b.neg,.string b.bj,.int .i64 b.e]]) Tryz.func125 rfl rfl (by simp) kQ):Q:=h p
theorem wZ {P Q:Prop} (p:P) (h:P→Q:=by intro kQ;exact db (aa (cF (au (aj (sr kQ)))))):Q:=h p
theorem IH {P Q:Prop} (p:P) (h:P→Q:=by intro kQ;exact cG (vs:=[_,_,_]) aU.out rfl (((hr.ext hh.below).recAt NR.len hx)) rfl Yw kQ):Q:=h p
theorem zA {P Q:Prop} (p:P) (h:P→Q:=by intro kQ;exact cQ hh (cs:=[_,_,_,_,_,_]) bo.out aU.out (aX (gy rfl) (aX (gy rfl) cx)) rfl rfl Yw Yw Yw rfl Yw kQ):Q:=h p
theorem DN {P Q:Prop} (p:P) (h:P→Q:=by intro kQ;exact bA hh (mF 1 _ (hT.hp hh) Yv Yv) rfl kQ):Q:=h p
theorem D9 {P Q:Prop} (p:P) (h:P→Q:=by intro kQ;exact dm (k:=0) bo.out aU.size rfl rfl Yv Yv Yw kQ):Q:=h p
theorem jC {P Q:Prop} (p:P) (h:P→Q:=by intro kQ;exact sJ (by first|exact uu rfl|exact uP rfl) Yw kQ):Q:=h p
theorem Cz {P Q:Prop} (p:P) (h:P→Q:=by intro kQ;exact aa (cF (au (bM (aj (ar kQ)))))):Q:=h p
theorem L0 {P Q:Prop} (p:P) (h:P→Q:=by intro kQ;exact Fm (b:=1) rfl rfl (by first|assumption|omega) (by first|assumption|omega) Yw kQ):Q:=h p
theorem pR {P Q:Prop} (p:P) (h:P→Q:=by intro kQ;exact cd hh (i:=1) rfl rfl rfl (hh.aG (i:=0) rfl) bo.out aU.out rfl Yw (by first|rfl|exact dv _|exact cR _|exact br _|exact bD NR.one _) Yv Yv Yw kQ):Q:=h p
theorem lC {P Q:Prop} (p:P) (h:P→Q:=by intro kQ;exact aL (aE (bM (aj (ar (mI kQ)))))):Q:=h p
theorem DQ {P Q:Prop} (p:P) (h:P→Q:=by intro kQ;exact aL (aa (ai (sr (aI (aa (av kQ))))))):Q:=h p
theorem HV {P Q:Prop} (p:P) (h:P→Q:=by intro kQ;exact a8 (aa (cT (au (aj (ai (av kQ))))))):Q:=h p
theorem p9 {P Q:Prop} (p:P) (h:P→Q:=by intro kQ;exact aE (bM (aj (ar (mI kQ))))):Q:=h p
theorem DZ {P Q:Prop} (p:P) (h:P→Q:=by intro kQ;exact a8 (aa (cF (a6 (aH (aH (bB (aj (sr (mL kQ)))))))))):Q:=h p
theorem KL {P Q:Prop} (p:P) (h:P→Q:=by intro kQ;exact ej (aa (cT (au (aj (ai (av (ai (sr (mL (mI kQ))))))))))):Q:=h p
theorem DV {P Q:Prop} (p:P) (h:P→Q:=by intro kQ;exact bA hh (jK A n c j xs _ (hx.ext hh.below) hdx Yv Yv) rfl kQ):Q:=h p
theorem Bu {P Q:Prop} (p:P) (h:P→Q:=by intro kQ;exact bA hh (jK B m c' j ys _ (hy.ext hh.below) hdy Yv Yv) rfl kQ):Q:=h p
theorem jq {P Q:Prop} (p:P) (h:P→Q:=by intro kQ;exact a8 (aa (cT (au (aj (ai (av (sr (mL (mI kQ)))))))))):Q:=h p
theorem Mc {P Q:Prop} (p:P) (h:P→Q:=by intro kQ;exact gE (n:=n) hh rfl rfl Yv Yv bo.out aU.out rfl Yv Yv Yw kQ):Q:=h p
theorem GR {P Q:Prop} (p:P) (h:P→Q:=by intro kQ;exact cA hh (i:=0) (vs:=[_]) rfl rfl (dk rfl) rfl aU.out rfl (by rw [hll];omega) rfl kQ):Q:=h p
theorem xY {P Q:Prop} (p:P) (h:P→Q:=by intro kQ;exact aJ (jc a _ ha) aw.out rfl Yw kQ):Q:=h p
theorem Hg {P Q:Prop} (p:P) (h:P→Q:=by intro kQ;exact aJ (jc b _ hb) aw.out rfl Yw kQ):Q:=h p
theorem C0 {P Q:Prop} (p:P) (h:P→Q:=by intro kQ;exact a8 (aa (cT (au (aj (ai (av (ar (mL (mL (mI kQ))))))))))):Q:=h p
theorem Lz {P Q:Prop} (p:P) (h:P→Q:=by intro kQ;exact bA hh (fN _ _ _ (a9 2 (bN m)) _ (hh.aG (i:=0) rfl) (ko _) (hh.fQ (i:=0) rfl) Yv) rfl kQ):Q:=h p
theorem zl {P Q:Prop} (p:P) (h:P→Q:=by intro kQ;exact NJ (er rfl (ew (vs:=[_,_]) aU.out (hh.cn (i:=1) (n:=2) rfl rfl) rfl) fF) kQ):Q:=h p
theorem H8 {P Q:Prop} (p:P) (h:P→Q:=by intro kQ;exact di (aa (cF (au (aj (ai (sr (bJ kQ)))))))):Q:=h p
theorem yy {P Q:Prop} (p:P) (h:P→Q:=by intro kQ;exact aa (cT (sr (aI (aa (ay (aN kQ))))))):Q:=h p
theorem H0 {P Q:Prop} (p:P) (h:P→Q:=by intro kQ;exact aa (cF (au (aj (sr (aI (aa (ay kQ)))))))):Q:=h p
theorem zv {P Q:Prop} (p:P) (h:P→Q:=by intro kQ;exact aa (cF (au (aj (sr (bJ kQ)))))):Q:=h p
theorem CQ {P Q:Prop} (p:P) (h:P→Q:=by intro kQ;exact NJ (er rfl (ew (vs:=[_,_,_]) aU.out (hh.cn (i:=0) (n:=3) rfl rfl) rfl) fF) kQ):Q:=h p
theorem Ih {P Q:Prop} (p:P) (h:P→Q:=by intro kQ;exact ak (N:=38) (l:=[.agg #[.bool a.neg,.string a.bj,.int .i64 a.e],.agg #[.bool b.neg,.string b.bj,.int .i64 b.e]]) Tryz.func99 rfl rfl (by simp) kQ):Q:=h p
theorem HN {P Q:Prop} (p:P) (h:P→Q:=by intro kQ;exact aW 3 [[(2,none)],[(5,some 0)],[(3,none)]] [(2,7),(1,6),(0,5)] hh mixed Yx kQ):Q:=h p
theorem G8 {P Q:Prop} (p:P) (h:P→Q:=by intro kQ;exact dC (fun _ hj=>j0 a _ Yv Yv Yv) kQ):Q:=h p
theorem Ix {P Q:Prop} (p:P) (h:P→Q:=by intro kQ;exact bA hh (j0 b _ Yv Yv Yv) rfl kQ):Q:=h p
theorem yC {P Q:Prop} (p:P) (h:P→Q:=by intro kQ;exact a8 (aa (cF (a6 (aH (aH (bB (aj (sr kQ))))))))):Q:=h p
theorem Kt {P Q:Prop} (p:P) (h:P→Q:=by intro kQ;exact NJ (er rfl (ew (vs:=[_,_,_]) aU.out (hh.cn (i:=1) (n:=3) rfl rfl) rfl) fF) kQ):Q:=h p
theorem wC {P Q:Prop} (p:P) (h:P→Q:=by intro kQ;exact aI (aa (ai (av (sr (bJ kQ)))))):Q:=h p
theorem xR {P Q:Prop} (p:P) (h:P→Q:=by intro kQ;exact bT (mB (gT (mL (gT (aK (gT kQ))))))):Q:=h p
theorem LP {P Q:Prop} (p:P) (h:P→Q:=by intro kQ;exact aW 7 [[(2,none)],[(0,none)],[(26,some 1)],[(27,some 2)],[(1,none)],[(29,some 4)],[(30,some 5)]] [(6,31),(5,30),(4,29),(3,28),(2,27),(1,26),(0,25)] hh mixed Yx kQ):Q:=h p
theorem NQ {P Q:Prop} (p:P) (h:P→Q:=by intro kQ;exact aQ (bg (ae v31 (ae v30 (ae v29 (ae v28 (ae v27 (ae v26 (ae v25 aR)))))))) kQ):Q:=h p
theorem Ks {P Q:Prop} (p:P) (h:P→Q:=by intro kQ;exact cG (vs:=[_,_,_,_]) aU.out rfl ((hr.ext hh.below).recAt TR.len hxx) rfl Yw kQ):Q:=h p
theorem yG {P Q:Prop} (p:P) (h:P→Q:=by intro kQ;exact cQ hh (cs:=[_,_,_,_]) bo.out aU.out (aX (gy rfl) cx) rfl rfl Yw Yw Yw rfl Yw kQ):Q:=h p
theorem Lk {P Q:Prop} (p:P) (h:P→Q:=by intro kQ;exact cG (vs:=[_,_,_,_]) aU.out rfl ((hr2.ext hh.below).recAt TR.len hyy) rfl Yw kQ):Q:=h p
theorem CW {P Q:Prop} (p:P) (h:P→Q:=by intro kQ;exact sr (aI (aa (ai (sr (mL (aK (mI (aa (av kQ)))))))))):Q:=h p
theorem tF {P Q:Prop} (p:P) (h:P→Q:=by intro kQ;exact a8 (aa (ai (cT (au (aj (ai (av (sr (mI (aI (aa (sr kQ))))))))))))):Q:=h p
theorem CZ {P Q:Prop} (p:P) (h:P→Q:=by intro kQ;exact xh hh bo.out aU.out Yw kQ):Q:=h p
theorem nQ {P Q:Prop} (p:P) (h:P→Q:=by intro kQ;exact dn (k:=j) bo.out aU.size rfl rfl Yv Yv Yw kQ):Q:=h p
theorem p8 {P Q:Prop} (p:P) (h:P→Q:=by intro kQ;exact aa (cF (au (bM (aj (ar (mI kQ))))))):Q:=h p
theorem M4 {P Q:Prop} (p:P) (h:P→Q:=by intro kQ;exact qT (h:=i) bo.out aU.size rfl rfl Yv Yv Yw kQ):Q:=h p
theorem xi {P Q:Prop} (p:P) (h:P→Q:=by intro kQ;exact PG (er rfl (ew (vs:=[_,_]) aU.out (hh.cn (i:=0) (n:=2) rfl rfl) rfl) (jF (kn rfl) fF)) kQ):Q:=h p
theorem yw {P Q:Prop} (p:P) (h:P→Q:=by intro kQ;exact PG (er rfl (ew (vs:=[_,_]) aU.out (hh.cn (i:=1) (n:=2) rfl rfl) rfl) (jF (kn rfl) fF)) kQ):Q:=h p
theorem gg {P Q:Prop} (p:P) (h:P→Q:=by intro kQ;exact Dk bo.out aU.size rfl rfl Yv Yv Yw kQ):Q:=h p
theorem vm {P Q:Prop} (p:P) (h:P→Q:=by intro kQ;exact cv aU.out rfl (gL hr (cL hx) rfl) Yw kQ):Q:=h p
theorem Nc {P Q:Prop} (p:P) (h:P→Q:=by intro kQ;exact ak (N:=45) (l:=[.string a,.string b,.func (.func g) #[] #[]]) Tryz.func231 rfl rfl (by simp) kQ):Q:=h p
theorem rz {P Q:Prop} (p:P) (h:P→Q:=by intro kQ;exact dn bo.out aU.size rfl rfl rfl Yv Yw kQ):Q:=h p
theorem NM {P Q:Prop} (p:P) (h:P→Q:=by intro kQ;exact cv aU.out rfl (hh.fU (i:=1) rfl (by first|assumption|(simp only [YX];assumption))) Yw kQ):Q:=h p
theorem NX {P Q:Prop} (p:P) (h:P→Q:=by intro kQ;exact ak (N:=58) (l:=[.agg #[.int .i64 v,.slice A n c]]) Tryz.func53 rfl rfl (by simp) kQ):Q:=h p
theorem mq {P Q:Prop} (p:P) (h:P→Q:=by intro kQ;exact cG (vs:=[_,_,_,_]) aU.out rfl ((hr.ext hh.below).recAt TR.len hx) rfl Yw kQ):Q:=h p
theorem Bw {P Q:Prop} (p:P) (h:P→Q:=by intro kQ;exact g8 (i:=9) rfl (fun ρ1 w1 hj hR=>(show ρ1 27=Value.bool _ from hR.2.1)) (fun ρ1 w1 hj hR=>aV aw.out (az (show ρ1 29=Value.agg (List.toArray _) from hR.1) bf)) (fun w1 hj=>hsg _) kQ):Q:=h p
theorem IE {P Q:Prop} (p:P) (h:P→Q:=by intro kQ;exact g8 (i:=15) rfl (fun ρ1 w1 hj hR=>(show ρ1 33=Value.bool _ from hR.2.1)) (fun ρ1 w1 hj hR=>aV aw.out (az (show ρ1 35=Value.agg (List.toArray _) from hR.1) bf)) (fun w1 hj=>hfo _ (hT.hp hj.hp)) kQ):Q:=h p
theorem MA {P Q:Prop} (p:P) (h:P→Q:=by intro kQ;exact uN (i:=18) rfl (fun ρ1 w1 hj hR=>(show ρ1 33=Value.bool _ from hR.2.2.1)) (fun ρ1 w1 hj hR=>ID (show ρ1 36=Value.agg (List.toArray _) from hR.1) (show ρ1 38=Value.agg (List.toArray _) from hR.2.1) (by first|assumption|rfl)) kQ):Q:=h p
theorem H6 {P Q:Prop} (p:P) (h:P→Q:=by intro kQ;exact aQ (bg (ae v53 (ae v52 (ae v51 (ae v50 (ae v49 (ae v48 (ae v47 (ae v46 (ae v45 (ae v44 (ae v43 (ae v42 (ae v41 (ae v40 (ae v39 (ae v38 (ae v37 (ae v36 (ae v35 (ae v34 (ae v33 (ae v32 (ae v31 (ae v30 (ae v29 (ae v28 (ae v27 (ae v26 (ae v25 (ae v24 (ae v23 (ae v22 (ae v21 aR)))))))))))))))))))))))))))))))))) kQ):Q:=h p
theorem HS {P Q:Prop} (p:P) (h:P→Q:=by intro kQ;exact dG (pK (fun _ hj=>((hr.ext hj.hp.below).recAt TR.len hp).cell (i:=0) rfl) kQ)):Q:=h p
theorem GU {P Q:Prop} (p:P) (h:P→Q:=by intro kQ;exact ak (N:=25) (l:=[.int .i64 v,.slice A n c]) Tryz.func90 rfl rfl (by simp) kQ):Q:=h p
theorem yb {P Q:Prop} (p:P) (h:P→Q:=by intro kQ;exact xq rfl (az (FG rfl) bf) Yw kQ):Q:=h p
theorem Sc {P Q:Prop} (p:P) (h:P→Q:=by intro kQ;exact aW 6 [[(2,none)],[(4,some 0)],[(1,none)],[(6,some 2)],[(7,some 3)],[(8,some 4)]] [(5,9),(4,8),(3,7),(2,6),(1,5),(0,4)] hh mixed Yx kQ):Q:=h p
theorem Ed {P Q:Prop} (p:P) (h:P→Q:=by intro kQ;exact cG (vs:=[_,_]) aU.out rfl ((hr.ext hh.below).recAt PX.len hx) rfl Yw kQ):Q:=h p
theorem KZ {P Q:Prop} (p:P) (h:P→Q:=by intro kQ;exact a8 (aa (ai (cF (a6 (aH (aH (bB (aj (ai (sr kQ))))))))))):Q:=h p
theorem wR {P Q:Prop} (p:P) (h:P→Q:=by intro kQ;exact cv aU.out rfl ((hr.ext hh.below).xv hgi) Yw kQ):Q:=h p
theorem zh {P Q:Prop} (p:P) (h:P→Q:=by intro kQ;exact ak (N:=29) (l:=[.agg #[.slice A n c,.slice B m c2]]) Tryz.func13 rfl rfl (by simp) kQ):Q:=h p
theorem GO {P Q:Prop} (p:P) (h:P→Q:=by intro kQ;exact bA hh (ff A n c ds _ (hS.ext hh.below) hn) rfl kQ):Q:=h p
theorem LO {P Q:Prop} (p:P) (h:P→Q:=by intro kQ;exact aW 6 [[(1,none)],[(19,some 0)],[(20,some 1)],[(1,none)],[(22,some 3)],[(23,some 4)]] [(5,24),(4,23),(3,22),(2,21),(1,20),(0,19)] hh mixed Yx kQ):Q:=h p
theorem NA {P Q:Prop} (p:P) (h:P→Q:=by intro kQ;exact aQ (bg (ae v24 (ae v23 (ae v22 (ae v21 (ae v20 (ae v19 aR))))))) kQ):Q:=h p
theorem tH {P Q:Prop} (p:P) (h:P→Q:=by intro kQ;exact cQ hh (cs:=[_,_,_]) bo.out aU.out (aX (gy rfl) cx) rfl rfl Yw Yw Yw rfl Yw kQ):Q:=h p
theorem C9 {P Q:Prop} (p:P) (h:P→Q:=by intro kQ;exact a8 (aa (ai (cF (a6 (aH (aH (bB (bM (aj (ar kQ))))))))))):Q:=h p
theorem x8 {P Q:Prop} (p:P) (h:P→Q:=by intro kQ;exact a8 (aa (cT (au (aj (ai (av (ai (sr (mL (mI kQ))))))))))):Q:=h p
theorem Nm {P Q:Prop} (p:P) (h:P→Q:=by intro kQ;exact ak (N:=42) (l:=[.string a,.string b]) Tryz.func181 rfl rfl (by simp) kQ):Q:=h p
theorem C8 {P Q:Prop} (p:P) (h:P→Q:=by intro kQ;exact sr (aB (aa (ai (sr (mL (aK (mL (aK kQ))))))))):Q:=h p
theorem Ib {P Q:Prop} (p:P) (h:P→Q:=by intro kQ;exact db (aa (cF (au (aj (ai (sr (aI (aa (av kQ)))))))))):Q:=h p
theorem kP {P Q:Prop} (p:P) (h:P→Q:=by intro kQ;exact a8 (aa (cT (au (aj (ai (av (ai kQ)))))))):Q:=h p
theorem De {P Q:Prop} (p:P) (h:P→Q:=by intro kQ;exact aW 8 [[(0,none)],[(5,none)],[(17,some 0),(18,some 1)],[(19,some 2)],[(1,none)],[(5,none)],[(21,some 4),(22,some 5)],[(23,some 6)]] [(7,24),(6,23),(5,22),(4,21),(3,20),(2,19),(1,18),(0,17)] hh mixed Yx kQ):Q:=h p
theorem Sh {P Q:Prop} (p:P) (h:P→Q:=by intro kQ;exact bu (i:=2) (fun ρ1 w1 hj hR=>dL bo.out aU.size (show ρ1 17=Value.slice _ _ _ from hR.1) (show ρ1 18=Value.int _ _ from hR.2.1) Yv Yv) kQ):Q:=h p
theorem Ru {P Q:Prop} (p:P) (h:P→Q:=by intro kQ;exact bu (i:=6) (fun ρ1 w1 hj hR=>dL bo.out aU.size (show ρ1 21=Value.slice _ _ _ from hR.1) (show ρ1 22=Value.int _ _ from hR.2.1) Yv Yv) kQ):Q:=h p
theorem CR {P Q:Prop} (p:P) (h:P→Q:=by intro kQ;exact aQ (bg (ae v24 (ae v23 (ae v22 (ae v21 (ae v20 (ae v19 (ae v18 (ae v17 aR))))))))) kQ):Q:=h p
theorem Ho {P Q:Prop} (p:P) (h:P→Q:=by intro kQ;exact db (aa (cF (au (bM (aj (ar (mI kQ)))))))):Q:=h p
theorem Hu {P Q:Prop} (p:P) (h:P→Q:=by intro kQ;exact a8 (aa (cF (a6 (aH (aH (bB (aj (sr (aB (aa (ay kQ)))))))))))):Q:=h p
theorem GG {P Q:Prop} (p:P) (h:P→Q:=by intro kQ;exact ak (N:=63) (l:=[.agg #[.int .i64 v,.slice A n c]]) Tryz.func144 rfl rfl (by simp) kQ):Q:=h p
theorem DK {P Q:Prop} (p:P) (h:P→Q:=by intro kQ;exact a8 (aa (cT (au (aj (ai (av (sr (bJ kQ))))))))):Q:=h p
theorem NY {P Q:Prop} (p:P) (h:P→Q:=by intro kQ;exact g8 (i:=9) rfl (fun ρ1 w1 hj hR=>(show ρ1 35=Value.bool _ from hR.2.1)) (fun ρ1 w1 hj hR=>aV aw.out (az (show ρ1 37=Value.agg (List.toArray _) from hR.1) bf)) (fun w1 hj=>hsg _) kQ):Q:=h p
theorem SO {P Q:Prop} (p:P) (h:P→Q:=by intro kQ;exact g8 (i:=15) rfl (fun ρ1 w1 hj hR=>(show ρ1 41=Value.bool _ from hR.2.1)) (fun ρ1 w1 hj hR=>aV aw.out (az (show ρ1 43=Value.agg (List.toArray _) from hR.1) bf)) (fun w1 hj=>hfo _) kQ):Q:=h p
theorem Nu {P Q:Prop} (p:P) (h:P→Q:=by intro kQ;exact aQ (bg (ae v46 (ae v45 (ae v44 (ae v43 (ae v42 (ae v41 (ae v40 (ae v39 (ae v38 (ae v37 (ae v36 (ae v35 (ae v34 (ae v33 (ae v32 (ae v31 (ae v30 (ae v29 aR))))))))))))))))))) kQ):Q:=h p
theorem xT {P Q:Prop} (p:P) (h:P→Q:=by intro kQ;exact aa (cF (au (aj (ai kQ))))):Q:=h p
theorem MO {P Q:Prop} (p:P) (h:P→Q:=by intro kQ;exact aQ (bg (ae v60 (ae v59 (ae v58 (ae v57 (ae v56 (ae v55 (ae v54 (ae v53 (ae v52 (ae v51 (ae v50 (ae v49 aR))))))))))))) kQ):Q:=h p
theorem NI {P Q:Prop} (p:P) (h:P→Q:=by intro kQ;exact a8 (aa (cF (a6 (aH (aH (bB (aj (sr (aI (aa (ay kQ)))))))))))):Q:=h p
theorem NK {P Q:Prop} (p:P) (h:P→Q:=by intro kQ;exact aW 12 [[(5,none)],[(0,none)],[(8,some 1)],[(7,some 0),(9,some 2)],[(10,some 3)],[(0,none),(11,some 4)],[(5,none),(11,some 4)],[(12,some 5),(13,some 6),(11,some 4)],[(14,some 7),(11,some 4)],[(15,some 8),(11,some 4)],[(3,none),(11,some 4)],[(17,some 10),(11,some 4)]] [(11,18),(10,17),(9,16),(8,15),(7,14),(6,13),(5,12),(4,11),(3,10),(2,9),(1,8),(0,7)] hh mixed Yx kQ):Q:=h p
theorem He {P Q:Prop} (p:P) (h:P→Q:=by intro kQ;exact dG (pK (fun _ hj=>((hr.ext hj.hp.below).recAt TR.len ht).cell (i:=0) rfl) kQ)):Q:=h p
theorem Lh {P Q:Prop} (p:P) (h:P→Q:=by intro kQ;exact aQ (bg (ae v18 (ae v17 (ae v16 (ae v15 (ae v14 (ae v13 (ae v12 (ae v11 (ae v10 (ae v9 (ae v8 (ae v7 aR))))))))))))) kQ):Q:=h p
theorem Nk {P Q:Prop} (p:P) (h:P→Q:=by intro kQ;exact aW 12 [[(5,none)],[(0,none)],[(29,some 1)],[(28,some 0),(30,some 2)],[(31,some 3)],[(0,none),(32,some 4)],[(5,none),(32,some 4)],[(33,some 5),(34,some 6),(32,some 4)],[(35,some 7),(32,some 4)],[(36,some 8),(32,some 4)],[(3,none),(32,some 4)],[(38,some 10),(32,some 4)]] [(11,39),(10,38),(9,37),(8,36),(7,35),(6,34),(5,33),(4,32),(3,31),(2,30),(1,29),(0,28)] hh mixed Yx kQ):Q:=h p
theorem KM {P Q:Prop} (p:P) (h:P→Q:=by intro kQ;exact aQ (bg (ae v39 (ae v38 (ae v37 (ae v36 (ae v35 (ae v34 (ae v33 (ae v32 (ae v31 (ae v30 (ae v29 (ae v28 aR))))))))))))) kQ):Q:=h p
theorem RV {P Q:Prop} (p:P) (h:P→Q:=by intro kQ;exact aW 8 [[(6,none)],[(3,none)],[(63,some 1)],[(3,none)],[(65,some 3)],[(66,some 4)],[(64,some 2),(67,some 5)],[(68,some 6)]] [(7,69),(6,68),(5,67),(4,66),(3,65),(2,64),(1,63),(0,62)] hh mixed Yx kQ):Q:=h p
theorem SA {P Q:Prop} (p:P) (h:P→Q:=by intro kQ;exact aQ (bg (ae e69 (ae v68 (ae v67 (ae v66 (ae v65 (ae v64 (ae v63 (ae v62 aR))))))))) kQ):Q:=h p
theorem Qx {P Q:Prop} (p:P) (h:P→Q:=by intro kQ;exact cd hh (i:=0) rfl rfl rfl (f69) bo.out aU.out rfl Yw (by first|rfl|exact dv _|exact cR _|exact br _|exact bD NR.one _) Yv Yv Yw kQ):Q:=h p
theorem Sk {P Q:Prop} (p:P) (h:P→Q:=by intro kQ;exact cG (vs:=[_,_,_]) aU.out rfl ((hh.iu (f:=TR.cells) (x:=t) (l:=G) (i:=1) rfl TR.len Yw ht).drop 1) rfl Yw kQ):Q:=h p
theorem Hs {P Q:Prop} (p:P) (h:P→Q:=by intro kQ;exact a8 (aa (cF (a6 (aH (aH (bB (aj (ai (sr (mL (aK kQ)))))))))))):Q:=h p
theorem oJ {P Q:Prop} (p:P) (h:P→Q:=by intro kQ;exact PG (er rfl (ew (vs:=[_,_]) aU.out (hh.cn (i:=2) (n:=2) rfl rfl) rfl) (jF (kn rfl) fF)) kQ):Q:=h p
theorem oL {P Q:Prop} (p:P) (h:P→Q:=by intro kQ;exact zG gG.out rfl Yw kQ):Q:=h p
theorem Q7 {P Q:Prop} (p:P) (h:P→Q:=by intro kQ;exact cd hh (i:=3) rfl rfl rfl (hh.aG (i:=0) rfl) bo.out aU.out rfl Yw (by first|rfl|exact dv _|exact cR _|exact br _|exact bD NR.one _) Yv Yv Yw kQ):Q:=h p
theorem C3 {P Q:Prop} (p:P) (h:P→Q:=by intro kQ;exact PG (er rfl (ew (vs:=[_,_]) aU.out (hh.cn (i:=3) (n:=2) rfl rfl) rfl) (jF (kn rfl) fF)) kQ):Q:=h p
theorem KG {P Q:Prop} (p:P) (h:P→Q:=by intro kQ;exact a8 (aa (cF (a6 (aH (aH (bB (aj (ai (sr (aI (aa (av kQ))))))))))))):Q:=h p
theorem Sv {P Q:Prop} (p:P) (h:P→Q:=by intro kQ;exact aW 9 [[(0,none)],[(5,none)],[(26,some 0),(27,some 1)],[(28,some 2)],[(29,some 3)],[(0,none)],[(31,some 5)],[(32,some 6)],[(33,some 7)]] [(8,34),(7,33),(6,32),(5,31),(4,30),(3,29),(2,28),(1,27),(0,26)] hh mixed Yx kQ):Q:=h p
theorem SG {P Q:Prop} (p:P) (h:P→Q:=by intro kQ;exact aQ (bg (ae v34 (ae v33 (ae v32 (ae v31 (ae v30 (ae v29 (ae v28 (ae v27 (ae v26 aR)))))))))) kQ):Q:=h p
theorem QS {P Q:Prop} (p:P) (h:P→Q:=by intro kQ;exact aW 17 [[(2,none)],[(35,some 0)],[(7,none)],[(36,some 1),(37,some 2)],[(38,some 3)],[(39,some 4)],[(3,none)],[(41,some 6)],[(8,none)],[(42,some 7),(43,some 8)],[(44,some 9)],[(45,some 10)],[(40,some 5),(46,some 11)],[(47,some 12)],[(34,some 13)],[(34,some 13)],[(48,some 14)]] [(16,9),(15,49),(14,48),(13,34),(12,47),(11,46),(10,45),(9,44),(8,43),(7,42),(6,41),(5,40),(4,39),(3,38),(2,37),(1,36),(0,35)] hh mixed Yx kQ):Q:=h p
theorem Lb {P Q:Prop} (p:P) (h:P→Q:=by intro kQ;exact pK (fun _ hj=>((hr.ext hj.hp.below).recAt TR.len hx).cell (i:=0) rfl) kQ):Q:=h p
theorem Qo {P Q:Prop} (p:P) (h:P→Q:=by intro kQ;exact aQ (bg (ae v9 (ae v49 (ae v48 (ae v34 (ae v47 (ae v46 (ae v45 (ae v44 (ae v43 (ae v42 (ae v41 (ae v40 (ae v39 (ae v38 (ae v37 (ae v36 (ae v35 aR)))))))))))))))))) kQ):Q:=h p
theorem GH {P Q:Prop} (p:P) (h:P→Q:=by intro kQ;exact ak (N:=34) (l:=[.int .i64 v,.int .i64 x]) Tryz.func83 rfl rfl (by simp) kQ):Q:=h p
theorem K2 {P Q:Prop} (p:P) (h:P→Q:=by intro kQ;exact ak (N:=23) (l:=[.int .i64 v,.agg #[.bool c.neg,.string c.bj,.int .i64 c.e]]) Tryz.func93 rfl rfl (by simp) kQ):Q:=h p
theorem B0 {P Q:Prop} (p:P) (h:P→Q:=by intro kQ;exact ak (N:=37) (l:=[.int .i64 v,.int .i64 x]) Tryz.func146 rfl rfl (by simp) kQ):Q:=h p
theorem LD {P Q:Prop} (p:P) (h:P→Q:=by intro kQ;exact ak (N:=49) (l:=[.agg #[.int .i64 p.v,.slice p.A p.n p.c],.int .i64 n]) Tryz.func94 rfl rfl (by simp) kQ):Q:=h p
theorem yJ {P Q:Prop} (p:P) (h:P→Q:=by intro kQ;exact db (aa (cF (au (aj (ai (sr (mI kQ)))))))):Q:=h p
theorem gB {P Q:Prop} (p:P) (h:P→Q:=by intro kQ;exact bA hh (hck _ (hT.hp hh) hh.below) rfl kQ):Q:=h p
theorem RW {P Q:Prop} (p:P) (h:P→Q:=by intro kQ;exact ak (N:=17) (l:=[.agg #[.int .i64 p.v,.slice p.A p.n p.c],.agg #[.int .i64 q.v,.slice q.A q.n q.c]]) Tryz.func32 rfl rfl (by simp) kQ):Q:=h p
theorem R7 {P Q:Prop} (p:P) (h:P→Q:=by intro kQ;exact ak (N:=42) (l:=[.agg #[.int .i64 p.v,.slice p.A p.n p.c],.agg #[.bool c.neg,.string c.bj,.int .i64 c.e]]) Tryz.func104 rfl rfl (by simp) kQ):Q:=h p
theorem nt {P Q:Prop} (p:P) (h:P→Q:=by intro kQ;exact db (aa (cF (au (aj (ai (sr (mL (aK (bJ kQ)))))))))):Q:=h p
theorem Nr {P Q:Prop} (p:P) (h:P→Q:=by intro kQ;exact cG (vs:=[_,_,_,_,_,_]) aU.out rfl ((hr.ext hh.below).recAt SR.len hs) rfl Yw kQ):Q:=h p
theorem RI {P Q:Prop} (p:P) (h:P→Q:=by intro kQ;exact cQ hh (cs:=[_,_,_,_,_,_]) bo.out aU.out (aX (gy rfl) cx) rfl rfl Yw Yw Yw rfl Yw kQ):Q:=h p
theorem Q0 {P Q:Prop} (p:P) (h:P→Q:=by intro kQ;exact cd hh (i:=2) rfl rfl rfl (hh.aG (i:=0) rfl) bo.out aU.out rfl Yw (by first|rfl|exact dv _|exact cR _|exact br _|exact bD NR.one _) Yv Yv Yw kQ):Q:=h p
theorem u9 {P Q:Prop} (p:P) (h:P→Q:=by intro kQ;exact sr (aB (aa (ai (sr (mL (aK kQ))))))):Q:=h p
theorem RT {P Q:Prop} (p:P) (h:P→Q:=by intro kQ;exact aW 8 [[(0,none)],[(5,none)],[(13,some 0),(14,some 1)],[(15,some 2)],[(1,none)],[(5,none)],[(17,some 4),(18,some 5)],[(19,some 6)]] [(7,20),(6,19),(5,18),(4,17),(3,16),(2,15),(1,14),(0,13)] hh mixed Yx kQ):Q:=h p
theorem Rg {P Q:Prop} (p:P) (h:P→Q:=by intro kQ;exact bu (i:=2) (fun ρ1 w1 hj hR=>m7 bo.out aU.size (show ρ1 13=Value.slice _ _ _ from hR.1) (show ρ1 14=Value.int _ _ from hR.2.1) rfl Yv) kQ):Q:=h p
theorem QM {P Q:Prop} (p:P) (h:P→Q:=by intro kQ;exact bu (i:=3) (fun ρ1 w1 hj hR=>jT aU.out (show ρ1 15=Value.pointer _ from hR.1) (hj.hp.fU (i:=0) rfl (by rw [YX];exact hx2))) kQ):Q:=h p
theorem QG {P Q:Prop} (p:P) (h:P→Q:=by intro kQ;exact bu (i:=6) (fun ρ1 w1 hj hR=>dL bo.out aU.size (show ρ1 17=Value.slice _ _ _ from hR.1) (show ρ1 18=Value.int _ _ from hR.2.1) Yv Yv) kQ):Q:=h p
theorem RF {P Q:Prop} (p:P) (h:P→Q:=by intro kQ;exact aQ (bg (ae v20 (ae v19 (ae v18 (ae v17 (ae v16 (ae v15 (ae v14 (ae v13 aR))))))))) kQ):Q:=h p
theorem pV {P Q:Prop} (p:P) (h:P→Q:=by intro kQ;exact cv aU.out rfl (gL hr (cL hdk) rfl) Yw kQ):Q:=h p
theorem Mt {P Q:Prop} (p:P) (h:P→Q:=by intro kQ;exact aP rfl rfl (cv aU.out rfl (gL hr (cL hdk) rfl) Yw kQ)):Q:=h p
theorem Nx {P Q:Prop} (p:P) (h:P→Q:=by intro kQ;exact a8 (aa (cF (a6 (aH (aH (bB (aj (sr (mL (aL (aa (ay kQ))))))))))))):Q:=h p
theorem CI {P Q:Prop} (p:P) (h:P→Q:=by intro kQ;exact ak (N:=40) (l:=[.agg #[.slice A n c,.slice B m c2]]) Tryz.func31 rfl rfl (by simp) kQ):Q:=h p
theorem CU {P Q:Prop} (p:P) (h:P→Q:=by intro kQ;exact bA hh (p5 A n c ds _ (hS.ext hh.below) hn) rfl kQ):Q:=h p
theorem Rc {P Q:Prop} (p:P) (h:P→Q:=by intro kQ;exact aW 11 [[(1,none)],[(28,some 0)],[(4,none)],[(29,some 1),(30,some 2)],[(31,some 3)],[(32,some 4)],[(1,none)],[(34,some 6)],[(4,none)],[(35,some 7),(36,some 8)],[(37,some 9)]] [(10,38),(9,37),(8,36),(7,35),(6,34),(5,33),(4,32),(3,31),(2,30),(1,29),(0,28)] hh mixed Yx kQ):Q:=h p
theorem RD {P Q:Prop} (p:P) (h:P→Q:=by intro kQ;exact bu (i:=3) (fun ρ1 w1 hj hR=>dL bo.out aU.size (show ρ1 29=Value.slice _ _ _ from hR.1) (show ρ1 30=Value.int _ _ from hR.2.1) Yv Yv) kQ):Q:=h p
theorem G2 {P Q:Prop} (p:P) (h:P→Q:=by intro kQ;exact nF [_,_,_] (fun _ hj=>(hr.ext hj.hp.below).recAt NR.len hx) kQ):Q:=h p
theorem Si {P Q:Prop} (p:P) (h:P→Q:=by intro kQ;exact bu (i:=9) (fun ρ1 w1 hj hR=>dL bo.out aU.size (show ρ1 35=Value.slice _ _ _ from hR.1) (show ρ1 36=Value.int _ _ from hR.2.1) Yv Yv) kQ):Q:=h p
theorem QX {P Q:Prop} (p:P) (h:P→Q:=by intro kQ;exact aQ (bg (ae v38 (ae v37 (ae v36 (ae v35 (ae v34 (ae v33 (ae v32 (ae v31 (ae v30 (ae v29 (ae v28 aR)))))))))))) kQ):Q:=h p
theorem Cq {P Q:Prop} (p:P) (h:P→Q:=by intro kQ;exact aa (cT (sr (aI (aa (ay (cm (aN (aN (cm (aN kQ))))))))))):Q:=h p
theorem BQ {P Q:Prop} (p:P) (h:P→Q:=by intro kQ;exact ak (N:=58) (l:=[.agg #[.int .i64 p.v,.slice p.A p.n p.c],.slice L n c,.slice M m mc]) Tryz.func43 rfl rfl (by simp) kQ):Q:=h p
theorem so {P Q:Prop} (p:P) (h:P→Q:=by intro kQ;exact db (aa (cF (au (aj (ai (sr (mL kQ)))))))):Q:=h p
theorem CO {P Q:Prop} (p:P) (h:P→Q:=by intro kQ;exact cv aU.out rfl ((hr.ext hh.below).xv hy2) Yw kQ):Q:=h p
theorem LL {P Q:Prop} (p:P) (h:P→Q:=by intro kQ;exact cG (vs:=[_,_,_]) aU.out rfl ((hr.ext hh.below).recAt NR.len hxn) rfl Yw kQ):Q:=h p
theorem QH {P Q:Prop} (p:P) (h:P→Q:=by intro kQ;exact cG (vs:=[_,_,_]) aU.out rfl (hh.iu (f:=NR.cells) (x:=nR (nD (bin (d-i) j))) (l:=mz (d-i)) (i:=0) rfl NR.len Yw hbn) rfl Yw kQ):Q:=h p
theorem Hb {P Q:Prop} (p:P) (h:P→Q:=by intro kQ;exact ak (N:=20) (l:=[.agg #[.slice fx.A fx.n fx.a,.slice fx.B fx.m fx.b],.int .i64 ax]) Tryz.func66 rfl rfl (by simp) kQ):Q:=h p
theorem RH {P Q:Prop} (p:P) (h:P→Q:=by intro kQ;exact aW 6 [[(8,none)],[(3,none)],[(21,some 1)],[(20,some 0),(22,some 2)],[(3,none)],[(24,some 4)]] [(5,25),(4,24),(3,23),(2,22),(1,21),(0,20)] hh mixed Yx kQ):Q:=h p
theorem Qq {P Q:Prop} (p:P) (h:P→Q:=by intro kQ;exact bu (i:=3) (fun ρ1 w1 hj hR=>s8 (show ρ1 20=Value.int _ _ from hR.1) (show ρ1 22=Value.int _ _ from hR.2.1) Yv Yv Yv) kQ):Q:=h p
theorem GV {P Q:Prop} (p:P) (h:P→Q:=by intro kQ;exact ak (N:=165) (l:=[.agg #[.slice fx.A fx.n fx.a,.slice fx.B fx.m fx.b],.slice L n c]) Tryz.func28 rfl rfl (by simp) kQ):Q:=h p
theorem R4 {P Q:Prop} (p:P) (h:P→Q:=by intro kQ;exact cG (vs:=[_,_,_]) aU.out rfl (hh.iu (f:=NR.cells) (x:=nR x) (l:=Y.map nR) (i:=1) rfl NR.len Yw hxn) rfl Yw kQ):Q:=h p
theorem Sm {P Q:Prop} (p:P) (h:P→Q:=by intro kQ;exact aW 12 [[(9,none)],[(7,none)],[(58,some 1)],[(57,some 0),(59,some 2)],[(7,none)],[(61,some 4)],[(60,some 3),(62,some 5)],[(2,none)],[(64,some 7)],[(1,none)],[(65,some 8),(66,some 9)],[(67,some 10)]] [(11,68),(10,67),(9,66),(8,65),(7,64),(6,63),(5,62),(4,61),(3,60),(2,59),(1,58),(0,57)] hh mixed Yx kQ):Q:=h p
theorem Sw {P Q:Prop} (p:P) (h:P→Q:=by intro kQ;exact bu (i:=3) (fun ρ1 w1 hj hR=>s8 (show ρ1 57=Value.int _ _ from hR.1) (show ρ1 59=Value.int _ _ from hR.2.1) Yv Yv Yv) kQ):Q:=h p
theorem Rz {P Q:Prop} (p:P) (h:P→Q:=by intro kQ;exact bu (i:=6) (fun ρ1 w1 hj hR=>qD (show ρ1 60=Value.int _ _ from hR.1) (show ρ1 62=Value.int _ _ from hR.2.1) Yv Yv) kQ):Q:=h p
theorem RC {P Q:Prop} (p:P) (h:P→Q:=by intro kQ;exact aQ (bg (ae v68 (ae v67 (ae v66 (ae v65 (ae v64 (ae v63 (ae v62 (ae v61 (ae v60 (ae v59 (ae v58 (ae v57 aR))))))))))))) kQ):Q:=h p
theorem Ld {P Q:Prop} (p:P) (h:P→Q:=by intro kQ;exact Jz (N:=58) (l:=[.agg #[.slice fx.A fx.n fx.a,.slice fx.B fx.m fx.b],.slice L m2 c2]) Tryz.func10 rfl rfl (by simp) kQ):Q:=h p
theorem Se {P Q:Prop} (p:P) (h:P→Q:=by intro kQ;exact ak (N:=46) (l:=[.agg #[.int .i64 p.v,.slice p.A p.n p.c],.agg #[.bool c.neg,.string c.bj,.int .i64 c.e]]) Tryz.func147 rfl rfl (by simp) kQ):Q:=h p
theorem SH {P Q:Prop} (p:P) (h:P→Q:=by intro kQ;exact aW 10 [[(0,none)],[(3,none)],[(13,some 0),(14,some 1)],[(15,some 2)],[(16,some 3)],[(0,none)],[(3,none)],[(18,some 5),(19,some 6)],[(20,some 7)],[(21,some 8)]] [(9,22),(8,21),(7,20),(6,19),(5,18),(4,17),(3,16),(2,15),(1,14),(0,13)] hh mixed Yx kQ):Q:=h p
theorem Rp {P Q:Prop} (p:P) (h:P→Q:=by intro kQ;exact aQ (bg (ae v22 (ae v21 (ae v20 (ae v19 (ae v18 (ae v17 (ae v16 (ae v15 (ae v14 (ae v13 aR))))))))))) kQ):Q:=h p
theorem GJ {P Q:Prop} (p:P) (h:P→Q:=by intro kQ;exact ak (N:=18) (l:=[.agg #[.bool a.neg,.string a.bj,.int .i64 a.e]]) Tryz.func36 rfl rfl (by simp) kQ):Q:=h p
theorem NT {P Q:Prop} (p:P) (h:P→Q:=by intro kQ;exact ak (N:=46) (l:=[.slice A n c,.slice B m d]) Tryz.func7 rfl rfl (by simp) kQ):Q:=h p
theorem LK {P Q:Prop} (p:P) (h:P→Q:=by intro kQ;exact ak (N:=82) (l:=[.agg #[.slice fx.A fx.n fx.a,.slice fx.B fx.m fx.b],.slice L m2 c2]) Tryz.func30 rfl rfl (by simp) kQ):Q:=h p
theorem My {P Q:Prop} (p:P) (h:P→Q:=by intro kQ;exact a8 (aa (ai (cF (a6 (aH (aH (bB (aj (sr (mL (aL (aa (ay kQ)))))))))))))):Q:=h p
theorem Kv {p:Prop} (h:p:=by
  refine mB ?_;refine gS (gS ?_);refine fG ?_;exact Nt):p:=h
theorem Qs {p:Prop} (h:p:=by
  refine ⟨⟨i+1,Yv,rfl,hh⟩,by show (n-m/64)-(i+1)<(n-m/64)-i;omega, ?_⟩;exact dO):p:=h
theorem QU {p:Prop} (h:p:=by
  refine aJ (hpu _ (hT.hp hh) hh.below) aw.out rfl Yw ?_;rintro e_ w51 ⟨g,og,rfl,h3⟩;exact HK):p:=h
theorem Q3 {p:Prop} (h:p:=by
  refine aa (sr (mI ?_));refine bm (mL (aK ?_));refine a8 (mB ?_);refine gS (gS (gS ?_));refine dX ?_;exact Sy):p:=h
theorem HW {p:Prop} (h:p:=by
  refine fG ?_;refine aa (cT (sr ?_));exact Sf):p:=h
theorem SL {p:Prop} (h:p:=by
  refine yw ?_;exact GQ):p:=h
theorem RO {p:Prop} (h:p:=by
  refine fJ ?_;refine gK (i:=2) Yx rfl ?_;refine bV hh 3 [_,_] ?_;intro ws hh;replace hh:Hp _ (_::_::_::.blk _ _ [_,_] _::_) _:=hh;exact SJ):p:=h
theorem RJ {p:Prop} (h:p:=by
  refine dn (k:=(i+j)) bo.out aU.size rfl rfl Yv Yv Yw ?_;refine cA hh (i:=3) (vs:=[_,_,_]) rfl rfl (gy rfl) rfl aU.out rfl Yv rfl ?_;intro ws hh;simp only [YM,Zg] at hh;rw [show cM (aD NR.cells (S.map nR)) ((i+j)*3) [.bool (nR (o+y)).neg,.string (nR (o+y)).bj,.int .i64 (nR (o+y)).e]=aD NR.cells ((S.map nR).set (i+j) (nR (o+y))) from jZ NR.len Yv,←aa3,hset] at hh;refine gN ?_;refine bm (mI (aE (aj ?_)));replace hh:=hh.sub (YI _ (YC _ (YC _ (YC _ Y5))));refine ⟨⟨j+1,Yv,rfl,hh⟩,by show d-i+1-(j+1)<d-i+1-j;omega, ?_⟩;exact dO):p:=h
theorem Rv {p:Prop} (h:p:=by
  refine oH bo.out bo.out bo.out rfl (hh.aG (i:=0) rfl) Yw ?_;exact Bv):p:=h
theorem Qy {p:Prop} (h:p:=by
  refine ⟨⟨i+1,_,Yv,rfl,hS3.symm,hh⟩,by show n-(i+1)<n-i;omega, ?_⟩;exact dO):p:=h
theorem RN {p:Prop} (h:p:=by
  refine a8 (mB (gT (mI (gT ?_))));refine bT ?_;refine dX ?_;refine aa (cT (sr ?_));exact Sf):p:=h
theorem Q8 {p:Prop} (h:p:=by
  refine aI (aa (sr (mI ?_)));refine db (aa (cT (sr ?_)));refine fH [_,_] (mI ?_);exact Vg):p:=h
theorem Sr {p:Prop} (h:p:=by
  refine aI (aa (sr (mI ?_)));refine db (aa (cT (sr ?_)));refine fH [_,_] (mI ?_);exact UX):p:=h
theorem QZ {p:Prop} (h:p:=by
  exact ⟨_,_,by rw [e1],by rw [e1,e2];exact hh.sub (YC _ (Zr _))⟩):p:=h
theorem RG {p:Prop} (h:p:=by
  refine ⟨⟨i+1,Yv,rfl, ?_,hh⟩,by show n-(i+1)<n-i;omega, ?_⟩
  ·exact Wx
  ·exact dO):p:=h
theorem M1 {p:Prop} (h:p:=by
  refine dh ?_;exact ⟨_,_,rfl,hh.at_ (i:=0) rfl,hh.below⟩):p:=h
theorem Rq {p:Prop} (h:p:=by
  refine mB ?_;refine gS (gS (gS (gS ?_)));refine fG ?_;refine mB ?_;refine gS (gS (gS (gS ?_)));refine fG ?_;exact SU):p:=h
theorem QT {p:Prop} (h:p:=by
  refine ⟨⟨k+1,Yv,rfl,by rw [hl2];rfl,Yv,hstep,rfl⟩,by show n-(k+1)<n-k;omega, ?_⟩;exact dO):p:=h
theorem Q5 {p:Prop} (h:p:=by
  refine rq ?_;exact ⟨rfl,hh.below⟩):p:=h
theorem RZ {p:Prop} (h:p:=by
  refine zl ?_;exact ⟨rfl,hh.below⟩):p:=h
theorem SC {p:Prop} (h:p:=by
  refine aa (cT (sr (aI (aa (ay (aN (cm (aN (aN (cm (aN ?_)))))))))));refine dh ?_;exact ⟨rfl,hh.below⟩):p:=h
theorem Rj {p:Prop} (h:p:=by
  refine CQ ?_;exact ⟨rfl,hh.below⟩):p:=h
theorem MR {p:Prop} (h:p:=by
  exact ⟨PX.nil,dW.err Yw,rfl,(hh.sub (Zr _)).AZ⟩):p:=h
theorem RP {p:Prop} (h:p:=by
  refine ⟨⟨k+1,Yv,rfl,by rw [aC hc,JZ,hm];simpa using h8,rfl⟩,by show s.size-(k+1)<s.size-k;omega, ?_⟩;exact dO):p:=h
theorem Sa {p:Prop} (h:p:=by
  refine ⟨⟨i,_,_,Yv,rfl,by rw [d1];rfl,by rw [d1];exact hh⟩,by show ((i:Int)-1+1).toNat<((i:Int)+1).toNat;omega, ?_⟩;exact dO):p:=h
theorem Sp {p:Prop} (h:p:=by
  refine mB (gT (mI (gT ?_)));refine a8 ?_;refine dX ?_;refine mB (gT (mI (gT (mI (gT ?_)))));refine ej ?_;refine dX ?_;refine aa (cT (sr ?_));exact Sf):p:=h
theorem Rl {p:Prop} (h:p:=by
  refine j9 ?_;refine dS (dS (dS (dS (dS ?_))));refine pJ (i:=18) rfl (fun ρ1 w1 hj hR=>(show ρ1 33=Value.bool _ from hR.2.2.1)) Yw ?_;refine Bt ?_;exact Xr):p:=h
theorem Qp {p:Prop} (h:p:=by
  refine fJ ?_;refine gK (i:=2) Yx rfl ?_;refine bV hh 4 [_,_] ?_;intro ws hh;replace hh:Hp _ (_::_::_::_::.blk _ _ [_,_] _::_) _:=hh;exact VW):p:=h
theorem QC {p:Prop} (h:p:=by
  refine ak (N:=9) (l:=[.int .i64 v]) Tryz.func109 rfl rfl (by simp) ?_;refine sr (aB (aa (sr (mI ?_))));refine ej (mB (gT (mI (gT ?_))));refine TT ?_;refine fG ?_;exact xG):p:=h
theorem Gw {p:Prop} (h:p:=by
  refine ej (aB (aa (ay ?_)));refine dh ?_;exact ⟨rfl,hh.below⟩):p:=h
theorem Qn {p:Prop} (h:p:=by
  refine ⟨⟨i+1,Yv,rfl,by rw [aC hx,aaW,hall,aa4,aaR,Y3 Yv];rfl,hh⟩,by show n-(i+1)<n-i;omega, ?_⟩;exact dO):p:=h
theorem Rt {p:Prop} (h:p:=by
  replace hh:=hh.sub (YI _ (YC _ Y5));refine ⟨⟨i+1,Yv,rfl,hall2, ?_,hh⟩,by show n-(i+1)<n-i;omega, ?_⟩
  ·exact UI
  ·exact dO):p:=h
theorem Qw {p:Prop} (h:p:=by
  refine mB ?_;refine gS (gS ?_);refine jG ?_;refine gS (gS (gS ?_));refine dX ?_;refine wc ?_;refine cC hh 0 [_,_] ?_;exact Ln):p:=h
theorem SI {p:Prop} (h:p:=by
  refine ⟨⟨i+1,N,A2,c2,Yv,rfl,rfl,by rw [sK hx,←hM,YG Yv];exact hN,fun e h=> ?_,hh⟩,by show pn-(i+1)<pn-i;omega, ?_⟩
  ·exact UH
  ·exact dO):p:=h
theorem Rk {p:Prop} (h:p:=by
  replace hh:=hh.sub (YI _ (YC _ Y5));refine ⟨⟨i+1,Yv,rfl,hall2,by rw [aC hx,h0];rfl,hh⟩,by show n-(i+1)<n-i;omega, ?_⟩;exact dO):p:=h
theorem Qr {p:Prop} (h:p:=by
  refine p8 ?_;refine bm (aI (aE (aj ?_)));refine ⟨⟨j+1,Yv,rfl,fun x hx=> ?_,hh⟩,by show n-(j+1)<n-j;omega, ?_⟩
  ·exact V6
  ·exact dO):p:=h
theorem Sq {p:Prop} (h:p:=by
  have hik:i=k:=by
   rcases Zj i k with h|h
   ·exact absurd ⟨i,h,h2,h3⟩ hex
   ·omega
  subst hik;refine ⟨i,h2,h3,fun j hj=> ?_⟩
  cases hc2:L.getD j false with
  |true=>rfl
  |false=>exact absurd ⟨j,hj,Yv,hc2⟩ hex):p:=h
theorem SN {p:Prop} (h:p:=by
  have h1:L.toList.countP (fun b=>b)=L.toList.length:=by
   have:=hI.ls;simp only [Array.length_toList];omega
  have h2:=List.countP_eq_length.1 h1;have h3:i<L.size:=by rw [hI.ls,hnn];exact hi
  have:=h2 L[i] (by simp);simpa [h3] using this):p:=h
theorem GQ {p:Prop} (h:p:=by
  exact ⟨g,og,rfl,hh.sub (YC _ (Zr _))⟩):p:=h
theorem QK {p:Prop} (h:p:=by
  refine ⟨⟨j+1,N++[od x y],_,_,Yv,rfl,by rw [YK];rfl,by rw [hN,aC hy,Zq,Ze];rfl,fun e h=> ?_, ?_⟩,by show qn-(j+1)<qn-j;omega, ?_⟩
  ·exact UE
  ·rw [YK];exact hh
  ·exact dO):p:=h
theorem Rr {p:Prop} (h:p:=by
  refine sr ?_;refine cu hh [_,_] ?_;intro b2 w2 hh;refine cu hh [_,_] ?_;intro b3 w3 hh;refine bW hh ?_;intro b4 w4 hh;refine aI (aa (ai (sr (bJ ?_))));refine bG hh 2 ?_;refine aK (bJ ?_);refine bG hh 1 ?_;refine aK ?_;refine mulC ?_;refine bT (aa (cT (sr ?_)));exact Sf):p:=h
theorem Nv {p:Prop} (h:p:=by
  refine ⟨⟨i+1,Yv,rfl,hh⟩,by show n-(i+1)<n-i;omega, ?_⟩;exact dO):p:=h
theorem Nt {p:Prop} (h:p:=by
  refine mB ?_;refine gS (gS (gS ?_));exact HW):p:=h
theorem QF {p:Prop} (h:p:=by
  refine bV hh 1 [_,_] ?_;intro ws hh;replace hh:Hp _ (_::.blk _ _ [_,_] _::_) _:=hh;refine gN ?_;refine bm (mI (aE (aj ?_)));replace hh:=hh.sub (Zi _ _);refine ⟨⟨i+1,_,_,Yv,rfl,hS3.symm,hpl,by unfold IR.v at hba ⊢;omega,hh⟩,by show n-(i+1)<n-i;omega, ?_⟩;exact dO):p:=h
theorem RE {p:Prop} (h:p:=by
  obtain rfl:j=d-i+1:=Yv;rw [JP Yv] at hh;refine sr ?_;refine C9 ?_;refine bm (mI (aE (aj ?_)));replace hh:=hh.sub (YI _ (YI _ (YC _ Y5)));refine ⟨⟨i+1,Yv,rfl,hh⟩,by show n-(i+1)<n-i;omega, ?_⟩;exact dO):p:=h
theorem Sy {p:Prop} (h:p:=by
  refine Cz ?_;refine bm (mI (aE (aj ?_)));rw [e1,hac,←hnew] at hh;exact Qs):p:=h
theorem B2 {p:Prop} (h:p:=by
  refine bV hh 0 [_,_] ?_;intro ws hh;replace hh:Hp _ (.blk _ _ [_,_] _::_) _:=hh;refine aa (ay (aN ?_));exact WG):p:=h
theorem HK {p:Prop} (h:p:=by
  refine ⟨_,rfl, ?_⟩;replace hh:=hh.join h3;simp only [YJ,YH] at hh;refine dx ?_;refine dx ?_;exact Xg):p:=h
theorem Q6 {p:Prop} (h:p:=by
  have hil:i<l.length:=Yv;have hE:=hedge i hil;have ho:l.toArray[i]?=some l[i]:=by simp [hil]
  rw [ho] at hE;have hmem:i∈Region.ready .any l.toArray L:=(hready_spec i).2 ⟨hil,by
   have h3:i<L.size:=by rw [hI.ls,hnn];exact hil
   rw [ZI] at hu ⊢;rw [aaQ h3] at hu ⊢;simpa using hu,l[i],ho,fun e he hb=>by
   have:=abL.1 hE e he;simp only [hb,Bool.not_true,ZD,YY] at this;exact hlow _ this⟩
  rw [hnil] at hmem
  cases hmem):p:=h
theorem QY {p:Prop} (h:p:=by
  simp only [YJ,YH] at hh;refine dz (i:=7) (by repeat (first|exact cz|refine bU ?_|refine cw ?_|refine np_scope ?_)) rfl Yx Yx Yx (fun _=>gk (show _=Value.tuple (List.toArray _) from rfl) rfl) Yw ?_;refine dz (i:=8) (by repeat (first|exact cz|refine bU ?_|refine cw ?_|refine np_scope ?_)) rfl Yx Yx Yx (fun _=>gk (show _=Value.tuple (List.toArray _) from rfl) rfl) Yw ?_;refine lV 9 Yw Yx Yw Yx Yx ?_;exact Xg):p:=h
theorem SB {p:Prop} (h:p:=by
  simp only [YJ,YH] at hh;refine dz (i:=8) (by repeat (first|exact cz|refine bU ?_|refine cw ?_|refine np_scope ?_)) rfl Yx Yx Yx (fun _=>gk (show _=Value.tuple (List.toArray _) from rfl) rfl) Yw ?_;refine dz (i:=9) (by repeat (first|exact cz|refine bU ?_|refine cw ?_|refine np_scope ?_)) rfl Yx Yx Yx (fun _=>gk (show _=Value.tuple (List.toArray _) from rfl) rfl) Yw ?_;refine lV 10 Yw Yx Yw Yx Yx ?_;exact Oh):p:=h
theorem Qv {p:Prop} (h:p:=by
  refine L0 ?_;refine gD ?_;refine GR ?_;intro ws hh;simp only [YM] at hh;rw [hand,es,YX,dp (by rw [hll];omega),sx,←b1,hfk] at hh;refine aa (ar (mI ?_));refine nj (s:=1) (m:=2) rfl rfl Yw Yw Yw ?_;refine aI (aE (bM (aj (ar (mI ?_)))));refine bm (aI (aE (aj ?_)));rw [es];refine ⟨⟨i+1,Yv,rfl,by rw [b2];rfl,hh⟩,by show K-(i+1)<K-i;omega, ?_⟩;exact dO):p:=h
theorem SJ {p:Prop} (h:p:=by
  refine fJ ?_;refine lV 3 Yw Yx Yw Yx Yx ?_;refine bV hh 2 [_,_] ?_;intro ws hh;replace hh:Hp _ (_::_::.blk _ _ [_,_] _::_) _:=hh;refine aB (aa (ay ?_));refine Xf (er rfl (ew (vs:=[_,_]) aU.out (hh.cn (i:=3) (n:=2) rfl rfl) rfl) (er rfl (ew (vs:=[_,_]) aU.out (hh.cn (i:=2) (n:=2) rfl rfl) rfl) (jF (om rfl) fF))) ?_;exact ⟨rfl,hh.below⟩):p:=h
theorem QI {p:Prop} (h:p:=by
  refine aW 13 [[(2,none)],[(24,some 0)],[(2,none)],[(26,some 2)],[(3,none)],[(28,some 4)],[(27,some 3),(29,some 5)],[(25,some 1),(30,some 6)],[(3,none)],[(32,some 8)],[(31,some 7),(33,some 9)],[(3,none)],[(35,some 11)]] [(12,36),(11,35),(10,34),(9,33),(8,32),(7,31),(6,30),(5,29),(4,28),(3,27),(2,26),(1,25),(0,24)] hh mixed Yx ?_;refine cX ?_;refine ef 2 [_,_] ?_;refine cX ?_;refine dT 2 ?_;refine cX ?_;refine dT 1 ?_;refine qE ?_;refine dC (fun _ hj=>hshl _) ?_;refine cX ?_;refine ef 1 [_,_] ?_;refine dC (fun _ hj=>hpl _) ?_;refine cX ?_;refine dT 1 ?_;refine aM ?_;intro f W hJ hV;have hb_8:=hJ.bl;obtain ⟨v36,v35,v34,v33,v32,v31,v30,v29,v28,v27,v26,v25,v24,_⟩:=hV;replace hh:=hJ.hp;refine aQ (bg (ae v36 (ae v35 (ae v34 (ae v33 (ae v32 (ae v31 (ae v30 (ae v29 (ae v28 (ae v27 (ae v26 (ae v25 (ae v24 aR)))))))))))))) ?_;dsimp only [bO];clear hJ;refine bA hh (hmk _) rfl ?_;intro w37 hh;exact HR):p:=h
theorem Gv {p:Prop} (h:p:=by
  refine hH (hc _ hh.below) aw.out rfl rfl Yw ?_;rintro e_ w16 ⟨rfl,hb_⟩;refine ⟨_,rfl, ?_⟩;replace hh:=hh.ext hb_;refine Cz ?_;refine bm (mI (aE (aj ?_)));refine ⟨⟨i+1,Yv,rfl,by rw [aC hz,aaW,hall,aa4,aaR,gz];rfl,hh⟩,by show n-(i+1)<n-i;omega, ?_⟩;exact dO):p:=h
theorem Sj {p:Prop} (h:p:=by
  refine fJ ?_;refine gK (i:=8) Yx rfl ?_;refine hH (hsm _ (hT.hp hh)) aw.out rfl rfl Yw ?_;rintro e_ w41 ⟨rfl,hb_⟩;refine ⟨_,rfl, ?_⟩;replace hh:=hh.ext hb_;refine fJ ?_;refine gK (i:=9) Yx rfl ?_;refine yG ?_;intro b42 w42 hh;refine fJ ?_;refine gK (i:=10) Yx rfl ?_;refine pR ?_;intro A43 c43 w43 hh;simp only [YM,Zg] at hh;replace hh:=hh.sub (Zi _ _);refine fJ ?_;refine lV 15 Yw Yx Yw Yx Yx ?_;refine aL (aL (aL (aE (bM (bM (aj ?_))))));replace hh:=hh.sub (YC _ Y5);refine ⟨⟨_,n-1,c-1,X,_,m-1,c2-1,Y,O++[⟨x.m,nR (x.c.d+y.c.d)⟩],A43,c43,rfl,rfl, ?_,Yv,Yv,hSt,hSt2,hmg.both h1 h2 hk, ?_⟩,by show (n-1)+(m-1)<n+m;omega, ?_⟩
  ·exact Wb
  ·rw [YK,bZ];exact hh
  ·exact dO):p:=h
theorem R3 {p:Prop} (h:p:=by
  have zy:=zx.mul zu;have hm2:=fun A cc w1 hT1 hS1=>fS A 2 cc [nR x,nR u] w1 hT1 hS1 (by simpa using ⟨zx.ok Yv,zu.ok Yv⟩) 600000 (by simpa [cj] using ⟨zx.mono Yv,zu.mono Yv⟩) Yv Yv;rw [show iZ ([nR x,nR u].map NR.d)=x*u by simp only [Y1,Zp,cj];show 1*x*_=_;rw [aaJ]] at hm2;generalize x*u=y at*;have hsum:=fun A cc w1 hT1 hS1=>jM A 2 cc [nR o,nR y] w1 hT1 hS1 (by simpa using ⟨zo.ok Yv,zy.ok Yv⟩) 2000000 (by simpa [cj] using ⟨zo.mono Yv,zy.mono Yv⟩) Yv;rw [show oK ([nR o,nR y].map NR.d)=o+y by simp only [Y1,Zp,cj,mA]] at hsum;have hrl:=eS NR.len (S.map nR);refine aW 16 [[(4,none)],[(5,none)],[(7,none)],[(38,some 1),(39,some 2)],[(4,none)],[(5,none)],[(7,none)],[(42,some 5),(43,some 6)],[(41,some 4),(44,some 7)],[(45,some 8)],[(6,none)],[(8,none)],[(47,some 10),(48,some 11)],[(49,some 12)],[(46,some 9),(50,some 13)],[(51,some 14)]] [(15,52),(14,51),(13,50),(12,49),(11,48),(10,47),(9,46),(8,45),(7,44),(6,43),(5,42),(4,41),(3,40),(2,39),(1,38),(0,37)] hh mixed Yx ?_;refine eQ ?_;refine cZ ?_;refine cZ ?_;refine r6 ?_
  refine eQ ?_;refine cZ ?_;refine cZ ?_;refine r6 ?_;refine N2 ((i+j)) ?_;refine nF [_,_,_] (fun _ hj=>hj.hp.iu (f:=NR.cells) (x:=nR o) (l:=S.map nR) (i:=3) rfl NR.len Yw hon) ?_;refine ef 2 [_,_,_] ?_;refine ef 0 [_,_,_] ?_;refine pL [_,_,_,_,_,_] ?_;refine aO (i:=13) (Is (.agg #[.bool (nR y).neg,.string (nR y).bj,.int .i64 (nR y).e])) Is.ext ?_ ?_
  ·exact WX
  refine pL [_,_,_,_,_,_] ?_;refine aO (i:=15) (Is (.agg #[.bool (nR (o+y)).neg,.string (nR (o+y)).bj,.int .i64 (nR (o+y)).e])) Is.ext ?_ ?_
  ·exact WH
  refine aM ?_;intro f W hJ hV;have hb_11:=hJ.bl;obtain ⟨v52,v51,v50,v49,v48,v47,v46,v45,v44,v43,v42,v41,v40,v39,v38,v37,_⟩:=hV;obtain ⟨A49,c49,e49,f49⟩:Rows _ _ _ (f 12) W:=v49;obtain ⟨A51,c51,e51,f51⟩:Rows _ _ _ (f 14) W:=v51;replace hh:=hJ.hp;refine aQ (bg (ae v52 (ae e51 (ae v50 (ae e49 (ae v48 (ae v47 (ae v46 (ae v45 (ae v44 (ae v43 (ae v42 (ae v41 (ae v40 (ae v39 (ae v38 (ae v37 aR))))))))))))))))) ?_;dsimp only [bO];clear e49 e51 hJ;exact RJ):p:=h
theorem RM {p:Prop} (h:p:=by
  refine db (aB (aa (ay ?_)));refine dh ?_;exact ⟨by rw [YV hg],hh.below⟩):p:=h
theorem QP {p:Prop} (h:p:=by
  have h1:bN m≠0:=fun h=>h0 (by rw [h,pw]);rw [YV h1];exact ⟨rfl,hh.below⟩):p:=h
theorem R5 {p:Prop} (h:p:=by
  refine aS (aB (aa (ay ?_)));refine HI ?_;rw [YV Yv];exact ⟨rfl,hh.below⟩):p:=h
theorem NU {p:Prop} (h:p:=by
  rw [YN,Zx Yv]
  rfl):p:=h
theorem Rm {p:Prop} (h:p:=by
  refine db (aB (aa (ay ?_)));refine dh ?_;exact ⟨by rw [Y3 Yv],hh.below⟩):p:=h
theorem Mm {p:Prop} (h:p:=by
  exact ⟨0,YD _,rfl,fun t ht=>(nomatch ht),hh⟩):p:=h
theorem R8 {p:Prop} (h:p:=by
  rw [aap];split
  ·exact List.nodup_nil
  ·exact aar.2 ⟨by simp,List.nodup_nil⟩):p:=h
theorem QJ {p:Prop} (h:p:=by
  obtain ⟨cs,h6,h7⟩:=h5 i Yv;rw [hc] at h6;obtain ⟨a,rfl,h8⟩:=one _ _ _ h7;exact ⟨a,h6,h8⟩):p:=h
theorem LN {p:Prop} (h:p:=by
  rw [ho] at ho';injection ho' with ho';subst ho';exact hed):p:=h
theorem Q4 {p:Prop} (h:p:=by
  exact ⟨⟨Yv,(hcp.my o ho).2,by rw [e2];exact po.ok,by rw [e2];exact po.sz⟩,by rw [e2];exact pl⟩):p:=h
theorem Rx {p:Prop} (h:p:=by
  refine dh ?_;rw [←hcut,YK,YW,ZB Yv];exact ⟨rfl,hh.below⟩):p:=h
theorem Rs {p:Prop} (h:p:=by
  exact ⟨0,0,none,[],[],YD _,rfl,rfl,rfl,⟨fun j g o _ h=>(nomatch h),fun o h=>(nomatch h)⟩,hh⟩):p:=h
theorem Sn {p:Prop} (h:p:=by
  have h1:bN m=0:=by rw [←pw] at h0;exact Mz h0
  rw [Y3 Yv];exact ⟨rfl,hh.below⟩):p:=h
theorem SF {p:Prop} (h:p:=by
  induction xs generalizing ys c with
  |nil=>exact Dg.nil
  |cons x xs ih=>exact Dg.cons (Y8 _ hB) (ih _ _)):p:=h
theorem QV {p:Prop} (h:p:=by
  refine aS (aa (ay ?_));refine dh ?_;rw [YG Yv] at hT;rw [hT];exact ⟨rfl,hh.below⟩):p:=h
theorem V6 {p:Prop} (h:p:=by
  rw [aC hd] at hx
  rcases Zb.1 hx with hx|hx
  ·exact hall x hx
  ·rw [YT.1 hx];omega):p:=h
theorem R9 {p:Prop} (h:p:=by
  have h1:=hall (i+1);rw [sK hx,YK,←hM] at h1;rw [hN,YK];simp at h1 ⊢;omega):p:=h
theorem Ro {p:Prop} (h:p:=by
  rw [show (18446744073709551616:Nat)=2^64 from rfl,←Zm];exact Zf Yv Yv):p:=h
theorem KY {p:Prop} (h:p:=by
  rw [jg Yv (fC Yv _ _),da hbd]):p:=h
theorem SM {p:Prop} (h:p:=by
  refine dX ?_;refine yy ?_;refine dh ?_;exact ⟨by rw [YA (.inr rfl)],hh.below⟩):p:=h
theorem Wb {p:Prop} (h:p:=by
  show Value.slice _ (O.length+1) _=Value.slice _ (O++[(⟨x.m,nR (x.c.d+y.c.d)⟩:TR)]).length _;rw [YK]
  rfl):p:=h
theorem HX {p:Prop} (h:p:=by
  rw [hd] at h1;rw [hd];exact ⟨_,_,rfl,h1,hh.below⟩):p:=h
theorem UE {p:Prop} (h:p:=by
  rw [aC hy,Zq,Zb] at h
  rcases h with h|h
  ·exact hz2 e h
  ·rw [YT.1 h];exact he):p:=h
theorem Sg {p:Prop} (h:p:=by
  exact let ⟨g,e,o⟩:=hR.1;eJ rfl (iT (l:=List.replicate v.toNat 0) bo.out bo.out bo.out e o) ⟨Below.refl _ _,rfl⟩):p:=h
theorem QW {p:Prop} (h:p:=by
  unfold Program.cellsOf at hc
  cases hi:P.info? fd.type with
  |none=>simp [hi] at hc
  |some i=>exact ⟨i,rfl,by simpa [hi] using hc⟩):p:=h
theorem MB {p:Prop} (h:p:=by
  cases rest with
  |nil=>simp at hlen;omega
  |cons x r=>exact ⟨x,r,rfl⟩):p:=h
theorem Rw {p:Prop} (h:p:=by
  refine aa ?_;rw [hge];refine cT (sr (aI (aa (ay (cm (aN (aN (cm (aN ?_)))))))));refine dh ?_;exact ⟨rfl,hh.below⟩):p:=h
theorem UH {p:Prop} (h:p:=by
  rw [sK (f:=fun (x y:TR)=>ki x.m y.m) hx,Zb,abr] at h
  rcases h with h|h
  ·exact hz e h
  ·exact hz2 e h):p:=h
theorem QO {p:Prop} (h:p:=by
  refine aaF fun hn=>hall fun i hi=> ?_
  cases hc2:L.getD i false with
  |true=>rfl
  |false=>exact absurd ⟨i,hi,hc2⟩ hn):p:=h
theorem QD {p:Prop} (h:p:=by
  refine full L a w (fuel+1) hI hall ?_;have hL:L=jW l.length m:=z8 (by rw [hI.ls,hnn]) hml hall hI.tl;rw [hL,Ez] at hc;omega):p:=h
theorem Sd {p:Prop} (h:p:=by
  simp only [execOp,resolve,invoke,builtin,Sem.run_bind,Sem.run_pure,Result.andThen_ok,abH,Y1,Zp,hs,hx,hr]):p:=h
theorem SK {p:Prop} (h:p:=by
  have h2:=hD (i+1) e (by simpa using he);refine ⟨h2.1,fun t ht=> ?_⟩;have h3:=h2.2 t (kZ t ht);rwa [show j+1+i=j+(i+1) by omega]):p:=h
theorem UI {p:Prop} (h:p:=by
  rw [hq,aC hp] at hris;rw [aC hx,hq,aC hp,Ze];show um (ts.take q++[p,x])=true;rw [yt,hris,hlp]
  rfl):p:=h
theorem Ra {p:Prop} (h:p:=by
  unfold co;split
  ·cases h:X[iI ds ((dy ds p).set a i)]? with
   |none=>exact Sz.zero k
   |some y=>exact hx y (YF h)
  ·exact Sz.zero k):p:=h
theorem Ux {p:Prop} (h:p:=by
  show (nR ((1:Int):Dyadic)).d*eU (cV (j3 v i)) xs+0=_;rw [cj,Mj,CE v i xs hx hi,show (((1:Int):Dyadic))=1 from rfl];grind):p:=h
theorem UT {p:Prop} (h:p:=by
  refine ⟨Yv, ?_⟩;by_cases hc:x0+2^i*(x1 % 2)<y0+2^i*(y1 % 2)
  ·rw [YA hc];rw [hlt] at hc;omega
  ·rw [YB hc];rw [hlt] at hc;omega):p:=h
theorem Ur {p:Prop} (h:p:=by
  rcases aak n with h|h
  ·exact h
  ·obtain ⟨_,h1,_⟩:=hS.2 h;cases h1):p:=h
theorem OX {p:Prop} (h:p:=by
  refine dh ?_;exact ⟨by rw [YA (.inl Yv)],hh.below⟩):p:=h
theorem UZ {p:Prop} (h:p:=by
  have:(eK b.data.toList && decide ((b.data.toList.length:Int)=a.data.toList.length))=true:=by rw [←hsa,←hsb];exact hmb
  simp only [ig,hma,this];rfl):p:=h
theorem V1 {p:Prop} (h:p:=by
  refine Cq ?_;refine dh ?_;rw [hbad (by simp [cJ];omega),YA rfl];exact ⟨rfl,hh.below⟩):p:=h
theorem Vo {p:Prop} (h:p:=by
  have:=zO (f:=PX.ts) (B:=4096) (l:=ps.take i) fun g hg=>(cB (il g (aau hg))).2.1;rwa [YW,ZB Yv] at this):p:=h
theorem Uy {p:Prop} (h:p:=by
  cases base2 with
  |none=>exact run_firstCells_none w.drew i.size 0 0 0
  |some a2=>exact run_firstCells_some w.drew i.size 0 a2 0 0 [] (by simp) (fun j u hu=>by simp at hu)):p:=h
theorem UY {p:Prop} (h:p:=by
  have e:ns=ns.take i++d::ns.drop (i+1):=by rw [←gC h,Zv]
  conv=>lhs;rw [e]
  rw [List.reverse_append,aaC,Ze]
  rfl):p:=h
theorem UP {p:Prop} (h:p:=by
  refine a8 (aa (cT (sr (aS (aB (aa (ay (aN ?_))))))));refine HI ?_;rw [Nat.sub_eq_zero_of_le Yv,Y3 Yv,pw];exact ⟨rfl,hh.below⟩):p:=h
theorem WX {p:Prop} (h:p:=by
  intro ρ1 w1 hj hR;obtain ⟨A49,c49,h49,s49⟩:=hR.1;exact bk rfl (aV aw.out (az h49 bf)) (hm2 A49 c49 _ (hT.hp hj.hp) s49) (fun _ _ hq=>⟨_,hq.1,hq.2,rfl⟩)):p:=h
theorem WH {p:Prop} (h:p:=by
  intro ρ1 w1 hj hR;obtain ⟨A51,c51,h51,s51⟩:=hR.1;exact bk rfl (aV aw.out (az h51 bf)) (hsum A51 c51 _ (hT.hp hj.hp) s51) (fun _ _ hq=>⟨_,hq.1,hq.2,rfl⟩)):p:=h
theorem TK {p:Prop} (h:p:=by
  rw [ZI] at hun ⊢;rw [aaQ hiL] at hun ⊢;simpa using hun):p:=h
theorem VA {p:Prop} (h:p:=by
  refine Bx ?_;refine bG hh 0 ?_;refine aK ?_;refine bT (aa (cT (sr (aI (aa (ay (aN ?_)))))));refine dh ?_;exact ⟨rfl,hh.below⟩):p:=h
theorem VO {p:Prop} (h:p:=by
  have e1:(O++X++Y).length=O.length+n+m:=by rw [YK,YK];omega
  exact ⟨O++X++Y,A74,c74,hd,by rw [e1],by rw [e1,bZ,bZ];exact hh⟩):p:=h
theorem Wx {p:Prop} (h:p:=by
  rw [aC hs,aaW,hall,ZD,aa4,aaR,Bool.or_false,YV (by have:¬¬s.lo.d<s.hi.d:=fun h=>g (e.2 h);exact aaS.1 this)]
  rfl):p:=h
theorem VQ {p:Prop} (h:p:=by
  intro ρ1 w1 hj hR;exact eJ rfl (gl (k:=a) bo.out aU.size ((show ρ1 65=Value.slice _ _ _ from hR.1).trans il) (show ρ1 66=Value.int _ _ from hR.2.1) Yv Yv) ⟨Below.refl _ _,rfl⟩):p:=h
theorem U4 {p:Prop} (h:p:=by
  refine sr ?_;refine My ?_;refine dh ?_;exact ⟨_,_,rfl,hh.sub (YC _ (Zr _))⟩):p:=h
theorem V0 {p:Prop} (h:p:=by
  refine aI (aa (sr (mI ?_)));refine db (aa (cT (sr (mI (aI (aa (ay (cm (aN (aN (cm (aN ?_))))))))))));refine dh ?_;refine ⟨?_,hh.below⟩;unfold eE;rw [zD hall hx (YV he)]):p:=h
theorem NS {p:Prop} (h:p:=by
  exact ⟨PX.nil,dW.err he,rfl,(hh.sub (Zr _)).AZ⟩):p:=h
theorem UL {p:Prop} (h:p:=by
  refine xq rfl (az (FG rfl) (az (FG rfl) bf)) Yw ?_;refine la (by first|exact uu rfl|exact uP rfl) Yw ?_;refine aa (ay ?_);refine dh ?_;exact ⟨_,_,rfl,hh⟩):p:=h
theorem UD {p:Prop} (h:p:=by
  refine bP bo.out rfl Yw ?_;refine mI ?_;refine GW rfl rfl Yw ?_;refine aB (aa (ay ?_));refine dh ?_;rw [YG (by rw [←dP];omega)] at hm;rw [hm];exact ⟨rfl,Below.refl _ _⟩):p:=h
theorem Ot {p:Prop} (h:p:=by
  rw [Int.sign_eq_zero_iff_zero];exact ⟨fun h=>by unfold NR.d;rw [h];rfl,BL⟩):p:=h
theorem U5 {p:Prop} (h:p:=by
  have h3:=hdep (i-m) Yv;rw [show m+(i-m)=i by omega] at h3;have h4:(i-m==0)=false:=by simp;omega
  rw [h4,ZD] at h3;have:=kY hM hI.cl i m hed' h3;rw [hI.tl m (YE _)] at this
  cases this):p:=h
theorem V7 {p:Prop} (h:p:=by
  have h1:(Op.equal 40 (.agg #[.bool s,.string a,.int .i64 e]) (.agg #[.bool s',.string a',.int .i64 e'])).run Tryz.prog w=.ok r w:=by rw [←hr];exact L5 9997 s s' a a' e e' w
  simp only [execOp,hx,hy];simp [eqGuard,binOp,h1]):p:=h
theorem VY {p:Prop} (h:p:=by
  refine ⟨hI.nd,hI.sz,fun s=> ?_⟩;by_cases hs:∃i,(i,s)∈ds
  ·obtain ⟨i,hi⟩:=hs;rw [(m0 _ ds s hnd).1 i hi,(hdsm i s hi).2]
  ·rw [(m0 _ ds s hnd).2 fun i hi=>hs ⟨i,hi⟩];exact hI.L7 s fun i hi _ hd=>hs ⟨i,hpre i s hi hd⟩):p:=h
theorem Tb {p:Prop} (h:p:=by
  have:=u5 n zc;rw [hzl] at this;unfold madeCells;rw [hzc];have e2:zc.toArray.size=sz:=by simpa using hzl
  rw [e2,this]):p:=h
theorem UW {p:Prop} (h:p:=by
  have h1:M<256^(a9 256 M).length:=rA Yv M;rw [L4 Yv h1,Zu,abB,Y9,JF (fun d hd=>(eG (B:=256) Yv M).1 d (aa0.1 hd)),sb,List.map_reverse]):p:=h
theorem VM {p:Prop} (h:p:=by
  obtain rfl:i=n:=Yv;rw [YG Yv] at hh;refine ai (sr (mI (mL (aK ?_))));refine Nx ?_;refine dh ?_;exact ⟨_,_,rfl,hh⟩):p:=h
theorem UG {p:Prop} (h:p:=by
  rintro e a' w' ⟨ρ',hf',hq⟩;have e1:(fun i=>a.tmps.getD i undef)=ρ:=funext hf.at_;have e2:(fun i=>a'.tmps.getD i undef)=ρ':=funext hf'.at_
  cases e with
  |normal=>exact ⟨⟨ρ',hf',hq.1⟩,by rw [e1,e2];exact hq.2⟩
  |_=>exact ⟨ρ',hf',hq⟩):p:=h
theorem VZ {p:Prop} (h:p:=by
  have h1:(cg ps qs).length=((ps.take i).flatMap fun x=>qs.map (od x)).length+((ps.drop i).flatMap fun x=>qs.map (od x)).length:=by
   unfold cg;rw [←YK,←abg,Zv]
  rw [md] at h1;omega):p:=h
theorem TW {p:Prop} (h:p:=by
  refine aI (aa (sr (mI ?_)));refine db (aa (cT (sr (mI (aI (aa (ay (aN ?_))))))));refine dh ?_;exact ⟨rfl,hh.below⟩):p:=h
theorem Wc {p:Prop} (h:p:=by
  have h1:z.natAbs=y.natAbs*2^j:=by rw [←hyz,aaq,aaZ];rfl
  have h2:y.natAbs*1≤y.natAbs*2^j:=Zc _ (Zd Yv);have h3:bX y.natAbs≤8*a.size:=eb Yv;rw [ky];omega):p:=h
theorem S8 {p:Prop} (h:p:=by
  refine aa (cT (sr (aI (aa (ay (aN (cm (aN (aN (cm (aN ?_)))))))))));refine dh ?_;exact ⟨by rw [hc],hh.below⟩):p:=h
theorem Vk {p:Prop} (h:p:=by
  rw [Zu,abB,Y9] at hh;refine ai (sr (mI (mL (aK ?_))));refine Nx ?_;refine dh ?_;exact ⟨_,rfl,hh.at_ (i:=0) rfl,hh.below⟩):p:=h
theorem Wg {p:Prop} (h:p:=by
  refine bV hh 0 [_,_,_,_,_,_] ?_;intro ws hh;replace hh:Hp _ (.blk _ _ [_,_,_,_,_,_] _::_) _:=hh;refine aa (ay ?_);refine NJ (er rfl (ew (vs:=[_,_,_,_,_,_]) aU.out (hh.cn (i:=0) (n:=6) rfl rfl) rfl) fF) ?_;exact ⟨rfl,hh.below⟩):p:=h
theorem VU {p:Prop} (h:p:=by
  refine ej (aa (cT (sr (aI (aa (ay (cm (aN (aN (cm (aN ?_)))))))))));refine dh ?_;have:b.any (fun s=> !decide (s.lo.d<s.hi.d))=true:=aag.2 ⟨s,ms,by rw [Y3 (e.1 g)];rfl⟩;exact ⟨by rw [g9,YA this],hh.below⟩):p:=h
theorem Vb {p:Prop} (h:p:=by
  refine bV hh 0 [_,_,_] ?_;intro ws hh;replace hh:Hp _ (.blk _ _ [_,_,_] _::_) _:=hh;refine aI (aa (ay (aN ?_)));refine PG (er rfl (ew (vs:=[_,_,_]) aU.out (hh.cn (i:=0) (n:=3) rfl rfl) rfl) (jF (kn rfl) fF)) ?_;exact ⟨rfl,hh.below⟩):p:=h
theorem UQ {p:Prop} (h:p:=by
  cases B with
  |none=>exact run_append_nothing w t t ty e i ht hi _ 0 0 (YE _) _ (Src.ofNil w ht c')
  |some ad=>exact run_append_nothing w t t ty e i ht hi _ 0 0 (YE _) _ (Src.ofSlice w ht ad 0 c' [] (by simp) (fun j u hu=>by simp at hu) (fun u hu=>by cases hu))):p:=h
theorem Wa {p:Prop} (h:p:=by
  have hr0:rest=[]:=ZO Yv;subst hr0;refine sr ?_;refine a8 (aa (ai (cF (a6 (aH (aH (bB ?_)))))));refine T3 (by first|exact .inr rfl|exact .inl rfl) rfl  ?_;rw [Y9,iY,Y9] at*;rw [←heq];exact ⟨rfl,hh⟩):p:=h
theorem UJ {p:Prop} (h:p:=by
  rw [hu];refine bV hh 1 [_,_] ?_;intro ws hh;replace hh:Hp _ (_::.blk _ _ [_,_] _::_) _:=hh;refine aa (ay ?_);refine zl ?_;rw [YG Yv] at hS2;rw [hS2];exact ⟨rfl,hh.below⟩):p:=h
theorem TC {p:Prop} (h:p:=by
  intro w9 hh;refine ⟨(er rfl (ew (vs:=[_,_,_]) aU.out (hh.cn (i:=0) (n:=3) rfl rfl) rfl) (jF (kn rfl) fF)), ?_⟩;exact ⟨rfl,hh.below⟩):p:=h
theorem Uf {p:Prop} (h:p:=by
  refine sr ?_;refine My ?_;refine dh ?_;exact ⟨_,_,rfl,hh⟩):p:=h
theorem TD {p:Prop} (h:p:=by
  exact ⟨none,0,rfl,World.ownsRow_nil _ _ _ _,hh.below⟩):p:=h
theorem P5 {p:Prop} (h:p:=by
  exact Yz):p:=h
theorem S0 {p:Prop} (h:p:=by
  rw [hds,aa0,ZJ];refine ⟨(some d,i), ?_,rfl⟩;rw [List.mem_zipIdx_iff_getElem?];rw [YN,Zx hi];simp only [Z0,hd]):p:=h
theorem Uz {p:Prop} (h:p:=by
  have e2:aD TR.cells (iH l x)=[]++aD TR.cells (l.take i)++[.string x.m,.bool (nR x.c.d).neg,.string (nR x.c.d).bj,.int .i64 (nR x.c.d).e]++aD TR.cells (l.drop i):=by rw [hput,bZ,g6,YH,Ze];rfl
  exact QZ):p:=h
theorem T5 {p:Prop} (h:p:=by
  refine sr ?_;refine My ?_;exact M1):p:=h
theorem Uq {p:Prop} (h:p:=by
  intro A7 c7 w7 hh;simp only [YM] at hh;rw [Y0] at hh ⊢;rw [YH] at hh;refine aL (aa (ay ?_));exact M1):p:=h
theorem ND {p:Prop} (h:p:=by
  refine dh ?_;exact ⟨_,rfl,fun h=>(by cases h),hh.below⟩):p:=h
theorem Vn {p:Prop} (h:p:=by
  refine aI (aa (sr (mI ?_)));refine db (aa (cT (sr ?_)));refine fH [_,_] (mI ?_);refine bV hh 0 [_,_] ?_;intro ws hh;replace hh:Hp _ (.blk _ _ [_,_] _::_) _:=hh;refine aI (aa (ay (aN ?_)));refine xi ?_;exact ⟨FX.nil,Out.err hE,rfl,(hh.sub (Zr _)).U1⟩):p:=h
theorem Ui {p:Prop} (h:p:=by
  refine sr (aL (aa (ai (sr (mL ?_)))));refine uL bo.out rfl rfl Yw ?_;refine aa (cT (sr (aL (aa (ay (aN ?_))))));refine dh ?_;exact ⟨_,_,rfl,World.ownsRow_nil _ _ _ _,hh.below⟩):p:=h
theorem OQ {p:Prop} (h:p:=by
  refine aa (cT (sr (aB (aa (ay (cm (aN (aN (cm (aN ?_))))))))));refine dh ?_;exact ⟨_,rfl,fun h=>(by cases h),hh.below⟩):p:=h
theorem Tg {p:Prop} (h:p:=by
  have p1:=hpre i d hi h1;have p2:=hpre j d hj h2;have e1:=((m0 (ρ:=ρ) (fun i=>.int .i64 i) ds d hnd).1 i p1).symm.trans ((m0 (ρ:=ρ) (fun i=>.int .i64 i) ds d hnd).1 j p2);injection e1 with _ e1
  omega):p:=h
theorem Bv {p:Prop} (h:p:=by
  refine aS (aa (ay ?_));refine dh ?_;exact ⟨rfl,hh.below⟩):p:=h
theorem U3 {p:Prop} (h:p:=by
  refine sr ?_;refine oa ?_;refine cC hh 0 [_,_,_] ?_;refine bV hh 1 [_,_,_] ?_;intro ws hh;replace hh:Hp _ (_::.blk _ _ [_,_,_] _::_) _:=hh;refine aa (ay ?_);refine Kt ?_;rw [YG Yv] at hS2;rw [hS2];exact ⟨rfl,hh.below⟩):p:=h
theorem SU {p:Prop} (h:p:=by
  refine aa (cT (sr ?_));refine bA hh (rv _ (hT.hp hh)) rfl ?_;intro w35 hh;refine aB (aa (ay (aN ?_)));refine dh ?_;exact ⟨rfl,hh.below⟩):p:=h
theorem U0 {p:Prop} (h:p:=by
  refine aa (cF (a6 (aH (aH (bB (aj (ai (sr (mI ?_)))))))));refine db (aa (cT (sr ?_)));refine fH [_,_] (mI ?_);refine bV hh 2 [_,_] ?_;intro ws hh;replace hh:Hp _ (_::_::.blk _ _ [_,_] _::_) _:=hh;refine aI (aa (ay (aN ?_)));refine oJ ?_;exact ⟨PX.nil,dW.err he0,rfl,(hh.sub (Zr _)).AZ⟩):p:=h
theorem xA {p:Prop} (h:p:=by
  refine aI (aa (ay ?_));refine dh ?_;exact ⟨rfl,hh.below⟩):p:=h
theorem Gj {p:Prop} (h:p:=by
  refine yy ?_;refine dh ?_;exact ⟨rfl,hh.below⟩):p:=h
theorem VR {p:Prop} (h:p:=by
  obtain ⟨a,ha⟩:=h n Yv;refine ⟨l++[a],by simp [h1],fun i b hb=> ?_⟩
  rcases Zj i l.length with hi|hi
  ·rw [aaM hi] at hb;exact h2 i b hb
  ·rw [ZQ hi] at hb;have h3:i-l.length=0:=by
    rcases aak (i-l.length) with h|h
    ·exact h
    ·rw [Y7 (by simp;omega)] at hb;cases hb
   rw [h3] at hb;simp only [abf,aaf] at hb;subst hb;rw [show i=n by omega];exact ha):p:=h
theorem Uj {p:Prop} (h:p:=by
  refine bV hh 1 [_,_,_] ?_;intro ws hh;replace hh:Hp _ (_::.blk _ _ [_,_,_] _::_) _:=hh;refine aa (ay ?_);refine Kt ?_;exact ⟨rfl,hh.below⟩):p:=h
theorem US {p:Prop} (h:p:=by
  simp only [cM];rw [←htake];have h5:o+vs.length≤m*sz:=Yv;have h6:m*sz≤cur.toList.length:=by rw [←hcl,hcur];exact hle
  rw [List.take_take,ZB Yv,List.drop_take,Ze,Ze,List.take_append,List.take_append];simp only [YW,ZB (show o≤cur.toList.length by omega)];rw [YG (l:=cur.toList.take o) (by simp;omega),YG (l:=vs) Yv];congr 2;congr 1;omega):p:=h
theorem xG {p:Prop} (h:p:=by
  refine aB (aa (ay ?_));refine dh ?_;exact ⟨rfl,hh.below⟩):p:=h
theorem Vg {p:Prop} (h:p:=by
  refine bV hh 0 [_,_] ?_;intro ws hh;replace hh:Hp _ (.blk _ _ [_,_] _::_) _:=hh;refine aI (aa (ay (aN ?_)));refine xi ?_;exact ⟨rfl,hh.below⟩):p:=h
theorem SQ {p:Prop} (h:p:=by
  rw [YG Yv] at hall;refine sr ?_;refine Iw ?_;refine dh ?_;exact ⟨_,rfl,⟨fun h=>absurd h Yw,fun h=>by rw [hall] at h;cases h⟩,hh.below⟩):p:=h
theorem Ve {p:Prop} (h:p:=by
  intro L a w hI hc;have hall:∀i,i<l.length→L.getD i false=true:=fun i hi=>by
   exact SN
  have hmn:l.length≤0+m:=by
   rcases Zj m l.length with h|h
   ·have h1:=hall m h;rw [hI.tl m (YE _)] at h1
    cases h1
   ·omega
  exact full L a w 0 hI (fun i hi=>hall i Yv) hmn):p:=h
theorem F0 {p:Prop} (h:p:=by
  intro ρ1 w1 hj hR;exact let ⟨g,u,e1,e2⟩:=hR.1;eJ rfl (fy e1) ⟨Below.refl _ _,g,u,rfl,e2⟩):p:=h
theorem U6 {p:Prop} (h:p:=by
  have hdm:j/sz*sz+j % sz=j:=by rw [Za];exact aah j sz
  have hmod:j % sz<sz:=Y8 _ h0;have hj:j/sz<l.length:=by
   have:=(YQ.1 hu).1;rw [eS hf] at this;exact Nat.div_lt_of_lt_mul (by rw [Za];exact this)
  obtain ⟨x,hx⟩:=ao hj;have h6:=rl hf hx;have h7:(f x)[j % sz]?=some u:=by
   rw [←h6,Z9,YA hmod,Z6,hdm];exact hu
  have h8:=(World.cells?_some (hp _ _ hx).1).2.2 (j % sz) hmod;rw [h7,kz,hdm] at h8;exact h8):p:=h
theorem Oj {p:Prop} (h:p:=by
  refine aa (cT (sr (aS (aI (aa (ay (aN (cm (aN (aN (cm (aN ?_))))))))))));refine HI ?_;obtain ⟨e1,e2⟩:=TG hx (by simp [cJ];omega);rw [e1,e2];exact ⟨rfl,hh.below⟩):p:=h
theorem Vi {p:Prop} (h:p:=by
  have hJ0:J ({ w with drawn:=w.drawn+1 }:World):=hJ w _ h0 ⟨rfl,rfl,rfl,YE _,fun _ _=>rfl⟩;have hr0:∀i,(Array.replicate l.toArray.size false).getD i false=false:=fun i=>by
   rw [ZI,Array.getElem?_replicate];split<;>rfl
  refine key _ _ _ _ ⟨hf.nd,hf.sz,hJ0,by simp,fun k o _ hk=> ?_,fun k _=>hr0 k,fun i d _ hi=> ?_,fun s _=>hf.at_ s,fun i _ hi=> ?_,fun i _ j _ _ hi=> ?_⟩ ?_
  ·rw [hr0] at hk;cases hk
  ·rw [hr0] at hi;cases hi
  ·rw [hr0] at hi;cases hi
  ·rw [hr0] at hi;cases hi
  ·simp [List.countP_replicate]):p:=h
theorem EO {p:Prop} (h:p:=by
  intro ρ1 w1 hj hR;exact let ⟨g,u,e1,e2⟩:=hR.1;eJ rfl (gk (vs:=[_,_]) e1 rfl) ⟨Below.refl _ _,rfl⟩):p:=h
theorem UX {p:Prop} (h:p:=by
  refine bV hh 0 [_,_] ?_;intro ws hh;replace hh:Hp _ (.blk _ _ [_,_] _::_) _:=hh;refine aI (aa (ay (aN ?_)));refine xi ?_;exact ⟨PX.nil,dW.err Yv,rfl,(hh.sub (Zr _)).AZ⟩):p:=h
theorem Tl {p:Prop} (h:p:=by
  refine hH (hc _ hh.below) aw.out rfl rfl Yw ?_;rintro e_ w16 ⟨rfl,hb_⟩;refine ⟨_,rfl, ?_⟩;replace hh:=hh.ext hb_;refine aa (cT (sr (mI (aI (aa (ay (cm (aN (aN (cm (aN ?_)))))))))));refine dh ?_;exact ⟨_,rfl,⟨fun _=>aag.2 ⟨z,YF hz,gz⟩,fun _=>by omega⟩,hh.below⟩):p:=h
theorem Ta {p:Prop} (h:p:=by
  rintro e_ w7 ⟨v_,rfl,hv_,hb_⟩;refine ⟨_,rfl, ?_⟩;replace hh:=hh.ext hb_
  cases ga:l.any p with
  |true=>
   have h0:=hv_.2 ga;exact Gw
  |false=>
   have h0:¬0≤v_:=fun h=>by rw [hv_.1 h] at ga;cases ga
   exact Gw):p:=h
theorem EJ {p:Prop} (h:p:=by
  intro ρ1 w1 hj hR;exact let ⟨g,u,e1,e2⟩:=hR.1;eJ rfl (gk (vs:=[_,_]) e1 rfl) ⟨Below.refl _ _,g,u,rfl,e2⟩):p:=h
theorem LW {p:Prop} (h:p:=by
  refine aa (cT (sr (aL (aa (ay (aN (cm (aN (aN (cm (aN ?_)))))))))));refine dh ?_;simp only [nA,hf];exact ⟨none,0,rfl,World.ownsRow_nil _ _ _ _,hh.below⟩):p:=h
theorem UF {p:Prop} (h:p:=by
  refine j9 ?_;refine dS (dS (dS (dS (dS ?_))));refine aM ?_;intro f W hJ hV _;have hb_9:=hJ.bl;obtain ⟨v46,v45,v44,v43,v42,v41,v40,v39,v38,v37,v36,v35,v34,v33,v32,v31,v30,v29,_⟩:=hV;replace hh:=hJ.hp;refine Nu ?_;dsimp only [bO];clear hJ;refine gS ?_;refine fG ?_;exact SC):p:=h
theorem UB {p:Prop} (h:p:=by
  unfold ByteArray.toList;have:∀(n i:Nat) (r:List UInt8),s.size-i=n→ByteArray.toList.loop s i r=r.reverse++s.data.toList.drop i:=by
   intro n
   induction n with
   |zero=>
    intro i r h;rw [ByteArray.toList.loop,YB Yv,ZZ (by rw [Array.length_toList];show s.size≤i;omega)];simp
   |succ n ih=>
    intro i r h;have hi:i<s.size:=Yv;rw [ByteArray.toList.loop,YA hi,ih (i+1) _ Yv];have hi2:i<s.data.toList.length:=by rw [Array.length_toList];exact hi
    rw [ZR hi2];have:s.get! i=s.data.toList[i]:=by
     show s.data[i]! =_;rw [getElem!_pos s.data i (by simpa using hi2)];simp
    simp [this]
  simpa using this (s.size-0) 0 [] rfl):p:=h
theorem T2 {p:Prop} (h:p:=by
  have h16:¬2^24<len*sz:=Yv;have hf':=AJ _ _ _ hf;rw [←u5,hzl] at hf';have hzs:zc.toArray.size=sz:=by simpa using hzl
  have hp':=HO parts hp;simp only [execOp,hp',Instr.buildSlice,Sem.run_bind,run_underlying ht,Result.andThen_ok,fk hte,gt_iff_lt,YB h16,YB h0,hz,hzc,Sem.run_pure,hzs,hf'];simp [newRow]):p:=h
theorem SX {p:Prop} (h:p:=by
  simp only [Ir]
  rcases Zj i l.length with hi|hi
  ·rw [ZI,Array.getElem?_append_left (by simpa using hi)];simp [Zo]
  ·rw [ZI,Array.getElem?_append_right (by simpa using hi)];simp only [Zo,Y7 hi,Option.getD_none,Array.getElem?_replicate];split<;>rfl):p:=h
theorem VW {p:Prop} (h:p:=by
  refine fJ ?_;refine lV 3 Yw Yx Yw Yx Yx ?_;refine bV hh 3 [_,_] ?_;intro ws hh;replace hh:Hp _ (_::_::_::.blk _ _ [_,_] _::_) _:=hh;refine aB (aa (ay ?_));refine Xf (er rfl (ew (vs:=[_,_]) aU.out (hh.cn (i:=4) (n:=2) rfl rfl) rfl) (er rfl (ew (vs:=[_,_]) aU.out (hh.cn (i:=3) (n:=2) rfl rfl) rfl) (jF (om rfl) fF))) ?_;exact ⟨rfl,hh.below⟩):p:=h
theorem SW {p:Prop} (h:p:=by
  rw [hds,aa0,ZJ] at hp;obtain ⟨⟨x,k⟩,hx,hxe⟩:=hp;rw [List.mem_zipIdx_iff_getElem?] at hx
  cases x with
  |none=>simp at hxe
  |some d'=>
   simp only [Z0,aaf,Prod.mk.injEq] at hxe;obtain ⟨rfl,rfl⟩:=hxe;rw [YN] at hx
   cases hr:(List.range m)[k]? with
   |none=>rw [hr] at hx;simp at hx
   |some y=>
    have hkm:k<m:=by
     have:=(YQ.1 hr).1;simpa using this
    rw [Zx hkm] at hx;simp only [Z0,aaf] at hx;exact ⟨hkm,hx⟩):p:=h
theorem Vv {p:Prop} (h:p:=by
  exact SL):p:=h
theorem Ln {p:Prop} (h:p:=by
  refine bV hh 1 [_,_] ?_;intro ws hh;replace hh:Hp _ (_::.blk _ _ [_,_] _::_) _:=hh;refine aa (ay ?_);exact RZ):p:=h
theorem VH {p:Prop} (h:p:=by
  exfalso;have hmin:∀k,(∃i,i<k∧i<m∧L.getD i false=false)→∃i,i<m∧L.getD i false=false∧∀j,j<i→L.getD j false=true:=by
   intro k
   induction k with
   |zero=>rintro ⟨i,h,_⟩;omega
   |succ k ihk=>
    rintro ⟨i,h1,h2,h3⟩;by_cases hex:∃i,i<k∧i<m∧L.getD i false=false
    ·exact ihk hex
    ·exact Sq
  obtain ⟨i0,h1,h2⟩:=hsome;obtain ⟨i,hi,hu,hlow⟩:=hmin (i0+1) ⟨i0,Yv,h1,h2⟩;exact Q6):p:=h
theorem Ud {p:Prop} (h:p:=by
  unfold Region.ready;rw [ZP,ZA,hnn];constructor
  ·rintro ⟨h1,h2⟩;have ho:l.toArray[i]?=some l[i]:=by simp [h1]
   rw [ho] at h2;simp only [Z0,ZY,YU,aby] at h2;refine ⟨h1,h2.1,l[i],ho,fun e he hb=> ?_⟩;have:=abL.1 h2.2 e he;simpa [hb] using this
  ·rintro ⟨h1,h2,o,ho,h3⟩;refine ⟨h1, ?_⟩;rw [ho];simp only [Z0,ZY,YU,aby];refine ⟨h2,abL.2 fun e he=> ?_⟩
   cases hb:Region.binds .any e with
   |false=>simp
   |true=>simpa [hb] using h3 e he hb):p:=h
theorem Oh {p:Prop} (h:p:=by
  refine bV hh 1 [_,_] ?_;intro ws hh;replace hh:Hp _ (_::.blk _ _ [_,_] _::_) _:=hh;refine aI (aa (ay ?_));exact SL):p:=h
theorem WG {p:Prop} (h:p:=by
  exact Q5):p:=h
theorem Db {p:Prop} (h:p:=by
  refine tT (c:=cc) bo.out rfl rfl Yv hcc Yw ?_;skip;refine vP ?_;refine bm (aI (aa (ay ?_)));refine dh ?_;refine ⟨?_,Below.refl _ _⟩;congr 2;rw [hcv];omega):p:=h
theorem Xg {p:Prop} (h:p:=by
  refine bV hh 2 [_,_] ?_;intro ws hh;replace hh:Hp _ (_::_::.blk _ _ [_,_] _::_) _:=hh;refine aI (aa (ay ?_));refine oJ ?_;exact GQ):p:=h
theorem N4 {p:Prop} (h:p:=by
  refine bV hh 0 [_,_] ?_;intro ws hh;replace hh:Hp _ (.blk _ _ [_,_] _::_) _:=hh;refine aa (ay ?_);exact Q5):p:=h
theorem Xr {p:Prop} (h:p:=by
  refine j9 ?_;refine dS (dS (dS (dU (dU (dU (dU ?_))))));refine BH (i:=28) rfl (fun ρ1 w1 hj hR=>(show ρ1 44=undef from hR.2.2.1)) ?_;refine dU (dU (dU (dU ?_)));refine aM ?_;intro f W hJ hV _;have hb_8:=hJ.bl;obtain ⟨v53,v52,v51,v50,v49,v48,v47,v46,v45,v44,v43,v42,v41,v40,v39,v38,v37,v36,v35,v34,v33,v32,v31,v30,v29,v28,v27,v26,v25,v24,v23,v22,v21,_⟩:=hV;replace hh:=hJ.hp;refine H6 ?_;dsimp only [bO];clear hJ;refine gV (gS ?_);refine fG ?_;refine Cq ?_;refine dh ?_;exact ⟨rfl,hh.below⟩):p:=h
theorem Xv {p:Prop} (h:p:=by
  intro w40 hh;rw [fL];refine a8 (aa (cF (au (aj (ai ?_)))));refine rY hh mixed fun w_ hj_=> ?_;replace hh:=hj_.hp;clear hj_;refine u3 (i:=0) (i2:=1) Yx rfl rfl ?_ ?_
  ·refine cC hh 1 [_,_] ?_;refine fJ ?_;refine u3 (i:=1) (i2:=2) Yx rfl rfl ?_ ?_
   ·refine cC hh 0 [_,_] ?_;exact RO
   ·refine bV hh 3 [_,_] ?_;intro ws hh;replace hh:Hp _ (_::_::_::.blk _ _ [_,_] _::_) _:=hh;refine fJ ?_;refine gK (i:=1) Yx rfl ?_;refine cC hh 0 [_,_] ?_;exact SJ
  ·refine cC hh 0 [_,_] ?_;refine fJ ?_;refine gK (i:=0) Yx rfl ?_;refine cC hh 1 [_,_] ?_;exact RO):p:=h
theorem SS {p:Prop} (h:p:=by
  refine aI (aa (sr (mI ?_)));refine db (aa (cT (sr ?_)));refine fH [_,_] (mI ?_);refine bV hh 0 [_,_] ?_;intro ws hh;replace hh:Hp _ (.blk _ _ [_,_] _::_) _:=hh;refine aI (aa (ay (aN ?_)));refine xi ?_;exact ⟨PX.nil,dW.err h0,rfl,(hh.sub (Zr _)).AZ⟩):p:=h
theorem WY {p:Prop} (h:p:=by
  rw [hs];refine mI ?_;refine fH [_,_,_,_,_] ?_;refine bW hh ?_;intro b6 w6 hh;refine bV hh 0 [_,_,_,_,_] ?_;intro ws hh;replace hh:Hp _ (.blk _ _ [_,_,_,_,_] _::_) _:=hh;refine aa (ai ?_);refine aW 9 [[(6,none)],[(30,some 0)],[(2,none)],[(31,some 1),(32,some 2)],[(6,none)],[(34,some 4)],[(3,none)],[(35,some 5),(36,some 6)],[(6,none)]] [(8,38),(7,37),(6,36),(5,35),(4,34),(3,33),(2,32),(1,31),(0,30)] hh mixed Yx ?_;refine cX ?_;refine dT 0 ?_;refine ef 3 [_,_,_] ?_;refine dC (fun _ hj=>hcx _ (hT.hp hj.hp)) ?_;refine cX ?_;refine dT 0 ?_;refine ef 2 [_,_,_] ?_;refine dC (fun _ hj=>hcy _ (hT.hp hj.hp)) ?_;refine cX ?_;refine aM ?_;intro f W hJ hV;have hb_8:=hJ.bl;obtain ⟨v38,v37,v36,v35,v34,v33,v32,v31,v30,_⟩:=hV;replace hh:=hJ.hp;refine aQ (bg (ae v38 (ae v37 (ae v36 (ae v35 (ae v34 (ae v33 (ae v32 (ae v31 (ae v30 aR)))))))))) ?_;dsimp only [bO];clear hJ;refine bV hh 0 [_,_] ?_;intro ws hh;replace hh:Hp _ (.blk _ _ [_,_,_,_,_] _::_) _:=hh;refine bJ ?_;refine bV hh 0 [_,_] ?_;intro ws hh;replace hh:Hp _ (.blk _ _ [_,_,_,_,_] _::_) _:=hh;refine aa (sr ?_);refine cC hh 0 [_,_,_,_,_] ?_
  refine bV hh 1 [_,_,_,_,_] ?_;intro ws hh;replace hh:Hp _ (_::.blk _ _ [_,_,_,_,_] _::_) _:=hh;refine aa (ay ?_);refine NJ (er rfl (ew (vs:=[_,_,_,_,_]) aU.out (hh.cn (i:=1) (n:=5) rfl rfl) rfl) fF) ?_;exact ⟨rfl,hh.below⟩):p:=h
theorem HR {p:Prop} (h:p:=by
  refine bV hh 0 [_,_,_] ?_;intro ws hh;replace hh:Hp _ (.blk _ _ [_,_,_] _::_) _:=hh;refine aa (ay ?_);exact Rj):p:=h
theorem Sf {p:Prop} (h:p:=by
  refine fH [_,_] ?_;refine bV hh 0 [_,_] ?_;intro ws hh;replace hh:Hp _ (.blk _ _ [_,_] _::_) _:=hh;refine aI (aa (ay (aN ?_)));refine xi ?_;exact MR):p:=h
theorem dO {p:Prop} (h:p:=by
  exact Yy):p:=h
section
variable {H:Type}{enc:TypeId×Value→H}{P:Program}
theorem pX (hl:laidOutB P=true) {W W':World} (hb:Below W.heap.size W W') (sp:Nat→Bool):∀(ts:List TypeId) (vs:List Value) (ds:List (DataW H)) (ps:List MemPlace),(∀t∈ts,P.readableRec t=true∧t<P.types.size)→
  (∀x∈ps,x.block<W.heap.size)→(∀x∈ps,sp x.block=true)→DataW.TrodAll enc P W 0 (fun _=>true) true ts vs ds ps→DataW.TrodAll enc P W' 0 sp true ts vs ds ps
 |[],vs,ds,ps,_,_,_,h=>by
  obtain ⟨rfl,rfl,rfl⟩:=trodAll_nil h;exact trodAll_mk0
 |t::ts,vs,ds,ps,hr,hlt,hsp,h=>by
  obtain ⟨v,vs',d,ds',p,q,rfl,rfl,rfl,h0,r0⟩:=trodAll_cons h;refine trodAll_cons_mk (WideElems.Trod_stays hl (hr t YL).1 (hr t YL).2 h0 (fun x hx=>hb.same (hlt x (aan _ hx))) (fun x hx=>hsp x (aan _ hx)))
   (pX hl hb sp ts vs' ds' q (fun t ht=>hr t (YP _ ht)) (fun x hx=>hlt x (Z5 _ hx)) (fun x hx=>hsp x (Z5 _ hx)) r0)
theorem Ny {f:Func}{s:ChangeSpec}{W W':World}{args:Array Value}{ds:List (DataW H)}{before:List MemPlace}{tb:TypeId}
  (hW:DataW.Whole enc P f.params.toList s.vars false W args.toList ds [] before) (hv:s.vars=[]) (hl:laidOutB P=true) (hr:∀t∈f.params.toList,P.readableRec t=true∧t<P.types.size)
  (hres:f.resultTypes= #[tb]) (hbool:P.underlying tb=some .bool) (hs1:(s.fn H (ds++[])).results=[.lit (.bool true)]) (hs2:(s.fn H (ds++[])).args=ds) (hs3:(s.fn H (ds++[])).vars=[]) (hb:Below W.heap.size W W'):
  s.post enc P f false true false false W args (.bool true) W':=by
 have hlt:∀p∈before,p.block<W.heap.size:=fun p hp=>by simpa using hW.lt p hp
 have hold:∀p∈before,(fun b=>decide (b<W.heap.size)) p.block=true:=fun p hp=>by simpa using hlt p hp
 have hW0:=hW;obtain ⟨pa,pv,hA,hV,hps,hz,hn⟩:=hW0;rw [hv] at hV;obtain ⟨_,rfl⟩:=trodVars_none hV;have hbp:before=pa:=by rw [hps,Y9]
 subst hbp;have hA':∀sp:Nat→Bool,(∀p∈before,sp p.block=true)→DataW.TrodAll enc P W' 0 sp true f.params.toList args.toList (s.fn H (ds++[])).args before:=fun sp hsp=>by
  rw [hs2];exact pX hl hb sp _ _ _ _ hr hlt hsp hA
 have hV':∀sp:Nat→Bool,DataW.TrodVars enc P W' sp s.vars (s.fn H (ds++[])).vars []:=fun sp=>by
  rw [hv,hs3];rfl
 have hR:∀(b:Nat) (sp:Nat→Bool) (hd:Bool),DataW.TrodAll enc P W' b sp hd f.resultTypes.toList ((Value.bool true).resultList f.resultTypes.size) (s.fn H (ds++[])).results []:=fun b sp hd=>by
  rw [hres,hs1];exact trodAll_cons_mk (shut_bool hbool _) trodAll_mk0
 refine ⟨ds,[],before,[],before,[],hW,hR _ _ _,hA' _ hold,hV' _,World.keptBut_mono (fun p hp=>⟨hp, ?_⟩) (hb.frame (· ∈before)),fun _=> ?_⟩
 ·exact .inr (.inl hp)
 ·refine ⟨ok_one hres rfl (okWide_bool_mk hbool _),_,_,([]++before)++[],⟨[]++before,[],trodAll_append (hA' _ (fun _ _=>rfl)) (hR _ _ _),hV' _,rfl, ?_, ?_⟩, ?_⟩
  ·intro b off hp;have hp2:=hz b off (by simpa using hp);rw [hb.frozen (hlt _ (by simpa using hp))];exact hp2
  ·intro ha
   cases ha
  ·intro p hp _;simpa using hp
end
end Go.Proofs.YtolamocnngihpaaGreatDoor
