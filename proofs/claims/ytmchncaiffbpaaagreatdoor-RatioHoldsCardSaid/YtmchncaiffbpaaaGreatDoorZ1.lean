/- Lemmas for ratioHolds, part 1. -/
import Derived.KernelRfl
import Derived.Test.YtmchncaiffbpaaaGreatDoorRows
import Derived.WalkKit
import Derived.ProofKit
import Derived.OpenShut
import Derived.Carry
namespace Go.Proofs.YtmchncaiffbpaaaGreatDoor
open Go.ChangeShapes Go.WideShapes Go.ChangeAt Go.RowKit
theorem Yt:type_of% @if_pos:=@if_pos
theorem Yu:type_of% @if_neg:=@if_neg
theorem Yv:type_of% @List.Sublist.cons_cons:=@List.Sublist.cons_cons
theorem Yw:type_of% @List.Sublist.cons:=@List.Sublist.cons
theorem Yx:type_of% @Nat.zero_le:=@Nat.zero_le
theorem Yy:type_of% @List.mem_of_getElem?:=@List.mem_of_getElem?
theorem Yz:type_of% @List.nil_append:=@List.nil_append
theorem YA:type_of% @Nat.le_refl:=@Nat.le_refl
theorem YB:type_of% @List.cons_append:=@List.cons_append
theorem YC:type_of% @List.take_of_length_le:=@List.take_of_length_le
theorem YD:type_of% @List.mem_cons_self:=@List.mem_cons_self
theorem YE:type_of% @List.length_append:=@List.length_append
theorem YF:type_of% @List.mem_map:=@List.mem_map
theorem YG:type_of% @List.set_cons_zero:=@List.set_cons_zero
theorem YH:type_of% @List.mem_cons:=@List.mem_cons
theorem YI:type_of% @List.length_map:=@List.length_map
theorem YJ:type_of% @List.getElem?_map:=@List.getElem?_map
theorem YK:type_of% @List.mem_cons_of_mem:=@List.mem_cons_of_mem
theorem YL:type_of% @List.getElem?_eq_some_iff:=@List.getElem?_eq_some_iff
theorem YM:type_of% @List.length_take:=@List.length_take
theorem YN:type_of% @decide_eq_true:=@decide_eq_true
theorem YO:type_of% @Nat.mul_comm:=@Nat.mul_comm
theorem YP:type_of% @Bool.and_eq_true:=@Bool.and_eq_true
theorem YQ:type_of% @List.getElem?_eq_none:=@List.getElem?_eq_none
theorem YR:type_of% @List.Sublist.slnil:=@List.Sublist.slnil
theorem YS:type_of% @decide_eq_false:=@decide_eq_false
theorem YT:type_of% @List.mem_singleton:=@List.mem_singleton
theorem YU:type_of% @Nat.mod_lt:=@Nat.mod_lt
theorem YV:type_of% @Nat.mul_one:=@Nat.mul_one
theorem YW:type_of% @Nat.pow_add:=@Nat.pow_add
theorem YX:type_of% @decide_eq_true_eq:=@decide_eq_true_eq
theorem YY:type_of% @Nat.pow_pos:=@Nat.pow_pos
theorem YZ:type_of% @Nat.zero_add:=@Nat.zero_add
theorem Y0:type_of% @List.all_eq_true:=@List.all_eq_true
theorem Y1:type_of% @Nat.le_trans:=@Nat.le_trans
theorem Y3:type_of% @List.length_cons:=@List.length_cons
theorem Y4:type_of% @Nat.mul_le_mul_left:=@Nat.mul_le_mul_left
theorem Y5:type_of% @List.append_assoc:=@List.append_assoc
theorem Y6:type_of% @List.map_cons:=@List.map_cons
theorem Y7:type_of% @List.append_nil:=@List.append_nil
theorem Y8:type_of% @List.set_cons_succ:=@List.set_cons_succ
theorem Y9:type_of% @List.length_reverse:=@List.length_reverse
theorem Za:type_of% @Nat.mod_eq_of_lt:=@Nat.mod_eq_of_lt
theorem Zb:type_of% @Nat.lt_or_ge:=@Nat.lt_or_ge
theorem Zc:type_of% @List.sublist_cons_self:=@List.sublist_cons_self
theorem Zd:type_of% @Bool.false_or:=@Bool.false_or
theorem Ze:type_of% @congrArg:=@congrArg
theorem Zf:type_of% @Nat.pow_le_pow_right:=@Nat.pow_le_pow_right
theorem Zg:type_of% @Option.some.inj:=@Option.some.inj
theorem Zh:type_of% @Nat.pow_succ:=@Nat.pow_succ
theorem Zi:type_of% @List.mem_range:=@List.mem_range
theorem Zj:type_of% @Nat.mul_add:=@Nat.mul_add
theorem Zk:type_of% @Nat.pow_mul:=@Nat.pow_mul
theorem Zl:type_of% @Nat.lt_of_lt_of_le:=@Nat.lt_of_lt_of_le
theorem Zm:type_of% @List.mem_append:=@List.mem_append
theorem Zn:type_of% @Nat.sub_self:=@Nat.sub_self
theorem Zo:type_of% @Nat.mul_le_mul_right:=@Nat.mul_le_mul_right
theorem Zp:type_of% @List.perm_middle:=@List.perm_middle
theorem Zq:type_of% @List.Sublist.refl:=@List.Sublist.refl
theorem Zr:type_of% @Nat.lt_of_le_of_lt:=@Nat.lt_of_le_of_lt
theorem Zs:type_of% @List.map_map:=@List.map_map
theorem Zt:type_of% @Nat.div_eq_of_lt:=@Nat.div_eq_of_lt
theorem Zu:type_of% @List.mem_append_right:=@List.mem_append_right
theorem Zv:type_of% @List.map_nil:=@List.map_nil
theorem Zw:type_of% @Nat.mul_assoc:=@Nat.mul_assoc
theorem Zx:type_of% @List.nil_sublist:=@List.nil_sublist
theorem Zy:type_of% @List.take_append_drop:=@List.take_append_drop
theorem Zz:type_of% @List.length_drop:=@List.length_drop
theorem ZA:type_of% @Nat.succ_mul:=@Nat.succ_mul
theorem ZB:type_of% @Int.natCast_mul:=@Int.natCast_mul
theorem ZC:type_of% @List.getElem?_append_right:=@List.getElem?_append_right
theorem ZD:type_of% @List.map_append:=@List.map_append
theorem ZE:type_of% @List.mem_filterMap:=@List.mem_filterMap
theorem ZF:type_of% @List.getElem?_range:=@List.getElem?_range
theorem ZG:type_of% @List.length_replicate:=@List.length_replicate
theorem ZH:type_of% @Nat.div_lt_iff_lt_mul:=@Nat.div_lt_iff_lt_mul
theorem ZI:type_of% @List.ext_getElem?:=@List.ext_getElem?
theorem ZJ:type_of% @Nat.div_add_mod:=@Nat.div_add_mod
theorem ZK:type_of% @Nat.min_eq_left:=@Nat.min_eq_left
theorem ZL:type_of% @Array.getD_eq_getD_getElem?:=@Array.getD_eq_getD_getElem?
theorem ZM:type_of% @Nat.add_zero:=@Nat.add_zero
theorem ZN:type_of% @List.not_mem_nil:=@List.not_mem_nil
theorem ZO:type_of% @Option.getD_some:=@Option.getD_some
theorem ZP:type_of% @List.getElem?_eq_getElem:=@List.getElem?_eq_getElem
theorem ZQ:type_of% @Int.natCast_add:=@Int.natCast_add
theorem ZR:type_of% @Nat.add_mul_div_left:=@Nat.add_mul_div_left
theorem ZS:type_of% @Nat.div_div_eq_div_mul:=@Nat.div_div_eq_div_mul
theorem ZU:type_of% @List.mem_iff_getElem?:=@List.mem_iff_getElem?
theorem ZV:type_of% @List.map_congr_left:=@List.map_congr_left
theorem ZW:type_of% @List.getElem?_drop:=@List.getElem?_drop
theorem ZX:type_of% @List.getElem?_take:=@List.getElem?_take
theorem ZY:type_of% @Int.toNat_natCast:=@Int.toNat_natCast
theorem ZZ:type_of% @Nat.mul_succ:=@Nat.mul_succ
theorem Z0:type_of% @List.mem_filter:=@List.mem_filter
theorem Z1:type_of% @Int.sign_eq_neg_one_of_neg:=@Int.sign_eq_neg_one_of_neg
theorem Z2:type_of% @List.pairwise_cons:=@List.pairwise_cons
theorem Z3:type_of% @List.mem_append_left:=@List.mem_append_left
theorem Z4:type_of% @List.filterMap_cons:=@List.filterMap_cons
theorem Z5:type_of% @Nat.mul_le_mul:=@Nat.mul_le_mul
theorem Z6:type_of% @beq_iff_eq:=@beq_iff_eq
theorem Z7:type_of% @List.take_zero:=@List.take_zero
theorem Z8:type_of% @Int.sign_eq_one_of_pos:=@Int.sign_eq_one_of_pos
theorem Z9:type_of% @Classical.not_not:=@Classical.not_not
theorem aaa:type_of% @List.nodup_cons:=@List.nodup_cons
theorem aab:type_of% @List.any_eq_false:=@List.any_eq_false
theorem aac:type_of% @Nat.eq_zero_or_pos:=@Nat.eq_zero_or_pos
theorem aad:type_of% @List.mem_of_mem_take:=@List.mem_of_mem_take
theorem aae:type_of% @List.any_eq_true:=@List.any_eq_true
theorem aaf:type_of% @List.getElem?_set:=@List.getElem?_set
theorem aag:type_of% @Option.some.injEq:=@Option.some.injEq
theorem aah:type_of% @List.range_succ:=@List.range_succ
theorem aai:type_of% @List.eq_nil_of_length_eq_zero:=@List.eq_nil_of_length_eq_zero
theorem aaj:type_of% @Option.map_some:=@Option.map_some
theorem aak:type_of% @List.mem_flatMap:=@List.mem_flatMap
theorem aal:type_of% @List.drop_eq_getElem_cons:=@List.drop_eq_getElem_cons
theorem aam:type_of% @List.getElem?_reverse:=@List.getElem?_reverse
theorem aan:type_of% @Int.natAbs_mul:=@Int.natAbs_mul
theorem aao:type_of% @List.getD_eq_getElem?_getD:=@List.getD_eq_getElem?_getD
theorem aap:type_of% @Dyadic.one_mul:=@Dyadic.one_mul
theorem aaq:type_of% @Bool.and_eq_true_iff:=@Bool.and_eq_true_iff
theorem aar:type_of% @List.getElem?_toArray:=@List.getElem?_toArray
theorem aas:type_of% @List.length_set:=@List.length_set
theorem aat:type_of% @Nat.add_comm:=@Nat.add_comm
theorem aau:type_of% @List.mem_reverse:=@List.mem_reverse
theorem aav:type_of% @List.getElem?_append_left:=@List.getElem?_append_left
theorem aaw:type_of% @List.drop_of_length_le:=@List.drop_of_length_le
theorem aax:type_of% @of_decide_eq_true:=@of_decide_eq_true
theorem aay:type_of% @Option.map_eq_some_iff:=@Option.map_eq_some_iff
theorem aaz:type_of% @List.set_append_right:=@List.set_append_right
theorem aaA:type_of% @Nat.add_mul_mod_self_left:=@Nat.add_mul_mod_self_left
theorem aaB:type_of% @List.map_set:=@List.map_set
theorem aaC:type_of% @Nat.one_mul:=@Nat.one_mul
theorem aaD:type_of% @Array.getElem?_eq_getElem:=@Array.getElem?_eq_getElem
theorem aaE:type_of% @Option.bind_some:=@Option.bind_some
theorem aaF:type_of% @Nat.div_le_self:=@Nat.div_le_self
theorem aaG:type_of% @Nat.div_one:=@Nat.div_one
theorem aaH:type_of% @Nat.mul_lt_mul_of_pos_right:=@Nat.mul_lt_mul_of_pos_right
theorem aaI:type_of% @Dyadic.zero_add:=@Dyadic.zero_add
theorem aaJ:type_of% @Nat.add_mul:=@Nat.add_mul
theorem aaK:type_of% @Nat.mul_zero:=@Nat.mul_zero
theorem aaL:type_of% @Bool.or_eq_true:=@Bool.or_eq_true
theorem aaM:type_of% @List.drop_drop:=@List.drop_drop
theorem aaN:type_of% @Int.natAbs_pow:=@Int.natAbs_pow
theorem aaO:type_of% @List.length_range:=@List.length_range
theorem aaP:type_of% @Nat.zero_mul:=@Nat.zero_mul
theorem aaQ:type_of% @Dyadic.add_zero:=@Dyadic.add_zero
theorem aaR:type_of% @List.foldl_cons:=@List.foldl_cons
theorem aaS:type_of% @List.reverse_cons:=@List.reverse_cons
theorem aaT:type_of% @List.replicate_succ:=@List.replicate_succ
theorem aaU:type_of% @List.any_append:=@List.any_append
theorem aaV:type_of% @List.map_drop:=@List.map_drop
theorem aaW:type_of% @List.sublist_append_left:=@List.sublist_append_left
theorem aaX:type_of% @Nat.le_mul_of_pos_left:=@Nat.le_mul_of_pos_left
theorem aaY:type_of% @List.getElem?_zipWith:=@List.getElem?_zipWith
theorem aaZ:type_of% @List.filterMap_append:=@List.filterMap_append
theorem aa0:type_of% @List.any_cons:=@List.any_cons
theorem aa1:type_of% @Classical.byContradiction:=@Classical.byContradiction
theorem aa2:type_of% @Nat.mul_left_comm:=@Nat.mul_left_comm
theorem aa3:type_of% @List.any_nil:=@List.any_nil
theorem aa4:type_of% @Nat.pow_zero:=@Nat.pow_zero
theorem aa5:type_of% @List.flatMap_append:=@List.flatMap_append
theorem aa6:type_of% @List.map_singleton:=@List.map_singleton
theorem aa7:type_of% @List.filter_append:=@List.filter_append
theorem aa8:type_of% @List.reverse_append:=@List.reverse_append
theorem aa9:type_of% @Array.getElem?_eq_some_iff:=@Array.getElem?_eq_some_iff
theorem aba:type_of% @Nat.mod_add_div:=@Nat.mod_add_div
theorem abb:type_of% @Bool.not_true:=@Bool.not_true
theorem abc:type_of% @Nat.add_assoc:=@Nat.add_assoc
theorem abd:type_of% @Int.natAbs_ediv_le_natAbs:=@Int.natAbs_ediv_le_natAbs
theorem abe:type_of% @List.getElem?_cons_succ:=@List.getElem?_cons_succ
theorem abf:type_of% @List.size_toArray:=@List.size_toArray
theorem abg:type_of% @List.length_finRange:=@List.length_finRange
theorem abh:type_of% @List.getElem?_cons_zero:=@List.getElem?_cons_zero
theorem abi:type_of% @Int.mul_neg:=@Int.mul_neg
theorem abj:type_of% @UInt8.toNat_inj:=@UInt8.toNat_inj
theorem abk:type_of% @Array.getElem?_eq_none:=@Array.getElem?_eq_none
theorem abl:type_of% @Nat.lt_of_not_le:=@Nat.lt_of_not_le
theorem abm:type_of% @List.drop_zero:=@List.drop_zero
theorem abn:type_of% @List.length_nil:=@List.length_nil
theorem abo:type_of% @List.foldl_append:=@List.foldl_append
theorem abp:type_of% @Int.lt_trichotomy:=@Int.lt_trichotomy
theorem abq:type_of% @List.take_succ_cons:=@List.take_succ_cons
theorem abr:type_of% @List.map_id':=@List.map_id'
theorem abt:type_of% @Bool.false_eq_true:=@Bool.false_eq_true
theorem abu:type_of% @List.flatMap_cons:=@List.flatMap_cons
theorem abv:type_of% @List.nodup_append:=@List.nodup_append
theorem abw:type_of% @Bool.not_eq_true':=@Bool.not_eq_true'
theorem abx:type_of% @Bool.eq_false_iff:=@Bool.eq_false_iff
theorem aby:type_of% @List.replicate_zero:=@List.replicate_zero
theorem abz:type_of% @UInt8.toNat_ofNat':=@UInt8.toNat_ofNat'
theorem abA:type_of% @List.Pairwise.nil:=@List.Pairwise.nil
theorem abB:type_of% @Nat.mul_lt_mul'':=@Nat.mul_lt_mul''
theorem abC:type_of% @Dyadic.pow_zero:=@Dyadic.pow_zero
theorem abD:type_of% @List.take_length:=@List.take_length
theorem abE:type_of% @List.perm_append_comm:=@List.perm_append_comm
theorem abF:type_of% @Int.natCast_pow:=@Int.natCast_pow
theorem abG:type_of% @List.mem_of_mem_drop:=@List.mem_of_mem_drop
theorem abH:type_of% @List.sublist_append_right:=@List.sublist_append_right
theorem abI:type_of% @Nat.le_of_not_lt:=@Nat.le_of_not_lt
theorem abJ:type_of% @Array.all_eq_true':=@Array.all_eq_true'
theorem abK:type_of% @Int.eq_ofNat_of_zero_le:=@Int.eq_ofNat_of_zero_le
theorem abL:type_of% @decide_eq_false_iff_not:=@decide_eq_false_iff_not
theorem abM:type_of% @Nat.le_mul_of_pos_right:=@Nat.le_mul_of_pos_right
theorem abN:type_of% @List.length_zipWith:=@List.length_zipWith
theorem abO:type_of% @List.set_eq_take_append_cons_drop:=@List.set_eq_take_append_cons_drop
theorem abP:type_of% @List.getElem?_replicate:=@List.getElem?_replicate
theorem abQ:type_of% @List.countP_replicate:=@List.countP_replicate
theorem abR:type_of% @Array.toList_setIfInBounds:=@Array.toList_setIfInBounds
theorem abS:type_of% @List.drop_eq_nil_of_le:=@List.drop_eq_nil_of_le
theorem abT:type_of% @List.contains_iff_mem:=@List.contains_iff_mem
theorem abU:type_of% @List.length_eq_zero_iff:=@List.length_eq_zero_iff
theorem abV:type_of% @List.pairwise_singleton:=@List.pairwise_singleton
theorem abW:type_of% @List.reverse_reverse:=@List.reverse_reverse
theorem abX:type_of% @List.getElem?_zip_eq_some:=@List.getElem?_zip_eq_some
def zL0:List Nat:=[15,16,67,68,69,70,71,72,73,74,75,76,77,78,79,80,81,82,83,84,85]
def zL1:List Nat:=[16,18,102,103,104,105,106,107,108,109,110,111,112,113,114,115,116,117,118,119,120]
def zL2:List (List (Nat×Option Nat)):=[[(4,none)],[(21,some 0)],[(1,none)],[(23,some 2)],[(22,some 1),(24,some 3)],[(25,some 4)],[(26,some 5)],[(4,none),(27,some 6)],[(28,some 7),(27,some 6)],[(29,some 8),(27,some 6)],[(30,some 9),(27,some 6)],[(27,some 6),(31,some 10)],[(32,some 11)],[(4,none),(33,some 12)],[(34,some 13),(33,some 12)],[(35,some 14),(33,some 12)],[(4,none),(33,some 12)],[(37,some 16),(33,some 12)],[(36,some 15),(38,some 17),(33,some 12)],[(33,some 12),(39,some 18)],[(40,some 19)],[(3,none),(41,some 20)],[(42,some 21),(41,some 20)],[(43,some 22),(41,some 20)],[(1,none),(44,some 23)],[(45,some 24),(44,some 23)],[(3,none),(44,some 23)],[(47,some 26),(44,some 23)],[(46,some 25),(48,some 27),(44,some 23)],[(49,some 28),(44,some 23)],[(50,some 29),(44,some 23)],[(4,none),(44,some 23)],[(52,some 31),(44,some 23)]]
def zL3:List Nat:=[0,1,0,4,15,31,63,127,255,511,1023,2047,4095,8191,16383,32767,8191,73727,262143,524287,1048575,2097151,4194303,8388607,16777215,33554431,16777215,83886079,268435455,536870911,1073741823,16777215,2164260863,8589934591,17179869183,34359738367]
def zL4:List Nat:=[14,53,54,55,56,57,58,59,60,61,62,63,64,65,66,67,68,69]
theorem Yo {p:Prop} (h:p:=by omega):p:=h
theorem Yp {p:Prop} (h:p:=by decide):p:=h
theorem Yq {p:Prop} (h:p:=by kernel_rfl):p:=h
theorem BO {P Q:Prop} (p:P) (h:P→Q:=by intro kQ;exact EY (b:=4294967295) rfl rfl (by first|assumption|omega) (by first|assumption|omega) Yp kQ):Q:=h p
theorem tj {P Q:Prop} (p:P) (h:P→Q:=by intro kQ;exact m0 (s:=32) (m:=4294967296) rfl rfl Yp Yp Yp kQ):Q:=h p
theorem HA {P Q:Prop} (p:P) (h:P→Q:=by intro kQ;exact m0 (s:=8) (m:=256) rfl rfl Yp Yp Yp kQ):Q:=h p
theorem md {P Q:Prop} (p:P) (h:P→Q:=by intro kQ;exact Fg bG.out bG.out rfl (by first|assumption|omega) Yp kQ):Q:=h p
theorem HD {P Q:Prop} (p:P) (h:P→Q:=by intro kQ;exact dF (aa (cF (aq (ai (sr (mI (mI kQ)))))))):Q:=h p
theorem vi {P Q:Prop} (p:P) (h:P→Q:=by intro kQ;exact Gc bG.out bG.out rfl Yo Yo Yp kQ):Q:=h p
theorem jR {P Q:Prop} (p:P) (h:P→Q:=by intro kQ;exact lS Yp rfl rfl Yp kQ):Q:=h p
theorem tO {P Q:Prop} (p:P) (h:P→Q:=by intro kQ;exact cN (k:=j) bG.out aJ.size rfl rfl Yo Yo Yp kQ):Q:=h p
theorem nJ {P Q:Prop} (p:P) (h:P→Q:=by intro kQ;exact bY aJ.out rfl ((hr.ext hh.below).tN (by assumption)) Yp kQ):Q:=h p
theorem nk {P Q:Prop} (p:P) (h:P→Q:=by intro kQ;exact TE rfl rfl Yo Yo Yo Yp kQ):Q:=h p
theorem CP {P Q:Prop} (p:P) (h:P→Q:=by intro kQ;exact Wj rfl rfl (by first|assumption|omega) (by first|assumption|omega) Yp kQ):Q:=h p
theorem LO {P Q:Prop} (p:P) (h:P→Q:=by intro kQ;exact ct hh (i:=0) (vs:=[_]) rfl rfl (dt rfl) rfl aJ.out rfl (by rw [a0,aW];omega) rfl kQ):Q:=h p
theorem gu {P Q:Prop} (p:P) (h:P→Q:=by intro kQ;exact aD (bz (ai (ak kQ)))):Q:=h p
theorem oF {P Q:Prop} (p:P) (h:P→Q:=by intro kQ;exact a9 (aa (ah (cF (aX (aE (aE (bA (ai (sr (mL kQ))))))))))):Q:=h p
theorem yF {P Q:Prop} (p:P) (h:P→Q:=by intro kQ;exact aL (aa (ah (sr (mL (aM kQ)))))):Q:=h p
theorem Hz {P Q:Prop} (p:P) (h:P→Q:=by intro kQ;exact cH (aa (cT (sr (aI (aa (av (aF kQ)))))))):Q:=h p
theorem q8 {P Q:Prop} (p:P) (h:P→Q:=by intro kQ;exact TF rfl rfl Yo Yo Yp kQ):Q:=h p
theorem K6 {P Q:Prop} (p:P) (h:P→Q:=by intro kQ;exact dF (aa (cT (aq (ai (ah (ar (ar (ah kQ))))))))):Q:=h p
theorem Lw {P Q:Prop} (p:P) (h:P→Q:=by intro kQ;exact aK 8 [[(0,none)],[(5,none)],[(28,some 0),(29,some 1)],[(30,some 2)],[(1,none)],[(5,none)],[(32,some 4),(33,some 5)],[(34,some 6)]] [(7,35),(6,34),(5,33),(4,32),(3,31),(2,30),(1,29),(0,28)] hh mixed Yq kQ):Q:=h p
theorem Ck {P Q:Prop} (p:P) (h:P→Q:=by intro kQ;exact x7 (fun _ hj=>(hr.ext hj.hp.below).tN hx3) kQ):Q:=h p
theorem Er {P Q:Prop} (p:P) (h:P→Q:=by intro kQ;exact x7 (fun _ hj=>(hs.ext hj.hp.below).tN hy3) kQ):Q:=h p
theorem NX {P Q:Prop} (p:P) (h:P→Q:=by intro kQ;exact aN (a6 (ae v35 (ae v34 (ae v33 (ae v32 (ae v31 (ae v30 (ae v29 (ae v28 aO))))))))) kQ):Q:=h p
theorem Rq {P Q:Prop} (p:P) (h:P→Q:=by intro kQ;exact aK 8 [[(0,none)],[(5,none)],[(38,some 0),(39,some 1)],[(40,some 2)],[(1,none)],[(5,none)],[(42,some 4),(43,some 5)],[(44,some 6)]] [(7,45),(6,44),(5,43),(4,42),(3,41),(2,40),(1,39),(0,38)] hh mixed Yq kQ):Q:=h p
theorem St {P Q:Prop} (p:P) (h:P→Q:=by intro kQ;exact aN (a6 (ae v45 (ae v44 (ae v43 (ae v42 (ae v41 (ae v40 (ae v39 (ae v38 aO))))))))) kQ):Q:=h p
theorem yl {P Q:Prop} (p:P) (h:P→Q:=by intro kQ;exact a9 (aa (ah (cT (aq (ai (ah (ar (sr (mI (aI (aa (sr (aI (aa (ah (sr (mI (mL (aM kQ)))))))))))))))))))):Q:=h p
theorem MP {P Q:Prop} (p:P) (h:P→Q:=by intro kQ;exact cN (k:=done.length) bG.out aJ.size rfl rfl Yo Yo Yp kQ):Q:=h p
theorem kZ {P Q:Prop} (p:P) (h:P→Q:=by intro kQ;exact bY aJ.out rfl (hh.iC (i:=0) rfl (by first|assumption|(simp only [YV];assumption))) Yp kQ):Q:=h p
theorem pE {P Q:Prop} (p:P) (h:P→Q:=by intro kQ;exact qi (k:=done.length) bG.out aJ.size rfl rfl Yo Yo Yp kQ):Q:=h p
theorem zt {P Q:Prop} (p:P) (h:P→Q:=by intro kQ;exact ct hh (i:=0) (vs:=[_]) rfl rfl (dt rfl) rfl aJ.out rfl (by rw [a0];simp only [YE,Y3];omega) rfl kQ):Q:=h p
theorem zu {P Q:Prop} (p:P) (h:P→Q:=by intro kQ;exact aI (aD (bz (ai (ak kQ))))):Q:=h p
theorem qI {P Q:Prop} (p:P) (h:P→Q:=by intro kQ;exact aL (aa (ah (sr (mL (aM (mI (aa (ar kQ))))))))):Q:=h p
theorem dY {P Q:Prop} (p:P) (h:P→Q:=by intro kQ;exact a9 (aa (ah (cT (aq (ai (ah (ar (sr (mI kQ)))))))))):Q:=h p
theorem il {P Q:Prop} (p:P) (h:P→Q:=by intro kQ;exact cJ (k:=i) bG.out aJ.size rfl rfl Yo Yo Yp kQ):Q:=h p
theorem vU {P Q:Prop} (p:P) (h:P→Q:=by intro kQ;exact cW hh (cs:=[_]) bG.out aJ.out (bQ (dt rfl) dN) rfl rfl Yp Yp Yp rfl Yp kQ):Q:=h p
theorem tm {P Q:Prop} (p:P) (h:P→Q:=by intro kQ;exact ay (jl a _ ha) au.out rfl Yp kQ):Q:=h p
theorem H7 {P Q:Prop} (p:P) (h:P→Q:=by intro kQ;exact ay (jl b _ hb) au.out rfl Yp kQ):Q:=h p
theorem C8 {P Q:Prop} (p:P) (h:P→Q:=by intro kQ;exact bj hh (p6 _ _ _ _ _ _ (aR 18446744073709551616 (bN a)) (aR 18446744073709551616 (bN b)) _ (hh.az (i:=1) rfl) (hh.az (i:=0) rfl) (g6 _) (g6 _) (hh.fQ (i:=1) rfl) (hh.fQ (i:=0) rfl) Yo Yo) rfl kQ):Q:=h p
theorem Il {P Q:Prop} (p:P) (h:P→Q:=by intro kQ;exact a9 (aa (ah (cF (aX (aE (aE (bA (ai (sr (aI (aa (av kQ))))))))))))):Q:=h p
theorem dI {P Q:Prop} (p:P) (h:P→Q:=by intro kQ;exact a9 (aa (ah (cT (aq (ai (ah (ar (sr kQ))))))))):Q:=h p
theorem lE {P Q:Prop} (p:P) (h:P→Q:=by intro kQ;exact aL (aD (bz (ai (ak kQ))))):Q:=h p
theorem k4 {P Q:Prop} (p:P) (h:P→Q:=by intro kQ;exact tL bG.out rfl rfl Yo (by assumption) Yp kQ):Q:=h p
theorem qz {P Q:Prop} (p:P) (h:P→Q:=by intro kQ;exact JN (cj rfl (cf (vs:=[_,_]) aJ.out (hh.aQ (i:=0) (n:=2) rfl rfl) rfl) dw) kQ):Q:=h p
theorem N3 {P Q:Prop} (p:P) (h:P→Q:=by intro kQ;exact aj (N:=13) (l:=[.agg #[.bool s,.string m]]) Tryz.func89 rfl rfl (by simp) kQ):Q:=h p
theorem GR {P Q:Prop} (p:P) (h:P→Q:=by intro kQ;exact aB (aa (cT (sr (aI (aa (av (bU (aF kQ))))))))):Q:=h p
theorem I9 {P Q:Prop} (p:P) (h:P→Q:=by intro kQ;exact Qn bG.out rfl rfl (by first|rfl|assumption|decide) Yp kQ):Q:=h p
theorem yC {P Q:Prop} (p:P) (h:P→Q:=by intro kQ;exact aa (cF (aq (ai (ah (sr (bo kQ))))))):Q:=h p
theorem R8 {P Q:Prop} (p:P) (h:P→Q:=by intro kQ;exact aN (a6 (ae v14 (ae v13 (ae v12 (ae v11 (ae v10 (ae v9 (ae v8 (ae v7 (ae v6 (ae v5 aO))))))))))) kQ):Q:=h p
theorem vg {P Q:Prop} (p:P) (h:P→Q:=by intro kQ;exact aa (ah (sr (mL (aM (mI (aa (ar kQ)))))))):Q:=h p
theorem bZ {P Q:Prop} (p:P) (h:P→Q:=by intro kQ;exact cN (k:=i) bG.out aJ.size rfl rfl Yo Yo Yp kQ):Q:=h p
theorem nj {P Q:Prop} (p:P) (h:P→Q:=by intro kQ;exact a9 (aa (ah (cF (aX (aE (aE (bA (ai (sr kQ)))))))))):Q:=h p
theorem yX {P Q:Prop} (p:P) (h:P→Q:=by intro kQ;exact aN (a6 (ae v7 (ae v6 (ae v5 aO)))) kQ):Q:=h p
theorem y6 {P Q:Prop} (p:P) (h:P→Q:=by intro kQ;exact cW hh (cs:=[_,_,_,_]) bG.out aJ.out (bQ (gl rfl) (bQ (gl rfl) dN)) rfl rfl Yp Yp Yp rfl Yp kQ):Q:=h p
theorem Hq {P Q:Prop} (p:P) (h:P→Q:=by intro kQ;exact aK 10 [[(2,none)],[(18,some 0)],[(1,none)],[(20,some 2)],[(19,some 1),(21,some 3)],[(2,none)],[(23,some 5)],[(22,some 4),(24,some 6)],[(25,some 7)],[]] [(9,5),(8,26),(7,25),(6,24),(5,23),(4,22),(3,21),(2,20),(1,19),(0,18)] hh mixed Yq kQ):Q:=h p
theorem Hl {P Q:Prop} (p:P) (h:P→Q:=by intro kQ;exact bB (i:=3) (fun ρ1 w1 hj hR=>ND (show ρ1 20=Value.int _ _ from hR.1) Yo Yo) kQ):Q:=h p
theorem I6 {P Q:Prop} (p:P) (h:P→Q:=by intro kQ;exact a7 (i:=9) (cw _ 31 _) cw.ext (fun ρ1 w1 hj hR=>iJ aJ.out hj.bl (fun v w2 h hb=>⟨hb,h⟩)) kQ):Q:=h p
theorem Ie {P Q:Prop} (p:P) (h:P→Q:=by intro kQ;exact aN (a6 (ae e5 (ae v26 (ae v25 (ae v24 (ae v23 (ae v22 (ae v21 (ae v20 (ae v19 (ae v18 aO))))))))))) kQ):Q:=h p
theorem L7 {P Q:Prop} (p:P) (h:P→Q:=by intro kQ;exact aj (N:=47) (l:=[.agg #[.bool true,.string a],.int .i64 (-(m:Int))]) Tryz.func124 rfl rfl (by simp) kQ):Q:=h p
theorem zi {P Q:Prop} (p:P) (h:P→Q:=by intro kQ;exact Um rfl Yo Yo Yp kQ):Q:=h p
theorem wO {P Q:Prop} (p:P) (h:P→Q:=by intro kQ;exact aa (cF (aq (ai (sr kQ))))):Q:=h p
theorem MB {P Q:Prop} (p:P) (h:P→Q:=by intro kQ;exact aj (N:=41) (l:=[.agg #[.bool a.neg,.string a.aY,.int .i64 a.e],.agg #[.bool b.neg,.string b.aY,.int .i64 b.e]]) Tryz.func68 rfl rfl (by simp) kQ):Q:=h p
theorem Ll {P Q:Prop} (p:P) (h:P→Q:=by intro kQ;exact aK 3 [[(2,none)],[(7,some 0)],[(3,none)]] [(2,9),(1,8),(0,7)] hh mixed Yq kQ):Q:=h p
theorem Og {P Q:Prop} (p:P) (h:P→Q:=by intro kQ;exact dC (fun _ hj=>eo a _ (hT.hp hj.hp) Yo Yo Yo) kQ):Q:=h p
theorem Q8 {P Q:Prop} (p:P) (h:P→Q:=by intro kQ;exact aj (N:=28) (l:=[.agg #[.bool a.neg,.string a.aY,.int .i64 a.e],.agg #[.bool b.neg,.string b.aY,.int .i64 b.e]]) Tryz.func26 rfl rfl (by simp) kQ):Q:=h p
theorem qY {P Q:Prop} (p:P) (h:P→Q:=by intro kQ;exact dn (aa (cF (aq (ai (sr kQ)))))):Q:=h p
theorem IF {P Q:Prop} (p:P) (h:P→Q:=by intro kQ;exact cg (vs:=[_,_,_]) aJ.out rfl (((hr.ext hh.below).recAt NR.len hx)) rfl Yp kQ):Q:=h p
theorem rF {P Q:Prop} (p:P) (h:P→Q:=by intro kQ;exact cW hh (cs:=[_,_,_,_,_,_]) bG.out aJ.out (bQ (gl rfl) (bQ (gl rfl) dN)) rfl rfl Yp Yp Yp rfl Yp kQ):Q:=h p
theorem Cq {P Q:Prop} (p:P) (h:P→Q:=by intro kQ;exact bj hh (kM 1 _ (hT.hp hh) Yo Yo) rfl kQ):Q:=h p
theorem zz {P Q:Prop} (p:P) (h:P→Q:=by intro kQ;exact cN (k:=0) bG.out aJ.size rfl rfl Yo Yo Yp kQ):Q:=h p
theorem iY {P Q:Prop} (p:P) (h:P→Q:=by intro kQ;exact sO (by first|exact uF rfl|exact ur rfl) Yp kQ):Q:=h p
theorem y3 {P Q:Prop} (p:P) (h:P→Q:=by intro kQ;exact aa (cF (aq (bz (ai (ak kQ)))))):Q:=h p
theorem Nm {P Q:Prop} (p:P) (h:P→Q:=by intro kQ;exact EY (b:=1) rfl rfl (by first|assumption|omega) (by first|assumption|omega) Yp kQ):Q:=h p
theorem pB {P Q:Prop} (p:P) (h:P→Q:=by intro kQ;exact cu hh (i:=1) rfl rfl rfl (hh.az (i:=0) rfl) bG.out aJ.out rfl Yp (by first|rfl|exact ea _|exact dv _|exact bI _|exact bK NR.one _) Yo Yo Yp kQ):Q:=h p
theorem tg {P Q:Prop} (p:P) (h:P→Q:=by intro kQ;exact aL (aD (bz (ai (ak (mI kQ)))))):Q:=h p
theorem Iy {P Q:Prop} (p:P) (h:P→Q:=by intro kQ;exact a9 (aa (cT (aq (ai (ah (ar kQ))))))):Q:=h p
theorem NZ {P Q:Prop} (p:P) (h:P→Q:=by intro kQ;exact dF (aa (cT (aq (ai (ah (ar (ah (sr (mL (mI kQ))))))))))):Q:=h p
theorem DD {P Q:Prop} (p:P) (h:P→Q:=by intro kQ;exact bj hh (ka A n c j xs _ (hx.ext hh.below) hdx Yo Yo) rfl kQ):Q:=h p
theorem DM {P Q:Prop} (p:P) (h:P→Q:=by intro kQ;exact bj hh (ka B m c' j ys _ (hy.ext hh.below) hdy Yo Yo) rfl kQ):Q:=h p
theorem vV {P Q:Prop} (p:P) (h:P→Q:=by intro kQ;exact a9 (aa (cT (aq (ai (ah (ar (sr (mL (mI kQ)))))))))):Q:=h p
theorem yQ {P Q:Prop} (p:P) (h:P→Q:=by intro kQ;exact gj (n:=n) hh rfl rfl Yo Yo bG.out aJ.out rfl Yo Yo Yp kQ):Q:=h p
theorem yw {P Q:Prop} (p:P) (h:P→Q:=by intro kQ;exact sW rfl rfl Yo Yp kQ):Q:=h p
theorem NI {P Q:Prop} (p:P) (h:P→Q:=by intro kQ;exact ct hh (i:=0) (vs:=[_]) rfl rfl (dt rfl) rfl aJ.out rfl (by rw [hll];omega) rfl kQ):Q:=h p
theorem Dh {P Q:Prop} (p:P) (h:P→Q:=by intro kQ;exact ay (gK a _ ha) au.out rfl Yp kQ):Q:=h p
theorem OD {P Q:Prop} (p:P) (h:P→Q:=by intro kQ;exact bj hh (iG _ _ _ (aR 2 (bN m)) _ (hh.az (i:=0) rfl) (lG _) (hh.fQ (i:=0) rfl) Yo) rfl kQ):Q:=h p
theorem Ja {P Q:Prop} (p:P) (h:P→Q:=by intro kQ;exact JN (cj rfl (cf (vs:=[_,_]) aJ.out (hh.aQ (i:=1) (n:=2) rfl rfl) rfl) dw) kQ):Q:=h p
theorem Dn {P Q:Prop} (p:P) (h:P→Q:=by intro kQ;exact cH (aa (cF (aq (ai (ah (sr (bo kQ)))))))):Q:=h p
theorem BK {P Q:Prop} (p:P) (h:P→Q:=by intro kQ;exact aa (cT (sr (aI (aa (av (aF kQ))))))):Q:=h p
theorem qX {P Q:Prop} (p:P) (h:P→Q:=by intro kQ;exact aa (cF (aq (ai (sr (bo kQ)))))):Q:=h p
theorem zj {P Q:Prop} (p:P) (h:P→Q:=by intro kQ;exact aS (aS (aB (aa (ah (sr (mB kQ))))))):Q:=h p
theorem B6 {P Q:Prop} (p:P) (h:P→Q:=by intro kQ;exact JN (cj rfl (cf (vs:=[_,_,_]) aJ.out (hh.aQ (i:=0) (n:=3) rfl rfl) rfl) dw) kQ):Q:=h p
theorem Hw {P Q:Prop} (p:P) (h:P→Q:=by intro kQ;exact aj (N:=38) (l:=[.agg #[.bool a.neg,.string a.aY,.int .i64 a.e],.agg #[.bool b.neg,.string b.aY,.int .i64 b.e]]) Tryz.func149 rfl rfl (by simp) kQ):Q:=h p
theorem IL {P Q:Prop} (p:P) (h:P→Q:=by intro kQ;exact aK 3 [[(2,none)],[(5,some 0)],[(3,none)]] [(2,7),(1,6),(0,5)] hh mixed Yq kQ):Q:=h p
theorem G3 {P Q:Prop} (p:P) (h:P→Q:=by intro kQ;exact dC (fun _ hj=>oG a _ Yo Yo Yo) kQ):Q:=h p
theorem I3 {P Q:Prop} (p:P) (h:P→Q:=by intro kQ;exact bj hh (oG b _ Yo Yo Yo) rfl kQ):Q:=h p
theorem C6 {P Q:Prop} (p:P) (h:P→Q:=by intro kQ;exact uY hh bG.out aJ.out Yp kQ):Q:=h p
theorem zJ {P Q:Prop} (p:P) (h:P→Q:=by intro kQ;exact sr (aI (aa (ah (sr (mL (aM (mI (aa (ar kQ)))))))))):Q:=h p
theorem nq {P Q:Prop} (p:P) (h:P→Q:=by intro kQ;exact a9 (aa (ah (cT (aq (ai (ah (ar (sr (mI (aI (aa (sr kQ))))))))))))):Q:=h p
theorem nZ {P Q:Prop} (p:P) (h:P→Q:=by intro kQ;exact bY aJ.out rfl ((hr.ext hh.below).tN hgi) Yp kQ):Q:=h p
theorem G6 {P Q:Prop} (p:P) (h:P→Q:=by intro kQ;exact sr (aI (aa (sr (aI (aa (ah (sr (mL (aM (mI (aa (ar kQ))))))))))))):Q:=h p
theorem G4 {P Q:Prop} (p:P) (h:P→Q:=by intro kQ;exact a9 (aa (ah (cF (aX (aE (aE (bA (ai (sr (mI (aI (aa (av kQ)))))))))))))):Q:=h p
theorem y8 {P Q:Prop} (p:P) (h:P→Q:=by intro kQ;exact aj (N:=29) (l:=[.agg #[.slice A n c,.slice B m c2]]) Tryz.func39 rfl rfl (by simp) kQ):Q:=h p
theorem wy {P Q:Prop} (p:P) (h:P→Q:=by intro kQ;exact aI (aa (ah (ar (sr (bo kQ)))))):Q:=h p
theorem Io {P Q:Prop} (p:P) (h:P→Q:=by intro kQ;exact bj hh (fP A n c ds _ (hS.ext hh.below) hn) rfl kQ):Q:=h p
theorem Na {P Q:Prop} (p:P) (h:P→Q:=by intro kQ;exact aK 6 [[(1,none)],[(19,some 0)],[(20,some 1)],[(1,none)],[(22,some 3)],[(23,some 4)]] [(5,24),(4,23),(3,22),(2,21),(1,20),(0,19)] hh mixed Yq kQ):Q:=h p
theorem Lc {P Q:Prop} (p:P) (h:P→Q:=by intro kQ;exact aN (a6 (ae v24 (ae v23 (ae v22 (ae v21 (ae v20 (ae v19 aO))))))) kQ):Q:=h p
theorem rW {P Q:Prop} (p:P) (h:P→Q:=by intro kQ;exact cW hh (cs:=[_,_,_]) bG.out aJ.out (bQ (gl rfl) dN) rfl rfl Yp Yp Yp rfl Yp kQ):Q:=h p
theorem ni {P Q:Prop} (p:P) (h:P→Q:=by intro kQ;exact cJ (k:=j) bG.out aJ.size rfl rfl Yo Yo Yp kQ):Q:=h p
theorem SA {P Q:Prop} (p:P) (h:P→Q:=by intro kQ;exact cu hh (i:=5) rfl rfl rfl (hh.az (i:=0) rfl) bG.out aJ.out rfl Yp (by first|rfl|exact ea _|exact dv _|exact bI _|exact bK NR.one _) Yo Yo Yp kQ):Q:=h p
theorem rQ {P Q:Prop} (p:P) (h:P→Q:=by intro kQ;exact a9 (aa (ah (cF (aX (aE (aE (bA (bz (ai (ak kQ))))))))))):Q:=h p
theorem IB {P Q:Prop} (p:P) (h:P→Q:=by intro kQ;exact cN (k:=(n-1-k)) bG.out aJ.size rfl rfl Yo Yo Yp kQ):Q:=h p
theorem x8 {P Q:Prop} (p:P) (h:P→Q:=by intro kQ;exact bY aJ.out rfl ((s1.ext hh.below).tN (by assumption)) Yp kQ):Q:=h p
theorem H6 {P Q:Prop} (p:P) (h:P→Q:=by intro kQ;exact bY aJ.out rfl ((s2.ext hh.below).tN (by assumption)) Yp kQ):Q:=h p
theorem LF {P Q:Prop} (p:P) (h:P→Q:=by intro kQ;exact a9 (aa (ah (cT (aq (ai (ah (ar (sr (mI (aI (aa kQ)))))))))))):Q:=h p
theorem MF {P Q:Prop} (p:P) (h:P→Q:=by intro kQ;exact ct hh (i:=1) (vs:=[_]) rfl rfl (dt rfl) rfl aJ.out rfl Yo rfl kQ):Q:=h p
theorem G9 {P Q:Prop} (p:P) (h:P→Q:=by intro kQ;exact a9 (aa (ah (cF (aX (aE (aE (bA (ai (sr (bo kQ))))))))))):Q:=h p
theorem Ic {P Q:Prop} (p:P) (h:P→Q:=by intro kQ;exact ct hh (i:=3) (vs:=[_,_,_]) rfl rfl (gl rfl) rfl aJ.out rfl Yo rfl kQ):Q:=h p
theorem Rv {P Q:Prop} (p:P) (h:P→Q:=by intro kQ;exact aK 8 [[(2,none)],[(4,some 0)],[(5,some 1)],[(1,none)],[(7,some 3)],[(8,some 4)],[(9,some 5)],[(10,some 6)]] [(7,11),(6,10),(5,9),(4,8),(3,7),(2,6),(1,5),(0,4)] hh mixed Yq kQ):Q:=h p
theorem Hx {P Q:Prop} (p:P) (h:P→Q:=by intro kQ;exact x7 (fun _ hj=>(hj.hp.below.cell (lC hp)).trans hp) kQ):Q:=h p
theorem H9 {P Q:Prop} (p:P) (h:P→Q:=by intro kQ;exact cg (vs:=[_,_]) aJ.out rfl ((hr.ext hh.below).recAt FX.len hx) rfl Yp kQ):Q:=h p
theorem yh {P Q:Prop} (p:P) (h:P→Q:=by intro kQ;exact bj hh (hc _ (hT.hp hh) hh.below) rfl kQ):Q:=h p
theorem MI {P Q:Prop} (p:P) (h:P→Q:=by intro kQ;exact cN (k:=m) bG.out aJ.size rfl rfl Yo Yo Yp kQ):Q:=h p
theorem Ce {P Q:Prop} (p:P) (h:P→Q:=by intro kQ;exact aa (cF (aq (ai (ah kQ))))):Q:=h p
theorem SM {P Q:Prop} (p:P) (h:P→Q:=by intro kQ;exact kO [2] [0,1,0,3,15,31] 3 [[(4,none)],[(48,some 0)],[(5,none)]] [(2,50),(1,49),(0,48)] [([],3,[(1,49),(0,48)]),([2],2,[(2,50),(1,49),(0,48)])] hh mixed Yq Yq Yp kQ):Q:=h p
theorem vW {P Q:Prop} (p:P) (h:P→Q:=by intro kQ;exact cg (vs:=[_,_,_,_,_,_]) aJ.out rfl ((hr.ext hh.below).recAt SR.len hs) rfl Yp kQ):Q:=h p
theorem Oi {P Q:Prop} (p:P) (h:P→Q:=by intro kQ;exact cu hh (i:=2) rfl rfl rfl (hh.az (i:=0) rfl) bG.out aJ.out rfl Yp (by first|rfl|exact ea _|exact dv _|exact bI _|exact bK NR.one _) Yo Yo Yp kQ):Q:=h p
theorem OH {P Q:Prop} (p:P) (h:P→Q:=by intro kQ;exact cg (vs:=[_,_,_]) aJ.out rfl ((hr.ext hh.below).recAt NR.len ha) rfl Yp kQ):Q:=h p
theorem M1 {P Q:Prop} (p:P) (h:P→Q:=by intro kQ;exact aj (N:=66) (l:=[.agg #[.slice f.A f.n f.a,.slice f.B f.m f.b],.slice E q cE]) Tryz.func123 rfl rfl (by simp) kQ):Q:=h p
theorem fS {P Q:Prop} (p:P) (h:P→Q:=by intro kQ;exact bj hh (hck _ (hT.hp hh) hh.below) rfl kQ):Q:=h p
theorem tr {P Q:Prop} (p:P) (h:P→Q:=by intro kQ;exact dn (aa (cF (aq (ai (ah (sr (mL (aM (bo kQ)))))))))):Q:=h p
theorem OK {P Q:Prop} (p:P) (h:P→Q:=by intro kQ;exact a9 (aa (ah (cF (aX (aE (aE (bA (ai (ah (sr (mL kQ)))))))))))):Q:=h p
theorem pJ {P Q:Prop} (p:P) (h:P→Q:=by intro kQ;exact Ib (cj rfl (cf (vs:=[_,_]) aJ.out (hh.aQ (i:=2) (n:=2) rfl rfl) rfl) (eB (fg rfl) dw)) kQ):Q:=h p
theorem u7 {P Q:Prop} (p:P) (h:P→Q:=by intro kQ;exact Ib (cj rfl (cf (vs:=[_,_]) aJ.out (hh.aQ (i:=0) (n:=2) rfl rfl) rfl) (eB (fg rfl) dw)) kQ):Q:=h p
theorem yS {P Q:Prop} (p:P) (h:P→Q:=by intro kQ;exact bj hh (hlk _ (hT.hp hh) hh.below) rfl kQ):Q:=h p
theorem tk {P Q:Prop} (p:P) (h:P→Q:=by intro kQ;exact AM fB.out rfl Yp kQ):Q:=h p
theorem tP {P Q:Prop} (p:P) (h:P→Q:=by intro kQ;exact cN (k:=j) bG.out aJ.size rX rfl Yo Yo Yp kQ):Q:=h p
theorem DL {P Q:Prop} (p:P) (h:P→Q:=by intro kQ;exact cJ bG.out aJ.size rfl rfl rfl Yo Yp kQ):Q:=h p
theorem SL {P Q:Prop} (p:P) (h:P→Q:=by intro kQ;exact aj (N:=26) (l:=[.agg #[.slice f.A f.n f.a,.slice f.B f.m f.b],.agg #[.slice g.A g.n g.a,.slice g.B g.m g.b]]) Tryz.func33 rfl rfl (by simp) kQ):Q:=h p
theorem Hy {P Q:Prop} (p:P) (h:P→Q:=by intro kQ;exact Dz bG.out aJ.size rfl rfl Yo Yo Yp kQ):Q:=h p
theorem Ln {P Q:Prop} (p:P) (h:P→Q:=by intro kQ;exact aj (N:=45) (l:=[.string a,.string b,.func (.func g) #[] #[]]) Tryz.func262 rfl rfl (by simp) kQ):Q:=h p
theorem NG {P Q:Prop} (p:P) (h:P→Q:=by intro kQ;exact aj (N:=63) (l:=[.agg #[.slice f.A f.n f.a,.slice f.B f.m f.b],.agg #[.slice g.A g.n g.a,.slice g.B g.m g.b],.int .i64 p]) Tryz.func9 rfl rfl (by simp) kQ):Q:=h p
theorem H3 {P Q:Prop} (p:P) (h:P→Q:=by intro kQ;exact dn (aa (cF (aq (ai (ah (sr kQ))))))):Q:=h p
theorem CN {P Q:Prop} (p:P) (h:P→Q:=by intro kQ;exact cW hh (cs:=[_,_,_,_,_,_]) bG.out aJ.out (bQ (gl rfl) dN) rfl rfl Yp Yp Yp rfl Yp kQ):Q:=h p
theorem R9 {P Q:Prop} (p:P) (h:P→Q:=by intro kQ;exact cu hh (i:=3) rfl rfl rfl (hh.az (i:=0) rfl) bG.out aJ.out rfl Yp (by first|rfl|exact ea _|exact dv _|exact bI _|exact bK NR.one _) Yo Yo Yp kQ):Q:=h p
theorem zn {P Q:Prop} (p:P) (h:P→Q:=by intro kQ;exact aa (cF (aq (bz (ai (ak (mI kQ))))))):Q:=h p
theorem Ma {P Q:Prop} (p:P) (h:P→Q:=by intro kQ;exact cg (vs:=[_,_,_]) aJ.out rfl ((hr.ext hh.below).recAt NR.len hxn) rfl Yp kQ):Q:=h p
theorem GS {P Q:Prop} (p:P) (h:P→Q:=by intro kQ;exact ct hh (i:=0) (vs:=[_,_,_]) rfl rfl (gl rfl) rfl aJ.out rfl Yo rfl kQ):Q:=h p
theorem Ho {P Q:Prop} (p:P) (h:P→Q:=by intro kQ;exact aj (N:=44) (l:=[.agg #[.slice fx.A fx.n fx.a,.slice fx.B fx.m fx.b],.int .i64 ax,.agg #[.bool sn.neg,.string sn.aY,.int .i64 sn.e]]) Tryz.func161 rfl rfl (by simp) kQ):Q:=h p
theorem yO {P Q:Prop} (p:P) (h:P→Q:=by intro kQ;exact dn (aa (cF (aq (ai (ah (sr (mI kQ)))))))):Q:=h p
theorem Sr {P Q:Prop} (p:P) (h:P→Q:=by intro kQ;exact JZ (cj rfl (cf (vs:=[_,_]) aJ.out (hh.aQ (i:=1) (n:=2) rfl rfl) rfl) (cj rfl (cf (vs:=[_,_]) aJ.out (hh.aQ (i:=0) (n:=2) rfl rfl) rfl) (eB (fg rfl) dw))) kQ):Q:=h p
theorem MW {P Q:Prop} (p:P) (h:P→Q:=by intro kQ;exact jL 8 Yp Yq Yp Yq Yq kQ):Q:=h p
theorem Oy {P Q:Prop} (p:P) (h:P→Q:=by intro kQ;exact aj (N:=52) (l:=[.agg #[.slice fx.A fx.n fx.a,.slice fx.B fx.m fx.b],.int .i64 bits]) Tryz.func49 rfl rfl (by simp) kQ):Q:=h p
theorem S9 {P Q:Prop} (p:P) (h:P→Q:=by intro kQ;exact aj (N:=35) (l:=[.agg #[.slice g.A g.n g.a,.slice g.B g.m g.b],.agg #[.bool eps.neg,.string eps.aY,.int .i64 eps.e]]) Tryz.func16 rfl rfl (by simp) kQ):Q:=h p
theorem Oj {P Q:Prop} (p:P) (h:P→Q:=by intro kQ;exact aK 9 [[(3,none)],[(13,some 0)],[(14,some 1)],[(5,none),(15,some 2)],[(16,some 3),(15,some 2)],[(0,none),(15,some 2)],[(3,none),(15,some 2)],[(18,some 5),(19,some 6),(15,some 2)],[(20,some 7),(15,some 2)]] [(8,21),(7,20),(6,19),(5,18),(4,17),(3,16),(2,15),(1,14),(0,13)] hh mixed Yq kQ):Q:=h p
theorem K0 {P Q:Prop} (p:P) (h:P→Q:=by intro kQ;exact aN (a6 (ae v21 (ae v20 (ae v19 (ae v18 (ae v17 (ae v16 (ae v15 (ae v14 (ae v13 aO)))))))))) kQ):Q:=h p
theorem Sj {P Q:Prop} (p:P) (h:P→Q:=by intro kQ;exact eR (i:=4) rfl (fun ρ1 w1 hj hR=>(show ρ1 15=Value.bool _ from hR.2.1)) (fun ρ1 w1 hj hR=>bf au.out (aC (show ρ1 16=Value.agg (List.toArray _) from hR.1) bh)) (fun w1 hj=>hc1 _ (hT.hp hj.hp)) kQ):Q:=h p
theorem IA {P Q:Prop} (p:P) (h:P→Q:=by intro kQ;exact aj (N:=23) (l:=[.int .i64 i,.agg s.cells.toArray,.pointer (some p)]) Tryz.func108 rfl rfl (by simp) kQ):Q:=h p
theorem tE {P Q:Prop} (p:P) (h:P→Q:=by intro kQ;exact bY aJ.out rfl ((hh.below.cell (lC hp)).trans hp) Yp kQ):Q:=h p
theorem vP {P Q:Prop} (p:P) (h:P→Q:=by intro kQ;exact xx rfl (aC (FR rfl) bh) Yp kQ):Q:=h p
theorem Nv {P Q:Prop} (p:P) (h:P→Q:=by intro kQ;exact aK 7 [[(2,none)],[(0,none)],[(26,some 1)],[(27,some 2)],[(1,none)],[(29,some 4)],[(30,some 5)]] [(6,31),(5,30),(4,29),(3,28),(2,27),(1,26),(0,25)] hh mixed Yq kQ):Q:=h p
theorem La {P Q:Prop} (p:P) (h:P→Q:=by intro kQ;exact aN (a6 (ae v31 (ae v30 (ae v29 (ae v28 (ae v27 (ae v26 (ae v25 aO)))))))) kQ):Q:=h p
theorem Nk {P Q:Prop} (p:P) (h:P→Q:=by intro kQ;exact cg (vs:=[_,_,_,_]) aJ.out rfl ((hr.ext hh.below).recAt TR.len hxx) rfl Yp kQ):Q:=h p
theorem D6 {P Q:Prop} (p:P) (h:P→Q:=by intro kQ;exact cW hh (cs:=[_,_,_,_]) bG.out aJ.out (bQ (gl rfl) dN) rfl rfl Yp Yp Yp rfl Yp kQ):Q:=h p
theorem OE {P Q:Prop} (p:P) (h:P→Q:=by intro kQ;exact cg (vs:=[_,_,_,_]) aJ.out rfl ((hr2.ext hh.below).recAt TR.len hyy) rfl Yp kQ):Q:=h p
theorem Lp {P Q:Prop} (p:P) (h:P→Q:=by intro kQ;exact nP (h:=i) bG.out aJ.size rfl rfl Yo Yo Yp kQ):Q:=h p
theorem IM {P Q:Prop} (p:P) (h:P→Q:=by intro kQ;exact Ib (cj rfl (cf (vs:=[_,_]) aJ.out (hh.aQ (i:=1) (n:=2) rfl rfl) rfl) (eB (fg rfl) dw)) kQ):Q:=h p
theorem MG {P Q:Prop} (p:P) (h:P→Q:=by intro kQ;exact aj (N:=58) (l:=[.agg #[.int .i64 v,.slice A n c]]) Tryz.func65 rfl rfl (by simp) kQ):Q:=h p
theorem qN {P Q:Prop} (p:P) (h:P→Q:=by intro kQ;exact cg (vs:=[_,_,_,_]) aJ.out rfl ((hr.ext hh.below).recAt TR.len hx) rfl Yp kQ):Q:=h p
theorem DE {P Q:Prop} (p:P) (h:P→Q:=by intro kQ;exact eR (i:=9) rfl (fun ρ1 w1 hj hR=>(show ρ1 27=Value.bool _ from hR.2.1)) (fun ρ1 w1 hj hR=>bf au.out (aC (show ρ1 29=Value.agg (List.toArray _) from hR.1) bh)) (fun w1 hj=>hsg _) kQ):Q:=h p
theorem HF {P Q:Prop} (p:P) (h:P→Q:=by intro kQ;exact eR (i:=15) rfl (fun ρ1 w1 hj hR=>(show ρ1 33=Value.bool _ from hR.2.1)) (fun ρ1 w1 hj hR=>bf au.out (aC (show ρ1 35=Value.agg (List.toArray _) from hR.1) bh)) (fun w1 hj=>hfo _ (hT.hp hj.hp)) kQ):Q:=h p
theorem Lu {P Q:Prop} (p:P) (h:P→Q:=by intro kQ;exact Bs (i:=18) rfl (fun ρ1 w1 hj hR=>(show ρ1 33=Value.bool _ from hR.2.2.1)) (fun ρ1 w1 hj hR=>HL (show ρ1 36=Value.agg (List.toArray _) from hR.1) (show ρ1 38=Value.agg (List.toArray _) from hR.2.1) (by first|assumption|rfl)) kQ):Q:=h p
theorem IQ {P Q:Prop} (p:P) (h:P→Q:=by intro kQ;exact aN (a6 (ae v53 (ae v52 (ae v51 (ae v50 (ae v49 (ae v48 (ae v47 (ae v46 (ae v45 (ae v44 (ae v43 (ae v42 (ae v41 (ae v40 (ae v39 (ae v38 (ae v37 (ae v36 (ae v35 (ae v34 (ae v33 (ae v32 (ae v31 (ae v30 (ae v29 (ae v28 (ae v27 (ae v26 (ae v25 (ae v24 (ae v23 (ae v22 (ae v21 aO)))))))))))))))))))))))))))))))))) kQ):Q:=h p
theorem IH {P Q:Prop} (p:P) (h:P→Q:=by intro kQ;exact aj (N:=25) (l:=[.int .i64 v,.slice A n c]) Tryz.func218 rfl rfl (by simp) kQ):Q:=h p
theorem Rl {P Q:Prop} (p:P) (h:P→Q:=by intro kQ;exact aK 6 [[(2,none)],[(4,some 0)],[(1,none)],[(6,some 2)],[(7,some 3)],[(8,some 4)]] [(5,9),(4,8),(3,7),(2,6),(1,5),(0,4)] hh mixed Yq kQ):Q:=h p
theorem MO {P Q:Prop} (p:P) (h:P→Q:=by intro kQ;exact cg (vs:=[_,_]) aJ.out rfl ((hr.ext hh.below).recAt PX.len hx) rfl Yp kQ):Q:=h p
theorem Cy {P Q:Prop} (p:P) (h:P→Q:=by intro kQ;exact aj (N:=58) (l:=[.agg #[.int .i64 p.v,.slice p.A p.n p.c],.slice L n c,.slice M m mc]) Tryz.func151 rfl rfl (by simp) kQ):Q:=h p
theorem Iz {P Q:Prop} (p:P) (h:P→Q:=by intro kQ;exact dn (aa (cF (aq (ai (ah (sr (mL kQ)))))))):Q:=h p
theorem Ev {P Q:Prop} (p:P) (h:P→Q:=by intro kQ;exact bY aJ.out rfl ((hr.ext hh.below).tN hy2) Yp kQ):Q:=h p
theorem Li {P Q:Prop} (p:P) (h:P→Q:=by intro kQ;exact aa (cT (sr (aI (aa (av (bU (aF (aF (bU (aF kQ))))))))))):Q:=h p
theorem Ow {P Q:Prop} (p:P) (h:P→Q:=by intro kQ;exact Ib (cj rfl (cf (vs:=[_,_]) aJ.out (hh.aQ (i:=3) (n:=2) rfl rfl) rfl) (eB (fg rfl) dw)) kQ):Q:=h p
theorem Ix {P Q:Prop} (p:P) (h:P→Q:=by intro kQ;exact cN (k:=i) bG.out aJ.size rX rfl Yo Yo Yp kQ):Q:=h p
theorem M9 {P Q:Prop} (p:P) (h:P→Q:=by intro kQ;exact aK 12 [[(5,none)],[(0,none)],[(8,some 1)],[(7,some 0),(9,some 2)],[(10,some 3)],[(0,none),(11,some 4)],[(5,none),(11,some 4)],[(12,some 5),(13,some 6),(11,some 4)],[(14,some 7),(11,some 4)],[(15,some 8),(11,some 4)],[(3,none),(11,some 4)],[(17,some 10),(11,some 4)]] [(11,18),(10,17),(9,16),(8,15),(7,14),(6,13),(5,12),(4,11),(3,10),(2,9),(1,8),(0,7)] hh mixed Yq kQ):Q:=h p
theorem Ip {P Q:Prop} (p:P) (h:P→Q:=by intro kQ;exact dG (x7 (fun _ hj=>((hr.ext hj.hp.below).recAt TR.len ht).cell (i:=0) rfl) kQ)):Q:=h p
theorem K2 {P Q:Prop} (p:P) (h:P→Q:=by intro kQ;exact aN (a6 (ae v18 (ae v17 (ae v16 (ae v15 (ae v14 (ae v13 (ae v12 (ae v11 (ae v10 (ae v9 (ae v8 (ae v7 aO))))))))))))) kQ):Q:=h p
theorem NU {P Q:Prop} (p:P) (h:P→Q:=by intro kQ;exact aK 12 [[(5,none)],[(0,none)],[(29,some 1)],[(28,some 0),(30,some 2)],[(31,some 3)],[(0,none),(32,some 4)],[(5,none),(32,some 4)],[(33,some 5),(34,some 6),(32,some 4)],[(35,some 7),(32,some 4)],[(36,some 8),(32,some 4)],[(3,none),(32,some 4)],[(38,some 10),(32,some 4)]] [(11,39),(10,38),(9,37),(8,36),(7,35),(6,34),(5,33),(4,32),(3,31),(2,30),(1,29),(0,28)] hh mixed Yq kQ):Q:=h p
theorem NO {P Q:Prop} (p:P) (h:P→Q:=by intro kQ;exact aN (a6 (ae v39 (ae v38 (ae v37 (ae v36 (ae v35 (ae v34 (ae v33 (ae v32 (ae v31 (ae v30 (ae v29 (ae v28 aO))))))))))))) kQ):Q:=h p
theorem Sk {P Q:Prop} (p:P) (h:P→Q:=by intro kQ;exact aK 8 [[(6,none)],[(3,none)],[(63,some 1)],[(3,none)],[(65,some 3)],[(66,some 4)],[(64,some 2),(67,some 5)],[(68,some 6)]] [(7,69),(6,68),(5,67),(4,66),(3,65),(2,64),(1,63),(0,62)] hh mixed Yq kQ):Q:=h p
theorem SZ {P Q:Prop} (p:P) (h:P→Q:=by intro kQ;exact aN (a6 (ae e69 (ae v68 (ae v67 (ae v66 (ae v65 (ae v64 (ae v63 (ae v62 aO))))))))) kQ):Q:=h p
theorem RH {P Q:Prop} (p:P) (h:P→Q:=by intro kQ;exact cu hh (i:=0) rfl rfl rfl (f69) bG.out aJ.out rfl Yp (by first|rfl|exact ea _|exact dv _|exact bI _|exact bK NR.one _) Yo Yo Yp kQ):Q:=h p
theorem Td {P Q:Prop} (p:P) (h:P→Q:=by intro kQ;exact cg (vs:=[_,_,_]) aJ.out rfl ((hh.dT (f:=TR.cells) (x:=t) (l:=G) (i:=1) rfl TR.len Yp ht).drop 1) rfl Yp kQ):Q:=h p
theorem IY {P Q:Prop} (p:P) (h:P→Q:=by intro kQ;exact a9 (aa (cF (aX (aE (aE (bA (ai (ah (sr (mL (aM kQ)))))))))))):Q:=h p
theorem II {P Q:Prop} (p:P) (h:P→Q:=by intro kQ;exact aj (N:=34) (l:=[.int .i64 v,.int .i64 x]) Tryz.func189 rfl rfl (by simp) kQ):Q:=h p
theorem Ol {P Q:Prop} (p:P) (h:P→Q:=by intro kQ;exact aj (N:=38) (l:=[.int .i64 v,.slice A n c]) Tryz.func73 rfl rfl (by simp) kQ):Q:=h p
theorem Ij {P Q:Prop} (p:P) (h:P→Q:=by intro kQ;exact bY aJ.out rfl (((hr.ext hh.below).recAt TR.len hx).cell (i:=0) rfl) Yp kQ):Q:=h p
theorem Rp {P Q:Prop} (p:P) (h:P→Q:=by intro kQ;exact aj (N:=42) (l:=[.agg #[.int .i64 p.v,.slice p.A p.n p.c],.agg #[.bool c.neg,.string c.aY,.int .i64 c.e]]) Tryz.func190 rfl rfl (by simp) kQ):Q:=h p
theorem Ly {P Q:Prop} (p:P) (h:P→Q:=by intro kQ;exact a9 (aa (ah (cF (aX (aE (aE (bA (ai (sr (mL (aL (aa (av kQ)))))))))))))):Q:=h p
theorem Ru {P Q:Prop} (p:P) (h:P→Q:=by intro kQ;exact aK 6 [[(8,none)],[(3,none)],[(21,some 1)],[(20,some 0),(22,some 2)],[(3,none)],[(24,some 4)]] [(5,25),(4,24),(3,23),(2,22),(1,21),(0,20)] hh mixed Yq kQ):Q:=h p
theorem S4 {P Q:Prop} (p:P) (h:P→Q:=by intro kQ;exact bB (i:=3) (fun ρ1 w1 hj hR=>wu (show ρ1 20=Value.int _ _ from hR.1) (show ρ1 22=Value.int _ _ from hR.2.1) Yo Yo Yo) kQ):Q:=h p
theorem Nw {P Q:Prop} (p:P) (h:P→Q:=by intro kQ;exact aj (N:=46) (l:=[.agg #[.int .i64 p.v,.slice p.A p.n p.c],.agg #[.int .i64 q.v,.slice q.A q.n q.c],.slice L n c]) Tryz.func57 rfl rfl (by simp) kQ):Q:=h p
theorem Om {P Q:Prop} (p:P) (h:P→Q:=by intro kQ;exact aj (N:=112) (l:=[.agg #[.int .i64 p.v,.slice p.A p.n p.c],.agg #[.int .i64 q.v,.slice q.A q.n q.c],.slice L n c,.agg #[.bool eps.neg,.string eps.aY,.int .i64 eps.e],.int .i64 grid,.int .i64 bu]) Tryz.func21 rfl rfl (by simp) kQ):Q:=h p
theorem LW {P Q:Prop} (p:P) (h:P→Q:=by intro kQ;exact cu hh (i:=4) rfl rfl rfl (hh.az (i:=0) rfl) bG.out aJ.out rfl Yp (by first|rfl|exact ea _|exact dv _|exact bI _|exact bK NR.one _) Yo Yo Yp kQ):Q:=h p
theorem LN {P Q:Prop} (p:P) (h:P→Q:=by intro kQ;exact a7 (i:=9) (cw _ 58 _) cw.ext (fun ρ1 w1 hj hR=>iJ aJ.out hj.bl (fun v w2 h hb=>⟨hb,h⟩)) kQ):Q:=h p
theorem K4 {P Q:Prop} (p:P) (h:P→Q:=by intro kQ;exact yN (N:=58) (l:=[.agg #[.slice fx.A fx.n fx.a,.slice fx.B fx.m fx.b],.slice L m2 c2]) Tryz.func11 rfl rfl (by simp) kQ):Q:=h p
theorem G2 {P Q:Prop} (p:P) (h:P→Q:=by intro kQ;exact aj (N:=18) (l:=[.agg #[.bool a.neg,.string a.aY,.int .i64 a.e]]) Tryz.func13 rfl rfl (by simp) kQ):Q:=h p
theorem LM {P Q:Prop} (p:P) (h:P→Q:=by intro kQ;exact aj (N:=49) (l:=[.agg #[.slice f.A f.n f.a,.slice f.B f.m f.b]]) Tryz.func6 rfl rfl (by simp) kQ):Q:=h p
theorem CM {P Q:Prop} (p:P) (h:P→Q:=by intro kQ;exact a9 (aa (cT (aq (ai (ah (ar (sr (bo kQ))))))))):Q:=h p
theorem Eu {P Q:Prop} (p:P) (h:P→Q:=by intro kQ;exact bY aJ.out rfl ((s1.ext hh.below).tN hgd) Yp kQ):Q:=h p
theorem ME {P Q:Prop} (p:P) (h:P→Q:=by intro kQ;exact a9 (aa (ah (cF (aX (aE (aE (bA (ai (ah (sr kQ))))))))))):Q:=h p
theorem RJ {p:Prop} (h:p:=by
  refine gu ?_;refine a8 (mI (aD (ai ?_)));exact yV):p:=h
theorem Rh {p:Prop} (h:p:=by
  refine mB ?_;refine gS (gS ?_);refine gi ?_;refine mB ?_;refine gS (gS ?_);refine gi ?_;exact Tu):p:=h
theorem SG {p:Prop} (h:p:=by
  refine ⟨⟨i+1,Yo,rfl,hh⟩,by show (n-m/64)-(i+1)<(n-m/64)-i;omega, ?_⟩;exact er):p:=h
theorem Rx {p:Prop} (h:p:=by
  refine aa (sr (mI ?_));refine a8 (mL (aM ?_));refine a9 (mB ?_);refine gS (gS (gS ?_));refine fK ?_;exact SE):p:=h
theorem SK {p:Prop} (h:p:=by
  refine eA ?_;refine fC (i:=4) Yq rfl ?_;refine cJ (k:=1) bG.out aJ.size rfl rfl Yo Yo Yp ?_;exact Tc):p:=h
theorem R3 {p:Prop} (h:p:=by
  refine eA ?_;refine fC (i:=2) Yq rfl ?_;refine bg hh 3 [_,_] ?_;intro ws hh;replace hh:Hp _ (_::_::_::.blk _ _ [_,_] _::_) _:=hh;exact Sm):p:=h
theorem SN {p:Prop} (h:p:=by
  refine ay (hpu _ (hT.hp hh) hh.below) au.out rfl Yp ?_;rintro e_ w51 ⟨g,og,rfl,h3⟩;refine ⟨_,rfl, ?_⟩;replace hh:=hh.join h3;simp only [YB,Yz] at hh;refine cx ?_;refine cx ?_;exact Q9):p:=h
theorem Sq {p:Prop} (h:p:=by
  refine aa (cT (aq (ai (ar (sr (mI ?_))))));refine sW (b:=1) rfl rfl Yo Yp ?_;refine aI (aa (sr (mI (mI ?_))));refine fM rfl rfl Yp ?_;refine aI (aa (sr (mI ?_)));refine dF (aa (cT (aX ?_)));refine Uh Yp ?_;refine aE (bA (ai ?_));rw [hqd,hdn];refine ⟨⟨rfl,hh⟩, ?_⟩;exact er):p:=h
theorem Sx {p:Prop} (h:p:=by
  refine aa (cT (aq (ai (ar (sr (mI ?_))))));refine sW (b:=1) rfl rfl Yo Yp ?_;refine aI (aa (sr (mI (mI ?_))));refine fM rfl rfl Yp ?_;refine aI (aa (sr (mI ?_)));refine dF (aa (cF (aq (bz (ai ?_)))));rw [hqd,hrd];refine ⟨⟨q-1,rh+y1,rfl,rfl,hI2,hr3,hh⟩,by show ((q-1:Nat):Int).toNat<(q:Int).toNat;omega, ?_⟩;exact er):p:=h
theorem R5 {p:Prop} (h:p:=by
  refine eA ?_;refine fC (i:=3) Yq rfl ?_;refine bJ hh 3 [_,_] ?_;exact Vh):p:=h
theorem S6 {p:Prop} (h:p:=by
  refine tD bG.out bG.out bG.out rfl (hh.az (i:=0) rfl) Yp ?_;exact E0):p:=h
theorem Ss {p:Prop} (h:p:=by
  refine ⟨⟨i+1,_,Yo,rfl,hS3.symm,hh⟩,by show n-(i+1)<n-i;omega, ?_⟩;exact er):p:=h
theorem RK {p:Prop} (h:p:=by
  refine aa (cT (sr (aB (aa (av (bU (aF (aF (bU (aF ?_))))))))));exact Ui):p:=h
theorem Sh {p:Prop} (h:p:=by
  refine ⟨⟨j+1,Yo,rfl,hh⟩,by show d-i+1-(j+1)<d-i+1-j;omega, ?_⟩;exact er):p:=h
theorem Si {p:Prop} (h:p:=by
  exact ⟨_,_,by rw [e1],by rw [e1,e2];exact hh.sub (Yv _ (Zx _))⟩):p:=h
theorem SO {p:Prop} (h:p:=by
  rw [Z4];split
  ·exact List.nodup_nil
  ·exact aaa.2 ⟨by simp,List.nodup_nil⟩):p:=h
theorem LA {p:Prop} (h:p:=by
  exact ⟨none,0,0,rfl,(hh.sub (Zx _)).dm _ _⟩):p:=h
theorem HY {p:Prop} (h:p:=by
  refine gi ?_;refine aa (cT (sr ?_));exact QV):p:=h
theorem Ta {p:Prop} (h:p:=by
  refine qz ?_;exact ⟨rfl,hh.below⟩):p:=h
theorem Rs {p:Prop} (h:p:=by
  refine Ja ?_;exact ⟨rfl,hh.below⟩):p:=h
theorem My {p:Prop} (h:p:=by
  rw [ZL,Array.getElem?_replicate];split<;>rfl):p:=h
theorem SC {p:Prop} (h:p:=by
  refine B6 ?_;exact ⟨rfl,hh.below⟩):p:=h
theorem RN {p:Prop} (h:p:=by
  refine JN (cj rfl (cf (vs:=[_,_,_,_,_,_]) aJ.out (hh.aQ (i:=0) (n:=6) rfl rfl) rfl) dw) ?_;exact ⟨rfl,hh.below⟩):p:=h
theorem Ro {p:Prop} (h:p:=by
  refine ⟨⟨k+1,Yo,rfl,by rw [aw hc,Ky,hm];simpa using h8,rfl⟩,by show s.size-(k+1)<s.size-k;omega, ?_⟩;exact er):p:=h
theorem RD {p:Prop} (h:p:=by
  refine ⟨⟨i,_,_,Yo,rfl,by rw [d1];rfl,by rw [d1];exact hh⟩,by show ((i:Int)-1+1).toNat<((i:Int)+1).toNat;omega, ?_⟩;exact er):p:=h
theorem Rg {p:Prop} (h:p:=by
  refine Ib (cj rfl (cf (vs:=[_,_,_]) aJ.out (hh.aQ (i:=0) (n:=3) rfl rfl) rfl) (eB (fg rfl) dw)) ?_;exact ⟨rfl,hh.below⟩):p:=h
theorem SP {p:Prop} (h:p:=by
  refine mV ?_;refine dS (dS (dS (dS (dS ?_))));refine pd (i:=18) rfl (fun ρ1 w1 hj hR=>(show ρ1 33=Value.bool _ from hR.2.2.1)) Yp ?_;refine KT ?_;exact XL):p:=h
theorem Rj {p:Prop} (h:p:=by
  refine eA ?_;refine fC (i:=2) Yq rfl ?_;refine bg hh 4 [_,_] ?_;intro ws hh;replace hh:Hp _ (_::_::_::_::.blk _ _ [_,_] _::_) _:=hh;exact U9):p:=h
theorem R6 {p:Prop} (h:p:=by
  refine a8 (mI (aD (ai ?_)));refine ⟨⟨i+1,g,Yo,rfl,rfl,hs0,Yo,Yo,hh.sub (Zx _)⟩,by show n-(i+1)<n-i;omega, ?_⟩;exact er):p:=h
theorem Sf {p:Prop} (h:p:=by
  refine aj (N:=9) (l:=[.int .i64 v]) Tryz.func114 rfl rfl (by simp) ?_;refine sr (aB (aa (sr (mI ?_))));refine dF (mB (gT (mI (gT ?_))));refine EB ?_;refine gi ?_;exact xW):p:=h
theorem Ir {p:Prop} (h:p:=by
  refine dF (aB (aa (av ?_)));refine dH ?_;exact ⟨rfl,hh.below⟩):p:=h
theorem SI {p:Prop} (h:p:=by
  refine zn ?_;refine a8 (aI (aD (ai ?_)));refine ⟨⟨j+1,Yo,rfl,hh⟩,by show f.n-(j+1)<f.n-j;omega, ?_⟩;exact er):p:=h
theorem Sg {p:Prop} (h:p:=by
  refine mB ?_;refine gS (gS ?_);refine jR ?_;refine gi ?_;exact Rh):p:=h
theorem RG {p:Prop} (h:p:=by
  refine IM ?_;exact ⟨g,og,rfl,hh.sub (Yv _ (Zx _))⟩):p:=h
theorem RL {p:Prop} (h:p:=by
  refine mB ?_;refine gS (gS ?_);refine jR ?_;refine gS (gS (gS ?_));refine fK ?_;refine wO ?_;refine bJ hh 0 [_,_] ?_;exact M6):p:=h
theorem Sw {p:Prop} (h:p:=by
  have hik:i=k:=by
   rcases Zb i k with h|h
   ·exact absurd ⟨i,h,h2,h3⟩ hex
   ·omega
  subst hik;refine ⟨i,h2,h3,fun j hj=> ?_⟩
  cases hc2:L.getD j false with
  |true=>rfl
  |false=>exact absurd ⟨j,hj,Yo,hc2⟩ hex):p:=h
theorem SD {p:Prop} (h:p:=by
  have h1:L.toList.countP (fun b=>b)=L.toList.length:=by
   have:=hI.ls;simp only [Array.length_toList];omega
  have h2:=List.countP_eq_length.1 h1;have h3:i<L.size:=by rw [hI.ls,hnn];exact hi
  have:=h2 L[i] (by simp);simpa [h3] using this):p:=h
theorem Ms {p:Prop} (h:p:=by
  refine bg hh 0 [_,_,_] ?_;intro ws hh;replace hh:Hp _ (.blk _ _ [_,_,_] _::_) _:=hh;refine aa (av (aF ?_));exact X4):p:=h
theorem K7 {p:Prop} (h:p:=by
  intro A7 c7 w7 hh;simp only [YG] at hh;rw [YZ] at hh ⊢;rw [Yz] at hh;refine aL (aa (av ?_));exact MS):p:=h
theorem S8 {p:Prop} (h:p:=by
  refine mB ?_;refine jR ?_;refine gS ?_;refine jR ?_;refine jR ?_;refine gS ?_;refine fK ?_;refine qX ?_;refine bJ hh 1 [_,_,_] ?_;exact DF):p:=h
theorem Sv {p:Prop} (h:p:=by
  refine bg hh 1 [_,_] ?_;intro ws hh;replace hh:Hp _ (_::.blk _ _ [_,_] _::_) _:=hh;refine gu ?_;refine a8 (mI (aD (ai ?_)));replace hh:=hh.sub (Zc _ _);refine ⟨⟨i+1,_,_,Yo,rfl,hS3.symm,hpl,by unfold IR.v at hba ⊢;omega,hh⟩,by show n-(i+1)<n-i;omega, ?_⟩;exact er):p:=h
theorem Tc {p:Prop} (h:p:=by
  refine eA ?_;refine fC (i:=5) Yq rfl ?_;refine cg (vs:=[_,_]) aJ.out rfl (hh.dT (f:=FX.cells) (x:=y) (l:=[x,y]) (i:=0) rfl FX.len Yp hy0) rfl Yp ?_;exact U7):p:=h
theorem yV {p:Prop} (h:p:=by
  refine ⟨⟨i+1,Yo,rfl,hh⟩,by show n-(i+1)<n-i;omega, ?_⟩;exact er):p:=h
theorem SE {p:Prop} (h:p:=by
  refine y3 ?_;refine a8 (mI (aD (ai ?_)));rw [e1,hac,←hnew] at hh;exact SG):p:=h
theorem SS {p:Prop} (h:p:=by
  refine eA ?_;refine jL 4 Yp Yq Yp Yq Yq ?_;refine bg hh 0 [_,_] ?_;intro ws hh;replace hh:Hp _ (.blk _ _ [_,_] _::_) _:=hh;refine aB (aa (av ?_));refine JZ (cj rfl (cf (vs:=[_,_]) aJ.out (hh.aQ (i:=1) (n:=2) rfl rfl) rfl) (cj rfl (cf (vs:=[_,_]) aJ.out (hh.aQ (i:=0) (n:=2) rfl rfl) rfl) (eB (l4 rfl) dw))) ?_;exact ⟨_,_,rfl,hh.below⟩):p:=h
theorem DG {p:Prop} (h:p:=by
  refine bg hh 0 [_,_] ?_;intro ws hh;replace hh:Hp _ (.blk _ _ [_,_] _::_) _:=hh;refine aa (av (aF ?_));exact Xg):p:=h
theorem Q9 {p:Prop} (h:p:=by
  refine bg hh 2 [_,_] ?_;intro ws hh;replace hh:Hp _ (_::_::.blk _ _ [_,_] _::_) _:=hh;refine aI (aa (av ?_));refine pJ ?_;exact UO):p:=h
theorem S5 {p:Prop} (h:p:=by
  have hil:i<l.length:=Yo;have hE:=hedge i hil;have ho:l.toArray[i]?=some l[i]:=by simp [hil]
  rw [ho] at hE;have hmem:i∈Region.ready .any l.toArray L:=(hready_spec i).2 ⟨hil,by
   have h3:i<L.size:=by rw [hI.ls,hnn];exact hil
   rw [ZL] at hu ⊢;rw [aaD h3] at hu ⊢;simpa using hu,l[i],ho,fun e he hb=>by
   have:=abJ.1 hE e he;simp only [hb,abb,Zd,YX] at this;exact hlow _ this⟩
  rw [hnil] at hmem
  cases hmem):p:=h
theorem Q6 {p:Prop} (h:p:=by
  have hq:q<4294967296:=Yo;have hdn:=yu b1 b0 hI Yo;rw [←hyy] at hdn;have hqy:=hqy hq;refine ah (sr (mI ?_));refine dF (mB (gT (mI (gT (mI (gT ?_))))));refine gO rfl rfl Yp ?_;refine gT (mI (gT ?_));refine gO (a:=4294967296) rfl rfl Yp ?_;refine gT (mI (gT ?_));refine fM rfl rfl Yp ?_;refine gT ?_;refine bT ?_;refine fK ?_;refine aa (cF (aX (aE (aE (bA (ai ?_))))));refine ⟨⟨Ze (fun n:Nat=>Value.int IntKind.u64 n) hdn,hh⟩, ?_⟩;exact er):p:=h
theorem R7 {p:Prop} (h:p:=by
  refine bC hh ?_;intro b4 w4 hh;refine bg hh 0 [_,_] ?_;intro ws hh;replace hh:Hp _ (.blk _ _ [_,_] _::_) _:=hh;refine aa (sr ?_);refine bJ hh 0 [_,_] ?_;refine yh ?_;intro w13 hh;refine aI (aa (sr (mI ?_)));refine dn (aa (cF (aq (bz (ai (ak ?_))))));refine a8 (mI (aD (ai ?_)));replace hh:=hh.sub (Yw _ (Yv _ YR));refine ⟨⟨i+1,Yo,rfl,by rw [aw hx,aaU,hall,aa0,aa3,YS Yo];rfl,hh⟩,by show n-(i+1)<n-i;omega, ?_⟩;exact er):p:=h
theorem Ry {p:Prop} (h:p:=by
  refine Nm ?_;refine il ?_;refine NI ?_;intro ws hh;simp only [YG] at hh;rw [hand,es,YV,de (by rw [hll];omega),re,←b1,hfk] at hh;refine aa (ak (mI ?_));refine m0 (s:=1) (m:=2) rfl rfl Yp Yp Yp ?_;refine aI (aD (bz (ai (ak (mI ?_)))));refine a8 (aI (aD (ai ?_)));rw [es];refine ⟨⟨i+1,Yo,rfl,by rw [b2];rfl,hh⟩,by show K-(i+1)<K-i;omega, ?_⟩;exact er):p:=h
theorem Rb {p:Prop} (h:p:=by
  intro w24 hh;refine bj hh (hs _ (hT.hp hh)) rfl ?_;intro w25 hh;refine rW ?_;intro b26 w26 hh;refine pB ?_;intro A27 c27 w27 hh;simp only [YG,Y8] at hh;replace hh:=hh.sub (Zc _ _);refine tg ?_;refine a8 (aI (aD (ai ?_)));refine ⟨⟨i+1,c27,A27,Yo,rfl,rfl, ?_⟩,by show n-(i+1)<n-i;omega, ?_⟩
  ·rw [he,bM];exact hh
  ·exact er):p:=h
theorem Sm {p:Prop} (h:p:=by
  refine eA ?_;refine jL 3 Yp Yq Yp Yq Yq ?_;refine bg hh 2 [_,_] ?_;intro ws hh;replace hh:Hp _ (_::_::.blk _ _ [_,_] _::_) _:=hh;refine aB (aa (av ?_));refine JZ (cj rfl (cf (vs:=[_,_]) aJ.out (hh.aQ (i:=3) (n:=2) rfl rfl) rfl) (cj rfl (cf (vs:=[_,_]) aJ.out (hh.aQ (i:=2) (n:=2) rfl rfl) rfl) (eB (l4 rfl) dw))) ?_;exact ⟨rfl,hh.below⟩):p:=h
theorem RZ {p:Prop} (h:p:=by
  refine aK 13 [[(2,none)],[(24,some 0)],[(2,none)],[(26,some 2)],[(3,none)],[(28,some 4)],[(27,some 3),(29,some 5)],[(25,some 1),(30,some 6)],[(3,none)],[(32,some 8)],[(31,some 7),(33,some 9)],[(3,none)],[(35,some 11)]] [(12,36),(11,35),(10,34),(9,33),(8,32),(7,31),(6,30),(5,29),(4,28),(3,27),(2,26),(1,25),(0,24)] hh mixed Yq ?_;refine dR ?_;refine dK 2 [_,_] ?_;refine dR ?_;refine fW 2 ?_;refine dR ?_;refine fW 1 ?_;refine tZ ?_;refine dC (fun _ hj=>hshl _) ?_;refine dR ?_;refine dK 1 [_,_] ?_;refine dC (fun _ hj=>hpl _) ?_;refine dR ?_;refine fW 1 ?_;refine aH ?_;intro f W hJ hV;have hb_8:=hJ.bl;obtain ⟨v36,v35,v34,v33,v32,v31,v30,v29,v28,v27,v26,v25,v24,_⟩:=hV;replace hh:=hJ.hp;refine aN (a6 (ae v36 (ae v35 (ae v34 (ae v33 (ae v32 (ae v31 (ae v30 (ae v29 (ae v28 (ae v27 (ae v26 (ae v25 (ae v24 aO)))))))))))))) ?_;dsimp only [bP];clear hJ;refine bj hh (hmk _) rfl ?_;intro w37 hh;exact DF):p:=h
theorem Rm {p:Prop} (h:p:=by
  refine eA ?_;refine fC (i:=8) Yq rfl ?_;refine gU (hsm _ (hT.hp hh)) au.out rfl rfl Yp ?_;rintro e_ w41 ⟨rfl,hb_⟩;refine ⟨_,rfl, ?_⟩;replace hh:=hh.ext hb_;refine eA ?_;refine fC (i:=9) Yq rfl ?_;refine D6 ?_;intro b42 w42 hh;refine eA ?_;refine fC (i:=10) Yq rfl ?_;refine pB ?_;intro A43 c43 w43 hh;simp only [YG,Y8] at hh;replace hh:=hh.sub (Zc _ _);refine eA ?_;refine jL 15 Yp Yq Yp Yq Yq ?_;refine aL (aL (aL (aD (bz (bz (ai ?_))))));replace hh:=hh.sub (Yv _ YR);refine ⟨⟨_,n-1,c-1,X,_,m-1,c2-1,Y,O++[⟨x.m,nR (x.c.d+y.c.d)⟩],A43,c43,rfl,rfl, ?_,Yo,Yo,hSt,hSt2,hmg.both h1 h2 hk, ?_⟩,by show (n-1)+(m-1)<n+m;omega, ?_⟩
  ·exact Wn
  ·rw [YE,bM];exact hh
  ·exact er):p:=h
theorem Cl {p:Prop} (h:p:=by
  refine gU (hc _ hh.below) au.out rfl rfl Yp ?_;rintro e_ w16 ⟨rfl,hb_⟩;refine ⟨_,rfl, ?_⟩;replace hh:=hh.ext hb_;refine y3 ?_;refine a8 (mI (aD (ai ?_)));refine ⟨⟨i+1,Yo,rfl,by rw [aw hz,aaU,hall,aa0,aa3,gz];rfl,hh⟩,by show n-(i+1)<n-i;omega, ?_⟩;exact er):p:=h
theorem Sd {p:Prop} (h:p:=by
  obtain ⟨hq1,hI2⟩:=J9 b1 Yo Yo hI hb;have hqd:(q+18446744073709551616-1) % 18446744073709551616=q-1:=Yo;have hrd:(rh+y1) % 18446744073709551616=rh+y1:=Yo;by_cases hr2:4294967296≤rh+y1
  ·have hdn:=Fs b1 b0 hI2 Yo hr2;rw [←hyy] at hdn;by_cases hq:4294967296≤q
   ·refine ah (sr (mI ?_));refine dF (mB ?_);refine gS (gS (gS (gS (gS (gS (gS (gS ?_)))))));refine gi ?_;exact Sq
   ·have hqy:=hqy Yo;refine ah (sr (mI ?_));refine dF (mB (gT (mI (gT (mI (gT ?_))))));refine gO rfl rfl Yp ?_;refine gT (mI (gT ?_));refine gO (a:=4294967296) rfl rfl Yp ?_;refine gT (mI (gT ?_));refine fM rfl rfl Yp ?_;refine gT ?_;refine bT ?_;refine fK ?_;exact Sq
  ·have hr3:rh+y1<4294967296:=Yo;by_cases hq:4294967296≤q
   ·refine ah (sr (mI ?_));refine dF (mB ?_);refine gS (gS (gS (gS (gS (gS (gS (gS ?_)))))));refine gi ?_;exact Sx
   ·have hqy:=hqy Yo;refine ah (sr (mI ?_));refine dF (mB (gT (mI (gT (mI (gT ?_))))));refine gO rfl rfl Yp ?_;refine gT (mI (gT ?_));refine gO (a:=4294967296) rfl rfl Yp ?_;refine gT (mI (gT ?_));refine fM rfl rfl Yp ?_;refine gT ?_;refine bT ?_;refine fK ?_;exact Sx):p:=h
theorem SJ {p:Prop} (h:p:=by
  unfold pj;rw [hsl,hgd,hns,aa8,aaS,Y5]
  rfl):p:=h
theorem S7 {p:Prop} (h:p:=by
  exact Ze (Value.int IntKind.i64) (show (n:Int)-1=(n:Int)-1-(0:Nat) by omega)):p:=h
theorem Su {p:Prop} (h:p:=by
  refine ⟨by grind,fun x hx=> ?_⟩
  rcases YH.1 hx with rfl|hx
  ·grind
  ·exact h2 x hx):p:=h
theorem RE {p:Prop} (h:p:=by
  rw [ZC Yo,hl,Zn,ZW,ZM,hx]):p:=h
theorem SW {p:Prop} (h:p:=by
  have h1:bN m≠0:=fun h=>h0 (by rw [h,kE]);rw [YN h1];exact ⟨rfl,hh.below⟩):p:=h
theorem RP {p:Prop} (h:p:=by
  refine aS (aB (aa (av ?_)));refine yf ?_;rw [YN Yo];exact ⟨rfl,hh.below⟩):p:=h
theorem Mb {p:Prop} (h:p:=by
  have:=hI.vs p.1 p.2 h1 (hall _ h1) h2;rw [h2];exact this):p:=h
theorem Rr {p:Prop} (h:p:=by
  by_cases hjm:j=μ
  ·subst hjm;rw [eμ] at hu ⊢;exact hst u w1 w2 hu hv.1
  ·exact hsw j hjm u w1 w2 hu):p:=h
theorem SH {p:Prop} (h:p:=by
  refine dH ?_;rw [←hcut,YE,YM,ZK Yo];exact ⟨rfl,hh.below⟩):p:=h
theorem RW {p:Prop} (h:p:=by
  have h1:bN m=0:=by rw [←kE] at h0;exact Fm h0
  rw [YS Yo];exact ⟨rfl,hh.below⟩):p:=h
theorem SU {p:Prop} (h:p:=by
  induction xs generalizing ys c with
  |nil=>exact Dg.nil
  |cons x xs ih=>exact Dg.cons (YU _ hB) (ih _ _)):p:=h
theorem Sa {p:Prop} (h:p:=by
  intro ρ1 w1 hj hR;exact let ⟨g,u,e1,e2⟩:=hR.1;fI rfl (eM (vs:=[_,_]) e1 rfl) ⟨Below.refl _ _,rfl⟩):p:=h
theorem SF {p:Prop} (h:p:=by
  refine aS (aa (av ?_));refine dH ?_;rw [YC Yo] at hT;rw [hT];exact ⟨rfl,hh.below⟩):p:=h
theorem R1 {p:Prop} (h:p:=by
  rw [show (18446744073709551616:Nat)=2^64 from rfl,←Zk];exact Zf Yo Yo):p:=h
theorem OJ {p:Prop} (h:p:=by
  rw [jB Yo (gP Yo _ _),cX hbd]):p:=h
theorem N2 {p:Prop} (h:p:=by
  exact ⟨PX.nil,iy.err he,rfl,(hh.sub (Zx _)).KH⟩):p:=h
theorem Sy {p:Prop} (h:p:=by
  exact Ze (Value.int IntKind.i64) (show (n:Int)-1-(k:Int)-1=(n:Int)-1-((k+1:Nat):Int) by omega)):p:=h
theorem R4 {p:Prop} (h:p:=by
  intro ρ1 w1 hj hR;exact let ⟨g,u,e1,e2⟩:=hR.1;fI rfl (eM (vs:=[_,_]) e1 rfl) ⟨Below.refl _ _,g,u,rfl,e2⟩):p:=h
theorem Wn {p:Prop} (h:p:=by
  show Value.slice _ (O.length+1) _=Value.slice _ (O++[(⟨x.m,nR (x.c.d+y.c.d)⟩:TR)]).length _;rw [YE]
  rfl):p:=h
theorem RI {p:Prop} (h:p:=by
  have:=xi n zc;rw [hzl] at this;unfold madeCells;rw [hzc];have e2:zc.toArray.size=sz:=by simpa using hzl
  rw [e2,this]):p:=h
theorem Iq {p:Prop} (h:p:=by
  rw [hd] at h1;rw [hd];exact ⟨_,_,rfl,h1,hh.below⟩):p:=h
theorem Sb {p:Prop} (h:p:=by
  refine aI (aa (sr (mI ?_)));refine dn (aa (cT (sr (mI (aI (aa (av (aF ?_))))))));refine dH ?_;exact ⟨rfl,hh.below⟩):p:=h
theorem Q7 {p:Prop} (h:p:=by
  unfold Program.cellsOf at hc
  cases hi:P.info? fd.type with
  |none=>simp [hi] at hc
  |some i=>exact ⟨i,rfl,by simpa [hi] using hc⟩):p:=h
theorem OP {p:Prop} (h:p:=by
  cases rest with
  |nil=>simp at hlen;omega
  |cons x r=>exact ⟨x,r,rfl⟩):p:=h
theorem N9 {p:Prop} (h:p:=by
  have:=hready (k-m) Yo;rwa [show m+(k-m)=k by omega] at this):p:=h
theorem Vn {p:Prop} (h:p:=by
  have h2:=hD (i+1) e (by simpa using he);refine ⟨h2.1,fun t ht=> ?_⟩;have h3:=h2.2 t (mf t ht);rwa [show j+1+i=j+(i+1) by omega]):p:=h
theorem VA {p:Prop} (h:p:=by
  obtain ⟨z,hz,hzb⟩:=ZE.1 hm;obtain ⟨o',h3,h4⟩:=qV (hs.own z hz) (hc z hz) hzb;rw [h1] at h3
  cases h3
  rw [h2] at h4
  cases h4):p:=h
theorem Qx {p:Prop} (h:p:=by
  rw [ho] at ho';injection ho' with ho';subst ho';exact hed):p:=h
theorem Ui {p:Prop} (h:p:=by
  refine dH ?_;exact ⟨_,rfl,fun h=>(by cases h),hh.below⟩):p:=h
theorem V4 {p:Prop} (h:p:=by
  refine ⟨Yo, ?_⟩;by_cases hc:x0+2^i*(x1 % 2)<y0+2^i*(y1 % 2)
  ·rw [Yt hc];rw [hlt] at hc;omega
  ·rw [Yu hc];rw [hlt] at hc;omega):p:=h
theorem Tp {p:Prop} (h:p:=by
  rw [Int.sign_eq_zero_iff_zero];exact ⟨fun h=>by unfold NR.d;rw [h];rfl,tW⟩):p:=h
theorem Us {p:Prop} (h:p:=by
  rcases aac n with h|h
  ·exact h
  ·obtain ⟨_,h1,_⟩:=hS.2 h;cases h1):p:=h
theorem T4 {p:Prop} (h:p:=by
  obtain ⟨y,hy,hyb⟩:=ZE.1 hm;have:=(eU (hs.own y hy) hyb).2;omega):p:=h
theorem Th {p:Prop} (h:p:=by
  refine BK ?_;refine dH ?_;exact ⟨rfl,hh.below⟩):p:=h
theorem TV {p:Prop} (h:p:=by
  refine dn (aB (aa (av ?_)));refine dH ?_;exact ⟨by rw [YN hg],hh.below⟩):p:=h
theorem VQ {p:Prop} (h:p:=by
  refine a9 (aa (cT (sr (aS (aB (aa (av (aF ?_))))))));refine yf ?_;rw [Nat.sub_eq_zero_of_le Yo,YS Yo,kE];exact ⟨rfl,hh.below⟩):p:=h
theorem Nj {p:Prop} (h:p:=by
  rw [YJ,ZF Yo]
  rfl):p:=h
theorem Uu {p:Prop} (h:p:=by
  refine dn (aB (aa (av ?_)));refine dH ?_;exact ⟨by rw [YS Yo],hh.below⟩):p:=h
theorem Vk {p:Prop} (h:p:=by
  have e1:(O++X++Y).length=O.length+n+m:=by rw [YE,YE];omega
  exact ⟨O++X++Y,A74,c74,hd,by rw [e1],by rw [e1,bM,bM];exact hh⟩):p:=h
theorem U3 {p:Prop} (h:p:=by
  refine aa (cT (sr (aS (aI (aa (av (aF (bU (aF (aF (bU (aF ?_))))))))))));refine yf ?_;obtain ⟨e1,e2⟩:=Tj hx (by simp [eC];omega);rw [e1,e2];exact ⟨rfl,hh.below⟩):p:=h
theorem VX {p:Prop} (h:p:=by
  refine sr ?_;refine Ly ?_;refine dH ?_;exact ⟨_,_,rfl,hh.sub (Yv _ (Zx _))⟩):p:=h
theorem V3 {p:Prop} (h:p:=by
  refine ah (sr (mI (bo ?_)));refine bp hh 1 ?_;refine aM ?_;refine a9 (aa (cF (aX (aE (aE (bA (ai (sr (mI ?_)))))))));refine bT (aB (aa (av ?_)));refine dH ?_;exact ⟨_,rfl,hh.below⟩):p:=h
theorem V6 {p:Prop} (h:p:=by
  refine JZ (cj rfl (cf (vs:=[_,_,_,_,_,_,_,_]) aJ.out (hh.aQ (i:=2) (n:=8) rfl rfl) rfl) (eB (fg rfl) (eB (fg rfl) dw))) ?_;exact LA):p:=h
theorem VV {p:Prop} (h:p:=by
  refine xx rfl (aC (FR rfl) (aC (FR rfl) bh)) Yp ?_;refine kW (by first|exact uF rfl|exact ur rfl) Yp ?_;refine aa (av ?_);refine dH ?_;exact ⟨_,_,rfl,hh⟩):p:=h
theorem VJ {p:Prop} (h:p:=by
  refine ck bG.out rfl Yp ?_;refine mI ?_;refine Ha rfl rfl Yp ?_;refine aB (aa (av ?_));refine dH ?_;rw [YC (by rw [←fJ];omega)] at hm;rw [hm];exact ⟨rfl,Below.refl _ _⟩):p:=h
theorem Wm {p:Prop} (h:p:=by
  have h1:(Op.equal 33 (.agg #[.bool s,.string a,.int .i64 e]) (.agg #[.bool s',.string a',.int .i64 e'])).run Tryz.prog w=.ok r w:=by rw [←hr];exact NC 9997 s s' a a' e e' w
  simp only [execOp,hx,hy];simp [eqGuard,binOp,h1]):p:=h
theorem UM {p:Prop} (h:p:=by
  intro ρ1 w1 hj hR;exact let ⟨g,u,e1,e2⟩:=hR.1;fI rfl (eM (vs:=[_,_,_]) e1 rfl) ⟨Below.refl _ _,g,u,rfl,e2⟩):p:=h
theorem UY {p:Prop} (h:p:=by
  have h1:M<256^(aR 256 M).length:=m8 Yo M;rw [LS Yo h1,Zn,aby,Y7,KK (fun d hd=>(eW (B:=256) Yo M).1 d (aau.1 hd)),sb,List.map_reverse]):p:=h
theorem V8 {p:Prop} (h:p:=by
  rw [htk,hpt,hsd] at htc;refine ay (htc) au.out rfl Yp ?_;rintro e_ w_ ⟨rfl,hh⟩;refine ⟨_,rfl, ?_⟩;refine aa (sr (mI (aI (aa (av ?_)))));refine dH ?_;exact ⟨rfl,hh.sub (.cons_cons _ (.cons _ (.cons _ (Zq _))))⟩):p:=h
theorem Vs {p:Prop} (h:p:=by
  rintro e a' w' ⟨ρ',hf',hq⟩;have e1:(fun i=>a.tmps.getD i undef)=ρ:=funext hf.at_;have e2:(fun i=>a'.tmps.getD i undef)=ρ':=funext hf'.at_
  cases e with
  |normal=>exact ⟨⟨ρ',hf',hq.1⟩,by rw [e1,e2];exact hq.2⟩
  |_=>exact ⟨ρ',hf',hq⟩):p:=h
theorem Wo {p:Prop} (h:p:=by
  have h1:z.natAbs=y.natAbs*2^j:=by rw [←hyz,aan,aaN];rfl
  have h2:y.natAbs*1≤y.natAbs*2^j:=Y4 _ (YY Yo);have h3:bE y.natAbs≤8*a.size:=dy Yo;rw [kf];omega):p:=h
theorem Tw {p:Prop} (h:p:=by
  refine aa (cT (sr (aI (aa (av (aF (bU (aF (aF (bU (aF ?_)))))))))));refine dH ?_;exact ⟨by rw [hc],hh.below⟩):p:=h
theorem VR {p:Prop} (h:p:=by
  rw [Zn,aby,Y7] at hh;refine ah (sr (mI (mL (aM ?_))));refine a9 (aa (cF (aX (aE (aE (bA (ai (sr (mL (aL (aa (av ?_))))))))))));refine dH ?_;exact ⟨_,rfl,hh.at_ (i:=0) rfl,hh.below⟩):p:=h
theorem Ps {p:Prop} (h:p:=by
  rw [ZL] at hun ⊢;rw [aaD hiL] at hun ⊢;simpa using hun):p:=h
theorem VC {p:Prop} (h:p:=by
  refine bg hh 1 [_,_,_,_,_,_] ?_;intro ws hh;replace hh:Hp _ (_::.blk _ _ [_,_,_,_,_,_] _::_) _:=hh;refine aa (av ?_);refine JN (cj rfl (cf (vs:=[_,_,_,_,_,_]) aJ.out (hh.aQ (i:=1) (n:=6) rfl rfl) rfl) dw) ?_;exact ⟨rfl,hh.below⟩):p:=h
theorem T8 {p:Prop} (h:p:=by
  refine aa1 fun hn=>hall fun i hi=> ?_
  cases hc2:L.getD i false with
  |true=>rfl
  |false=>exact absurd ⟨i,hi,hc2⟩ hn):p:=h
theorem Ut {p:Prop} (h:p:=by
  refine full L a w (fuel+1) hI hall ?_;have hL:L=jY l.length m:=uq (by rw [hI.ls,hnn]) hml hall hI.tl;rw [hL,Ga] at hc;omega):p:=h
theorem V7 {p:Prop} (h:p:=by
  have hr0:rest=[]:=aai Yo;subst hr0;refine sr ?_;refine a9 (aa (ah (cF (aX (aE (aE (bA ?_)))))));refine Pf (by first|exact .inr rfl|exact .inl rfl) rfl  ?_;rw [Y7,iz,Y7] at*;rw [←heq];exact ⟨rfl,hh⟩):p:=h
theorem To {p:Prop} (h:p:=by
  intro ρ1 w1 hj hR;exact bV rfl (bf au.out (aC rfl (aC rfl bh))) (uJ 1 0 P1 _ rfl) (fun _ _ ⟨v,hq,hp,hb⟩=>⟨v,hq,hb,hp⟩)):p:=h
theorem VW {p:Prop} (h:p:=by
  rw [hu];refine bg hh 1 [_,_] ?_;intro ws hh;replace hh:Hp _ (_::.blk _ _ [_,_] _::_) _:=hh;refine aa (av ?_);refine Ja ?_;rw [YC Yo] at hS2;rw [hS2];exact ⟨rfl,hh.below⟩):p:=h
theorem UL {p:Prop} (h:p:=by
  intro w9 hh;refine ⟨(cj rfl (cf (vs:=[_,_,_]) aJ.out (hh.aQ (i:=0) (n:=3) rfl rfl) rfl) (eB (fg rfl) dw)), ?_⟩;exact ⟨rfl,hh.below⟩):p:=h
theorem O1 {p:Prop} (h:p:=by
  exact Ys):p:=h
theorem Wi {p:Prop} (h:p:=by
  refine bg hh 6 [_,_,_,_,_,_] ?_;intro ws hh;replace hh:Hp _ (_::_::_::_::_::_::.blk _ _ [_,_,_,_,_,_] _::_) _:=hh;refine aI (aa (av (aF ?_)));refine Ib (cj rfl (cf (vs:=[_,_,_,_,_,_]) aJ.out (hh.aQ (i:=6) (n:=6) rfl rfl) rfl) (eB (fg rfl) dw)) ?_;exact ⟨rfl,hh.below⟩):p:=h
theorem Wq {p:Prop} (h:p:=by
  have e2:aA TR.cells (jg l x)=[]++aA TR.cells (l.take i)++[.string x.m,.bool (nR x.c.d).neg,.string (nR x.c.d).aY,.int .i64 (nR x.c.d).e]++aA TR.cells (l.drop i):=by rw [hput,bM,iV,Yz,Y5];rfl
  exact Si):p:=h
theorem Vq {p:Prop} (h:p:=by
  have h16:¬2^24<len*sz:=Yo;have hf':=Be _ _ _ hf;rw [←xi,hzl] at hf';have hzs:zc.toArray.size=sz:=by simpa using hzl
  have hp':=HU parts hp;simp only [execOp,hp',Instr.buildSlice,Sem.run_bind,run_underlying ht,Result.andThen_ok,fT hte,gt_iff_lt,Yu h16,Yu h0,hz,hzc,Sem.run_pure,hzs,hf'];simp [newRow]):p:=h
theorem Vu {p:Prop} (h:p:=by
  refine sr ?_;refine ME ?_;refine bp hh 0 ?_;refine aM ?_;refine cH (mB ?_);refine gS (gS ?_);refine jR ?_;refine gi ?_;refine BK ?_;refine dH ?_;exact ⟨by rw [Yt (.inl Yo)],hh.below⟩):p:=h
theorem VI {p:Prop} (h:p:=by
  split at h
  ·rename_i f hf;have:=List.find?_some hf;simp at this;exact absurd h this
  ·rename_i hf;split at h
   ·cases h
   rename_i hno;refine ⟨fun e=>hno (.inl (by rw [e];rfl)),fun f hm=> ?_,fun f hm=> ?_⟩
   ·have:=List.find?_eq_none.1 hf f hm;simpa using this
   ·apply aa1;intro hne;exact hno (.inr (aae.2 ⟨f,hm,YN hne⟩))):p:=h
theorem E0 {p:Prop} (h:p:=by
  refine aS (aa (av ?_));refine dH ?_;exact ⟨rfl,hh.below⟩):p:=h
theorem Ny {p:Prop} (h:p:=by
  intro ρ1 w1 hj hR;exact let ⟨g,u,e1,e2⟩:=hR.1;fI rfl (fV e1) ⟨Below.refl _ _,g,u,rfl,e2⟩):p:=h
theorem Wp {p:Prop} (h:p:=by
  refine bg hh 1 [_,_,_,_,_,_,_,_] ?_;intro ws hh;replace hh:Hp _ (_::.blk _ _ [_,_,_,_,_,_,_,_] _::_) _:=hh;refine aI (aI (aa (av (aF ?_))));refine JZ (cj rfl (cf (vs:=[_,_,_,_,_,_,_,_]) aJ.out (hh.aQ (i:=1) (n:=8) rfl rfl) rfl) (eB (fg rfl) (eB (fg rfl) dw))) ?_;exact LA):p:=h
theorem UI {p:Prop} (h:p:=by
  refine sr (aL (aa (ah (sr (mL ?_)))));refine uk bG.out rfl rfl Yp ?_;refine aa (cT (sr (aL (aa (av (aF ?_))))));refine dH ?_;exact ⟨_,_,rfl,World.ownsRow_nil _ _ _ _,hh.below⟩):p:=h
theorem VY {p:Prop} (h:p:=by
  refine aa (cT (sr ?_));refine fe [_,_] ?_;refine bg hh 2 [_,_] ?_;intro ws hh;replace hh:Hp _ (_::_::.blk _ _ [_,_] _::_) _:=hh;refine aI (aa (av (aF (bU (aF (aF (bU (aF ?_))))))));refine pJ ?_;exact .inl ⟨.inr ⟨h0,by rw [hr1];decide,by rw [hr1];rfl⟩,hh.below⟩):p:=h
theorem BF {p:Prop} (h:p:=by
  refine aI (aa (av ?_));refine dH ?_;exact ⟨rfl,hh.below⟩):p:=h
theorem U1 {p:Prop} (h:p:=by
  refine sr ?_;refine nj ?_;refine bJ hh 0 [_,_,_] ?_;refine bg hh 1 [_,_,_] ?_;intro ws hh;replace hh:Hp _ (_::.blk _ _ [_,_,_] _::_) _:=hh;refine aa (av ?_);refine JN (cj rfl (cf (vs:=[_,_,_]) aJ.out (hh.aQ (i:=1) (n:=3) rfl rfl) rfl) dw) ?_;rw [YC Yo] at hS2;rw [hS2];exact ⟨rfl,hh.below⟩):p:=h
theorem TT {p:Prop} (h:p:=by
  have h3:=hdep (i-m) Yo;rw [show m+(i-m)=i by omega] at h3;have h4:(i-m==0)=false:=by simp;omega
  rw [h4,Zd] at h3;have:=jc hM hI.cl i m hed' h3;rw [hI.tl m (YA _)] at this
  cases this):p:=h
theorem TK {p:Prop} (h:p:=by
  refine ⟨hI.nd,hI.sz,fun s=> ?_⟩;by_cases hs:∃i,(i,s)∈ds
  ·obtain ⟨i,hi⟩:=hs;rw [(mr _ ds s hnd).1 i hi,(hdsm i s hi).2]
  ·rw [(mr _ ds s hnd).2 fun i hi=>hs ⟨i,hi⟩];exact hI.old s fun i hi _ hd=>hs ⟨i,hpre i s hi hd⟩):p:=h
theorem VU {p:Prop} (h:p:=by
  refine eA ?_;refine jL 4 Yp Yq Yp Yq Yq ?_;refine bg hh 1 [_,_] ?_;intro ws hh;replace hh:Hp _ (_::.blk _ _ [_,_] _::_) _:=hh;refine aB (aa (av ?_));refine JZ (cj rfl (cf (vs:=[_,_]) aJ.out (hh.aQ (i:=2) (n:=2) rfl rfl) rfl) (cj rfl (cf (vs:=[_,_]) aJ.out (hh.aQ (i:=1) (n:=2) rfl rfl) rfl) (eB (l4 rfl) dw))) ?_;exact ⟨_,_,rfl,hh.below⟩):p:=h
theorem Vg {p:Prop} (h:p:=by
  refine aa (cF (aX (aE (aE (bA (ai (ah (sr (mI ?_)))))))));refine dn (aa (cT (sr ?_)));refine fe [_,_] (mI ?_);refine bg hh 2 [_,_] ?_;intro ws hh;replace hh:Hp _ (_::_::.blk _ _ [_,_] _::_) _:=hh;refine aI (aa (av (aF ?_)));refine pJ ?_;exact ⟨PX.nil,iy.err he0,rfl,(hh.sub (Zx _)).KH⟩):p:=h
theorem VN {p:Prop} (h:p:=by
  rw [hod2] at ho;refine sr ?_;refine ME ?_;refine bp hh 0 ?_;refine aM ?_;refine cH (mB (gT ?_));refine bp hh 0 ?_;refine gT ?_;refine vP ?_;refine aG rfl rfl ?_;refine bj hh (ho _ (Below.refl _ _)) rfl ?_;intro w24 hh;refine fK ?_;refine BK ?_;refine dH ?_;exact ⟨by rw [Yt (.inr rfl)],hh.below⟩):p:=h
theorem UX {p:Prop} (h:p:=by
  simp only [cm];rw [←htake];have h5:o+vs.length≤m*sz:=Yo;have h6:m*sz≤cur.toList.length:=by rw [←hcl,hcur];exact hle
  rw [List.take_take,ZK Yo,List.drop_take,Y5,Y5,List.take_append,List.take_append];simp only [YM,ZK (show o≤cur.toList.length by omega)];rw [YC (l:=cur.toList.take o) (by simp;omega),YC (l:=vs) Yo];congr 2;congr 1;omega):p:=h
theorem Wk {p:Prop} (h:p:=by
  by_cases hif:i∈fr
  ·obtain ⟨d,t,ty,pos,af,n,ag,by',zc,hi1,ht⟩:=hfr.at i hif;have ho2:o=⟨some d,.alloc t,ty,pos,af,none⟩:=by
    have h7:=ho;rw [aar,hi1] at h7;injection h7 with h7
    exact h7.symm
   have hds:d<a.tmps.size:=by
    rw [hI.sz];exact hdN (i,d) (hpre i d him (by rw [ho,ho2];rfl))
   subst ho2;exact N5 ht hog a hds _ _ (fun _=>rfl) fun v w' hk hb=>hnext v w' hk fun _=>hb
  ·exact hog.out a _ _ (fun _=>rfl) fun v w2 hv=>hnext v w2 hv fun h=>absurd h hif):p:=h
theorem xW {p:Prop} (h:p:=by
  refine aB (aa (av ?_));refine dH ?_;exact ⟨rfl,hh.below⟩):p:=h
theorem PM {p:Prop} (h:p:=by
  rw [hds,aau,ZE];refine ⟨(some d,i), ?_,rfl⟩;rw [List.mem_zipIdx_iff_getElem?];rw [YJ,ZF hi];simp only [aaj,hd]):p:=h
theorem V0 {p:Prop} (h:p:=by
  rw [hod2] at ho;refine sr ?_;refine ME ?_;refine bp hh 0 ?_;refine aM ?_;refine cH (mB (gT ?_));refine bp hh 0 ?_;refine gT ?_;refine vP ?_;refine aG rfl rfl ?_;refine bj hh (ho _ (Below.refl _ _)) rfl ?_;intro w24 hh;refine fK ?_;refine aa (cF (aq (ai (sr (aI (aa (av ?_)))))));refine dH ?_;refine ⟨?_,hh.below⟩;rw [Yu];rintro (h|h)
  ·omega
  ·cases h):p:=h
theorem Uv {p:Prop} (h:p:=by
  refine bg hh 0 [_,_,_,_,_,_] ?_;intro ws hh;replace hh:Hp _ (.blk _ _ [_,_,_,_,_,_] _::_) _:=hh;refine aa (av ?_);exact RN):p:=h
theorem MS {p:Prop} (h:p:=by
  refine dH ?_;exact ⟨_,_,rfl,hh.at_ (i:=0) rfl,hh.below⟩):p:=h
theorem JO {p:Prop} (h:p:=by
  intro ρ1 w1 hj hR;exact let ⟨g,u,e1,e2⟩:=hR.1;fI rfl (eM (vs:=[_,_,_]) e1 rfl) ⟨Below.refl _ _,rfl⟩):p:=h
theorem Ub {p:Prop} (h:p:=by
  refine bg hh 0 [_,_,_] ?_;intro ws hh;replace hh:Hp _ (.blk _ _ [_,_,_] _::_) _:=hh;refine aI (aa (av (aF ?_)));exact Rg):p:=h
theorem U0 {p:Prop} (h:p:=by
  refine aa (cT (sr ?_));refine fe [_,_] ?_;refine fe [_,_] ?_;refine bg hh 1 [_,_] ?_;intro ws hh;replace hh:Hp _ (_::.blk _ _ [_,_] _::_) _:=hh;refine bg hh 0 [_,_] ?_;intro ws hh;replace hh:Hp _ (.blk _ _ [_,_] _::_) _:=hh;refine aI (aa (av (aF ?_)));refine Sr ?_;exact ⟨hh.below,.inl ⟨by rw [hE];decide,by rw [hE];rfl⟩⟩):p:=h
theorem Wb {p:Prop} (h:p:=by
  refine ⟨hJ.bl,fun x hx=> ?_, ?_⟩
  ·rcases YH.1 hx with rfl|hx
   ·exact o1
   ·obtain rfl:=YT.1 hx;exact o2
  ·rw [Z4];split
   ·exact SO
   ·rename_i b1 hb1;refine aaa.2 ⟨fun hm=> ?_, ?_⟩
    ·obtain ⟨y,hy,hyb⟩:=ZE.1 hm;obtain rfl:=YT.1 hy;exact O2 o1 o2 h12 b1 hb1 hyb
    ·exact SO):p:=h
theorem VT {p:Prop} (h:p:=by
  have hJ0:J ({ w with drawn:=w.drawn+1 }:World):=hJ w _ h0 ⟨rfl,rfl,rfl,YA _,fun _ _=>rfl⟩;have hr0:∀i,(Array.replicate l.toArray.size false).getD i false=false:=fun i=>by
   exact My
  refine key _ _ _ _ ⟨hf.nd,hf.sz,hJ0,by simp,fun k o _ hk=> ?_,fun k _=>hr0 k,fun i d _ hi=> ?_,fun s _=>hf.at_ s,fun i _ hi=> ?_,fun i _ j _ _ hi=> ?_⟩ ?_
  ·rw [hr0] at hk;cases hk
  ·rw [hr0] at hi;cases hi
  ·rw [hr0] at hi;cases hi
  ·rw [hr0] at hi;cases hi
  ·simp [abQ]):p:=h
theorem Tu {p:Prop} (h:p:=by
  refine aa (cT (sr ?_));refine bj hh (mA _ (hT.hp hh)) rfl ?_;intro w35 hh;refine aB (aa (av (aF ?_)));refine dH ?_;exact ⟨rfl,hh.below⟩):p:=h
theorem Qg {p:Prop} (h:p:=by
  have p1:=hpre i d hi h1;have p2:=hpre j d hj h2;have e1:=((mr (ρ:=ρ) (fun i=>.int .i64 i) ds d hnd).1 i p1).symm.trans ((mr (ρ:=ρ) (fun i=>.int .i64 i) ds d hnd).1 j p2);injection e1 with _ e1
  omega):p:=h
theorem UO {p:Prop} (h:p:=by
  exact ⟨g,og,rfl,hh.sub (Yv _ (Zx _))⟩):p:=h
theorem Vh {p:Prop} (h:p:=by
  refine eA ?_;refine jL 7 Yp Yq Yp Yq Yq ?_;refine bg hh 0 [_,_] ?_;intro ws hh;replace hh:Hp _ (.blk _ _ [_,_] _::_) _:=hh;refine aa ?_;refine ⟨⟨_,_,rfl,rfl,hh.sub (.cons_cons _ (.cons_cons _ (.cons_cons _ (Zx _))))⟩, ?_⟩;repeat refine dx rfl ?_
  exact fun _ _=>rfl):p:=h
theorem Vt {p:Prop} (h:p:=by
  unfold ByteArray.toList;have:∀(n i:Nat) (r:List UInt8),s.size-i=n→ByteArray.toList.loop s i r=r.reverse++s.data.toList.drop i:=by
   intro n
   induction n with
   |zero=>
    intro i r h;rw [ByteArray.toList.loop,Yu Yo,aaw (by rw [Array.length_toList];show s.size≤i;omega)];simp
   |succ n ih=>
    intro i r h;have hi:i<s.size:=Yo;rw [ByteArray.toList.loop,Yt hi,ih (i+1) _ Yo];have hi2:i<s.data.toList.length:=by rw [Array.length_toList];exact hi
    rw [aal hi2];have:s.get! i=s.data.toList[i]:=by
     show s.data[i]! =_;rw [getElem!_pos s.data i (by simpa using hi2)];simp
    simp [this]
  simpa using this (s.size-0) 0 [] rfl):p:=h
theorem NH {p:Prop} (h:p:=by
  refine sr ?_;refine Ly ?_;refine dH ?_;exact ⟨_,_,rfl,hh.at_ (i:=0) rfl,hh.below⟩):p:=h
theorem UD {p:Prop} (h:p:=by
  simp only [HZ]
  rcases Zb i l.length with hi|hi
  ·rw [ZL,Array.getElem?_append_left (by simpa using hi)];simp [aao]
  ·rw [ZL,Array.getElem?_append_right (by simpa using hi)];simp only [aao,YQ hi,Option.getD_none,Array.getElem?_replicate];split<;>rfl):p:=h
theorem Pn {p:Prop} (h:p:=by
  rw [YC Yo] at hall;refine sr ?_;refine Il ?_;refine dH ?_;exact ⟨_,rfl,⟨fun h=>absurd h Yp,fun h=>by rw [hall] at h;cases h⟩,hh.below⟩):p:=h
theorem TQ {p:Prop} (h:p:=by
  exact ⟨PX.nil,iy.err Yp,rfl,(hh.sub (Zx _)).KH⟩):p:=h
theorem U9 {p:Prop} (h:p:=by
  refine eA ?_;refine jL 3 Yp Yq Yp Yq Yq ?_;refine bg hh 3 [_,_] ?_;intro ws hh;replace hh:Hp _ (_::_::_::.blk _ _ [_,_] _::_) _:=hh;refine aB (aa (av ?_));refine JZ (cj rfl (cf (vs:=[_,_]) aJ.out (hh.aQ (i:=4) (n:=2) rfl rfl) rfl) (cj rfl (cf (vs:=[_,_]) aJ.out (hh.aQ (i:=3) (n:=2) rfl rfl) rfl) (eB (l4 rfl) dw))) ?_;exact ⟨rfl,hh.below⟩):p:=h
theorem K5 {p:Prop} (h:p:=by
  refine bg hh 1 [_,_,_] ?_;intro ws hh;replace hh:Hp _ (_::.blk _ _ [_,_,_] _::_) _:=hh;refine aa (av ?_);refine JN (cj rfl (cf (vs:=[_,_,_]) aJ.out (hh.aQ (i:=1) (n:=3) rfl rfl) rfl) dw) ?_;exact ⟨rfl,hh.below⟩):p:=h
theorem Qs {p:Prop} (h:p:=by
  refine gU (hc _ hh.below) au.out rfl rfl Yp ?_;rintro e_ w16 ⟨rfl,hb_⟩;refine ⟨_,rfl, ?_⟩;replace hh:=hh.ext hb_;refine aa (cT (sr (mI (aI (aa (av (bU (aF (aF (bU (aF ?_)))))))))));refine dH ?_;exact ⟨_,rfl,⟨fun _=>aae.2 ⟨z,Yy hz,gz⟩,fun _=>by omega⟩,hh.below⟩):p:=h
theorem QN {p:Prop} (h:p:=by
  rintro e_ w7 ⟨v_,rfl,hv_,hb_⟩;refine ⟨_,rfl, ?_⟩;replace hh:=hh.ext hb_
  cases ga:l.any p with
  |true=>
   have h0:=hv_.2 ga;exact Ir
  |false=>
   have h0:¬0≤v_:=fun h=>by rw [hv_.1 h] at ga;cases ga
   exact Ir):p:=h
theorem Tq {p:Prop} (h:p:=by
  intro L a w hI hc;have hall:∀i,i<l.length→L.getD i false=true:=fun i hi=>by
   exact SD
  have hmn:l.length≤0+m:=by
   rcases Zb m l.length with h|h
   ·have h1:=hall m h;rw [hI.tl m (YA _)] at h1
    cases h1
   ·omega
  exact full L a w 0 hI (fun i hi=>hall i Yo) hmn):p:=h
theorem U6 {p:Prop} (h:p:=by
  exact RG):p:=h
theorem M6 {p:Prop} (h:p:=by
  refine bg hh 1 [_,_] ?_;intro ws hh;replace hh:Hp _ (_::.blk _ _ [_,_] _::_) _:=hh;refine aa (av ?_);exact Rs):p:=h
theorem Ql {p:Prop} (h:p:=by
  refine aI (aa (sr (mI ?_)));refine dn (aa (cT (sr ?_)));refine fe [_,_] (mI ?_);refine bg hh 0 [_,_] ?_;intro ws hh;replace hh:Hp _ (.blk _ _ [_,_] _::_) _:=hh;refine aI (aa (av (aF ?_)));refine u7 ?_;exact ⟨PX.nil,iy.err h0,rfl,(hh.sub (Zx _)).KH⟩):p:=h
theorem Lk {p:Prop} (h:p:=by
  refine bg hh 1 [_,_] ?_;intro ws hh;replace hh:Hp _ (_::.blk _ _ [_,_] _::_) _:=hh;refine aI (aa (av ?_));exact RG):p:=h
theorem Xg {p:Prop} (h:p:=by
  exact Ta):p:=h
theorem Ej {p:Prop} (h:p:=by
  refine bg hh 0 [_,_] ?_;intro ws hh;replace hh:Hp _ (.blk _ _ [_,_] _::_) _:=hh;refine aa (av ?_);exact Ta):p:=h
theorem O8 {p:Prop} (h:p:=by
  rw [hds,aau,ZE] at hp;obtain ⟨⟨x,k⟩,hx,hxe⟩:=hp;rw [List.mem_zipIdx_iff_getElem?] at hx
  cases x with
  |none=>simp at hxe
  |some d'=>
   simp only [aaj,aag,Prod.mk.injEq] at hxe;obtain ⟨rfl,rfl⟩:=hxe;rw [YJ] at hx
   cases hr:(List.range m)[k]? with
   |none=>rw [hr] at hx;simp at hx
   |some y=>
    have hkm:k<m:=by
     have:=(YL.1 hr).1;simpa using this
    rw [ZF hkm] at hx;simp only [aaj,aag] at hx;exact ⟨hkm,hx⟩):p:=h
theorem El {p:Prop} (h:p:=by
  refine tL (c:=cc) bG.out rfl rfl Yo hcc Yp ?_;skip;refine vi ?_;refine a8 (aI (aa (av ?_)));refine dH ?_;refine ⟨?_,Below.refl _ _⟩;congr 2;rw [hcv];omega):p:=h
theorem U7 {p:Prop} (h:p:=by
  refine eA ?_;refine jL 7 Yp Yq Yp Yq Yq ?_;refine bg hh 6 [_,_] ?_;intro ws hh;replace hh:Hp _ (_::_::_::_::_::_::.blk _ _ [_,_] _::_) _:=hh;refine aI (aa (av ?_));refine JZ (cj rfl (cf (vs:=[_,_]) aJ.out (hh.aQ (i:=7) (n:=2) rfl rfl) rfl) (cj rfl (cf (vs:=[_,_]) aJ.out (hh.aQ (i:=6) (n:=2) rfl rfl) rfl) (eB (fg rfl) dw))) ?_;exact .inr ⟨h0,x,y,hx,hy,rfl,hh.sub ((aaW [y.kB,y.kD,x.kB,x.kD] _).cons _)⟩):p:=h
theorem QM {p:Prop} (h:p:=by
  unfold Region.ready;rw [Z0,Zi,hnn];constructor
  ·rintro ⟨h1,h2⟩;have ho:l.toArray[i]?=some l[i]:=by simp [h1]
   rw [ho] at h2;simp only [aaj,ZO,YP,abw] at h2;refine ⟨h1,h2.1,l[i],ho,fun e he hb=> ?_⟩;have:=abJ.1 h2.2 e he;simpa [hb] using this
  ·rintro ⟨h1,h2,o,ho,h3⟩;refine ⟨h1, ?_⟩;rw [ho];simp only [aaj,ZO,YP,abw];refine ⟨h2,abJ.2 fun e he=> ?_⟩
   cases hb:Region.binds .any e with
   |false=>simp
   |true=>simpa [hb] using h3 e he hb):p:=h
theorem Xv {p:Prop} (h:p:=by
  refine SM ?_;refine dK 1 [_,_] ?_;refine dC (fun _ hj=>hfm _) ?_;refine dK 0 [_,_] ?_;refine aH ?_;intro p_ hp_;simp only [YH,ZN,or_false] at hp_
  rcases hp_ with rfl|rfl
  ·intro f W hJ hV;have hb_10:=hJ.bl;obtain ⟨v49,v48,_⟩:=hV;simp only [ix];have e48:f 0=_:=v48;rw [e48];have e49:f 1=_:=v49;rw [e49];replace hh:=hJ.hp;clear e48 e49 hJ;refine bg hh 1 [_,_] ?_;intro ws hh;replace hh:Hp _ (_::.blk _ _ [_,_] _::_) _:=hh;refine eA ?_;refine fC (i:=2) Yq rfl ?_;refine bJ hh 0 [_,_] ?_;exact SS
  ·intro f W hJ hV;have hb_10:=hJ.bl;obtain ⟨v50,v49,v48,_⟩:=hV;simp only [ix];have e48:f 0=_:=v48;rw [e48];have e49:f 1=_:=v49;rw [e49];have e50:f 2=_:=v50;rw [e50];replace hh:=hJ.hp;clear e48 e49 e50 hJ;refine bg hh 1 [_,_] ?_;intro ws hh;replace hh:Hp _ (_::.blk _ _ [_,_] _::_) _:=hh;exact SS):p:=h
theorem XL {p:Prop} (h:p:=by
  refine mV ?_;refine dS (dS (dS (dU (dU (dU (dU ?_))))));refine BL (i:=28) rfl (fun ρ1 w1 hj hR=>(show ρ1 44=undef from hR.2.2.1)) ?_;refine dU (dU (dU (dU ?_)));refine aH ?_;intro f W hJ hV _;have hb_8:=hJ.bl;obtain ⟨v53,v52,v51,v50,v49,v48,v47,v46,v45,v44,v43,v42,v41,v40,v39,v38,v37,v36,v35,v34,v33,v32,v31,v30,v29,v28,v27,v26,v25,v24,v23,v22,v21,_⟩:=hV;replace hh:=hJ.hp;refine IQ ?_;dsimp only [bP];clear hJ;refine gV (gS ?_);refine gi ?_;refine Li ?_;refine dH ?_;exact ⟨rfl,hh.below⟩):p:=h
theorem WO {p:Prop} (h:p:=by
  exfalso;have hmin:∀k,(∃i,i<k∧i<m∧L.getD i false=false)→∃i,i<m∧L.getD i false=false∧∀j,j<i→L.getD j false=true:=by
   intro k
   induction k with
   |zero=>rintro ⟨i,h,_⟩;omega
   |succ k ihk=>
    rintro ⟨i,h1,h2,h3⟩;by_cases hex:∃i,i<k∧i<m∧L.getD i false=false
    ·exact ihk hex
    ·exact Sw
  obtain ⟨i0,h1,h2⟩:=hsome;obtain ⟨i,hi,hu,hlow⟩:=hmin (i0+1) ⟨i0,Yo,h1,h2⟩;exact S5):p:=h
theorem XK {p:Prop} (h:p:=by
  intro w40 hh;rw [eY];refine a9 (aa (cF (aq (ai (ah ?_)))));refine rU hh mixed fun w_ hj_=> ?_;replace hh:=hj_.hp;clear hj_;refine xg (i:=0) (i2:=1) Yq rfl rfl ?_ ?_
  ·refine bJ hh 1 [_,_] ?_;refine eA ?_;refine xg (i:=1) (i2:=2) Yq rfl rfl ?_ ?_
   ·refine bJ hh 0 [_,_] ?_;exact R3
   ·refine bg hh 3 [_,_] ?_;intro ws hh;replace hh:Hp _ (_::_::_::.blk _ _ [_,_] _::_) _:=hh;refine eA ?_;refine fC (i:=1) Yq rfl ?_;refine bJ hh 0 [_,_] ?_;exact Sm
  ·refine bJ hh 0 [_,_] ?_;refine eA ?_;refine fC (i:=0) Yq rfl ?_;refine bJ hh 1 [_,_] ?_;exact R3):p:=h
theorem X4 {p:Prop} (h:p:=by
  exact SC):p:=h
theorem W5 {p:Prop} (h:p:=by
  rw [hs];refine mI ?_;refine fe [_,_,_,_,_] ?_;refine bC hh ?_;intro b6 w6 hh;refine bg hh 0 [_,_,_,_,_] ?_;intro ws hh;replace hh:Hp _ (.blk _ _ [_,_,_,_,_] _::_) _:=hh;refine aa (ah ?_);refine aK 9 [[(6,none)],[(30,some 0)],[(2,none)],[(31,some 1),(32,some 2)],[(6,none)],[(34,some 4)],[(3,none)],[(35,some 5),(36,some 6)],[(6,none)]] [(8,38),(7,37),(6,36),(5,35),(4,34),(3,33),(2,32),(1,31),(0,30)] hh mixed Yq ?_;refine dR ?_;refine fW 0 ?_;refine dK 3 [_,_,_] ?_;refine dC (fun _ hj=>hcx _ (hT.hp hj.hp)) ?_;refine dR ?_;refine fW 0 ?_;refine dK 2 [_,_,_] ?_;refine dC (fun _ hj=>hcy _ (hT.hp hj.hp)) ?_;refine dR ?_;refine aH ?_;intro f W hJ hV;have hb_8:=hJ.bl;obtain ⟨v38,v37,v36,v35,v34,v33,v32,v31,v30,_⟩:=hV;replace hh:=hJ.hp;refine aN (a6 (ae v38 (ae v37 (ae v36 (ae v35 (ae v34 (ae v33 (ae v32 (ae v31 (ae v30 aO)))))))))) ?_;dsimp only [bP];clear hJ;refine bg hh 0 [_,_] ?_;intro ws hh;replace hh:Hp _ (.blk _ _ [_,_,_,_,_] _::_) _:=hh;refine bo ?_;refine bg hh 0 [_,_] ?_;intro ws hh;replace hh:Hp _ (.blk _ _ [_,_,_,_,_] _::_) _:=hh;refine aa (sr ?_);refine bJ hh 0 [_,_,_,_,_] ?_
  refine bg hh 1 [_,_,_,_,_] ?_;intro ws hh;replace hh:Hp _ (_::.blk _ _ [_,_,_,_,_] _::_) _:=hh;refine aa (av ?_);refine JN (cj rfl (cf (vs:=[_,_,_,_,_]) aJ.out (hh.aQ (i:=1) (n:=5) rfl rfl) rfl) dw) ?_;exact ⟨rfl,hh.below⟩):p:=h
theorem QV {p:Prop} (h:p:=by
  refine fe [_,_] ?_;refine bg hh 0 [_,_] ?_;intro ws hh;replace hh:Hp _ (.blk _ _ [_,_] _::_) _:=hh;refine aI (aa (av (aF ?_)));refine u7 ?_;exact ⟨PX.nil,iy.err Yp,rfl,(hh.sub (Zx _)).KH⟩):p:=h
theorem DF {p:Prop} (h:p:=by
  refine bg hh 0 [_,_,_] ?_;intro ws hh;replace hh:Hp _ (.blk _ _ [_,_,_] _::_) _:=hh;refine aa (av ?_);exact SC):p:=h
theorem er {p:Prop} (h:p:=by
  exact Yr):p:=h
section
variable {H:Type}{enc:TypeId×Value→H}{P:Program}
theorem pz (hl:laidOutB P=true) {W W':World} (hb:Below W.heap.size W W') (sp:Nat→Bool):∀(ts:List TypeId) (vs:List Value) (ds:List (DataW H)) (ps:List MemPlace),(∀t∈ts,P.readableRec t=true∧t<P.types.size)→
  (∀x∈ps,x.block<W.heap.size)→(∀x∈ps,sp x.block=true)→DataW.TrodAll enc P W 0 (fun _=>true) true ts vs ds ps→DataW.TrodAll enc P W' 0 sp true ts vs ds ps
 |[],vs,ds,ps,_,_,_,h=>by
  obtain ⟨rfl,rfl,rfl⟩:=trodAll_nil h;exact trodAll_mk0
 |t::ts,vs,ds,ps,hr,hlt,hsp,h=>by
  obtain ⟨v,vs',d,ds',p,q,rfl,rfl,rfl,h0,r0⟩:=trodAll_cons h;refine trodAll_cons_mk (WideElems.Trod_stays hl (hr t YD).1 (hr t YD).2 h0 (fun x hx=>hb.same (hlt x (Z3 _ hx))) (fun x hx=>hsp x (Z3 _ hx)))
   (pz hl hb sp ts vs' ds' q (fun t ht=>hr t (YK _ ht)) (fun x hx=>hlt x (Zu _ hx)) (fun x hx=>hsp x (Zu _ hx)) r0)
theorem Mr {f:Func}{s:ChangeSpec}{W W':World}{args:Array Value}{ds:List (DataW H)}{before:List MemPlace}{tb:TypeId}
  (hW:DataW.Whole enc P f.params.toList s.vars false W args.toList ds [] before) (hv:s.vars=[]) (hl:laidOutB P=true) (hr:∀t∈f.params.toList,P.readableRec t=true∧t<P.types.size)
  (hres:f.resultTypes= #[tb]) (hbool:P.underlying tb=some .bool) (hs1:(s.fn H (ds++[])).results=[.lit (.bool true)]) (hs2:(s.fn H (ds++[])).args=ds) (hs3:(s.fn H (ds++[])).vars=[]) (hb:Below W.heap.size W W'):
  s.post enc P f false true false false W args (.bool true) W':=by
 have hlt:∀p∈before,p.block<W.heap.size:=fun p hp=>by simpa using hW.lt p hp
 have hold:∀p∈before,(fun b=>decide (b<W.heap.size)) p.block=true:=fun p hp=>by simpa using hlt p hp
 have hW0:=hW;obtain ⟨pa,pv,hA,hV,hps,hz,hn⟩:=hW0;rw [hv] at hV;obtain ⟨_,rfl⟩:=trodVars_none hV;have hbp:before=pa:=by rw [hps,Y7]
 subst hbp;have hA':∀sp:Nat→Bool,(∀p∈before,sp p.block=true)→DataW.TrodAll enc P W' 0 sp true f.params.toList args.toList (s.fn H (ds++[])).args before:=fun sp hsp=>by
  rw [hs2];exact pz hl hb sp _ _ _ _ hr hlt hsp hA
 have hV':∀sp:Nat→Bool,DataW.TrodVars enc P W' sp s.vars (s.fn H (ds++[])).vars []:=fun sp=>by
  rw [hv,hs3];rfl
 have hR:∀(b:Nat) (sp:Nat→Bool) (hd:Bool),DataW.TrodAll enc P W' b sp hd f.resultTypes.toList ((Value.bool true).resultList f.resultTypes.size) (s.fn H (ds++[])).results []:=fun b sp hd=>by
  rw [hres,hs1];exact trodAll_cons_mk (shut_bool hbool _) trodAll_mk0
 refine ⟨ds,[],before,[],before,[],hW,hR _ _ _,hA' _ hold,hV' _,World.keptBut_mono (fun p hp=>⟨hp, ?_⟩) (hb.frame (· ∈before)),fun _=> ?_⟩
 ·exact .inr (.inl hp)
 ·refine ⟨ok_one hres rfl (okWide_bool_mk hbool _),_,_,([]++before)++[],⟨[]++before,[],trodAll_append (hA' _ (fun _ _=>rfl)) (hR _ _ _),hV' _,rfl, ?_, ?_⟩, ?_⟩
  ·intro b off hp;have hp2:=hz b off (by simpa using hp);rw [hb.frozen (hlt _ (by simpa using hp))];exact hp2
  ·intro ha
   cases ha
  ·intro p hp _;simpa using hp
end
end Go.Proofs.YtmchncaiffbpaaaGreatDoor
